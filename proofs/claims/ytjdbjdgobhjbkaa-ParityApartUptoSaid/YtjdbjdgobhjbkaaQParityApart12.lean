import Derived.Test.YtjdbjdgobhjbkaaQParityApart11
namespace Go.HL
open Go.RowKit
/-- rows with some spare places each, gathered -/
structure CS (m N n1 : Nat) (w : World) (T U : TypeId) (ao : Option Addr) (c : Nat) (rs : List Rw) : Prop where
  outer : Row (fun x => N ≤ x ∧ x < n1) w T erow ao c rs
  inner : ∀ r ∈ rs, ∃ g, r.ao = some ⟨g, 0, none⟩ ∧ (N ≤ g ∧ g < n1) ∧ ¬ Eqb ao g ∧ Blk w g U (eb.all (r.xs ++ List.replicate m 0)) ∧ r.cap = r.xs.length + m
section
variable {m N n1 : Nat} {w w' : World} {T U : TypeId} {ao : Option Addr} {c : Nat} {rs : List Rw} {M : Nat → Prop}
theorem CS.nil (m N n1 : Nat) (w : World) (T U : TypeId) : CS m N n1 w T U none 0 [] := ⟨Row.nil _ _ _ _, fun r hr => by cases hr⟩
theorem CS.chg (h : CS m N n1 w T U ao c rs) (k : Chg M w w') (hd : ∀ x, N ≤ x ∧ x < n1 → M x → False) : CS m N n1 w' T U ao c rs :=
  ⟨h.outer.chg k (fun b _ hs hm => hd b hs hm), fun r hr => by
    obtain ⟨g, h1, h2, h3, h4, h5⟩ := h.inner r hr
    exact ⟨g, h1, h2, h3, h4.chg k (fun hm => hd g h2 hm), h5⟩⟩
theorem CS.pure (h : CS m N n1 w T U ao c rs) (k : Chg Nob w w') : CS m N n1 w' T U ao c rs := h.chg k (fun _ _ x => x)
theorem CS.snoc (h : CS m N n1 w T U ao c rs) {g : Nat} {xs : List UInt8} (hb : Blk w g U (eb.all (xs ++ List.replicate m 0))) (hg : n1 ≤ g) (hN : N ≤ n1) (hs : n1 ≤ w.heap.size) {ao2 : Option Addr} {c2 : Nat} (ho : Row (fun x => N ≤ x) w' T erow ao2 c2 (rs ++ [⟨some ⟨g, 0, none⟩, xs.length + m, xs⟩])) (gw : Grow (fun x => N ≤ x) w ao w' ao2) :
    CS m N w'.heap.size w' T U ao2 c2 (rs ++ [⟨some ⟨g, 0, none⟩, xs.length + m, xs⟩]) := by
  have zs := gw.chg.size
  have hat : ∀ x, Eqb ao x → x < n1 := fun x e => (h.outer.at_.eqb e).2
  have hgl := hb.lt
  refine ⟨ho.lt, fun q hq => ?_⟩
  rcases List.mem_append.1 hq with h1 | h1
  · obtain ⟨g', e1, e2, e3, e4, e5⟩ := h.inner q h1
    exact ⟨g', e1, ⟨e2.1, by omega⟩, fun e => e3 (gw.old e4.lt e), e4.chg gw.chg (fun hm => e3 hm.1), e5⟩
  · rw [List.mem_singleton.1 h1]
    exact ⟨g, rfl, ⟨by omega, by omega⟩, fun e => by have := hat g (gw.old hgl e); omega, hb.chg gw.chg (fun hm => by have := hat g hm.1; omega), rfl⟩
theorem CS.full (h : CS m N n1 w T U ao c rs) {r : Rw} (hr : r ∈ rs) : RSl (fun x => N ≤ x ∧ x < n1) w eb r.ao r.cap (r.xs ++ List.replicate m 0) ∧ r.cap = r.xs.length + m := by
  obtain ⟨g, e1, e2, e3, e4, e5⟩ := h.inner r hr
  rw [e1]
  exact ⟨(RSl.ofBlk e4 (by simp [e5])).mono (fun b e => by have e : b = g := e; rw [e]; exact e2), e5⟩
theorem CS.at (h : CS m N n1 w T U ao c rs) {r : Rw} (hr : r ∈ rs) : RSl (fun x => N ≤ x ∧ x < n1) w eb r.ao r.cap r.xs := by
  have := (h.full hr).1.take r.xs.length (by simp)
  rwa [List.take_left] at this
theorem CS.toRS (h : CS m N n1 w T U ao c rs) : RS (fun x => N ≤ x ∧ x < n1) w ao c rs := ⟨h.outer.rsl, fun r hr => h.at hr⟩
theorem appS {α : Type} (m : Nat) (z : α) (ps : List α) : (List.replicate (ps.length + m) z).take 0 ++ ps ++ (List.replicate (ps.length + m) z).drop (0 + ps.length) = ps ++ List.replicate m z := by
  rw [List.take_zero, List.nil_append, Nat.zero_add, List.drop_replicate, show ps.length + m - ps.length = m from by omega]
end
/-! rows of a call's answer, each in a block of its own, that are written from the i-th on -/
structure OW (lo hi : Nat) (w : World) (T U : TypeId) (ao : Option Addr) (c i : Nat) (rs : List Rw) : Prop where
  outer : Row (fun x => lo ≤ x ∧ x < hi) w T erow ao c rs
  inner : ∀ (j : Nat) (r : Rw), i ≤ j → rs[j]? = some r → ∃ g, r.ao = some ⟨g, 0, none⟩ ∧ (lo ≤ g ∧ g < hi) ∧ ¬ Eqb ao g ∧ Row (fun b => b = g) w U eb (some ⟨g, 0, none⟩) r.cap r.xs
  apart : ∀ (j k : Nat) (r s : Rw) (g : Nat), i ≤ j → i ≤ k → rs[j]? = some r → rs[k]? = some s → r.ao = some ⟨g, 0, none⟩ → s.ao = some ⟨g, 0, none⟩ → j = k
section
variable {lo hi : Nat} {w w' : World} {T U : TypeId} {ao : Option Addr} {c i : Nat} {rs : List Rw} {M : Nat → Prop}
theorem OW.nil (lo hi : Nat) (w : World) (T U : TypeId) : OW lo hi w T U none 0 0 [] := ⟨Row.nil _ _ _ _, (fun j r _ h => by cases h), (fun j k r s g _ _ h => by cases h)⟩
theorem OW.chg (h : OW lo hi w T U ao c i rs) (k : Chg M w w') (hd : ∀ x, lo ≤ x ∧ x < hi → M x → False) : OW lo hi w' T U ao c i rs :=
  ⟨h.outer.chg k (fun b _ hs hm => hd b hs hm), fun j r hj hr => by
    obtain ⟨g, h1, h2, h3, h4⟩ := h.inner j r hj hr
    exact ⟨g, h1, h2, h3, h4.chg k (fun b _ e m => hd g h2 (by have e : b = g := e; rwa [e] at m))⟩, h.apart⟩
theorem OW.pure (h : OW lo hi w T U ao c i rs) (k : Chg Nob w w') : OW lo hi w' T U ao c i rs := h.chg k (fun _ _ x => x)
theorem OW.toRS (h : OW lo hi w T U ao c 0 rs) : RS (fun x => lo ≤ x ∧ x < hi) w ao c rs := ⟨h.outer.rsl, fun r hr => by
  obtain ⟨j, hj⟩ := List.getElem?_of_mem hr
  obtain ⟨g, h1, h2, h3, h4⟩ := h.inner j r (Nat.zero_le _) hj
  rw [h1]
  exact h4.rsl.mono (fun b e => by have e : b = g := e; rw [e]; exact h2)⟩
/-- a row's bytes have turned -/
theorem OW.upd (h : OW lo hi w T U ao c i rs) {j g cr : Nat} {xs ys : List UInt8} (hij : i ≤ j) (hj : rs[j]? = some ⟨some ⟨g, 0, none⟩, cr, xs⟩) (hl : ys.length = xs.length) (k : Chg (fun x => x = g) w w') (hr : Row (fun b => b = g) w' U eb (some ⟨g, 0, none⟩) cr ys) : OW lo hi w' T U ao c i (rs.set j ⟨some ⟨g, 0, none⟩, cr, ys⟩) := by
  have hil := (List.getElem?_eq_some_iff.1 hj).1
  obtain ⟨g0, e0, hgb, hgne, _⟩ := h.inner j _ hij hj
  injection e0 with e0
  injection e0 with e0
  subst e0
  have e1 : erow.all (rs.set j ⟨some ⟨g, 0, none⟩, cr, ys⟩) = erow.all rs := all_same erow (z := ⟨some ⟨g, 0, none⟩, cr, ys⟩) rs j hj (by show [Value.slice (some ⟨g, 0, none⟩) ys.length cr] = [Value.slice (some ⟨g, 0, none⟩) xs.length cr]; rw [hl])
  refine ⟨?_, fun a r ha hr' => ?_, fun a b r s g' ha hb hr' hs' hra hsb => ?_⟩
  · have h1 := h.outer.eqb.chg k (fun b _ e m => hgne (by have m : b = g := m; rw [← m]; exact e.2))
    exact ⟨fun a ea => (h1.at_ a ea).1, by rw [e1, List.length_set]; exact h1.own⟩
  · rw [List.getElem?_set] at hr'
    split at hr'
    · injection hr' with hr'
      subst hr'
      exact ⟨g, rfl, hgb, hgne, hr⟩
    · rename_i hne
      obtain ⟨g', h1, h2, h3, h4⟩ := h.inner a r ha hr'
      refine ⟨g', h1, h2, h3, h4.chg k (fun b _ e m => hne (h.apart j a _ r g hij ha hj hr' rfl ?_))⟩
      have e2 : b = g' := e
      have e3 : b = g := m
      rw [h1, ← e2, e3]
  · rw [List.getElem?_set] at hr' hs'
    split at hr' <;> split at hs'
    · omega
    · rename_i e2 e3
      injection hr' with hr'
      subst hr'
      rw [← e2]
      exact h.apart j b _ s g' hij hb hj hs' hra hsb
    · rename_i e2 e3
      injection hs' with hs'
      subst hs'
      rw [← e3]
      exact h.apart a j r _ g' ha hij hr' hj hra hsb
    · exact h.apart a b r s g' ha hb hr' hs' hra hsb
/-- the i-th row's block has turned: it is left -/
theorem OW.drop (h : OW lo hi w T U ao c i rs) {g : Nat} {r : Rw} (hr : rs[i]? = some r) (hg : r.ao = some ⟨g, 0, none⟩) (k : Chg (fun x => x = g) w w') : OW lo hi w' T U ao c (i + 1) rs := by
  obtain ⟨g0, e0, hgb, hgne, _⟩ := h.inner i r (Nat.le_refl _) hr
  rw [hg] at e0
  injection e0 with e0
  injection e0 with e0
  subst e0
  refine ⟨(h.outer.eqb.chg k (fun b _ e m => hgne (by have m : b = g := m; rw [← m]; exact e.2))).mono (fun _ e => e.1), fun j s hj hs => ?_, fun a b r s g' ha hb => h.apart a b r s g' (by omega) (by omega)⟩
  obtain ⟨g', h1, h2, h3, h4⟩ := h.inner j s (by omega) hs
  refine ⟨g', h1, h2, h3, h4.chg k (fun b _ e m => ?_)⟩
  have e2 : b = g' := e
  have e3 : b = g := m
  have := h.apart i j r s g (Nat.le_refl _) (by omega) hr hs hg (by rw [h1, ← e2, e3])
  omega
/-- a place ahead is another row now -/
theorem OW.put (h : OW lo hi w T U ao c (i + 1) rs) {go : Nat} {z : Rw} (hgo : ao = some ⟨go, 0, none⟩) (k : Chg (fun x => x = go) w w') (ho : Row (fun x => lo ≤ x ∧ x < hi) w' T erow ao c (rs.set i z)) : OW lo hi w' T U ao c (i + 1) (rs.set i z) := by
  refine ⟨ho, fun j r hj hr => ?_, fun a b r s g' ha hb hr hs => ?_⟩
  · rw [List.getElem?_set_ne (by omega)] at hr
    obtain ⟨g', h1, h2, h3, h4⟩ := h.inner j r hj hr
    refine ⟨g', h1, h2, h3, h4.chg k (fun b _ e m => h3 ?_)⟩
    have e2 : b = g' := e
    have e3 : b = go := m
    rw [← e2, e3]
    exact ⟨_, hgo, rfl⟩
  · rw [List.getElem?_set_ne (by omega)] at hr hs
    exact h.apart a b r s g' ha hb hr hs
end
end Go.HL
namespace Go.Proofs.Ytjdbjdgobhjbkaa
open Go.RowKit Go.HL
/-- what Rebuild answers, whatever is asked -/
def RE (cols : List (List UInt8)) (bad : List Int) (ps : List (List UInt8)) : Prop := (errB cols bad ≠ 0 ∧ ps = []) ∨ (errB cols bad = 0 ∧ ∃ k n : Nat, cols.length = k + 3 ∧ k ≤ 13 ∧ bad.length ≤ 3 ∧ lenB cols bad = (n : Int) ∧ RB cols bad k n ps)
theorem RE.uniq {cols : List (List UInt8)} {bad : List Int} {p q : List (List UInt8)} (h : RE cols bad p) (g : RE cols bad q) : p = q := by
  rcases h with ⟨h1, rfl⟩ | ⟨h1, k, n, hk, h13, h3, hn, hR⟩
  · rcases g with ⟨_, rfl⟩ | ⟨g1, _⟩
    · rfl
    · exact absurd g1 h1
  · rcases g with ⟨g1, _⟩ | ⟨_, k', n', hk', _, _, hn', hR'⟩
    · exact absurd h1 g1
    · have e1 : k' = k := by omega
      have e2 : n' = n := by omega
      subst e1; subst e2
      exact RB.uniq h13 h3 hR hR'
theorem OB.cap {w : World} {T U : TypeId} {go N : Nat} {rs : List Rw} (h : OB w T U go N rs) {lo : Nat} (hlo : lo ≤ go) (hne : ∀ r ∈ rs, r.xs ≠ []) : OW lo w.heap.size w T U (some ⟨go, 0, none⟩) rs.length 0 rs := by
  refine ⟨h.outer.lt.mono (fun b e => ⟨by have e1 : b = go := e.1; omega, e.2⟩), fun j r _ hr => ?_, fun j k r s g _ _ h1 h2 h3 h4 => h.apart j k r s g h1 h2 h3 h4⟩
  rcases h.inner j r hr with h1 | ⟨g, h1, h2, h3⟩
  · exact absurd (by rw [h1]) (hne r (List.mem_of_getElem? hr))
  · have := h3.own.lt _ rfl
    exact ⟨g, h1, ⟨by omega, this⟩, fun e => by obtain ⟨a, ea, e2⟩ := e; injection ea with ea; subst ea; have e3 : g = go := e2; omega, h3⟩
theorem rebuild_any {S S2 : Nat → Prop} {w : World} {ao ab : Option Addr} {c cb : Nat} {rs : List Rw} {bad : List Int} (hc : RS S w ao c rs) (hb : RSl S2 w ei ab cb bad) (hl : rs.length * 24 ≤ 140737488351232) (hbl : bad.length ≤ 140737488351232) :
    Calls Try.prog 19 [.slice ao rs.length c, .slice ab bad.length cb].toArray w (Ret fun v w' => (∃ ax cx ps e, v = .tuple #[.slice ax ps.length cx, vi e] ∧ OW w.heap.size w'.heap.size w' 23 5 ax cx 0 ps ∧ ps.length ≤ 16 ∧ (∀ r ∈ ps, r.xs.length ≤ 4096) ∧ RE (xss rs) bad (xss ps)) ∧ Chg Nob w w') := by
  by_cases he : errB (xss rs) bad = 0
  · obtain ⟨hl416, hok, hb3, n, hn, hev⟩ := errB_zero he
    rw [xss_len] at hl416
    obtain ⟨k, hk⟩ : ∃ k, rs.length = k + 3 := ⟨rs.length - 3, by omega⟩
    refine (rebuild_good hc hb hk (by omega) he hb3 hn hev).mono ?_
    rintro e w' ⟨v, rfl, ⟨go, N, ps, rfl, hO, hgo, hRB⟩, k'⟩
    have hn1 := hev.1
    have hl2 : ps.length = k + 3 := by rw [← xss_len]; exact hRB.len
    have hln : ∀ r ∈ ps, r.xs.length = n := fun r hr => hRB.all r.xs (List.mem_map_of_mem hr)
    exact ⟨_, rfl, ⟨some ⟨go, 0, none⟩, k + 3, ps, 0, by rw [hl2], by rw [← hl2]; exact OB.cap hO hgo (fun r hr e => by have := hln r hr; rw [e] at this; simp at this; omega), by omega, fun r hr => by have := hln r hr; omega, .inr ⟨he, k, n, by rw [xss_len]; exact hk, by omega, hb3, hn, hRB⟩⟩, k'⟩
  · refine (rebuild_bad hc hb hl hbl he).mono ?_
    rintro e w' ⟨v, rfl, rfl, k'⟩
    exact ⟨_, rfl, ⟨none, 0, [], _, rfl, OW.nil _ _ _ _ _, Nat.zero_le _, (fun r hr => by cases hr), .inl ⟨he, rfl⟩⟩, k'⟩
theorem docRebuild_any {S S2 : Nat → Prop} {w : World} {ao ab : Option Addr} {c cb : Nat} {rs : List Rw} {bad : List Int} (hc : RS S w ao c rs) (hb : RSl S2 w ei ab cb bad) (hl : rs.length * 24 ≤ 140737488351232) (hbl : bad.length ≤ 140737488351232) :
    Calls Try.prog 18 [.slice ao rs.length c, .slice ab bad.length cb].toArray w (Ret fun v w' => (∃ ax cx ps e, v = .tuple #[.slice ax ps.length cx, vi e] ∧ RS (fun _ => True) w' ax cx ps ∧ RE (xss rs) bad (xss ps)) ∧ Chg Nob w w') := by
  by_cases he : errB (xss rs) bad = 0
  · obtain ⟨hl416, hok, hb3, n, hn, hev⟩ := errB_zero he
    rw [xss_len] at hl416
    obtain ⟨k, hk⟩ : ∃ k, rs.length = k + 3 := ⟨rs.length - 3, by omega⟩
    refine (docRebuild_good hc hb hk (by omega) he hb3 hn hev).mono ?_
    rintro e w' ⟨v, rfl, ⟨oo, co, ps, rfl, hp, hRB⟩, k'⟩
    exact ⟨_, rfl, ⟨oo, co, ps, 0, rfl, hp, .inr ⟨he, k, n, by rw [xss_len]; exact hk, by omega, hb3, hn, hRB⟩⟩, k'⟩
  · refine (docRebuild_bad hc hb hl hbl he).mono ?_
    rintro e w' ⟨v, rfl, rfl, k'⟩
    exact ⟨_, rfl, ⟨none, 0, [], _, rfl, ⟨RSl.nil _ _ _ _ _, fun r hr => by cases hr⟩, .inl ⟨he, rfl⟩⟩, k'⟩
theorem make_ow {S : Nat → Prop} {w : World} {ao : Option Addr} {c : Nat} {rs : List Rw} (hc : RS S w ao c rs) (hl : rs.length * 24 ≤ 140737488351232) :
    Calls Try.prog 21 [.slice ao rs.length c].toArray w (Ret fun v w' => (∃ ax cx ps e, v = .tuple #[.slice ax ps.length cx, vi e] ∧ OW w.heap.size w'.heap.size w' 23 5 ax cx 0 ps ∧ ps.length ≤ 16 ∧ ∀ r ∈ ps, r.xs.length ≤ 4096) ∧ Chg Nob w w') := by
  by_cases h : rs.length ≤ 13 ∧ 0 ≤ lenC (xss rs)
  · obtain ⟨n, hn, hn1, hn2, hne, hall⟩ := lenC_some h.2
    refine (make_good hc h.1 hn).mono ?_
    rintro e w' ⟨v, rfl, ⟨go, gs, rfl, hP, hg3, hgo⟩, k'⟩
    have hxl := xss_len rs
    have hol : (orows gs n (three (xss rs) n rs.length)).length = 3 := by rw [orows_len hP.len, hg3]
    have hro : ∀ (j : Nat) (r : Rw), (orows gs n (three (xss rs) n rs.length))[j]? = some r → ∃ g x, gs[j]? = some g ∧ (three (xss rs) n rs.length)[j]? = some x ∧ r = ⟨some ⟨g, 0, none⟩, n, x⟩ := by
      intro j r hr
      have hj := (List.getElem?_eq_some_iff.1 hr).1
      obtain ⟨g, hg⟩ : ∃ g, gs[j]? = some g := ⟨_, List.getElem?_eq_getElem (by omega)⟩
      obtain ⟨x, hx⟩ : ∃ x, (three (xss rs) n rs.length)[j]? = some x := ⟨_, List.getElem?_eq_getElem (by rw [← hP.len]; omega)⟩
      have := orows_at (tl := []) (n := n) hg hx
      rw [List.append_nil, hr] at this
      injection this with this
      exact ⟨g, x, hg, hx, this⟩
    refine ⟨_, rfl, ⟨some ⟨go, 0, none⟩, 3, orows gs n (three (xss rs) n rs.length), 0, by rw [hol], ⟨?_, fun j r _ hr => ?_, fun j k r s g _ _ h1 h2 h3 h4 => ?_⟩, by omega, fun r hr => ?_⟩, k'⟩
    · have h1 := hP.outer
      rw [List.append_nil] at h1
      exact h1.lt.mono (fun b e => ⟨by have e1 : b = go := e.1; omega, e.2⟩)
    · obtain ⟨g, x, hg, hx, rfl⟩ := hro j r hr
      have h3 := hP.above j g hg
      exact ⟨g, rfl, ⟨by omega, hP.lt hg⟩, fun e => by obtain ⟨a, ea, e2⟩ := e; injection ea with ea; subst ea; have e3 : g = go := e2; omega, hP.inner j g x hg hx⟩
    · obtain ⟨g1, x1, hg1, _, rfl⟩ := hro j r h1
      obtain ⟨g2, x2, hg2, _, rfl⟩ := hro k s h2
      injection h3 with h3
      injection h3 with h3
      injection h4 with h4
      injection h4 with h4
      subst h3; subst h4
      exact hP.apart j k _ hg1 hg2
    · obtain ⟨j, hj⟩ := List.getElem?_of_mem hr
      obtain ⟨g, x, hg, hx, rfl⟩ := hro j r hj
      have h5 : ∀ q, (prow (wtq q) (xss rs) n rs.length).length = n := fun q => prow_len hall (by omega)
      have h6 := List.mem_of_getElem? hx
      simp only [three, List.mem_cons, List.not_mem_nil, or_false] at h6
      show x.length ≤ 4096
      rcases h6 with rfl | rfl | rfl <;> (rw [h5]; exact hn2)
  · refine (make_bad hc hl h).mono ?_
    rintro e w' ⟨v, rfl, rfl, k'⟩
    exact ⟨_, rfl, ⟨none, 0, [], 1, rfl, OW.nil _ _ _ _ _, Nat.zero_le _, (fun r hr => by cases hr)⟩, k'⟩
theorem check_any {S : Nat → Prop} {w : World} {ao : Option Addr} {c : Nat} {rs : List Rw} (hc : RS S w ao c rs) (hl : rs.length * 24 ≤ 140737488351232) :
    Calls Try.prog 22 [.slice ao rs.length c].toArray w (Ret fun v w' => (∃ b e, v = .tuple #[.bool b, vi e]) ∧ Chg Nob w w') := by
  by_cases h : rightR rs
  · obtain ⟨n, hn, _⟩ := lenC_some h.2.2
    refine (check_good hc h hn).mono ?_
    rintro e w' ⟨v, rfl, rfl, k'⟩
    exact ⟨_, rfl, ⟨_, _, rfl⟩, k'⟩
  · refine (check_bad hc hl h).mono ?_
    rintro e w' ⟨v, rfl, rfl, k'⟩
    exact ⟨_, rfl, ⟨_, _, rfl⟩, k'⟩
end Go.Proofs.Ytjdbjdgobhjbkaa
namespace Go.Proofs.Ytjdbjdgobhjbkaa
open Go.RowKit Go.HL

set_option maxHeartbeats 16000000 in
theorem parityApart_calls {w : World} {c cb : Nat} {ao ab : Option Addr} {rs : List Rw} {bad : List Int} (h : RS (· < w.heap.size) w ao c rs) (hb : RSl (· < w.heap.size) w ei ab cb bad) (hl1 : rs.length ≤ 100000000) (hl2 : bad.length ≤ 100000000) (hl3 : ∀ r ∈ rs, r.xs.length ≤ 100000000) :
    Calls Try.prog 10 [.slice ao rs.length c, .slice ab bad.length cb].toArray w (Ret fun v w' => v = .bool true ∧ Chg Nob w w') := by
  have hw := Chg.refl Nob w
  refine Calls.of_WC Try.func10 rfl Try.ntmps10 (by simp) ?_
  refine WC.seq (WC.region (WL.assign rfl rfl (WL.nil (WX.then_normal (WC.seq (WC.seq (WC.region (?_))))))))
  refine WL.call eg_16 rfl rfl (known3_calls _) ?_
  rintro v w0 ⟨rfl, k0⟩
  have zs_k0 := k0.size
  replace h := h.pure k0
  replace hb := hb.pure k0
  replace hw := hw.pure k0
  refine WL.not rfl rfl (WL.move rfl rfl (WL.want rfl rfl rfl (WL.move rfl rfl (WL.want rfl rfl rfl (?_)))))
  refine WL.call eg_17 rfl rfl (small_calls h ⟨by omega, fun r hr => by have := hl3 r hr; omega⟩) ?_
  rintro v w0 ⟨⟨s1, rfl⟩, k0⟩
  have zs_k0 := k0.size
  replace h := h.pure k0
  replace hb := hb.pure k0
  replace hw := hw.pure k0
  rcases s1 with _ | _
  ·
    refine WL.want rfl rfl rfl (WL.not rfl rfl (WL.pickF rfl rfl rfl (WL.nil (WX.then_normal (WC.cond_true rfl (WC.seq (WC.region (?_))))))))
    refine WL.call eg_16 rfl rfl (known3_calls _) ?_
    rintro v w0 ⟨rfl, k0⟩
    have zs_k0 := k0.size
    replace h := h.pure k0
    replace hb := hb.pure k0
    replace hw := hw.pure k0
    refine WL.assign rfl rfl (WL.nil (WX.then_normal (WC.ret (WX.then_ret (?_)))))
    refine WX.ret1 (.inl rfl) Try.results10 rfl ?_
    exact ⟨_, rfl, rfl, hw⟩
  ·
    refine WL.want rfl rfl rfl (WL.not rfl rfl (WL.pickF rfl rfl rfl (WL.nil (WX.then_normal (WC.cond_false rfl (WC.skip (WX.then_normal (?_))))))))
    refine WC.seq (WC.region (WL.assign rfl rfl (WL.nil (WX.then_normal (WC.seq (WC.seq (WC.region (?_))))))))
    refine WL.assign rfl rfl (WL.nil (WX.then_normal (WC.block (?_))))
    have zw0 := hw.size
    refine WC.loop (σ := Nat × (Option Addr × Nat × Nat × List Rw)) (fun q => [(0, .slice ao rs.length c), (1, .slice ab bad.length cb), (5, .slice q.2.1 q.2.2.2.2.length q.2.2.1), (6, vi (q.1 : Int))])
      (fun q w' => q.1 ≤ rs.length ∧ (q.2.2.2.2.length = q.1 ∧ ∀ (j : Nat) (r z : Rw), rs[j]? = some r → q.2.2.2.2[j]? = some z → z.xs = r.xs) ∧ CS 2 w.heap.size q.2.2.2.1 w' 23 5 q.2.1 q.2.2.1 q.2.2.2.2 ∧ (w.heap.size ≤ q.2.2.2.1 ∧ q.2.2.2.1 ≤ w'.heap.size) ∧ RS (· < w.heap.size) w' ao c rs ∧ RSl (· < w.heap.size) w' ei ab cb bad ∧ Chg Nob w w') (fun q => rs.length - q.1) (0, none, 0, w.heap.size, []) ⟨rfl, rfl, rfl, rfl, trivial⟩ ⟨Nat.zero_le _, ⟨rfl, fun j r z _ hz => by simp at hz⟩, CS.nil _ _ _ _ _ _, ⟨Nat.le_refl _, zw0⟩, h, hb, hw⟩ ?_
    clear h hb hw
    rintro ⟨i, am, cm, n1, ms⟩ w2 ⟨hi, ⟨hml, hms⟩, hC, ⟨hwn, hn1⟩, h, hb, hw⟩
    simp only at hi hml hms hC hwn hn1
    dsimp only
    refine WC.seq (WC.seq (WC.region (WL.move rfl rfl (WL.move rfl rfl (WL.len Try.underlying22 rfl rfl (?_))))))
    refine WL.lss? rfl rfl rfl (fun h35 => ?_) (fun h35 => ?_)
    ·
      refine WL.nil (WX.then_normal (WC.cond_true rfl (WC.skip (WX.then_normal (WC.seq (WC.block (?_)))))))
      obtain ⟨r, hri⟩ : ∃ r, rs[i]? = some r := ⟨_, List.getElem?_eq_getElem (by omega)⟩
      have hrl := hl3 r (List.mem_of_getElem? hri)
      obtain ⟨ob, oo, ho⟩ := h.outer.place hri
      refine WC.draw ((fun x => w.heap.size ≤ x)) [0, 1, 2, 3, 4, 5, 6, 8, 9, 10, 11] [7, 12, 13, 14, 15] mixed rfl rfl (fun wd_1 kd_1 zd_1 => ?_)
      have zs_kd_1 := kd_1.size
      replace hC := hC.pure kd_1
      replace h := h.pure kd_1
      replace hb := hb.pure kd_1
      replace hw := hw.pure kd_1
      apply DQ.step (E' := [(5, _)])
      case ho => rfl
      case hs => exact ⟨rfl, trivial⟩
      case hk => rfl
      case h1 =>
        intro wq_3 kq_3
        refine WL.move rfl rfl (?_)
        refine WL.nil ?_
        exact WX.one ⟨rfl, by first | exact Chg.refl _ _ | assumption⟩
      apply DQ.step (E' := [(0, _)])
      case ho => rfl
      case hs => exact ⟨rfl, trivial⟩
      case hk => rfl
      case h1 =>
        intro wq_4 kq_4
        refine WL.move rfl rfl (?_)
        refine WL.nil ?_
        exact WX.one ⟨rfl, by first | exact Chg.refl _ _ | assumption⟩
      apply DQ.step (E' := [(6, _)])
      case ho => rfl
      case hs => exact ⟨rfl, trivial⟩
      case hk => rfl
      case h1 =>
        intro wq_5 kq_5
        refine WL.move rfl rfl (?_)
        refine WL.nil ?_
        exact WX.one ⟨rfl, by first | exact Chg.refl _ _ | assumption⟩
      apply DQ.step (E' := [(39, _), (40, _)])
      case ho => rfl
      case hs => exact ⟨rfl, rfl, trivial⟩
      case hk => rfl
      case h1 =>
        intro wq_6 kq_6
        have zs_kq_6 := kq_6.size
        replace h := h.chg kq_6 (by first | (intro x h1 h2; exact h2) | (intro x h1 h2; have h3 : _ = _ := h2; exfalso; omega) | (intro b h1 h2 h3; have h4 : _ = _ := h3; (try dsimp only at h2); exfalso; omega) | (intro h1; have h2 : _ = _ := h1; exfalso; omega) | (intro h1; have h2 : _ ≤ _ := h1; exfalso; omega) | (intros; exfalso; (try dsimp only at *); omega) | (intro b h1 h2 h3; exfalso; have h4 := h3.2; (try dsimp only at *); omega) | (intro h1; exfalso; have h4 := h1.2; (try dsimp only at *); omega))
        replace hb := hb.chg kq_6 (by first | (intro x h1 h2; exact h2) | (intro x h1 h2; have h3 : _ = _ := h2; exfalso; omega) | (intro b h1 h2 h3; have h4 : _ = _ := h3; (try dsimp only at h2); exfalso; omega) | (intro h1; have h2 : _ = _ := h1; exfalso; omega) | (intro h1; have h2 : _ ≤ _ := h1; exfalso; omega) | (intros; exfalso; (try dsimp only at *); omega) | (intro b h1 h2 h3; exfalso; have h4 := h3.2; (try dsimp only at *); omega) | (intro h1; exfalso; have h4 := h1.2; (try dsimp only at *); omega))
        replace hw := hw.chg kq_6 (by first | (intro x h1 h2; exact h2) | (intro x h1 h2; have h3 : _ = _ := h2; exfalso; omega) | (intro b h1 h2 h3; have h4 : _ = _ := h3; (try dsimp only at h2); exfalso; omega) | (intro h1; have h2 : _ = _ := h1; exfalso; omega) | (intro h1; have h2 : _ ≤ _ := h1; exfalso; omega) | (intros; exfalso; (try dsimp only at *); omega) | (intro b h1 h2 h3; exfalso; have h4 := h3.2; (try dsimp only at *); omega) | (intro h1; exfalso; have h4 := h1.2; (try dsimp only at *); omega))
        have hO := h.outer
        rw [ho] at hO
        refine WL.indexC (e := erow) hO Try.underlying22 Try.sizeOf23 (by show some (Value.slice ao _ _) = _; rw [ho]) rfl ⟨hri, rfl⟩ rfl ?_
        refine WL.nil ?_
        exact WX.one ⟨rfl, by first | exact Chg.refl _ _ | assumption⟩
      apply DQ.step (E' := [(41, _)])
      case ho => rfl
      case hs => exact ⟨rfl, trivial⟩
      case hk => rfl
      case h1 =>
        intro wq_7 kq_7
        have zs_kq_7 := kq_7.size
        replace h := h.chg kq_7 (by first | (intro x h1 h2; exact h2) | (intro x h1 h2; have h3 : _ = _ := h2; exfalso; omega) | (intro b h1 h2 h3; have h4 : _ = _ := h3; (try dsimp only at h2); exfalso; omega) | (intro h1; have h2 : _ = _ := h1; exfalso; omega) | (intro h1; have h2 : _ ≤ _ := h1; exfalso; omega) | (intros; exfalso; (try dsimp only at *); omega) | (intro b h1 h2 h3; exfalso; have h4 := h3.2; (try dsimp only at *); omega) | (intro h1; exfalso; have h4 := h1.2; (try dsimp only at *); omega))
        replace hb := hb.chg kq_7 (by first | (intro x h1 h2; exact h2) | (intro x h1 h2; have h3 : _ = _ := h2; exfalso; omega) | (intro b h1 h2 h3; have h4 : _ = _ := h3; (try dsimp only at h2); exfalso; omega) | (intro h1; have h2 : _ = _ := h1; exfalso; omega) | (intro h1; have h2 : _ ≤ _ := h1; exfalso; omega) | (intros; exfalso; (try dsimp only at *); omega) | (intro b h1 h2 h3; exfalso; have h4 := h3.2; (try dsimp only at *); omega) | (intro h1; exfalso; have h4 := h1.2; (try dsimp only at *); omega))
        replace hw := hw.chg kq_7 (by first | (intro x h1 h2; exact h2) | (intro x h1 h2; have h3 : _ = _ := h2; exfalso; omega) | (intro b h1 h2 h3; have h4 : _ = _ := h3; (try dsimp only at h2); exfalso; omega) | (intro h1; have h2 : _ = _ := h1; exfalso; omega) | (intro h1; have h2 : _ ≤ _ := h1; exfalso; omega) | (intros; exfalso; (try dsimp only at *); omega) | (intro b h1 h2 h3; exfalso; have h4 := h3.2; (try dsimp only at *); omega) | (intro h1; exfalso; have h4 := h1.2; (try dsimp only at *); omega))
        have hO := h.outer
        rw [ho] at hO
        refine WL.load Try.isAgg23 rfl ((hO.cellsAt hri) 0 _ rfl) rfl ?_
        refine WL.nil ?_
        exact WX.one ⟨rfl, by first | exact Chg.refl _ _ | assumption⟩
      apply DQ.step (E' := [(42, _)])
      case ho => rfl
      case hs => exact ⟨rfl, trivial⟩
      case hk => rfl
      case h1 =>
        intro wq_8 kq_8
        have zs_kq_8 := kq_8.size
        replace h := h.chg kq_8 (by first | (intro x h1 h2; exact h2) | (intro x h1 h2; have h3 : _ = _ := h2; exfalso; omega) | (intro b h1 h2 h3; have h4 : _ = _ := h3; (try dsimp only at h2); exfalso; omega) | (intro h1; have h2 : _ = _ := h1; exfalso; omega) | (intro h1; have h2 : _ ≤ _ := h1; exfalso; omega) | (intros; exfalso; (try dsimp only at *); omega) | (intro b h1 h2 h3; exfalso; have h4 := h3.2; (try dsimp only at *); omega) | (intro h1; exfalso; have h4 := h1.2; (try dsimp only at *); omega))
        replace hb := hb.chg kq_8 (by first | (intro x h1 h2; exact h2) | (intro x h1 h2; have h3 : _ = _ := h2; exfalso; omega) | (intro b h1 h2 h3; have h4 : _ = _ := h3; (try dsimp only at h2); exfalso; omega) | (intro h1; have h2 : _ = _ := h1; exfalso; omega) | (intro h1; have h2 : _ ≤ _ := h1; exfalso; omega) | (intros; exfalso; (try dsimp only at *); omega) | (intro b h1 h2 h3; exfalso; have h4 := h3.2; (try dsimp only at *); omega) | (intro h1; exfalso; have h4 := h1.2; (try dsimp only at *); omega))
        replace hw := hw.chg kq_8 (by first | (intro x h1 h2; exact h2) | (intro x h1 h2; have h3 : _ = _ := h2; exfalso; omega) | (intro b h1 h2 h3; have h4 : _ = _ := h3; (try dsimp only at h2); exfalso; omega) | (intro h1; have h2 : _ = _ := h1; exfalso; omega) | (intro h1; have h2 : _ ≤ _ := h1; exfalso; omega) | (intros; exfalso; (try dsimp only at *); omega) | (intro b h1 h2 h3; exfalso; have h4 := h3.2; (try dsimp only at *); omega) | (intro h1; exfalso; have h4 := h1.2; (try dsimp only at *); omega))
        refine WL.len Try.underlying23 rfl rfl (?_)
        refine WL.nil ?_
        exact WX.one ⟨rfl, by first | exact Chg.refl _ _ | assumption⟩
      apply DQ.step (E' := [(43, _)])
      case ho => rfl
      case hs => exact ⟨rfl, trivial⟩
      case hk => rfl
      case h1 =>
        intro wq_9 kq_9
        refine WL.add64 rfl rfl (by first | omega | (constructor <;> omega)) rfl (?_)
        refine WL.nil ?_
        exact WX.one ⟨rfl, by first | exact Chg.refl _ _ | assumption⟩
      apply DQ.step (E' := [(0, _)])
      case ho => rfl
      case hs => exact ⟨rfl, trivial⟩
      case hk => rfl
      case h1 =>
        intro wq_10 kq_10
        refine WL.move rfl rfl (?_)
        refine WL.nil ?_
        exact WX.one ⟨rfl, by first | exact Chg.refl _ _ | assumption⟩
      apply DQ.step (E' := [(6, _)])
      case ho => rfl
      case hs => exact ⟨rfl, trivial⟩
      case hk => rfl
      case h1 =>
        intro wq_11 kq_11
        refine WL.move rfl rfl (?_)
        refine WL.nil ?_
        exact WX.one ⟨rfl, by first | exact Chg.refl _ _ | assumption⟩
      apply DQ.step (E' := [(46, _), (47, _)])
      case ho => rfl
      case hs => exact ⟨rfl, rfl, trivial⟩
      case hk => rfl
      case h1 =>
        intro wq_12 kq_12
        have zs_kq_12 := kq_12.size
        replace h := h.chg kq_12 (by first | (intro x h1 h2; exact h2) | (intro x h1 h2; have h3 : _ = _ := h2; exfalso; omega) | (intro b h1 h2 h3; have h4 : _ = _ := h3; (try dsimp only at h2); exfalso; omega) | (intro h1; have h2 : _ = _ := h1; exfalso; omega) | (intro h1; have h2 : _ ≤ _ := h1; exfalso; omega) | (intros; exfalso; (try dsimp only at *); omega) | (intro b h1 h2 h3; exfalso; have h4 := h3.2; (try dsimp only at *); omega) | (intro h1; exfalso; have h4 := h1.2; (try dsimp only at *); omega))
        replace hb := hb.chg kq_12 (by first | (intro x h1 h2; exact h2) | (intro x h1 h2; have h3 : _ = _ := h2; exfalso; omega) | (intro b h1 h2 h3; have h4 : _ = _ := h3; (try dsimp only at h2); exfalso; omega) | (intro h1; have h2 : _ = _ := h1; exfalso; omega) | (intro h1; have h2 : _ ≤ _ := h1; exfalso; omega) | (intros; exfalso; (try dsimp only at *); omega) | (intro b h1 h2 h3; exfalso; have h4 := h3.2; (try dsimp only at *); omega) | (intro h1; exfalso; have h4 := h1.2; (try dsimp only at *); omega))
        replace hw := hw.chg kq_12 (by first | (intro x h1 h2; exact h2) | (intro x h1 h2; have h3 : _ = _ := h2; exfalso; omega) | (intro b h1 h2 h3; have h4 : _ = _ := h3; (try dsimp only at h2); exfalso; omega) | (intro h1; have h2 : _ = _ := h1; exfalso; omega) | (intro h1; have h2 : _ ≤ _ := h1; exfalso; omega) | (intros; exfalso; (try dsimp only at *); omega) | (intro b h1 h2 h3; exfalso; have h4 := h3.2; (try dsimp only at *); omega) | (intro h1; exfalso; have h4 := h1.2; (try dsimp only at *); omega))
        have hO := h.outer
        rw [ho] at hO
        refine WL.indexC (e := erow) hO Try.underlying22 Try.sizeOf23 (by show some (Value.slice ao _ _) = _; rw [ho]) rfl ⟨hri, rfl⟩ rfl ?_
        refine WL.nil ?_
        exact WX.one ⟨rfl, by first | exact Chg.refl _ _ | assumption⟩
      apply DQ.step (E' := [(48, _)])
      case ho => rfl
      case hs => exact ⟨rfl, trivial⟩
      case hk => rfl
      case h1 =>
        intro wq_13 kq_13
        have zs_kq_13 := kq_13.size
        replace h := h.chg kq_13 (by first | (intro x h1 h2; exact h2) | (intro x h1 h2; have h3 : _ = _ := h2; exfalso; omega) | (intro b h1 h2 h3; have h4 : _ = _ := h3; (try dsimp only at h2); exfalso; omega) | (intro h1; have h2 : _ = _ := h1; exfalso; omega) | (intro h1; have h2 : _ ≤ _ := h1; exfalso; omega) | (intros; exfalso; (try dsimp only at *); omega) | (intro b h1 h2 h3; exfalso; have h4 := h3.2; (try dsimp only at *); omega) | (intro h1; exfalso; have h4 := h1.2; (try dsimp only at *); omega))
        replace hb := hb.chg kq_13 (by first | (intro x h1 h2; exact h2) | (intro x h1 h2; have h3 : _ = _ := h2; exfalso; omega) | (intro b h1 h2 h3; have h4 : _ = _ := h3; (try dsimp only at h2); exfalso; omega) | (intro h1; have h2 : _ = _ := h1; exfalso; omega) | (intro h1; have h2 : _ ≤ _ := h1; exfalso; omega) | (intros; exfalso; (try dsimp only at *); omega) | (intro b h1 h2 h3; exfalso; have h4 := h3.2; (try dsimp only at *); omega) | (intro h1; exfalso; have h4 := h1.2; (try dsimp only at *); omega))
        replace hw := hw.chg kq_13 (by first | (intro x h1 h2; exact h2) | (intro x h1 h2; have h3 : _ = _ := h2; exfalso; omega) | (intro b h1 h2 h3; have h4 : _ = _ := h3; (try dsimp only at h2); exfalso; omega) | (intro h1; have h2 : _ = _ := h1; exfalso; omega) | (intro h1; have h2 : _ ≤ _ := h1; exfalso; omega) | (intros; exfalso; (try dsimp only at *); omega) | (intro b h1 h2 h3; exfalso; have h4 := h3.2; (try dsimp only at *); omega) | (intro h1; exfalso; have h4 := h1.2; (try dsimp only at *); omega))
        have hO := h.outer
        rw [ho] at hO
        refine WL.load Try.isAgg23 rfl ((hO.cellsAt hri) 0 _ rfl) rfl ?_
        refine WL.nil ?_
        exact WX.one ⟨rfl, by first | exact Chg.refl _ _ | assumption⟩
      refine DQ.done (fun hd_2 => ?_)
      refine DL.step [(44, _)] rfl ⟨rfl, trivial⟩ rfl (fun wq_14 kq_14 => ?_)
      have zs_kq_14 := kq_14.size
      replace hC := hC.pure kq_14
      replace h := h.pure kq_14
      replace hb := hb.pure kq_14
      replace hw := hw.pure kq_14
      replace hd_2 := hd_2.pure kq_14
      refine WL.makeB (e := eb) (0 : UInt8) 0 (r.xs.length + 2) Try.underlying23 info_5 rfl rfl rfl ⟨rfl, rfl, Nat.zero_le _⟩ (by constructor <;> omega) rfl ?_
      intro g5 w5 hB5 k5 z5 e5
      have zs_k5 := k5.size
      replace hC := hC.pure k5
      replace h := h.pure k5
      replace hb := hb.pure k5
      replace hw := hw.pure k5
      replace hd_2 := hd_2.pure k5
      refine WL.nil ?_
      refine WX.one ⟨hd_2, ?_⟩
      refine DL.step [(45, _), (49, _)] rfl ⟨rfl, rfl, trivial⟩ rfl (fun wq_15 kq_15 => ?_)
      have zs_kq_15 := kq_15.size
      replace hC := hC.pure kq_15
      replace h := h.pure kq_15
      replace hb := hb.pure kq_15
      replace hw := hw.pure kq_15
      replace hd_2 := hd_2.pure kq_15
      replace hB5 := hB5.pure kq_15
      refine WL.appendB (e := eb) (ys := r.xs) info_5 Try.underlying23 rfl rfl hB5 (by rw [List.length_replicate]) ((h.at hri).src Try.underlying23) (by omega) rfl ?_
      intro w6 hB6 k6 n6
      rw [appS] at hB6
      rw [Nat.zero_add r.xs.length]
      have hC6 := hC.chg k6 (fun x h1 h2 => by have h3 : x = g5 := h2; omega)
      have k6' := k6.mono (M' := fun x => w.heap.size ≤ x) (fun x _ hx => by have h2 : x = g5 := hx; show w.heap.size ≤ x; omega)
      have zs_k6' := k6'.size
      replace h := h.chg k6' (by first | (intro x h1 h2; exact h2) | (intro x h1 h2; have h3 : _ = _ := h2; exfalso; omega) | (intro b h1 h2 h3; have h4 : _ = _ := h3; (try dsimp only at h2); exfalso; omega) | (intro h1; have h2 : _ = _ := h1; exfalso; omega) | (intro h1; have h2 : _ ≤ _ := h1; exfalso; omega) | (intros; exfalso; (try dsimp only at *); omega) | (intro b h1 h2 h3; exfalso; have h4 := h3.2; (try dsimp only at *); omega) | (intro h1; exfalso; have h4 := h1.2; (try dsimp only at *); omega))
      replace hb := hb.chg k6' (by first | (intro x h1 h2; exact h2) | (intro x h1 h2; have h3 : _ = _ := h2; exfalso; omega) | (intro b h1 h2 h3; have h4 : _ = _ := h3; (try dsimp only at h2); exfalso; omega) | (intro h1; have h2 : _ = _ := h1; exfalso; omega) | (intro h1; have h2 : _ ≤ _ := h1; exfalso; omega) | (intros; exfalso; (try dsimp only at *); omega) | (intro b h1 h2 h3; exfalso; have h4 := h3.2; (try dsimp only at *); omega) | (intro h1; exfalso; have h4 := h1.2; (try dsimp only at *); omega))
      replace hw := hw.chg k6' (by first | (intro x h1 h2; exact h2) | (intro x h1 h2; have h3 : _ = _ := h2; exfalso; omega) | (intro b h1 h2 h3; have h4 : _ = _ := h3; (try dsimp only at h2); exfalso; omega) | (intro h1; have h2 : _ = _ := h1; exfalso; omega) | (intro h1; have h2 : _ ≤ _ := h1; exfalso; omega) | (intros; exfalso; (try dsimp only at *); omega) | (intro b h1 h2 h3; exfalso; have h4 := h3.2; (try dsimp only at *); omega) | (intro h1; exfalso; have h4 := h1.2; (try dsimp only at *); omega))
      replace hd_2 := hd_2.chg k6' (by first | (intro x h1 h2; exact h2) | (intro x h1 h2; have h3 : _ = _ := h2; exfalso; omega) | (intro b h1 h2 h3; have h4 : _ = _ := h3; (try dsimp only at h2); exfalso; omega) | (intro h1; have h2 : _ = _ := h1; exfalso; omega) | (intro h1; have h2 : _ ≤ _ := h1; exfalso; omega) | (intros; exfalso; (try dsimp only at *); omega) | (intro b h1 h2 h3; exfalso; have h4 := h3.2; (try dsimp only at *); omega) | (intro h1; exfalso; have h4 := h1.2; (try dsimp only at *); omega))
      refine WL.nil ?_
      refine WX.one ⟨hd_2, ?_⟩
      refine DL.step [(50, _)] rfl ⟨rfl, trivial⟩ rfl (fun wq_16 kq_16 => ?_)
      have zs_kq_16 := kq_16.size
      replace h := h.pure kq_16
      replace hb := hb.pure kq_16
      replace hw := hw.pure kq_16
      replace hd_2 := hd_2.pure kq_16
      replace hB6 := hB6.pure kq_16
      replace hC6 := hC6.pure kq_16
      refine WL.build (e := erow) [⟨some ⟨g5, 0, none⟩, r.xs.length + 2, r.xs⟩] Try.underlying22 Try.sizeOf23 Try.zeroValue23 rfl rfl rfl (by first | (simp [Value.cells]; done) | (simp [Value.cells] <;> rfl) | (simp [Value.cells, eb, ei, es, ebool, e32, e64]; done)) (by decide) rfl ?_
      intro a_qr w_qr qr l_qr z_qr k_qr
      have zs_k_qr := k_qr.size
      replace h := h.pure k_qr
      replace hb := hb.pure k_qr
      replace hw := hw.pure k_qr
      replace hd_2 := hd_2.pure k_qr
      replace hB6 := hB6.pure k_qr
      replace hC6 := hC6.pure k_qr
      refine WL.nil ?_
      refine WX.one ⟨hd_2, ?_⟩
      refine DL.step [(38, _), (51, _)] rfl ⟨rfl, rfl, trivial⟩ rfl (fun wq_17 kq_17 => ?_)
      have zs_kq_17 := kq_17.size
      replace h := h.pure kq_17
      replace hb := hb.pure kq_17
      replace hw := hw.pure kq_17
      replace hd_2 := hd_2.pure kq_17
      replace hB6 := hB6.pure kq_17
      replace hC6 := hC6.pure kq_17
      replace qr := qr.pure kq_17
      refine WL.append (e := erow) (S := fun b => w.heap.size ≤ b) info_23 rfl Try.underlying22 rfl rfl (hC6.outer.mono (fun b hb => hb.1)) (qr.rsl.src Try.underlying22) (by show (ms.length + 1) * 24 ≤ _ ∧ ms.length + 1 ≤ _; constructor <;> omega) (fun b hb => by have := hw.size; omega) rfl ?_
      intro a15 c15 w15 hO15 g15 n15
      have hC15 := hC6.snoc hB6 (by omega) hwn (by omega) hO15 g15
      have k15 := g15.chg.mono (M' := fun x => w.heap.size ≤ x) (fun x _ hx => hx.2)
      have hz15 : w.heap.size ≤ w15.heap.size := by have := g15.chg.size; omega
      have zs_k15 := k15.size
      replace h := h.chg k15 (by first | (intro x h1 h2; exact h2) | (intro x h1 h2; have h3 : _ = _ := h2; exfalso; omega) | (intro b h1 h2 h3; have h4 : _ = _ := h3; (try dsimp only at h2); exfalso; omega) | (intro h1; have h2 : _ = _ := h1; exfalso; omega) | (intro h1; have h2 : _ ≤ _ := h1; exfalso; omega) | (intros; exfalso; (try dsimp only at *); omega) | (intro b h1 h2 h3; exfalso; have h4 := h3.2; (try dsimp only at *); omega) | (intro h1; exfalso; have h4 := h1.2; (try dsimp only at *); omega))
      replace hb := hb.chg k15 (by first | (intro x h1 h2; exact h2) | (intro x h1 h2; have h3 : _ = _ := h2; exfalso; omega) | (intro b h1 h2 h3; have h4 : _ = _ := h3; (try dsimp only at h2); exfalso; omega) | (intro h1; have h2 : _ = _ := h1; exfalso; omega) | (intro h1; have h2 : _ ≤ _ := h1; exfalso; omega) | (intros; exfalso; (try dsimp only at *); omega) | (intro b h1 h2 h3; exfalso; have h4 := h3.2; (try dsimp only at *); omega) | (intro h1; exfalso; have h4 := h1.2; (try dsimp only at *); omega))
      replace hw := hw.chg k15 (by first | (intro x h1 h2; exact h2) | (intro x h1 h2; have h3 : _ = _ := h2; exfalso; omega) | (intro b h1 h2 h3; have h4 : _ = _ := h3; (try dsimp only at h2); exfalso; omega) | (intro h1; have h2 : _ = _ := h1; exfalso; omega) | (intro h1; have h2 : _ ≤ _ := h1; exfalso; omega) | (intros; exfalso; (try dsimp only at *); omega) | (intro b h1 h2 h3; exfalso; have h4 := h3.2; (try dsimp only at *); omega) | (intro h1; exfalso; have h4 := h1.2; (try dsimp only at *); omega))
      replace hd_2 := hd_2.chg k15 (by first | (intro x h1 h2; exact h2) | (intro x h1 h2; have h3 : _ = _ := h2; exfalso; omega) | (intro b h1 h2 h3; have h4 : _ = _ := h3; (try dsimp only at h2); exfalso; omega) | (intro h1; have h2 : _ = _ := h1; exfalso; omega) | (intro h1; have h2 : _ ≤ _ := h1; exfalso; omega) | (intros; exfalso; (try dsimp only at *); omega) | (intro b h1 h2 h3; exfalso; have h4 := h3.2; (try dsimp only at *); omega) | (intro h1; exfalso; have h4 := h1.2; (try dsimp only at *); omega))
      refine WL.nil ?_
      refine WX.one ⟨hd_2, ?_⟩
      refine DL.step [(52, _)] rfl ⟨rfl, trivial⟩ rfl (fun wq_18 kq_18 => ?_)
      have zs_kq_18 := kq_18.size
      replace h := h.pure kq_18
      replace hb := hb.pure kq_18
      replace hw := hw.pure kq_18
      replace hd_2 := hd_2.pure kq_18
      replace hC15 := hC15.pure kq_18
      refine WL.assign rfl rfl (?_)
      refine WL.nil ?_
      refine WX.one ⟨hd_2, ?_⟩
      refine DL.done (fun we_19 ke_19 => ?_)
      have zs_ke_19 := ke_19.size
      replace h := h.pure ke_19
      replace hb := hb.pure ke_19
      replace hw := hw.pure ke_19
      replace hd_2 := hd_2.pure ke_19
      replace hC15 := hC15.pure ke_19
      refine WX.block_normal (WX.then_normal (WC.region (WL.move rfl rfl (WL.add64 rfl rfl (by first | omega | (constructor <;> omega)) rfl (WL.assign rfl rfl (WL.nil (?_)))))))
      first
        | exact WX.loop_next (i + 1, a15, c15, w15.heap.size, ms ++ [⟨some ⟨g5, 0, none⟩, r.xs.length + 2, r.xs⟩]) ⟨rfl, rfl, rfl, rfl, trivial⟩ ⟨by show i + 1 ≤ _; omega, ⟨by show (ms ++ [_]).length = _; simp [hml], fun j r' z hr' hz => (by
            rcases get_snoc hz with h1 | ⟨h1, h2⟩
            ·
              exact hms j r' z hr' h1
            ·
              rw [h1, hml, hri] at hr'
              injection hr' with hr'
              rw [h2, ← hr'])⟩, hC15, ⟨hz15, by show w15.heap.size ≤ _; omega⟩, h, hb, hw⟩ (by show rs.length - (i + 1) < rs.length - i; omega)
        | exact WX.loop_next (k2 + 1, xs3.set i2 ⟨some ⟨gx2, 0, none⟩, rc, ux.set k2 170⟩, ux.set k2 170) ⟨rfl, rfl, rfl, rfl, by show _ = some (Value.slice ax (xs3.set i2 _).length cx); rw [List.length_set]; rfl, rfl, rfl, rfl, rfl, trivial⟩ ⟨by show k2 + 1 ≤ _; omega, ⟨by show (xs3.set i2 _).length = _; rw [List.length_set]; exact hx3l, by show (ux.set _ _).length = _; rw [List.length_set]; exact hul, by show (xs3.set i2 _)[i2]? = _; rw [List.getElem?_set_self (by omega)]⟩, (fun r hr => by
            rcases List.mem_or_eq_of_mem_set hr with h1 | h1
            ·
              exact hxr r h1
            ·
              rw [h1]; show (ux.set _ _).length ≤ _; rw [List.length_set]; omega), hX15, hY, hZ, hC, h, hb, hq, by omega, hw⟩ (by show rxs.length - (k2 + 1) < rxs.length - k2; omega)
        | exact WX.loop_next (i2 + 1, xs3) ⟨rfl, rfl, rfl, rfl, rfl, rfl, rfl, rfl, trivial⟩ ⟨by show i2 + 1 ≤ xs3.length; omega, by show xs3.length = _; omega, hxr, hX, hY, hZ, hC, h, hb, hq, hwL, hw⟩ (by show xs3.length - (i2 + 1) < xs2.length - i2; omega)
        | exact WX.loop_next (k3 + 1, ys3.set i3 ⟨some ⟨gy2, 0, none⟩, rc, uy.set k3 171⟩, uy.set k3 171) ⟨rfl, rfl, rfl, rfl, by show _ = some (Value.slice ay (ys3.set i3 _).length cy); rw [List.length_set]; rfl, rfl, rfl, rfl, trivial⟩ ⟨by show k3 + 1 ≤ _; omega, ⟨by show (ys3.set i3 _).length = _; rw [List.length_set]; exact hy3l, by show (uy.set _ _).length = _; rw [List.length_set]; exact hul, by show (ys3.set i3 _)[i3]? = _; rw [List.getElem?_set_self (by omega)]⟩, (fun j r hj hr => by
            have hr' : (ys3.set i3 ⟨some ⟨gy2, 0, none⟩, rc, uy.set k3 171⟩)[j]? = some r := hr
            by_cases e : i3 = j
            ·
              subst e
              rw [List.getElem?_set_self (by omega)] at hr'
              injection hr' with hr'
              rw [← hr']; show (uy.set _ _).length ≤ _; rw [List.length_set]; omega
            ·
              rw [List.getElem?_set_ne e] at hr'
              exact hyr3 j r hj hr'), hY18, hZ, hC, h, hb, hq, by omega, hw⟩ (by show rxs.length - (k3 + 1) < rxs.length - k3; omega)
        | exact WX.loop_next (i3 + 1, ys3.set i3 ⟨a9, c9, uy ++ [172]⟩) ⟨rfl, rfl, rfl, rfl, by show _ = some (Value.slice ay (ys3.set i3 _).length cy); rw [List.length_set]; rfl, rfl, rfl, trivial⟩ ⟨by show i3 + 1 ≤ (ys3.set i3 _).length; rw [List.length_set]; omega, by show (ys3.set i3 _).length = _; rw [List.length_set]; omega, (fun j r hj hr => by
            have hr' : (ys3.set i3 ⟨a9, c9, uy ++ [172]⟩)[j]? = some r := hr
            have hj' : i3 + 1 ≤ j := hj
            rw [List.getElem?_set_ne (by omega)] at hr'
            exact hyr3 j r (by omega) hr'), hY20, hZ, hC, h, hb, hq, by omega, hw⟩ (by show (ys3.set i3 _).length - (i3 + 1) < ys2.length - i3; rw [List.length_set]; omega)
        | exact WX.loop_next (k6 + 1) ⟨rfl, rfl, rfl, rfl, rfl, rfl, rfl, rfl, rfl, trivial⟩ ⟨⟨by omega, by omega⟩, hq2, hZ, hV, hC, h, hb, hq, hw⟩ (by omega)
        | exact WX.loop_next (k5 + 1) ⟨rfl, rfl, rfl, rfl, rfl, rfl, rfl, trivial⟩ ⟨by omega, hZ, hV, hC, h, hb, hq, hw⟩ (by omega)
        | exact WX.loop_next (k8 + 1) ⟨rfl, rfl, rfl, rfl, rfl, rfl, rfl, trivial⟩ ⟨by omega, hZ, hV, hC, h, hb, hq, hw⟩ (by omega)
    ·
      refine WL.nil (WX.then_normal (WC.cond_false rfl (WC.exit (WX.then_exit (WX.then_exit (WX.block_here (WX.then_normal (?_))))))))
      refine WC.seq (WC.region (WL.move rfl rfl (WL.len Try.underlying33 rfl rfl (WL.add64 rfl rfl (by first | omega | (constructor <;> omega)) rfl (?_)))))
      have hil : i = rs.length := by omega
      refine WL.makeB (e := ei) (0 : Int) 0 (bad.length + 2) Try.underlying33 info_3 rfl rfl rfl ⟨rfl, rfl, Nat.zero_le _⟩ (by constructor <;> omega) rfl ?_
      intro g7 w7 hB7 k7 z7 e7
      have zs_k7 := k7.size
      replace hC := hC.pure k7
      replace h := h.pure k7
      replace hb := hb.pure k7
      replace hw := hw.pure k7
      refine WL.move rfl rfl (?_)
      refine WL.appendB (e := ei) (ys := bad) info_3 Try.underlying33 rfl rfl hB7 (by rw [List.length_replicate]) (hb.src Try.underlying33) (by omega) rfl ?_
      intro w8 hB8 k8 n8
      rw [appS] at hB8
      rw [Nat.zero_add bad.length]
      replace hC := hC.chg k8 (fun x h1 h2 => by have h3 : x = g7 := h2; omega)
      replace h := h.chg k8 (fun x _ h1 h2 => by have h3 : x = g7 := h2; omega)
      replace hb := hb.chg k8 (fun x _ h1 h2 => by have h3 : x = g7 := h2; omega)
      replace hw := hw.chg k8 (fun x h1 h2 => by have h3 : x = g7 := h2; omega)
      have hgn : n1 ≤ g7 := by omega
      have hgl := hB8.lt
      have hq0 : RSl (fun b => b = g7) _ ei (some ⟨g7, 0, none⟩) (bad.length + 2) (bad ++ List.replicate 2 0) := RSl.ofBlk hB8 (by simp)
      have hq := hq0.take bad.length (by simp)
      rw [List.take_left] at hq
      clear hq0
      refine WL.assign rfl rfl (WL.nil (WX.then_normal (WC.seq (WC.region (WL.move rfl rfl (?_))))))
      have hmx : xss ms = xss rs := by
        apply List.ext_getElem?
        intro j
        rcases Nat.lt_or_ge j rs.length with h1 | h1
        ·
          obtain ⟨r, hr⟩ : ∃ r, rs[j]? = some r := ⟨_, List.getElem?_eq_getElem h1⟩
          obtain ⟨z, hz⟩ : ∃ z, ms[j]? = some z := ⟨_, List.getElem?_eq_getElem (by omega)⟩
          rw [xss_at hr, xss_at hz, hms j r z hr hz]
        ·
          rw [List.getElem?_eq_none (by rw [xss_len]; omega), List.getElem?_eq_none (by rw [xss_len]; omega)]
      obtain ⟨L1, hL1⟩ : ∃ L1, L1 = w8.heap.size := ⟨_, rfl⟩
      refine WL.call eg_21 rfl rfl (make_ow hC.toRS (by omega)) ?_
      rintro v w9 ⟨⟨ax, cx, xs, ex, rfl, hX, hxl, hxr⟩, k9⟩
      obtain ⟨L2, hL2⟩ : ∃ L2, L2 = w9.heap.size := ⟨_, rfl⟩
      rw [← hL1, ← hL2] at hX
      have zs_k9 := k9.size
      replace hC := hC.pure k9
      replace h := h.pure k9
      replace hb := hb.pure k9
      replace hw := hw.pure k9
      replace hq := hq.pure k9
      refine WL.move rfl rfl (WL.extract rfl rfl rfl (WL.extract rfl rfl rfl (WL.assign rfl rfl (WL.assign rfl rfl (WL.nil (WX.then_normal (WC.seq (?_))))))))
      refine WC.region (WL.move rfl rfl (WL.move rfl rfl (?_)))
      refine WL.call eg_19 rfl rfl (rebuild_any hC.toRS hq (by omega) (by omega)) ?_
      rintro v w10 ⟨⟨ay, cy, ys, ey, rfl, hY, hyl, hyr, hRE⟩, k10⟩
      obtain ⟨L3, hL3⟩ : ∃ L3, L3 = w10.heap.size := ⟨_, rfl⟩
      rw [← hL2, ← hL3] at hY
      rw [hmx] at hRE
      have zs_k10 := k10.size
      replace hC := hC.pure k10
      replace h := h.pure k10
      replace hb := hb.pure k10
      replace hw := hw.pure k10
      replace hq := hq.pure k10
      replace hX := hX.pure k10
      refine WL.move rfl rfl (WL.extract rfl rfl rfl (WL.extract rfl rfl rfl (WL.assign rfl rfl (WL.assign rfl rfl (WL.nil (WX.then_normal (WC.seq (?_))))))))
      refine WC.region (WL.move rfl rfl (WL.move rfl rfl (?_)))
      refine WL.call eg_19 rfl rfl (rebuild_any hC.toRS hq (by omega) (by omega)) ?_
      rintro v w11 ⟨⟨az, cz, zs, ez, rfl, hZ, hzl, hzr, hRE2⟩, k11⟩
      obtain ⟨L4, hL4⟩ : ∃ L4, L4 = w11.heap.size := ⟨_, rfl⟩
      rw [← hL3, ← hL4] at hZ
      rw [hmx] at hRE2
      replace hZ := hZ.toRS
      have zs_k11 := k11.size
      replace hC := hC.pure k11
      replace h := h.pure k11
      replace hb := hb.pure k11
      replace hw := hw.pure k11
      replace hq := hq.pure k11
      replace hX := hX.pure k11
      replace hY := hY.pure k11
      refine WL.move rfl rfl (WL.extract rfl rfl rfl (WL.extract rfl rfl rfl (WL.assign rfl rfl (WL.assign rfl rfl (WL.nil (WX.then_normal (WC.seq (?_))))))))
      refine WC.region (WL.move rfl rfl (?_))
      refine WL.call eg_22 rfl rfl (check_any hC.toRS (by omega)) ?_
      rintro v w12 ⟨⟨b12, e12, rfl⟩, k12⟩
      have zs_k12 := k12.size
      replace hC := hC.pure k12
      replace h := h.pure k12
      replace hb := hb.pure k12
      replace hw := hw.pure k12
      replace hq := hq.pure k12
      replace hX := hX.pure k12
      replace hY := hY.pure k12
      replace hZ := hZ.pure k12
      refine WL.nil (WX.then_normal (WC.seq (WC.seq (WC.region (WL.assign rfl rfl (WL.nil (WX.then_normal (?_))))))))
      refine WC.block (?_)
      have hX0 := hX
      refine WC.loop (σ := Nat × List Rw) (fun s => [(0, .slice ao rs.length c), (1, .slice ab bad.length cb), (5, .slice am ms.length cm), (7, .slice (some ⟨g7, 0, none⟩) bad.length (bad.length + 2)), (8, .slice ax s.2.length cx), (10, .slice ay ys.length cy), (12, .slice az zs.length cz), (14, vi (s.1 : Int))])
        (fun s w' => s.1 ≤ s.2.length ∧ s.2.length = xs.length ∧ (∀ r ∈ s.2, r.xs.length ≤ 4096) ∧ OW L1 L2 w' 23 5 ax cx 0 s.2 ∧ OW L2 L3 w' 23 5 ay cy 0 ys ∧ RS (fun x => L3 ≤ x ∧ x < L4) w' az cz zs ∧ CS 2 w.heap.size n1 w' 23 5 am cm ms ∧ RS (· < w.heap.size) w' ao c rs ∧ RSl (· < w.heap.size) w' ei ab cb bad ∧ RSl (fun b => b = g7) w' ei (some ⟨g7, 0, none⟩) (bad.length + 2) bad ∧ L4 ≤ w'.heap.size ∧ Chg Nob w w') (fun s => s.2.length - s.1) (0, xs) ⟨rfl, rfl, rfl, rfl, rfl, rfl, rfl, rfl, trivial⟩ ⟨Nat.zero_le _, rfl, hxr, hX, hY, hZ, hC, h, hb, hq, by omega, hw⟩ ?_
      clear hX hX0 hY hZ hC h hb hq hw hxr
      rintro ⟨i2, xs2⟩ w13 ⟨hi2, hxl2, hxr, hX, hY, hZ, hC, h, hb, hq, hwL, hw⟩
      simp only at hi2 hxl2 hxr hX
      dsimp only
      refine WC.seq (WC.seq (WC.region (WL.move rfl rfl (WL.move rfl rfl (WL.len Try.underlying22 rfl rfl (?_))))))
      refine WL.lss? rfl rfl rfl (fun h81 => ?_) (fun h81 => ?_)
      ·
        refine WL.nil (WX.then_normal (WC.cond_true rfl (WC.skip (WX.then_normal (WC.seq (WC.block (WC.seq (?_))))))))
        refine WC.region (WL.assign rfl rfl (WL.nil (WX.then_normal (WC.block (?_)))))
        obtain ⟨⟨rao, rc, rxs⟩, hr2⟩ : ∃ r, xs2[i2]? = some r := ⟨_, List.getElem?_eq_getElem (by omega)⟩
        have hrl2 : rxs.length ≤ 4096 := hxr _ (List.mem_of_getElem? hr2)
        obtain ⟨gx, hgx, hgxb, hgxn, _⟩ := hX.inner i2 _ (Nat.zero_le _) hr2
        have hgx' : rao = some ⟨gx, 0, none⟩ := hgx
        subst hgx'
        refine WC.loop (σ := Nat × List Rw × List UInt8) (fun s => [(0, .slice ao rs.length c), (1, .slice ab bad.length cb), (5, .slice am ms.length cm), (7, .slice (some ⟨g7, 0, none⟩) bad.length (bad.length + 2)), (8, .slice ax s.2.1.length cx), (10, .slice ay ys.length cy), (12, .slice az zs.length cz), (14, vi (i2 : Int)), (15, vi (s.1 : Int))])
          (fun s w' => s.1 ≤ rxs.length ∧ (s.2.1.length = xs2.length ∧ s.2.2.length = rxs.length ∧ s.2.1[i2]? = some ⟨some ⟨gx, 0, none⟩, rc, s.2.2⟩) ∧ (∀ r ∈ s.2.1, r.xs.length ≤ 4096) ∧ OW L1 L2 w' 23 5 ax cx 0 s.2.1 ∧ OW L2 L3 w' 23 5 ay cy 0 ys ∧ RS (fun x => L3 ≤ x ∧ x < L4) w' az cz zs ∧ CS 2 w.heap.size n1 w' 23 5 am cm ms ∧ RS (· < w.heap.size) w' ao c rs ∧ RSl (· < w.heap.size) w' ei ab cb bad ∧ RSl (fun b => b = g7) w' ei (some ⟨g7, 0, none⟩) (bad.length + 2) bad ∧ L4 ≤ w'.heap.size ∧ Chg Nob w w') (fun s => rxs.length - s.1) (0, xs2, rxs) ⟨rfl, rfl, rfl, rfl, rfl, rfl, rfl, rfl, rfl, trivial⟩ ⟨Nat.zero_le _, ⟨rfl, rfl, hr2⟩, hxr, hX, hY, hZ, hC, h, hb, hq, hwL, hw⟩ ?_
        clear hX hY hZ hC h hb hq hw hxr hwL
        rintro ⟨k2, xs3, ux⟩ w14 ⟨hk2, ⟨hx3l, hul, hx3⟩, hxr, hX, hY, hZ, hC, h, hb, hq, hwL, hw⟩
        simp only at hk2 hx3l hul hx3 hxr hX
        dsimp only
        refine WC.seq (WC.seq (WC.region (WL.move rfl rfl (WL.move rfl rfl (WL.move rfl rfl (?_))))))
        refine WL.indexT (e := erow) Try.underlying22 Try.sizeOf23 hX.outer.rsl rfl rfl ⟨hx3, rfl⟩ rfl ?_
        intro bb1 oo1 hcc1
        refine WL.load Try.isAgg23 rfl (hcc1 0 _ rfl) rfl ?_
        dsimp only
        refine WL.len Try.underlying23 rfl rfl (?_)
        refine WL.lss? rfl rfl rfl (fun h90 => ?_) (fun h90 => ?_)
        ·
          refine WL.nil (WX.then_normal (WC.cond_true rfl (WC.skip (WX.then_normal (WC.seq (WC.block (WC.region (?_))))))))
          refine WL.move rfl rfl (WL.move rfl rfl (?_))
          refine WL.indexT (e := erow) Try.underlying22 Try.sizeOf23 hX.outer.rsl rfl rfl ⟨hx3, rfl⟩ rfl ?_
          intro bb2 oo2 hcc2
          refine WL.load Try.isAgg23 rfl (hcc2 0 _ rfl) rfl ?_
          dsimp only
          refine WL.move rfl rfl (?_)
          refine WL.index (sz := 1) (j := k2) Try.underlying23 Try.sizeOf5 rfl rfl rfl (by show k2 < ux.length; omega) rfl ?_
          obtain ⟨gx2, hgx2, _, _, hrow⟩ := hX.inner i2 _ (Nat.zero_le _) hx3
          have hgx2' : gx2 = gx := by
            have h1 : (some (⟨gx, 0, none⟩ : Addr)) = some ⟨gx2, 0, none⟩ := hgx2
            injection h1 with h1
            injection h1 with h1
            exact h1.symm
          subst hgx2'
          have hrow2 : Row (fun b => b = gx2) _ 5 eb (some ⟨gx2, 0, none⟩) rc ux := hrow
          refine WL.storeRow (z := (170 : UInt8)) k2 Try.sizeOf5 hrow2 rfl rfl rfl (by show 0 + k2 * 1 = k2; omega) (by omega) rfl ?_
          intro w15 z15 hO15 k15
          have hX15 := hX.upd (Nat.zero_le _) hx3 (by rw [List.length_set]) k15 hO15
          replace hY := hY.chg k15 (fun x h1 h2 => by have h3 : x = gx2 := h2; omega)
          replace hZ := hZ.chg k15 (fun x _ h1 h2 => by have h3 : x = gx2 := h2; omega)
          replace hC := hC.chg k15 (fun x h1 h2 => by have h3 : x = gx2 := h2; omega)
          replace h := h.chg k15 (fun x _ h1 h2 => by have h3 : x = gx2 := h2; omega)
          replace hb := hb.chg k15 (fun x _ h1 h2 => by have h3 : x = gx2 := h2; omega)
          replace hq := hq.chg k15 (fun x _ h1 h2 => by have h3 : x = gx2 := h2; have h4 : x = g7 := h1; omega)
          replace hw := hw.chg k15 (fun x h1 h2 => by have h3 : x = gx2 := h2; omega)
          refine WL.nil (WX.block_normal (WX.then_normal (WC.region (WL.move rfl rfl (WL.add64 rfl rfl (by first | omega | (constructor <;> omega)) rfl (WL.assign rfl rfl (WL.nil (?_))))))))
          first
            | exact WX.loop_next (i + 1, a15, c15, w15.heap.size, ms ++ [⟨some ⟨g5, 0, none⟩, r.xs.length + 2, r.xs⟩]) ⟨rfl, rfl, rfl, rfl, trivial⟩ ⟨by show i + 1 ≤ _; omega, ⟨by show (ms ++ [_]).length = _; simp [hml], fun j r' z hr' hz => (by
                rcases get_snoc hz with h1 | ⟨h1, h2⟩
                ·
                  exact hms j r' z hr' h1
                ·
                  rw [h1, hml, hri] at hr'
                  injection hr' with hr'
                  rw [h2, ← hr'])⟩, hC15, ⟨hz15, by show w15.heap.size ≤ _; omega⟩, h, hb, hw⟩ (by show rs.length - (i + 1) < rs.length - i; omega)
            | exact WX.loop_next (k2 + 1, xs3.set i2 ⟨some ⟨gx2, 0, none⟩, rc, ux.set k2 170⟩, ux.set k2 170) ⟨rfl, rfl, rfl, rfl, by show _ = some (Value.slice ax (xs3.set i2 _).length cx); rw [List.length_set]; rfl, rfl, rfl, rfl, rfl, trivial⟩ ⟨by show k2 + 1 ≤ _; omega, ⟨by show (xs3.set i2 _).length = _; rw [List.length_set]; exact hx3l, by show (ux.set _ _).length = _; rw [List.length_set]; exact hul, by show (xs3.set i2 _)[i2]? = _; rw [List.getElem?_set_self (by omega)]⟩, (fun r hr => by
                rcases List.mem_or_eq_of_mem_set hr with h1 | h1
                ·
                  exact hxr r h1
                ·
                  rw [h1]; show (ux.set _ _).length ≤ _; rw [List.length_set]; omega), hX15, hY, hZ, hC, h, hb, hq, by omega, hw⟩ (by show rxs.length - (k2 + 1) < rxs.length - k2; omega)
            | exact WX.loop_next (i2 + 1, xs3) ⟨rfl, rfl, rfl, rfl, rfl, rfl, rfl, rfl, trivial⟩ ⟨by show i2 + 1 ≤ xs3.length; omega, by show xs3.length = _; omega, hxr, hX, hY, hZ, hC, h, hb, hq, hwL, hw⟩ (by show xs3.length - (i2 + 1) < xs2.length - i2; omega)
            | exact WX.loop_next (k3 + 1, ys3.set i3 ⟨some ⟨gy2, 0, none⟩, rc, uy.set k3 171⟩, uy.set k3 171) ⟨rfl, rfl, rfl, rfl, by show _ = some (Value.slice ay (ys3.set i3 _).length cy); rw [List.length_set]; rfl, rfl, rfl, rfl, trivial⟩ ⟨by show k3 + 1 ≤ _; omega, ⟨by show (ys3.set i3 _).length = _; rw [List.length_set]; exact hy3l, by show (uy.set _ _).length = _; rw [List.length_set]; exact hul, by show (ys3.set i3 _)[i3]? = _; rw [List.getElem?_set_self (by omega)]⟩, (fun j r hj hr => by
                have hr' : (ys3.set i3 ⟨some ⟨gy2, 0, none⟩, rc, uy.set k3 171⟩)[j]? = some r := hr
                by_cases e : i3 = j
                ·
                  subst e
                  rw [List.getElem?_set_self (by omega)] at hr'
                  injection hr' with hr'
                  rw [← hr']; show (uy.set _ _).length ≤ _; rw [List.length_set]; omega
                ·
                  rw [List.getElem?_set_ne e] at hr'
                  exact hyr3 j r hj hr'), hY18, hZ, hC, h, hb, hq, by omega, hw⟩ (by show rxs.length - (k3 + 1) < rxs.length - k3; omega)
            | exact WX.loop_next (i3 + 1, ys3.set i3 ⟨a9, c9, uy ++ [172]⟩) ⟨rfl, rfl, rfl, rfl, by show _ = some (Value.slice ay (ys3.set i3 _).length cy); rw [List.length_set]; rfl, rfl, rfl, trivial⟩ ⟨by show i3 + 1 ≤ (ys3.set i3 _).length; rw [List.length_set]; omega, by show (ys3.set i3 _).length = _; rw [List.length_set]; omega, (fun j r hj hr => by
                have hr' : (ys3.set i3 ⟨a9, c9, uy ++ [172]⟩)[j]? = some r := hr
                have hj' : i3 + 1 ≤ j := hj
                rw [List.getElem?_set_ne (by omega)] at hr'
                exact hyr3 j r (by omega) hr'), hY20, hZ, hC, h, hb, hq, by omega, hw⟩ (by show (ys3.set i3 _).length - (i3 + 1) < ys2.length - i3; rw [List.length_set]; omega)
            | exact WX.loop_next (k6 + 1) ⟨rfl, rfl, rfl, rfl, rfl, rfl, rfl, rfl, rfl, trivial⟩ ⟨⟨by omega, by omega⟩, hq2, hZ, hV, hC, h, hb, hq, hw⟩ (by omega)
            | exact WX.loop_next (k5 + 1) ⟨rfl, rfl, rfl, rfl, rfl, rfl, rfl, trivial⟩ ⟨by omega, hZ, hV, hC, h, hb, hq, hw⟩ (by omega)
            | exact WX.loop_next (k8 + 1) ⟨rfl, rfl, rfl, rfl, rfl, rfl, rfl, trivial⟩ ⟨by omega, hZ, hV, hC, h, hb, hq, hw⟩ (by omega)
        ·
          refine WL.nil (WX.then_normal (WC.cond_false rfl (WC.exit (WX.then_exit (WX.then_exit (WX.block_here (WX.block_normal (?_))))))))
          refine WX.then_normal (WC.region (WL.move rfl rfl (WL.add64 rfl rfl (by first | omega | (constructor <;> omega)) rfl (WL.assign rfl rfl (WL.nil (?_))))))
          first
            | exact WX.loop_next (i + 1, a15, c15, w15.heap.size, ms ++ [⟨some ⟨g5, 0, none⟩, r.xs.length + 2, r.xs⟩]) ⟨rfl, rfl, rfl, rfl, trivial⟩ ⟨by show i + 1 ≤ _; omega, ⟨by show (ms ++ [_]).length = _; simp [hml], fun j r' z hr' hz => (by
                rcases get_snoc hz with h1 | ⟨h1, h2⟩
                ·
                  exact hms j r' z hr' h1
                ·
                  rw [h1, hml, hri] at hr'
                  injection hr' with hr'
                  rw [h2, ← hr'])⟩, hC15, ⟨hz15, by show w15.heap.size ≤ _; omega⟩, h, hb, hw⟩ (by show rs.length - (i + 1) < rs.length - i; omega)
            | exact WX.loop_next (k2 + 1, xs3.set i2 ⟨some ⟨gx2, 0, none⟩, rc, ux.set k2 170⟩, ux.set k2 170) ⟨rfl, rfl, rfl, rfl, by show _ = some (Value.slice ax (xs3.set i2 _).length cx); rw [List.length_set]; rfl, rfl, rfl, rfl, rfl, trivial⟩ ⟨by show k2 + 1 ≤ _; omega, ⟨by show (xs3.set i2 _).length = _; rw [List.length_set]; exact hx3l, by show (ux.set _ _).length = _; rw [List.length_set]; exact hul, by show (xs3.set i2 _)[i2]? = _; rw [List.getElem?_set_self (by omega)]⟩, (fun r hr => by
                rcases List.mem_or_eq_of_mem_set hr with h1 | h1
                ·
                  exact hxr r h1
                ·
                  rw [h1]; show (ux.set _ _).length ≤ _; rw [List.length_set]; omega), hX15, hY, hZ, hC, h, hb, hq, by omega, hw⟩ (by show rxs.length - (k2 + 1) < rxs.length - k2; omega)
            | exact WX.loop_next (i2 + 1, xs3) ⟨rfl, rfl, rfl, rfl, rfl, rfl, rfl, rfl, trivial⟩ ⟨by show i2 + 1 ≤ xs3.length; omega, by show xs3.length = _; omega, hxr, hX, hY, hZ, hC, h, hb, hq, hwL, hw⟩ (by show xs3.length - (i2 + 1) < xs2.length - i2; omega)
            | exact WX.loop_next (k3 + 1, ys3.set i3 ⟨some ⟨gy2, 0, none⟩, rc, uy.set k3 171⟩, uy.set k3 171) ⟨rfl, rfl, rfl, rfl, by show _ = some (Value.slice ay (ys3.set i3 _).length cy); rw [List.length_set]; rfl, rfl, rfl, rfl, trivial⟩ ⟨by show k3 + 1 ≤ _; omega, ⟨by show (ys3.set i3 _).length = _; rw [List.length_set]; exact hy3l, by show (uy.set _ _).length = _; rw [List.length_set]; exact hul, by show (ys3.set i3 _)[i3]? = _; rw [List.getElem?_set_self (by omega)]⟩, (fun j r hj hr => by
                have hr' : (ys3.set i3 ⟨some ⟨gy2, 0, none⟩, rc, uy.set k3 171⟩)[j]? = some r := hr
                by_cases e : i3 = j
                ·
                  subst e
                  rw [List.getElem?_set_self (by omega)] at hr'
                  injection hr' with hr'
                  rw [← hr']; show (uy.set _ _).length ≤ _; rw [List.length_set]; omega
                ·
                  rw [List.getElem?_set_ne e] at hr'
                  exact hyr3 j r hj hr'), hY18, hZ, hC, h, hb, hq, by omega, hw⟩ (by show rxs.length - (k3 + 1) < rxs.length - k3; omega)
            | exact WX.loop_next (i3 + 1, ys3.set i3 ⟨a9, c9, uy ++ [172]⟩) ⟨rfl, rfl, rfl, rfl, by show _ = some (Value.slice ay (ys3.set i3 _).length cy); rw [List.length_set]; rfl, rfl, rfl, trivial⟩ ⟨by show i3 + 1 ≤ (ys3.set i3 _).length; rw [List.length_set]; omega, by show (ys3.set i3 _).length = _; rw [List.length_set]; omega, (fun j r hj hr => by
                have hr' : (ys3.set i3 ⟨a9, c9, uy ++ [172]⟩)[j]? = some r := hr
                have hj' : i3 + 1 ≤ j := hj
                rw [List.getElem?_set_ne (by omega)] at hr'
                exact hyr3 j r (by omega) hr'), hY20, hZ, hC, h, hb, hq, by omega, hw⟩ (by show (ys3.set i3 _).length - (i3 + 1) < ys2.length - i3; rw [List.length_set]; omega)
            | exact WX.loop_next (k6 + 1) ⟨rfl, rfl, rfl, rfl, rfl, rfl, rfl, rfl, rfl, trivial⟩ ⟨⟨by omega, by omega⟩, hq2, hZ, hV, hC, h, hb, hq, hw⟩ (by omega)
            | exact WX.loop_next (k5 + 1) ⟨rfl, rfl, rfl, rfl, rfl, rfl, rfl, trivial⟩ ⟨by omega, hZ, hV, hC, h, hb, hq, hw⟩ (by omega)
            | exact WX.loop_next (k8 + 1) ⟨rfl, rfl, rfl, rfl, rfl, rfl, rfl, trivial⟩ ⟨by omega, hZ, hV, hC, h, hb, hq, hw⟩ (by omega)
      ·
        refine WL.nil (WX.then_normal (WC.cond_false rfl (WC.exit (WX.then_exit (WX.then_exit (WX.block_here (WX.then_normal (?_))))))))
        refine WC.seq (WC.seq (WC.region (WL.assign rfl rfl (WL.nil (WX.then_normal (WC.block (?_)))))))
        refine WC.loop (σ := Nat × List Rw) (fun s => [(0, .slice ao rs.length c), (1, .slice ab bad.length cb), (5, .slice am ms.length cm), (7, .slice (some ⟨g7, 0, none⟩) bad.length (bad.length + 2)), (10, .slice ay s.2.length cy), (12, .slice az zs.length cz), (16, vi (s.1 : Int))])
          (fun s w' => s.1 ≤ s.2.length ∧ s.2.length = ys.length ∧ (∀ (j : Nat) (r : Rw), s.1 ≤ j → s.2[j]? = some r → r.xs.length ≤ 4096) ∧ OW L2 L3 w' 23 5 ay cy s.1 s.2 ∧ RS (fun x => L3 ≤ x ∧ x < L4) w' az cz zs ∧ CS 2 w.heap.size n1 w' 23 5 am cm ms ∧ RS (· < w.heap.size) w' ao c rs ∧ RSl (· < w.heap.size) w' ei ab cb bad ∧ RSl (fun b => b = g7) w' ei (some ⟨g7, 0, none⟩) (bad.length + 2) bad ∧ L4 ≤ w'.heap.size ∧ Chg Nob w w') (fun s => s.2.length - s.1) (0, ys) ⟨rfl, rfl, rfl, rfl, rfl, rfl, rfl, trivial⟩ ⟨Nat.zero_le _, rfl, fun j r _ hr => hyr r (List.mem_of_getElem? hr), hY, hZ, hC, h, hb, hq, hwL, hw⟩ ?_
        clear hY hZ hC h hb hq hw hwL
        rintro ⟨i3, ys2⟩ w16 ⟨hi3, hyl2, hyr2, hY, hZ, hC, h, hb, hq, hwL, hw⟩
        simp only at hi3 hyl2 hyr2 hY
        dsimp only
        refine WC.seq (WC.seq (WC.region (WL.move rfl rfl (WL.move rfl rfl (WL.len Try.underlying22 rfl rfl (?_))))))
        refine WL.lss? rfl rfl rfl (fun h102 => ?_) (fun h102 => ?_)
        ·
          refine WL.nil (WX.then_normal (WC.cond_true rfl (WC.skip (WX.then_normal (WC.seq (WC.block (WC.seq (?_))))))))
          refine WC.seq (WC.region (WL.assign rfl rfl (WL.nil (WX.then_normal (WC.block (?_))))))
          obtain ⟨⟨rao, rc, rxs⟩, hr2⟩ : ∃ r, ys2[i3]? = some r := ⟨_, List.getElem?_eq_getElem (by omega)⟩
          have hrl2 : rxs.length ≤ 4096 := hyr2 i3 _ (Nat.le_refl _) hr2
          obtain ⟨gy, hgy, hgyb, hgyn, _⟩ := hY.inner i3 _ (Nat.le_refl _) hr2
          have hgy' : rao = some ⟨gy, 0, none⟩ := hgy
          subst hgy'
          refine WC.loop (σ := Nat × List Rw × List UInt8) (fun s => [(0, .slice ao rs.length c), (1, .slice ab bad.length cb), (5, .slice am ms.length cm), (7, .slice (some ⟨g7, 0, none⟩) bad.length (bad.length + 2)), (10, .slice ay s.2.1.length cy), (12, .slice az zs.length cz), (16, vi (i3 : Int)), (17, vi (s.1 : Int))])
            (fun s w' => s.1 ≤ rxs.length ∧ (s.2.1.length = ys2.length ∧ s.2.2.length = rxs.length ∧ s.2.1[i3]? = some ⟨some ⟨gy, 0, none⟩, rc, s.2.2⟩) ∧ (∀ (j : Nat) (r : Rw), i3 ≤ j → s.2.1[j]? = some r → r.xs.length ≤ 4096) ∧ OW L2 L3 w' 23 5 ay cy i3 s.2.1 ∧ RS (fun x => L3 ≤ x ∧ x < L4) w' az cz zs ∧ CS 2 w.heap.size n1 w' 23 5 am cm ms ∧ RS (· < w.heap.size) w' ao c rs ∧ RSl (· < w.heap.size) w' ei ab cb bad ∧ RSl (fun b => b = g7) w' ei (some ⟨g7, 0, none⟩) (bad.length + 2) bad ∧ L4 ≤ w'.heap.size ∧ Chg Nob w w') (fun s => rxs.length - s.1) (0, ys2, rxs) ⟨rfl, rfl, rfl, rfl, rfl, rfl, rfl, rfl, trivial⟩ ⟨Nat.zero_le _, ⟨rfl, rfl, hr2⟩, hyr2, hY, hZ, hC, h, hb, hq, hwL, hw⟩ ?_
          clear hY hZ hC h hb hq hw hwL
          rintro ⟨k3, ys3, uy⟩ w17 ⟨hk3, ⟨hy3l, hul, hy3⟩, hyr3, hY, hZ, hC, h, hb, hq, hwL, hw⟩
          simp only at hk3 hy3l hul hy3 hyr3 hY
          dsimp only
          refine WC.seq (WC.seq (WC.region (WL.move rfl rfl (WL.move rfl rfl (WL.move rfl rfl (?_))))))
          refine WL.indexT (e := erow) Try.underlying22 Try.sizeOf23 hY.outer.rsl rfl rfl ⟨hy3, rfl⟩ rfl ?_
          intro bb1 oo1 hcc1
          refine WL.load Try.isAgg23 rfl (hcc1 0 _ rfl) rfl ?_
          dsimp only
          refine WL.len Try.underlying23 rfl rfl (?_)
          refine WL.lss? rfl rfl rfl (fun h111 => ?_) (fun h111 => ?_)
          ·
            refine WL.nil (WX.then_normal (WC.cond_true rfl (WC.skip (WX.then_normal (WC.seq (WC.block (WC.region (?_))))))))
            refine WL.move rfl rfl (WL.move rfl rfl (?_))
            refine WL.indexT (e := erow) Try.underlying22 Try.sizeOf23 hY.outer.rsl rfl rfl ⟨hy3, rfl⟩ rfl ?_
            intro bb2 oo2 hcc2
            refine WL.load Try.isAgg23 rfl (hcc2 0 _ rfl) rfl ?_
            dsimp only
            refine WL.move rfl rfl (?_)
            refine WL.index (sz := 1) (j := k3) Try.underlying23 Try.sizeOf5 rfl rfl rfl (by show k3 < uy.length; omega) rfl ?_
            obtain ⟨gy2, hgy2, _, _, hrow⟩ := hY.inner i3 _ (Nat.le_refl _) hy3
            have hgy2' : gy2 = gy := by
              have h1 : (some (⟨gy, 0, none⟩ : Addr)) = some ⟨gy2, 0, none⟩ := hgy2
              injection h1 with h1
              injection h1 with h1
              exact h1.symm
            subst hgy2'
            have hrow2 : Row (fun b => b = gy2) _ 5 eb (some ⟨gy2, 0, none⟩) rc uy := hrow
            refine WL.storeRow (z := (171 : UInt8)) k3 Try.sizeOf5 hrow2 rfl rfl rfl (by show 0 + k3 * 1 = k3; omega) (by omega) rfl ?_
            intro w18 z18 hO18 k18
            have hY18 := hY.upd (Nat.le_refl _) hy3 (by rw [List.length_set]) k18 hO18
            replace hZ := hZ.chg k18 (fun x _ h1 h2 => by have h3 : x = gy2 := h2; omega)
            replace hC := hC.chg k18 (fun x h1 h2 => by have h3 : x = gy2 := h2; omega)
            replace h := h.chg k18 (fun x _ h1 h2 => by have h3 : x = gy2 := h2; omega)
            replace hb := hb.chg k18 (fun x _ h1 h2 => by have h3 : x = gy2 := h2; omega)
            replace hq := hq.chg k18 (fun x _ h1 h2 => by have h3 : x = gy2 := h2; have h4 : x = g7 := h1; omega)
            replace hw := hw.chg k18 (fun x h1 h2 => by have h3 : x = gy2 := h2; omega)
            refine WL.nil (WX.block_normal (WX.then_normal (WC.region (WL.move rfl rfl (WL.add64 rfl rfl (by first | omega | (constructor <;> omega)) rfl (WL.assign rfl rfl (WL.nil (?_))))))))
            first
              | exact WX.loop_next (i + 1, a15, c15, w15.heap.size, ms ++ [⟨some ⟨g5, 0, none⟩, r.xs.length + 2, r.xs⟩]) ⟨rfl, rfl, rfl, rfl, trivial⟩ ⟨by show i + 1 ≤ _; omega, ⟨by show (ms ++ [_]).length = _; simp [hml], fun j r' z hr' hz => (by
                  rcases get_snoc hz with h1 | ⟨h1, h2⟩
                  ·
                    exact hms j r' z hr' h1
                  ·
                    rw [h1, hml, hri] at hr'
                    injection hr' with hr'
                    rw [h2, ← hr'])⟩, hC15, ⟨hz15, by show w15.heap.size ≤ _; omega⟩, h, hb, hw⟩ (by show rs.length - (i + 1) < rs.length - i; omega)
              | exact WX.loop_next (k2 + 1, xs3.set i2 ⟨some ⟨gx2, 0, none⟩, rc, ux.set k2 170⟩, ux.set k2 170) ⟨rfl, rfl, rfl, rfl, by show _ = some (Value.slice ax (xs3.set i2 _).length cx); rw [List.length_set]; rfl, rfl, rfl, rfl, rfl, trivial⟩ ⟨by show k2 + 1 ≤ _; omega, ⟨by show (xs3.set i2 _).length = _; rw [List.length_set]; exact hx3l, by show (ux.set _ _).length = _; rw [List.length_set]; exact hul, by show (xs3.set i2 _)[i2]? = _; rw [List.getElem?_set_self (by omega)]⟩, (fun r hr => by
                  rcases List.mem_or_eq_of_mem_set hr with h1 | h1
                  ·
                    exact hxr r h1
                  ·
                    rw [h1]; show (ux.set _ _).length ≤ _; rw [List.length_set]; omega), hX15, hY, hZ, hC, h, hb, hq, by omega, hw⟩ (by show rxs.length - (k2 + 1) < rxs.length - k2; omega)
              | exact WX.loop_next (i2 + 1, xs3) ⟨rfl, rfl, rfl, rfl, rfl, rfl, rfl, rfl, trivial⟩ ⟨by show i2 + 1 ≤ xs3.length; omega, by show xs3.length = _; omega, hxr, hX, hY, hZ, hC, h, hb, hq, hwL, hw⟩ (by show xs3.length - (i2 + 1) < xs2.length - i2; omega)
              | exact WX.loop_next (k3 + 1, ys3.set i3 ⟨some ⟨gy2, 0, none⟩, rc, uy.set k3 171⟩, uy.set k3 171) ⟨rfl, rfl, rfl, rfl, by show _ = some (Value.slice ay (ys3.set i3 _).length cy); rw [List.length_set]; rfl, rfl, rfl, rfl, trivial⟩ ⟨by show k3 + 1 ≤ _; omega, ⟨by show (ys3.set i3 _).length = _; rw [List.length_set]; exact hy3l, by show (uy.set _ _).length = _; rw [List.length_set]; exact hul, by show (ys3.set i3 _)[i3]? = _; rw [List.getElem?_set_self (by omega)]⟩, (fun j r hj hr => by
                  have hr' : (ys3.set i3 ⟨some ⟨gy2, 0, none⟩, rc, uy.set k3 171⟩)[j]? = some r := hr
                  by_cases e : i3 = j
                  ·
                    subst e
                    rw [List.getElem?_set_self (by omega)] at hr'
                    injection hr' with hr'
                    rw [← hr']; show (uy.set _ _).length ≤ _; rw [List.length_set]; omega
                  ·
                    rw [List.getElem?_set_ne e] at hr'
                    exact hyr3 j r hj hr'), hY18, hZ, hC, h, hb, hq, by omega, hw⟩ (by show rxs.length - (k3 + 1) < rxs.length - k3; omega)
              | exact WX.loop_next (i3 + 1, ys3.set i3 ⟨a9, c9, uy ++ [172]⟩) ⟨rfl, rfl, rfl, rfl, by show _ = some (Value.slice ay (ys3.set i3 _).length cy); rw [List.length_set]; rfl, rfl, rfl, trivial⟩ ⟨by show i3 + 1 ≤ (ys3.set i3 _).length; rw [List.length_set]; omega, by show (ys3.set i3 _).length = _; rw [List.length_set]; omega, (fun j r hj hr => by
                  have hr' : (ys3.set i3 ⟨a9, c9, uy ++ [172]⟩)[j]? = some r := hr
                  have hj' : i3 + 1 ≤ j := hj
                  rw [List.getElem?_set_ne (by omega)] at hr'
                  exact hyr3 j r (by omega) hr'), hY20, hZ, hC, h, hb, hq, by omega, hw⟩ (by show (ys3.set i3 _).length - (i3 + 1) < ys2.length - i3; rw [List.length_set]; omega)
              | exact WX.loop_next (k6 + 1) ⟨rfl, rfl, rfl, rfl, rfl, rfl, rfl, rfl, rfl, trivial⟩ ⟨⟨by omega, by omega⟩, hq2, hZ, hV, hC, h, hb, hq, hw⟩ (by omega)
              | exact WX.loop_next (k5 + 1) ⟨rfl, rfl, rfl, rfl, rfl, rfl, rfl, trivial⟩ ⟨by omega, hZ, hV, hC, h, hb, hq, hw⟩ (by omega)
              | exact WX.loop_next (k8 + 1) ⟨rfl, rfl, rfl, rfl, rfl, rfl, rfl, trivial⟩ ⟨by omega, hZ, hV, hC, h, hb, hq, hw⟩ (by omega)
          ·
            refine WL.nil (WX.then_normal (WC.cond_false rfl (WC.exit (WX.then_exit (WX.then_exit (WX.block_here (WX.then_normal (?_))))))))
            refine WC.region (WL.move rfl rfl (WL.move rfl rfl (WL.move rfl rfl (WL.move rfl rfl (?_)))))
            refine WL.indexT (e := erow) Try.underlying22 Try.sizeOf23 hY.outer.rsl rfl rfl ⟨hy3, rfl⟩ rfl ?_
            intro bb3 oo3 hcc3
            refine WL.load Try.isAgg23 rfl (hcc3 0 _ rfl) rfl ?_
            dsimp only
            refine WL.build (e := eb) [172] Try.underlying23 Try.sizeOf5 Try.zeroValue5 rfl rfl rfl (by first | (simp [Value.cells]; done) | (simp [Value.cells] <;> rfl) | (simp [Value.cells, eb, ei, es, ebool, e32, e64]; done)) (by decide) rfl ?_
            intro a_q126 w_q126 q126 l_q126 z_q126 k_q126
            have zs_k_q126 := k_q126.size
            replace hY := hY.pure k_q126
            replace hZ := hZ.pure k_q126
            replace hC := hC.pure k_q126
            replace h := h.pure k_q126
            replace hb := hb.pure k_q126
            replace hq := hq.pure k_q126
            replace hw := hw.pure k_q126
            obtain ⟨gy2, hgy2, _, _, hrow⟩ := hY.inner i3 _ (Nat.le_refl _) hy3
            have hgy2' : gy2 = gy := by
              have h1 : (some (⟨gy, 0, none⟩ : Addr)) = some ⟨gy2, 0, none⟩ := hgy2
              injection h1 with h1
              injection h1 with h1
              exact h1.symm
            subst hgy2'
            have hrow2 : Row (fun b => b = gy2 ∨ L4 ≤ b) _ 5 eb (some ⟨gy2, 0, none⟩) rc uy := hrow.mono (fun b e => .inl e)
            refine WL.append (e := eb) (xs := uy) (S := fun b => b = gy2 ∨ L4 ≤ b) info_5 rfl Try.underlying23 rfl rfl hrow2 (q126.rsl.src Try.underlying23) (by show (uy.length + 1) * 1 ≤ _ ∧ uy.length + 1 ≤ _; constructor <;> omega) (fun b hb => .inr (by omega)) rfl ?_
            intro a9 c9 w19 hR19 g19 n19
            have k19 : Chg (fun x => x = gy2) _ w19 := g19.chg.mono (by rintro x _ ⟨⟨a, ea, rfl⟩, _⟩; injection ea with ea; rw [← ea])
            have hY19 := hY.drop hy3 rfl k19
            replace hZ := hZ.chg k19 (fun x _ h1 h2 => by have h3 : x = gy2 := h2; omega)
            replace hC := hC.chg k19 (fun x h1 h2 => by have h3 : x = gy2 := h2; omega)
            replace h := h.chg k19 (fun x _ h1 h2 => by have h3 : x = gy2 := h2; omega)
            replace hb := hb.chg k19 (fun x _ h1 h2 => by have h3 : x = gy2 := h2; omega)
            replace hq := hq.chg k19 (fun x _ h1 h2 => by have h3 : x = gy2 := h2; have h4 : x = g7 := h1; omega)
            replace hw := hw.chg k19 (fun x h1 h2 => by have h3 : x = gy2 := h2; omega)
            have zk19 := k19.size
            obtain ⟨go, hgo⟩ := hY19.outer.place0 (j := i3) (by omega)
            refine WL.index (sz := 1) (j := i3) Try.underlying22 Try.sizeOf23 (by show some (Value.slice ay _ _) = some (Value.slice (some ⟨go, 0, none⟩) _ _); rw [hgo]) rfl rfl (by omega) rfl ?_
            have hOq := hY19.outer
            rw [hgo] at hOq
            have hgob := hY19.outer.at_ _ hgo
            refine WL.storeRow (z := ⟨a9, c9, uy ++ [172]⟩) i3 Try.sizeOf23 hOq rfl rfl rfl (by show 0 + i3 * 1 = i3; omega) (by omega) rfl ?_
            intro w20 z20 hO20 k20
            rw [← hgo] at hO20
            have hY20 := hY19.put hgo k20 hO20
            have hgob2 : L2 ≤ go ∧ go < L3 := hgob
            replace hZ := hZ.chg k20 (fun x _ h1 h2 => by have h3 : x = go := h2; omega)
            replace hC := hC.chg k20 (fun x h1 h2 => by have h3 : x = go := h2; omega)
            replace h := h.chg k20 (fun x _ h1 h2 => by have h3 : x = go := h2; omega)
            replace hb := hb.chg k20 (fun x _ h1 h2 => by have h3 : x = go := h2; omega)
            replace hq := hq.chg k20 (fun x _ h1 h2 => by have h3 : x = go := h2; have h4 : x = g7 := h1; omega)
            replace hw := hw.chg k20 (fun x h1 h2 => by have h3 : x = go := h2; omega)
            refine WL.nil (WX.block_normal (WX.then_normal (WC.region (WL.move rfl rfl (WL.add64 rfl rfl (by first | omega | (constructor <;> omega)) rfl (WL.assign rfl rfl (WL.nil (?_))))))))
            first
              | exact WX.loop_next (i + 1, a15, c15, w15.heap.size, ms ++ [⟨some ⟨g5, 0, none⟩, r.xs.length + 2, r.xs⟩]) ⟨rfl, rfl, rfl, rfl, trivial⟩ ⟨by show i + 1 ≤ _; omega, ⟨by show (ms ++ [_]).length = _; simp [hml], fun j r' z hr' hz => (by
                  rcases get_snoc hz with h1 | ⟨h1, h2⟩
                  ·
                    exact hms j r' z hr' h1
                  ·
                    rw [h1, hml, hri] at hr'
                    injection hr' with hr'
                    rw [h2, ← hr'])⟩, hC15, ⟨hz15, by show w15.heap.size ≤ _; omega⟩, h, hb, hw⟩ (by show rs.length - (i + 1) < rs.length - i; omega)
              | exact WX.loop_next (k2 + 1, xs3.set i2 ⟨some ⟨gx2, 0, none⟩, rc, ux.set k2 170⟩, ux.set k2 170) ⟨rfl, rfl, rfl, rfl, by show _ = some (Value.slice ax (xs3.set i2 _).length cx); rw [List.length_set]; rfl, rfl, rfl, rfl, rfl, trivial⟩ ⟨by show k2 + 1 ≤ _; omega, ⟨by show (xs3.set i2 _).length = _; rw [List.length_set]; exact hx3l, by show (ux.set _ _).length = _; rw [List.length_set]; exact hul, by show (xs3.set i2 _)[i2]? = _; rw [List.getElem?_set_self (by omega)]⟩, (fun r hr => by
                  rcases List.mem_or_eq_of_mem_set hr with h1 | h1
                  ·
                    exact hxr r h1
                  ·
                    rw [h1]; show (ux.set _ _).length ≤ _; rw [List.length_set]; omega), hX15, hY, hZ, hC, h, hb, hq, by omega, hw⟩ (by show rxs.length - (k2 + 1) < rxs.length - k2; omega)
              | exact WX.loop_next (i2 + 1, xs3) ⟨rfl, rfl, rfl, rfl, rfl, rfl, rfl, rfl, trivial⟩ ⟨by show i2 + 1 ≤ xs3.length; omega, by show xs3.length = _; omega, hxr, hX, hY, hZ, hC, h, hb, hq, hwL, hw⟩ (by show xs3.length - (i2 + 1) < xs2.length - i2; omega)
              | exact WX.loop_next (k3 + 1, ys3.set i3 ⟨some ⟨gy2, 0, none⟩, rc, uy.set k3 171⟩, uy.set k3 171) ⟨rfl, rfl, rfl, rfl, by show _ = some (Value.slice ay (ys3.set i3 _).length cy); rw [List.length_set]; rfl, rfl, rfl, rfl, trivial⟩ ⟨by show k3 + 1 ≤ _; omega, ⟨by show (ys3.set i3 _).length = _; rw [List.length_set]; exact hy3l, by show (uy.set _ _).length = _; rw [List.length_set]; exact hul, by show (ys3.set i3 _)[i3]? = _; rw [List.getElem?_set_self (by omega)]⟩, (fun j r hj hr => by
                  have hr' : (ys3.set i3 ⟨some ⟨gy2, 0, none⟩, rc, uy.set k3 171⟩)[j]? = some r := hr
                  by_cases e : i3 = j
                  ·
                    subst e
                    rw [List.getElem?_set_self (by omega)] at hr'
                    injection hr' with hr'
                    rw [← hr']; show (uy.set _ _).length ≤ _; rw [List.length_set]; omega
                  ·
                    rw [List.getElem?_set_ne e] at hr'
                    exact hyr3 j r hj hr'), hY18, hZ, hC, h, hb, hq, by omega, hw⟩ (by show rxs.length - (k3 + 1) < rxs.length - k3; omega)
              | exact WX.loop_next (i3 + 1, ys3.set i3 ⟨a9, c9, uy ++ [172]⟩) ⟨rfl, rfl, rfl, rfl, by show _ = some (Value.slice ay (ys3.set i3 _).length cy); rw [List.length_set]; rfl, rfl, rfl, trivial⟩ ⟨by show i3 + 1 ≤ (ys3.set i3 _).length; rw [List.length_set]; omega, by show (ys3.set i3 _).length = _; rw [List.length_set]; omega, (fun j r hj hr => by
                  have hr' : (ys3.set i3 ⟨a9, c9, uy ++ [172]⟩)[j]? = some r := hr
                  have hj' : i3 + 1 ≤ j := hj
                  rw [List.getElem?_set_ne (by omega)] at hr'
                  exact hyr3 j r (by omega) hr'), hY20, hZ, hC, h, hb, hq, by omega, hw⟩ (by show (ys3.set i3 _).length - (i3 + 1) < ys2.length - i3; rw [List.length_set]; omega)
              | exact WX.loop_next (k6 + 1) ⟨rfl, rfl, rfl, rfl, rfl, rfl, rfl, rfl, rfl, trivial⟩ ⟨⟨by omega, by omega⟩, hq2, hZ, hV, hC, h, hb, hq, hw⟩ (by omega)
              | exact WX.loop_next (k5 + 1) ⟨rfl, rfl, rfl, rfl, rfl, rfl, rfl, trivial⟩ ⟨by omega, hZ, hV, hC, h, hb, hq, hw⟩ (by omega)
              | exact WX.loop_next (k8 + 1) ⟨rfl, rfl, rfl, rfl, rfl, rfl, rfl, trivial⟩ ⟨by omega, hZ, hV, hC, h, hb, hq, hw⟩ (by omega)
        ·
          refine WL.nil (WX.then_normal (WC.cond_false rfl (WC.exit (WX.then_exit (WX.then_exit (WX.block_here (WX.then_normal (?_))))))))
          refine WC.seq (WC.region (WL.move rfl rfl (WL.move rfl rfl (?_))))
          replace hZ := hZ.mono (S' := fun _ => True) (fun _ _ => trivial)
          refine WL.call eg_18 rfl rfl (docRebuild_any h hb (by omega) (by omega)) ?_
          rintro v w21 ⟨⟨aw, cw, ws, ew, rfl, hV, hRE3⟩, k21⟩
          have zs_k21 := k21.size
          replace hZ := hZ.pure k21
          replace hC := hC.pure k21
          replace h := h.pure k21
          replace hb := hb.pure k21
          replace hq := hq.pure k21
          replace hw := hw.pure k21
          refine WL.move rfl rfl (WL.extract rfl rfl rfl (WL.extract rfl rfl rfl (WL.assign rfl rfl (WL.assign rfl rfl (WL.nil (WX.then_normal (WC.seq (?_))))))))
          refine WC.seq (WC.region (WL.assign rfl rfl (WL.nil (WX.then_normal (WC.block (?_))))))
          refine WC.loop (σ := Nat) (fun k => [(0, .slice ao rs.length c), (1, .slice ab bad.length cb), (5, .slice am ms.length cm), (7, .slice (some ⟨g7, 0, none⟩) bad.length (bad.length + 2)), (12, .slice az zs.length cz), (18, .slice aw ws.length cw), (20, vi (k : Int))])
            (fun k w' => k ≤ ms.length ∧ RS (fun _ => True) w' az cz zs ∧ RS (fun _ => True) w' aw cw ws ∧ CS 2 w.heap.size n1 w' 23 5 am cm ms ∧ RS (· < w.heap.size) w' ao c rs ∧ RSl (· < w.heap.size) w' ei ab cb bad ∧ RSl (fun b => b = g7) w' ei (some ⟨g7, 0, none⟩) (bad.length + 2) bad ∧ Chg Nob w w') (fun k => ms.length - k) 0 ⟨rfl, rfl, rfl, rfl, rfl, rfl, rfl, trivial⟩ ⟨Nat.zero_le _, hZ, hV, hC, h, hb, hq, hw⟩ ?_
          clear hZ hV hC h hb hq hw
          rintro k5 w22 ⟨hk5, hZ, hV, hC, h, hb, hq, hw⟩
          refine WC.seq (WC.seq (WC.region (WL.move rfl rfl (WL.move rfl rfl (WL.len Try.underlying22 rfl rfl (?_))))))
          refine WL.lss? rfl rfl rfl (fun h138 => ?_) (fun h138 => ?_)
          ·
            refine WL.nil (WX.then_normal (WC.cond_true rfl (WC.skip (WX.then_normal (WC.seq (WC.block (WC.seq (?_))))))))
            obtain ⟨z, hz⟩ : ∃ z, ms[k5]? = some z := ⟨_, List.getElem?_eq_getElem (by omega)⟩
            have hzm := List.mem_of_getElem? hz
            have hcap := (hC.full hzm).2
            obtain ⟨r9, hr9⟩ : ∃ r, rs[k5]? = some r := ⟨_, List.getElem?_eq_getElem (by omega)⟩
            have hzl9 : z.xs.length ≤ 100000000 := by rw [hms k5 r9 z hr9 hz]; exact hl3 r9 (List.mem_of_getElem? hr9)
            obtain ⟨mb, mo, hmo⟩ := hC.outer.rsl.place hz
            obtain ⟨gz, hgz, -, -, -, -⟩ := hC.inner z hzm
            refine WC.draw (Nob) [0, 1, 2, 3, 4, 5, 6, 7, 8, 9, 10] [] mixed rfl rfl (fun wd_1 kd_1 zd_1 => ?_)
            have zs_kd_1 := kd_1.size
            replace hZ := hZ.pure kd_1
            replace hV := hV.pure kd_1
            replace hC := hC.pure kd_1
            replace h := h.pure kd_1
            replace hb := hb.pure kd_1
            replace hq := hq.pure kd_1
            replace hw := hw.pure kd_1
            apply DQ.step (E' := [(5, _)])
            case ho => rfl
            case hs => exact ⟨rfl, trivial⟩
            case hk => rfl
            case h1 =>
              intro wq_2 kq_2
              refine WL.move rfl rfl (?_)
              refine WL.nil ?_
              exact WX.one ⟨rfl, by first | exact Chg.refl _ _ | assumption⟩
            apply DQ.step (E' := [(20, _)])
            case ho => rfl
            case hs => exact ⟨rfl, trivial⟩
            case hk => rfl
            case h1 =>
              intro wq_3 kq_3
              refine WL.move rfl rfl (?_)
              refine WL.nil ?_
              exact WX.one ⟨rfl, by first | exact Chg.refl _ _ | assumption⟩
            apply DQ.step (E' := [(141, _), (142, _)])
            case ho => rfl
            case hs => exact ⟨rfl, rfl, trivial⟩
            case hk => rfl
            case h1 =>
              intro wq_4 kq_4
              have zs_kq_4 := kq_4.size
              replace hZ := hZ.pure kq_4
              replace hV := hV.pure kq_4
              replace hC := hC.pure kq_4
              replace h := h.pure kq_4
              replace hb := hb.pure kq_4
              replace hq := hq.pure kq_4
              replace hw := hw.pure kq_4
              have hO := hC.outer.rsl
              rw [hmo] at hO
              refine WL.indexC (e := erow) hO Try.underlying22 Try.sizeOf23 (by show some (Value.slice am _ _) = _; rw [hmo]) rfl ⟨hz, rfl⟩ rfl ?_
              refine WL.nil ?_
              exact WX.one ⟨rfl, by first | exact Chg.refl _ _ | assumption⟩
            apply DQ.step (E' := [(143, _)])
            case ho => rfl
            case hs => exact ⟨rfl, trivial⟩
            case hk => rfl
            case h1 =>
              intro wq_5 kq_5
              have zs_kq_5 := kq_5.size
              replace hZ := hZ.pure kq_5
              replace hV := hV.pure kq_5
              replace hC := hC.pure kq_5
              replace h := h.pure kq_5
              replace hb := hb.pure kq_5
              replace hq := hq.pure kq_5
              replace hw := hw.pure kq_5
              have hO := hC.outer.rsl
              rw [hmo] at hO
              refine WL.load Try.isAgg23 rfl ((hO.cellsAt hz) 0 _ rfl) rfl ?_
              refine WL.nil ?_
              exact WX.one ⟨rfl, by first | exact Chg.refl _ _ | assumption⟩
            apply DQ.step (E' := [(5, _)])
            case ho => rfl
            case hs => exact ⟨rfl, trivial⟩
            case hk => rfl
            case h1 =>
              intro wq_6 kq_6
              refine WL.move rfl rfl (?_)
              refine WL.nil ?_
              exact WX.one ⟨rfl, by first | exact Chg.refl _ _ | assumption⟩
            apply DQ.step (E' := [(20, _)])
            case ho => rfl
            case hs => exact ⟨rfl, trivial⟩
            case hk => rfl
            case h1 =>
              intro wq_7 kq_7
              refine WL.move rfl rfl (?_)
              refine WL.nil ?_
              exact WX.one ⟨rfl, by first | exact Chg.refl _ _ | assumption⟩
            apply DQ.step (E' := [(145, _), (146, _)])
            case ho => rfl
            case hs => exact ⟨rfl, rfl, trivial⟩
            case hk => rfl
            case h1 =>
              intro wq_8 kq_8
              have zs_kq_8 := kq_8.size
              replace hZ := hZ.pure kq_8
              replace hV := hV.pure kq_8
              replace hC := hC.pure kq_8
              replace h := h.pure kq_8
              replace hb := hb.pure kq_8
              replace hq := hq.pure kq_8
              replace hw := hw.pure kq_8
              have hO := hC.outer.rsl
              rw [hmo] at hO
              refine WL.indexC (e := erow) hO Try.underlying22 Try.sizeOf23 (by show some (Value.slice am _ _) = _; rw [hmo]) rfl ⟨hz, rfl⟩ rfl ?_
              refine WL.nil ?_
              exact WX.one ⟨rfl, by first | exact Chg.refl _ _ | assumption⟩
            apply DQ.step (E' := [(147, _)])
            case ho => rfl
            case hs => exact ⟨rfl, trivial⟩
            case hk => rfl
            case h1 =>
              intro wq_9 kq_9
              have zs_kq_9 := kq_9.size
              replace hZ := hZ.pure kq_9
              replace hV := hV.pure kq_9
              replace hC := hC.pure kq_9
              replace h := h.pure kq_9
              replace hb := hb.pure kq_9
              replace hq := hq.pure kq_9
              replace hw := hw.pure kq_9
              have hO := hC.outer.rsl
              rw [hmo] at hO
              refine WL.load Try.isAgg23 rfl ((hO.cellsAt hz) 0 _ rfl) rfl ?_
              refine WL.nil ?_
              exact WX.one ⟨rfl, by first | exact Chg.refl _ _ | assumption⟩
            apply DQ.step (E' := [(148, _)])
            case ho => rfl
            case hs => exact ⟨rfl, trivial⟩
            case hk => rfl
            case h1 =>
              intro wq_10 kq_10
              have zs_kq_10 := kq_10.size
              replace hZ := hZ.pure kq_10
              replace hV := hV.pure kq_10
              replace hC := hC.pure kq_10
              replace h := h.pure kq_10
              replace hb := hb.pure kq_10
              replace hq := hq.pure kq_10
              replace hw := hw.pure kq_10
              refine WL.cap Try.underlying23 rfl rfl ?_
              refine WL.nil ?_
              exact WX.one ⟨rfl, by first | exact Chg.refl _ _ | assumption⟩
            apply DQ.step (E' := [(144, _), (149, _)])
            case ho => rfl
            case hs => exact ⟨rfl, rfl, trivial⟩
            case hk => rfl
            case h1 =>
              intro wq_11 kq_11
              have zs_kq_11 := kq_11.size
              replace hZ := hZ.pure kq_11
              replace hV := hV.pure kq_11
              replace hC := hC.pure kq_11
              replace h := h.pure kq_11
              replace hb := hb.pure kq_11
              replace hq := hq.pure kq_11
              replace hw := hw.pure kq_11
              refine WL.sliceN (l := 0) (h := z.cap) (k := .i64) Try.underlying23 Try.sizeOf5 rfl (.inr ⟨rfl, rfl⟩) (.inl ⟨rfl, Nat.le_refl _⟩) (Nat.zero_le _) rfl ?_
              refine WL.nil ?_
              exact WX.one ⟨rfl, by first | exact Chg.refl _ _ | assumption⟩
            apply DQ.step (E' := [(150, _)])
            case ho => rfl
            case hs => exact ⟨rfl, trivial⟩
            case hk => rfl
            case h1 =>
              intro wq_12 kq_12
              refine WL.assign rfl rfl (?_)
              refine WL.nil ?_
              exact WX.one ⟨rfl, by first | exact Chg.refl _ _ | assumption⟩
            refine DQ.done (fun _ => ?_)
            refine DL.done (fun we_13 ke_13 => ?_)
            have zs_ke_13 := ke_13.size
            replace hZ := hZ.pure ke_13
            replace hV := hV.pure ke_13
            replace hC := hC.pure ke_13
            replace h := h.pure ke_13
            replace hb := hb.pure ke_13
            replace hq := hq.pure ke_13
            replace hw := hw.pure ke_13
            refine WX.then_normal (WC.seq (WC.region (WL.move rfl rfl (WL.move rfl rfl (?_)))))
            refine WL.indexT (e := erow) Try.underlying22 Try.sizeOf23 hC.outer.rsl rfl rfl ⟨hz, rfl⟩ rfl ?_
            intro bb3 oo3 hcc3
            refine WL.load Try.isAgg23 rfl (hcc3 0 _ rfl) rfl ?_
            refine WL.len Try.underlying23 rfl rfl (WL.assign rfl rfl (WL.nil (WX.then_normal (WC.block (?_)))))
            have hl5 : (z.xs ++ List.replicate 2 (0 : UInt8)).length = z.xs.length + 2 := by simp
            have hcut : cutAt z.ao z.cap 0 1 = z.ao := by rw [hgz]; unfold cutAt; split <;> simp [Addr.add_lit]
            have hq2 := (hC.full hzm).1
            refine WC.loop (σ := Nat) (fun k => [(0, .slice ao rs.length c), (1, .slice ab bad.length cb), (5, .slice am ms.length cm), (7, .slice (some ⟨g7, 0, none⟩) bad.length (bad.length + 2)), (12, .slice az zs.length cz), (18, .slice aw ws.length cw), (20, vi (k5 : Int)), (21, .slice z.ao (z.xs ++ List.replicate 2 (0 : UInt8)).length z.cap), (22, vi (k : Int))])
              (fun k w' => (z.xs.length ≤ k ∧ k ≤ z.xs.length + 2) ∧ RSl (fun x => w.heap.size ≤ x ∧ x < n1) w' eb z.ao z.cap (z.xs ++ List.replicate 2 0) ∧ RS (fun _ => True) w' az cz zs ∧ RS (fun _ => True) w' aw cw ws ∧ CS 2 w.heap.size n1 w' 23 5 am cm ms ∧ RS (· < w.heap.size) w' ao c rs ∧ RSl (· < w.heap.size) w' ei ab cb bad ∧ RSl (fun b => b = g7) w' ei (some ⟨g7, 0, none⟩) (bad.length + 2) bad ∧ Chg Nob w w') (fun k => z.xs.length + 2 - k) z.xs.length ⟨rfl, rfl, rfl, rfl, rfl, rfl, rfl, by show some (Value.slice (cutAt z.ao z.cap 0 1) (z.cap - 0) (z.cap - 0)) = _; rw [hcut, hl5, Nat.sub_zero, ← hcap], rfl, trivial⟩ ⟨⟨Nat.le_refl _, by omega⟩, hq2, hZ, hV, hC, h, hb, hq, hw⟩ ?_
            clear hZ hV hC h hb hq hw hq2
            rintro k6 w23 ⟨⟨hk6, hk7⟩, hq2, hZ, hV, hC, h, hb, hq, hw⟩
            refine WC.seq (WC.seq (WC.region (WL.move rfl rfl (WL.move rfl rfl (WL.len Try.underlying23 rfl rfl (?_))))))
            refine WL.lss? rfl rfl rfl (fun h159 => ?_) (fun h159 => ?_)
            ·
              refine WL.nil (WX.then_normal (WC.cond_true rfl (WC.skip (WX.then_normal (WC.seq (WC.block (WC.seq (?_))))))))
              refine WC.region (WL.move rfl rfl (WL.move rfl rfl (?_)))
              have hzq : (z.xs ++ List.replicate 2 (0 : UInt8))[k6]? = some 0 := by
                rw [List.getElem?_append_right hk6]
                have h3 : k6 - z.xs.length = 0 ∨ k6 - z.xs.length = 1 := by omega
                rcases h3 with h3 | h3 <;> rw [h3] <;> rfl
              refine WL.indexT (e := eb) Try.underlying23 Try.sizeOf5 hq2 rfl rfl ⟨hzq, rfl⟩ rfl ?_
              intro bb4 oo4 hcc4
              refine WL.load Try.isAgg5 rfl (hcc4 0 _ rfl) rfl ?_
              refine WL.neqF rfl rfl rfl (by first | rfl | omega | decide) ?_
              refine WL.nil (WX.then_normal (WC.cond_false rfl (WC.skip (WX.block_normal (WX.then_normal (WC.region (WL.move rfl rfl (?_))))))))
              refine WL.add64 rfl rfl (by first | omega | (constructor <;> omega)) rfl (WL.assign rfl rfl (WL.nil (?_)))
              first
                | exact WX.loop_next (i + 1, a15, c15, w15.heap.size, ms ++ [⟨some ⟨g5, 0, none⟩, r.xs.length + 2, r.xs⟩]) ⟨rfl, rfl, rfl, rfl, trivial⟩ ⟨by show i + 1 ≤ _; omega, ⟨by show (ms ++ [_]).length = _; simp [hml], fun j r' z hr' hz => (by
                    rcases get_snoc hz with h1 | ⟨h1, h2⟩
                    ·
                      exact hms j r' z hr' h1
                    ·
                      rw [h1, hml, hri] at hr'
                      injection hr' with hr'
                      rw [h2, ← hr'])⟩, hC15, ⟨hz15, by show w15.heap.size ≤ _; omega⟩, h, hb, hw⟩ (by show rs.length - (i + 1) < rs.length - i; omega)
                | exact WX.loop_next (k2 + 1, xs3.set i2 ⟨some ⟨gx2, 0, none⟩, rc, ux.set k2 170⟩, ux.set k2 170) ⟨rfl, rfl, rfl, rfl, by show _ = some (Value.slice ax (xs3.set i2 _).length cx); rw [List.length_set]; rfl, rfl, rfl, rfl, rfl, trivial⟩ ⟨by show k2 + 1 ≤ _; omega, ⟨by show (xs3.set i2 _).length = _; rw [List.length_set]; exact hx3l, by show (ux.set _ _).length = _; rw [List.length_set]; exact hul, by show (xs3.set i2 _)[i2]? = _; rw [List.getElem?_set_self (by omega)]⟩, (fun r hr => by
                    rcases List.mem_or_eq_of_mem_set hr with h1 | h1
                    ·
                      exact hxr r h1
                    ·
                      rw [h1]; show (ux.set _ _).length ≤ _; rw [List.length_set]; omega), hX15, hY, hZ, hC, h, hb, hq, by omega, hw⟩ (by show rxs.length - (k2 + 1) < rxs.length - k2; omega)
                | exact WX.loop_next (i2 + 1, xs3) ⟨rfl, rfl, rfl, rfl, rfl, rfl, rfl, rfl, trivial⟩ ⟨by show i2 + 1 ≤ xs3.length; omega, by show xs3.length = _; omega, hxr, hX, hY, hZ, hC, h, hb, hq, hwL, hw⟩ (by show xs3.length - (i2 + 1) < xs2.length - i2; omega)
                | exact WX.loop_next (k3 + 1, ys3.set i3 ⟨some ⟨gy2, 0, none⟩, rc, uy.set k3 171⟩, uy.set k3 171) ⟨rfl, rfl, rfl, rfl, by show _ = some (Value.slice ay (ys3.set i3 _).length cy); rw [List.length_set]; rfl, rfl, rfl, rfl, trivial⟩ ⟨by show k3 + 1 ≤ _; omega, ⟨by show (ys3.set i3 _).length = _; rw [List.length_set]; exact hy3l, by show (uy.set _ _).length = _; rw [List.length_set]; exact hul, by show (ys3.set i3 _)[i3]? = _; rw [List.getElem?_set_self (by omega)]⟩, (fun j r hj hr => by
                    have hr' : (ys3.set i3 ⟨some ⟨gy2, 0, none⟩, rc, uy.set k3 171⟩)[j]? = some r := hr
                    by_cases e : i3 = j
                    ·
                      subst e
                      rw [List.getElem?_set_self (by omega)] at hr'
                      injection hr' with hr'
                      rw [← hr']; show (uy.set _ _).length ≤ _; rw [List.length_set]; omega
                    ·
                      rw [List.getElem?_set_ne e] at hr'
                      exact hyr3 j r hj hr'), hY18, hZ, hC, h, hb, hq, by omega, hw⟩ (by show rxs.length - (k3 + 1) < rxs.length - k3; omega)
                | exact WX.loop_next (i3 + 1, ys3.set i3 ⟨a9, c9, uy ++ [172]⟩) ⟨rfl, rfl, rfl, rfl, by show _ = some (Value.slice ay (ys3.set i3 _).length cy); rw [List.length_set]; rfl, rfl, rfl, trivial⟩ ⟨by show i3 + 1 ≤ (ys3.set i3 _).length; rw [List.length_set]; omega, by show (ys3.set i3 _).length = _; rw [List.length_set]; omega, (fun j r hj hr => by
                    have hr' : (ys3.set i3 ⟨a9, c9, uy ++ [172]⟩)[j]? = some r := hr
                    have hj' : i3 + 1 ≤ j := hj
                    rw [List.getElem?_set_ne (by omega)] at hr'
                    exact hyr3 j r (by omega) hr'), hY20, hZ, hC, h, hb, hq, by omega, hw⟩ (by show (ys3.set i3 _).length - (i3 + 1) < ys2.length - i3; rw [List.length_set]; omega)
                | exact WX.loop_next (k6 + 1) ⟨rfl, rfl, rfl, rfl, rfl, rfl, rfl, rfl, rfl, trivial⟩ ⟨⟨by omega, by omega⟩, hq2, hZ, hV, hC, h, hb, hq, hw⟩ (by omega)
                | exact WX.loop_next (k5 + 1) ⟨rfl, rfl, rfl, rfl, rfl, rfl, rfl, trivial⟩ ⟨by omega, hZ, hV, hC, h, hb, hq, hw⟩ (by omega)
                | exact WX.loop_next (k8 + 1) ⟨rfl, rfl, rfl, rfl, rfl, rfl, rfl, trivial⟩ ⟨by omega, hZ, hV, hC, h, hb, hq, hw⟩ (by omega)
            ·
              refine WL.nil (WX.then_normal (WC.cond_false rfl (WC.exit (WX.then_exit (WX.then_exit (WX.block_here (WX.block_normal (?_))))))))
              refine WX.then_normal (WC.region (WL.move rfl rfl (WL.add64 rfl rfl (by first | omega | (constructor <;> omega)) rfl (WL.assign rfl rfl (WL.nil (?_))))))
              first
                | exact WX.loop_next (i + 1, a15, c15, w15.heap.size, ms ++ [⟨some ⟨g5, 0, none⟩, r.xs.length + 2, r.xs⟩]) ⟨rfl, rfl, rfl, rfl, trivial⟩ ⟨by show i + 1 ≤ _; omega, ⟨by show (ms ++ [_]).length = _; simp [hml], fun j r' z hr' hz => (by
                    rcases get_snoc hz with h1 | ⟨h1, h2⟩
                    ·
                      exact hms j r' z hr' h1
                    ·
                      rw [h1, hml, hri] at hr'
                      injection hr' with hr'
                      rw [h2, ← hr'])⟩, hC15, ⟨hz15, by show w15.heap.size ≤ _; omega⟩, h, hb, hw⟩ (by show rs.length - (i + 1) < rs.length - i; omega)
                | exact WX.loop_next (k2 + 1, xs3.set i2 ⟨some ⟨gx2, 0, none⟩, rc, ux.set k2 170⟩, ux.set k2 170) ⟨rfl, rfl, rfl, rfl, by show _ = some (Value.slice ax (xs3.set i2 _).length cx); rw [List.length_set]; rfl, rfl, rfl, rfl, rfl, trivial⟩ ⟨by show k2 + 1 ≤ _; omega, ⟨by show (xs3.set i2 _).length = _; rw [List.length_set]; exact hx3l, by show (ux.set _ _).length = _; rw [List.length_set]; exact hul, by show (xs3.set i2 _)[i2]? = _; rw [List.getElem?_set_self (by omega)]⟩, (fun r hr => by
                    rcases List.mem_or_eq_of_mem_set hr with h1 | h1
                    ·
                      exact hxr r h1
                    ·
                      rw [h1]; show (ux.set _ _).length ≤ _; rw [List.length_set]; omega), hX15, hY, hZ, hC, h, hb, hq, by omega, hw⟩ (by show rxs.length - (k2 + 1) < rxs.length - k2; omega)
                | exact WX.loop_next (i2 + 1, xs3) ⟨rfl, rfl, rfl, rfl, rfl, rfl, rfl, rfl, trivial⟩ ⟨by show i2 + 1 ≤ xs3.length; omega, by show xs3.length = _; omega, hxr, hX, hY, hZ, hC, h, hb, hq, hwL, hw⟩ (by show xs3.length - (i2 + 1) < xs2.length - i2; omega)
                | exact WX.loop_next (k3 + 1, ys3.set i3 ⟨some ⟨gy2, 0, none⟩, rc, uy.set k3 171⟩, uy.set k3 171) ⟨rfl, rfl, rfl, rfl, by show _ = some (Value.slice ay (ys3.set i3 _).length cy); rw [List.length_set]; rfl, rfl, rfl, rfl, trivial⟩ ⟨by show k3 + 1 ≤ _; omega, ⟨by show (ys3.set i3 _).length = _; rw [List.length_set]; exact hy3l, by show (uy.set _ _).length = _; rw [List.length_set]; exact hul, by show (ys3.set i3 _)[i3]? = _; rw [List.getElem?_set_self (by omega)]⟩, (fun j r hj hr => by
                    have hr' : (ys3.set i3 ⟨some ⟨gy2, 0, none⟩, rc, uy.set k3 171⟩)[j]? = some r := hr
                    by_cases e : i3 = j
                    ·
                      subst e
                      rw [List.getElem?_set_self (by omega)] at hr'
                      injection hr' with hr'
                      rw [← hr']; show (uy.set _ _).length ≤ _; rw [List.length_set]; omega
                    ·
                      rw [List.getElem?_set_ne e] at hr'
                      exact hyr3 j r hj hr'), hY18, hZ, hC, h, hb, hq, by omega, hw⟩ (by show rxs.length - (k3 + 1) < rxs.length - k3; omega)
                | exact WX.loop_next (i3 + 1, ys3.set i3 ⟨a9, c9, uy ++ [172]⟩) ⟨rfl, rfl, rfl, rfl, by show _ = some (Value.slice ay (ys3.set i3 _).length cy); rw [List.length_set]; rfl, rfl, rfl, trivial⟩ ⟨by show i3 + 1 ≤ (ys3.set i3 _).length; rw [List.length_set]; omega, by show (ys3.set i3 _).length = _; rw [List.length_set]; omega, (fun j r hj hr => by
                    have hr' : (ys3.set i3 ⟨a9, c9, uy ++ [172]⟩)[j]? = some r := hr
                    have hj' : i3 + 1 ≤ j := hj
                    rw [List.getElem?_set_ne (by omega)] at hr'
                    exact hyr3 j r (by omega) hr'), hY20, hZ, hC, h, hb, hq, by omega, hw⟩ (by show (ys3.set i3 _).length - (i3 + 1) < ys2.length - i3; rw [List.length_set]; omega)
                | exact WX.loop_next (k6 + 1) ⟨rfl, rfl, rfl, rfl, rfl, rfl, rfl, rfl, rfl, trivial⟩ ⟨⟨by omega, by omega⟩, hq2, hZ, hV, hC, h, hb, hq, hw⟩ (by omega)
                | exact WX.loop_next (k5 + 1) ⟨rfl, rfl, rfl, rfl, rfl, rfl, rfl, trivial⟩ ⟨by omega, hZ, hV, hC, h, hb, hq, hw⟩ (by omega)
                | exact WX.loop_next (k8 + 1) ⟨rfl, rfl, rfl, rfl, rfl, rfl, rfl, trivial⟩ ⟨by omega, hZ, hV, hC, h, hb, hq, hw⟩ (by omega)
          ·
            refine WL.nil (WX.then_normal (WC.cond_false rfl (WC.exit (WX.then_exit (WX.then_exit (WX.block_here (WX.then_normal (?_))))))))
            refine WC.seq (WC.seq (WC.region (WL.assign rfl rfl (WL.nil (WX.then_normal (WC.block (?_)))))))
            refine WC.loop (σ := Nat) (fun k => [(0, .slice ao rs.length c), (1, .slice ab bad.length cb), (5, .slice am ms.length cm), (7, .slice (some ⟨g7, 0, none⟩) bad.length (bad.length + 2)), (12, .slice az zs.length cz), (18, .slice aw ws.length cw), (23, vi (k : Int))])
              (fun k w' => k ≤ bad.length ∧ RS (fun _ => True) w' az cz zs ∧ RS (fun _ => True) w' aw cw ws ∧ CS 2 w.heap.size n1 w' 23 5 am cm ms ∧ RS (· < w.heap.size) w' ao c rs ∧ RSl (· < w.heap.size) w' ei ab cb bad ∧ RSl (fun b => b = g7) w' ei (some ⟨g7, 0, none⟩) (bad.length + 2) bad ∧ Chg Nob w w') (fun k => bad.length - k) 0 ⟨rfl, rfl, rfl, rfl, rfl, rfl, rfl, trivial⟩ ⟨Nat.zero_le _, hZ, hV, hC, h, hb, hq, hw⟩ ?_
            clear hZ hV hC h hb hq hw
            rintro k8 w24 ⟨hk8, hZ, hV, hC, h, hb, hq, hw⟩
            refine WC.seq (WC.seq (WC.region (WL.move rfl rfl (WL.move rfl rfl (WL.len Try.underlying33 rfl rfl (?_))))))
            refine WL.lss? rfl rfl rfl (fun h170 => ?_) (fun h170 => ?_)
            ·
              refine WL.nil (WX.then_normal (WC.cond_true rfl (WC.skip (WX.then_normal (WC.seq (WC.block (WC.seq (?_))))))))
              obtain ⟨x, hx⟩ : ∃ x, bad[k8]? = some x := ⟨_, List.getElem?_eq_getElem (by omega)⟩
              obtain ⟨bb9, bo9, hb9⟩ := hb.place hx
              refine WC.draw (Nob) [0, 1, 2, 3, 4, 5, 6, 7, 8] [] mixed rfl rfl (fun wd_1 kd_1 zd_1 => ?_)
              have zs_kd_1 := kd_1.size
              replace hZ := hZ.pure kd_1
              replace hV := hV.pure kd_1
              replace hC := hC.pure kd_1
              replace h := h.pure kd_1
              replace hb := hb.pure kd_1
              replace hq := hq.pure kd_1
              replace hw := hw.pure kd_1
              apply DQ.step (E' := [(7, _)])
              case ho => rfl
              case hs => exact ⟨rfl, trivial⟩
              case hk => rfl
              case h1 =>
                intro wq_2 kq_2
                refine WL.move rfl rfl (?_)
                refine WL.nil ?_
                exact WX.one ⟨rfl, by first | exact Chg.refl _ _ | assumption⟩
              apply DQ.step (E' := [(23, _)])
              case ho => rfl
              case hs => exact ⟨rfl, trivial⟩
              case hk => rfl
              case h1 =>
                intro wq_3 kq_3
                refine WL.move rfl rfl (?_)
                refine WL.nil ?_
                exact WX.one ⟨rfl, by first | exact Chg.refl _ _ | assumption⟩
              apply DQ.step (E' := [(173, _), (174, _)])
              case ho => rfl
              case hs => exact ⟨rfl, rfl, trivial⟩
              case hk => rfl
              case h1 =>
                intro wq_4 kq_4
                have zs_kq_4 := kq_4.size
                replace hZ := hZ.pure kq_4
                replace hV := hV.pure kq_4
                replace hC := hC.pure kq_4
                replace h := h.pure kq_4
                replace hb := hb.pure kq_4
                replace hq := hq.pure kq_4
                replace hw := hw.pure kq_4
                refine WL.indexC (e := ei) hq Try.underlying33 Try.sizeOf3 rfl rfl ⟨hx, rfl⟩ rfl ?_
                refine WL.nil ?_
                exact WX.one ⟨rfl, by first | exact Chg.refl _ _ | assumption⟩
              apply DQ.step (E' := [(175, _)])
              case ho => rfl
              case hs => exact ⟨rfl, trivial⟩
              case hk => rfl
              case h1 =>
                intro wq_5 kq_5
                have zs_kq_5 := kq_5.size
                replace hZ := hZ.pure kq_5
                replace hV := hV.pure kq_5
                replace hC := hC.pure kq_5
                replace h := h.pure kq_5
                replace hb := hb.pure kq_5
                replace hq := hq.pure kq_5
                replace hw := hw.pure kq_5
                refine WL.load Try.isAgg3 rfl ((hq.cellsAt hx) 0 _ rfl) rfl ?_
                refine WL.nil ?_
                exact WX.one ⟨rfl, by first | exact Chg.refl _ _ | assumption⟩
              apply DQ.step (E' := [(1, _)])
              case ho => rfl
              case hs => exact ⟨rfl, trivial⟩
              case hk => rfl
              case h1 =>
                intro wq_6 kq_6
                refine WL.move rfl rfl (?_)
                refine WL.nil ?_
                exact WX.one ⟨rfl, by first | exact Chg.refl _ _ | assumption⟩
              apply DQ.step (E' := [(23, _)])
              case ho => rfl
              case hs => exact ⟨rfl, trivial⟩
              case hk => rfl
              case h1 =>
                intro wq_7 kq_7
                refine WL.move rfl rfl (?_)
                refine WL.nil ?_
                exact WX.one ⟨rfl, by first | exact Chg.refl _ _ | assumption⟩
              apply DQ.step (E' := [(177, _), (178, _)])
              case ho => rfl
              case hs => exact ⟨rfl, rfl, trivial⟩
              case hk => rfl
              case h1 =>
                intro wq_8 kq_8
                have zs_kq_8 := kq_8.size
                replace hZ := hZ.pure kq_8
                replace hV := hV.pure kq_8
                replace hC := hC.pure kq_8
                replace h := h.pure kq_8
                replace hb := hb.pure kq_8
                replace hq := hq.pure kq_8
                replace hw := hw.pure kq_8
                have hI := hb
                rw [hb9] at hI
                refine WL.indexC (e := ei) hI Try.underlying33 Try.sizeOf3 (by show some (Value.slice ab _ _) = _; rw [hb9]) rfl ⟨hx, rfl⟩ rfl ?_
                refine WL.nil ?_
                exact WX.one ⟨rfl, by first | exact Chg.refl _ _ | assumption⟩
              apply DQ.step (E' := [(179, _)])
              case ho => rfl
              case hs => exact ⟨rfl, trivial⟩
              case hk => rfl
              case h1 =>
                intro wq_9 kq_9
                have zs_kq_9 := kq_9.size
                replace hZ := hZ.pure kq_9
                replace hV := hV.pure kq_9
                replace hC := hC.pure kq_9
                replace h := h.pure kq_9
                replace hb := hb.pure kq_9
                replace hq := hq.pure kq_9
                replace hw := hw.pure kq_9
                have hI := hb
                rw [hb9] at hI
                refine WL.load Try.isAgg3 rfl ((hI.cellsAt hx) 0 _ rfl) rfl ?_
                refine WL.nil ?_
                exact WX.one ⟨rfl, by first | exact Chg.refl _ _ | assumption⟩
              apply DQ.step (E' := [(176, _), (180, _)])
              case ho => rfl
              case hs => exact ⟨rfl, rfl, trivial⟩
              case hk => rfl
              case h1 =>
                intro wq_10 kq_10
                refine WL.neqF rfl rfl rfl (by first | rfl | omega | decide) ?_
                refine WL.nil ?_
                exact WX.one ⟨rfl, by first | exact Chg.refl _ _ | assumption⟩
              refine DQ.done (fun _ => ?_)
              refine DL.done (fun we_11 ke_11 => ?_)
              have zs_ke_11 := ke_11.size
              replace hZ := hZ.pure ke_11
              replace hV := hV.pure ke_11
              replace hC := hC.pure ke_11
              replace h := h.pure ke_11
              replace hb := hb.pure ke_11
              replace hq := hq.pure ke_11
              replace hw := hw.pure ke_11
              refine WX.then_normal (WC.cond_false rfl (WC.skip (WX.block_normal (WX.then_normal (WC.region (WL.move rfl rfl (WL.add64 rfl rfl (by first | omega | (constructor <;> omega)) rfl (?_))))))))
              refine WL.assign rfl rfl (WL.nil (?_))
              first
                | exact WX.loop_next (i + 1, a15, c15, w15.heap.size, ms ++ [⟨some ⟨g5, 0, none⟩, r.xs.length + 2, r.xs⟩]) ⟨rfl, rfl, rfl, rfl, trivial⟩ ⟨by show i + 1 ≤ _; omega, ⟨by show (ms ++ [_]).length = _; simp [hml], fun j r' z hr' hz => (by
                    rcases get_snoc hz with h1 | ⟨h1, h2⟩
                    ·
                      exact hms j r' z hr' h1
                    ·
                      rw [h1, hml, hri] at hr'
                      injection hr' with hr'
                      rw [h2, ← hr'])⟩, hC15, ⟨hz15, by show w15.heap.size ≤ _; omega⟩, h, hb, hw⟩ (by show rs.length - (i + 1) < rs.length - i; omega)
                | exact WX.loop_next (k2 + 1, xs3.set i2 ⟨some ⟨gx2, 0, none⟩, rc, ux.set k2 170⟩, ux.set k2 170) ⟨rfl, rfl, rfl, rfl, by show _ = some (Value.slice ax (xs3.set i2 _).length cx); rw [List.length_set]; rfl, rfl, rfl, rfl, rfl, trivial⟩ ⟨by show k2 + 1 ≤ _; omega, ⟨by show (xs3.set i2 _).length = _; rw [List.length_set]; exact hx3l, by show (ux.set _ _).length = _; rw [List.length_set]; exact hul, by show (xs3.set i2 _)[i2]? = _; rw [List.getElem?_set_self (by omega)]⟩, (fun r hr => by
                    rcases List.mem_or_eq_of_mem_set hr with h1 | h1
                    ·
                      exact hxr r h1
                    ·
                      rw [h1]; show (ux.set _ _).length ≤ _; rw [List.length_set]; omega), hX15, hY, hZ, hC, h, hb, hq, by omega, hw⟩ (by show rxs.length - (k2 + 1) < rxs.length - k2; omega)
                | exact WX.loop_next (i2 + 1, xs3) ⟨rfl, rfl, rfl, rfl, rfl, rfl, rfl, rfl, trivial⟩ ⟨by show i2 + 1 ≤ xs3.length; omega, by show xs3.length = _; omega, hxr, hX, hY, hZ, hC, h, hb, hq, hwL, hw⟩ (by show xs3.length - (i2 + 1) < xs2.length - i2; omega)
                | exact WX.loop_next (k3 + 1, ys3.set i3 ⟨some ⟨gy2, 0, none⟩, rc, uy.set k3 171⟩, uy.set k3 171) ⟨rfl, rfl, rfl, rfl, by show _ = some (Value.slice ay (ys3.set i3 _).length cy); rw [List.length_set]; rfl, rfl, rfl, rfl, trivial⟩ ⟨by show k3 + 1 ≤ _; omega, ⟨by show (ys3.set i3 _).length = _; rw [List.length_set]; exact hy3l, by show (uy.set _ _).length = _; rw [List.length_set]; exact hul, by show (ys3.set i3 _)[i3]? = _; rw [List.getElem?_set_self (by omega)]⟩, (fun j r hj hr => by
                    have hr' : (ys3.set i3 ⟨some ⟨gy2, 0, none⟩, rc, uy.set k3 171⟩)[j]? = some r := hr
                    by_cases e : i3 = j
                    ·
                      subst e
                      rw [List.getElem?_set_self (by omega)] at hr'
                      injection hr' with hr'
                      rw [← hr']; show (uy.set _ _).length ≤ _; rw [List.length_set]; omega
                    ·
                      rw [List.getElem?_set_ne e] at hr'
                      exact hyr3 j r hj hr'), hY18, hZ, hC, h, hb, hq, by omega, hw⟩ (by show rxs.length - (k3 + 1) < rxs.length - k3; omega)
                | exact WX.loop_next (i3 + 1, ys3.set i3 ⟨a9, c9, uy ++ [172]⟩) ⟨rfl, rfl, rfl, rfl, by show _ = some (Value.slice ay (ys3.set i3 _).length cy); rw [List.length_set]; rfl, rfl, rfl, trivial⟩ ⟨by show i3 + 1 ≤ (ys3.set i3 _).length; rw [List.length_set]; omega, by show (ys3.set i3 _).length = _; rw [List.length_set]; omega, (fun j r hj hr => by
                    have hr' : (ys3.set i3 ⟨a9, c9, uy ++ [172]⟩)[j]? = some r := hr
                    have hj' : i3 + 1 ≤ j := hj
                    rw [List.getElem?_set_ne (by omega)] at hr'
                    exact hyr3 j r (by omega) hr'), hY20, hZ, hC, h, hb, hq, by omega, hw⟩ (by show (ys3.set i3 _).length - (i3 + 1) < ys2.length - i3; rw [List.length_set]; omega)
                | exact WX.loop_next (k6 + 1) ⟨rfl, rfl, rfl, rfl, rfl, rfl, rfl, rfl, rfl, trivial⟩ ⟨⟨by omega, by omega⟩, hq2, hZ, hV, hC, h, hb, hq, hw⟩ (by omega)
                | exact WX.loop_next (k5 + 1) ⟨rfl, rfl, rfl, rfl, rfl, rfl, rfl, trivial⟩ ⟨by omega, hZ, hV, hC, h, hb, hq, hw⟩ (by omega)
                | exact WX.loop_next (k8 + 1) ⟨rfl, rfl, rfl, rfl, rfl, rfl, rfl, trivial⟩ ⟨by omega, hZ, hV, hC, h, hb, hq, hw⟩ (by omega)
            ·
              refine WL.nil (WX.then_normal (WC.cond_false rfl (WC.exit (WX.then_exit (WX.then_exit (WX.block_here (WX.then_normal (?_))))))))
              refine WC.seq (WC.region (WL.move rfl rfl (WL.move rfl rfl (?_))))
              refine WL.call eg_20 rfl rfl (same_calls hC.toRS h (by omega)) ?_
              rintro v w25 ⟨rfl, k25⟩
              rw [hmx, show decide (xss rs = xss rs) = true from decide_eq_true rfl]
              have zs_k25 := k25.size
              replace hZ := hZ.pure k25
              replace hV := hV.pure k25
              replace hC := hC.pure k25
              replace h := h.pure k25
              replace hb := hb.pure k25
              replace hq := hq.pure k25
              replace hw := hw.pure k25
              refine WL.move rfl rfl (WL.want rfl rfl rfl (WL.move rfl rfl (WL.want rfl rfl rfl (WL.move rfl rfl (WL.want rfl rfl rfl (?_))))))
              refine WL.call eg_20 rfl rfl (same_calls hZ hV (by omega)) ?_
              rintro v w26 ⟨rfl, k26⟩
              rw [RE.uniq hRE2 hRE3, show decide (xss ws = xss ws) = true from decide_eq_true rfl]
              have zs_k26 := k26.size
              replace hZ := hZ.pure k26
              replace hV := hV.pure k26
              replace hC := hC.pure k26
              replace h := h.pure k26
              replace hb := hb.pure k26
              replace hq := hq.pure k26
              replace hw := hw.pure k26
              refine WL.pickT rfl rfl rfl (WL.assign rfl rfl (WL.nil (WX.then_normal (WC.ret (?_)))))
              refine WX.ret1 (.inl rfl) Try.results10 rfl ?_
              exact ⟨_, rfl, rfl, hw⟩
end Go.Proofs.Ytjdbjdgobhjbkaa
