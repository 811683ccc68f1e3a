import Derived.Lib.AppendZeros
import Derived.Test.YtggecdldnpildaaGreatQHoardErasures3
namespace Go.HL
open Go.RowKit
section
variable {P : Program} {N : Nat} {E : Env} {w : World} {fn : Func} {R : Ending → World → Prop}
end
section
variable {P : Program} {ops : Array Oper} {Q : Exit → Act → World → Prop} {N : Nat} {E : Env} {w : World} {rest : List Oper}
  {d : Nat} {ty : TypeId} {pos : String} {af : Array Edge} {α : Type} {e : Enc α} {S : Nat → Prop} {t tx T : TypeId} {s x : Operand} {g i c bytes : Nat} {xs ys : List α} {z v : Value}
/-- a part of a slice, up to its room -/
theorem WL.sliceN {lo hi : Option Operand} {ao : Option Addr} {n l h : Nat} {k j : IntKind} {sz : Nat} (ht : P.underlying t = some (.slice T)) (hs : ∀ w, (sizeOf T).run P w = .ok sz w) (hx : ev E x = some (.slice ao n c))
    (hlo : lo.map (ev E) = some (some (.int k (l : Int))) ∨ lo = none ∧ l = 0) (hhi : hi.map (ev E) = some (some (.int j (h : Int))) ∧ h ≤ c ∨ hi = none ∧ h = n) (hl : l ≤ h) (hd : Nat.blt d N = true)
    (k' : WL P ops Q N rest ((d, .slice (cutAt ao c l sz) (h - l) (c - l)) :: E) w) : WL P ops Q N (⟨some d, .slice t x lo hi none, ty, pos, af, none⟩ :: rest) E w := by
  refine WL.run _ w (fun a ha => ?_) hd k'
  have hlo' : lo.map a.eval = some (.int k (l : Int)) ∨ lo.map a.eval = none ∧ l = 0 := by
    rcases hlo with h2 | ⟨rfl, h2⟩
    · cases lo with
      | none => cases h2
      | some y => simp at h2; left; simp [ev_eval ha h2]
    · right; exact ⟨rfl, h2⟩
  have hhi' : hi.map a.eval = some (.int j (h : Int)) ∧ h ≤ c ∨ hi.map a.eval = none ∧ h = n := by
    rcases hhi with ⟨h2, h3⟩ | ⟨rfl, h2⟩
    · cases hi with
      | none => cases h2
      | some y => simp at h2; left; exact ⟨by simp [ev_eval ha h2], h3⟩
    · right; exact ⟨rfl, h2⟩
  simp only [execOp, ev_eval ha hx, Option.map_none]
  simp [run_sliceAt w ht hs ao n c l h k j _ _ hlo' hhi' hl]
end
end Go.HL
namespace Go.HL
open Go.RowKit
/-! what follows a piece of code is shown once -/
def CutPost {σ : Type} (N : Nat) (Ef : σ → Env) (I : σ → World → Prop) : Exit → Act → World → Prop := fun x a w => x = .normal ∧ ∃ s, Holds N (Ef s) a ∧ I s w
section
variable {P : Program} {Q : Exit → Act → World → Prop} {N : Nat} {E : Env} {w : World} {σ : Type} {Ef : σ → Env} {I : σ → World → Prop} {c : Code}
theorem WX.cut (s : σ) (hs : Sub (Ef s) E) (hI : I s w) : WX (CutPost N Ef I) .normal N E w := fun _ ha => ⟨rfl, s, ha.sub hs, hI⟩
end
end Go.HL
namespace Go.HL
open Go.RowKit
/-! rows that are written, whatever they hold -/
/-- blocks of cells stay such, of the same size -/
def ShK (w w' : World) : Prop := ∀ (g : Nat) (cur : Array Value) (T : TypeId) (fr : Nat × Nat), w.heap[g]? = some (.cells cur T fr) → ∃ cur2 : Array Value, w'.heap[g]? = some (.cells cur2 T fr) ∧ cur2.size = cur.size
theorem ShK.refl (w : World) : ShK w w := fun _ cur _ _ h => ⟨cur, h, rfl⟩
theorem ShK.trans {a b c : World} (h : ShK a b) (k : ShK b c) : ShK a c := fun g cur T fr hg => by
  obtain ⟨c1, h1, e1⟩ := h g cur T fr hg
  obtain ⟨c2, h2, e2⟩ := k g c1 T fr h1
  exact ⟨c2, h2, e2.trans e1⟩
theorem Chg.shk {w w' : World} (h : Chg Nob w w') : ShK w w' := fun g cur T fr hg => ⟨cur, h.obj hg (fun x => x), rfl⟩
theorem ShK.set {w w' : World} {g : Nat} {cur cur2 : Array Value} {T : TypeId} {fr : Nat × Nat} (k : Chg (· = g) w w') (hg : w.heap[g]? = some (.cells cur T fr)) (hg2 : w'.heap[g]? = some (.cells cur2 T fr)) (hs : cur2.size = cur.size) : ShK w w' := fun b c1 T1 f1 hb => by
  by_cases e : b = g
  · subst e
    rw [hg] at hb
    injection hb with hb
    injection hb with e1 e2 e3
    subst e1; subst e2; subst e3
    exact ⟨cur2, hg2, hs⟩
  · exact ⟨c1, k.obj hb e, rfl⟩
/-- n elements at the head of a block of S may be written -/
def Wt (S : Nat → Prop) (w : World) (T : TypeId) (sz : Nat) (ao : Option Addr) (n : Nat) : Prop :=
  n = 0 ∨ ∃ (g : Nat) (cur : Array Value) (fr : Nat × Nat), ao = some ⟨g, 0, none⟩ ∧ S g ∧ w.heap[g]? = some (.cells cur T fr) ∧ (∀ j, j < cur.size → ¬ (fr.1 ≤ j ∧ j < fr.2)) ∧ n * sz ≤ cur.size
theorem Wt.keep {S : Nat → Prop} {w w' : World} {T : TypeId} {sz : Nat} {ao : Option Addr} {n : Nat} (h : Wt S w T sz ao n) (k : ShK w w') : Wt S w' T sz ao n := by
  rcases h with h | ⟨g, cur, fr, h1, h2, h3, h4, h5⟩
  · exact .inl h
  · obtain ⟨c2, h6, h7⟩ := k _ _ _ _ h3
    exact .inr ⟨g, c2, fr, h1, h2, h6, by rw [h7]; exact h4, by omega⟩
theorem Wt.mono {S S' : Nat → Prop} {w : World} {T : TypeId} {sz : Nat} {ao : Option Addr} {n : Nat} (h : Wt S w T sz ao n) (k : ∀ b, S b → S' b) : Wt S' w T sz ao n := by
  rcases h with h | ⟨g, cur, fr, h1, h2, h3⟩
  · exact .inl h
  · exact .inr ⟨g, cur, fr, h1, k _ h2, h3⟩
theorem Wt.chg {S M : Nat → Prop} {w w' : World} {T : TypeId} {sz : Nat} {ao : Option Addr} {n : Nat} (h : Wt S w T sz ao n) (k : Chg M w w') (hd : ∀ b, b < w.heap.size → S b → M b → False) : Wt S w' T sz ao n := by
  rcases h with h | ⟨g, cur, fr, h1, h2, h3, h4⟩
  · exact .inl h
  · exact .inr ⟨g, cur, fr, h1, h2, k.obj h3 (fun hm => hd g (Array.getElem?_eq_some_iff.1 h3).1 h2 hm), h4⟩
theorem Wt.lt {S : Nat → Prop} {w : World} {T : TypeId} {sz : Nat} {ao : Option Addr} {n : Nat} (h : Wt S w T sz ao n) : Wt (fun b => S b ∧ b < w.heap.size) w T sz ao n := by
  rcases h with h | ⟨g, cur, fr, h1, h2, h3, h4⟩
  · exact .inl h
  · exact .inr ⟨g, cur, fr, h1, ⟨h2, (Array.getElem?_eq_some_iff.1 h3).1⟩, h3, h4⟩
theorem Wt.pure {S : Nat → Prop} {w w' : World} {T : TypeId} {sz : Nat} {ao : Option Addr} {n : Nat} (h : Wt S w T sz ao n) (k : Chg Nob w w') : Wt S w' T sz ao n := h.keep k.shk
theorem Row.wt {α : Type} {e : Enc α} {S : Nat → Prop} {w : World} {T : TypeId} {ao : Option Addr} {c : Nat} {xs : List α} (h : Row S w T e ao c xs) : Wt S w T e.sz ao xs.length := by
  have hcap := h.own.cap
  rcases h.own.2.2 with ⟨rfl, rfl⟩ | ⟨g, cur, fr, rfl, hg, hfr, _, hsz, _⟩
  · exact .inl (by omega)
  · exact .inr ⟨g, cur, fr, rfl, h.at_ _ rfl, hg, hfr, by rw [hsz]; exact Nat.mul_le_mul_right _ hcap⟩
section
variable {P : Program} {ops : Array Oper} {Q : Exit → Act → World → Prop} {N : Nat} {E : Env} {w : World} {rest : List Oper} {ty : TypeId} {pos : String} {af : Array Edge}
end
end Go.HL
namespace Go.HL
open Go.RowKit
/-! what follows a piece of code is shown once; other ways out of it go on by themselves -/
def CutG {σ : Type} (Q : Exit → Act → World → Prop) (N : Nat) (Ef : σ → Env) (I : σ → World → Prop) : Exit → Act → World → Prop := fun x a w => (x = .normal ∧ ∃ s, Holds N (Ef s) a ∧ I s w) ∨ Q x a w
section
variable {P : Program} {Q : Exit → Act → World → Prop} {N : Nat} {E : Env} {w : World} {σ : Type} {Ef : σ → Env} {I : σ → World → Prop} {c : Code}
theorem WC.cutG (Ef : σ → Env) (I : σ → World → Prop) (htail : ∀ s w', I s w' → WX Q .normal N (Ef s) w') (hbody : WC P c (CutG Q N Ef I) N E w) : WC P c Q N E w := fun a ha => by
  refine Code.wp_mono ?_ (hbody a ha)
  rintro x a' w' (⟨rfl, s, hs, hI⟩ | h)
  · exact htail s w' hI a' hs
  · exact h
theorem WX.cutN (s : σ) (hs : Sub (Ef s) E) (hI : I s w) : WX (CutG Q N Ef I) .normal N E w := fun _ ha => .inl ⟨rfl, s, ha.sub hs, hI⟩
theorem WX.pass {x : Exit} (h : WX Q x N E w) : WX (CutG Q N Ef I) x N E w := fun a ha => .inr (h a ha)
end
/-- a row of the call's own, where another one has grown -/
def ApG (x y : Option Addr) : Prop := ∀ a b, x = some a → y = some b → a.block ≠ b.block
theorem ApG.symm {x y : Option Addr} (h : ApG x y) : ApG y x := fun a b ha hb e => h b a hb ha e.symm
theorem ApG.none (x : Option Addr) : ApG x none := fun _ _ _ h => by cases h
theorem ApG.eqb {a b : Option Addr} {x : Nat} (h : ApG a b) (h1 : Eqb a x) (h2 : Eqb b x) : False := by
  obtain ⟨p, rfl, e1⟩ := h1
  obtain ⟨q, rfl, e2⟩ := h2
  exact h p q rfl rfl (e1.symm.trans e2)
theorem ApG.grow {S' : Nat → Prop} {w w' : World} {a b b' : Option Addr} (h : ApG a b) (ha : At (· < w.heap.size) a) (g : Grow S' w b w' b') : ApG a b' := by
  rcases g.fr with e | e
  · rw [e]; exact h
  · intro p q hp hq e2
    have h1 := ha p hp
    have h2 := e q hq
    omega
end Go.HL
namespace Go.HL
open Go.RowKit
section
variable {P : Program} {ops : Array Oper} {Q : Exit → Act → World → Prop} {N : Nat} {E : Env} {w : World} {rest : List Oper} {ty : TypeId} {pos : String} {af : Array Edge} {d : Nat} {α : Type} {e : Enc α} {t T tx : TypeId}
/-- noughts are appended to what is nil: room is made -/
theorem WL.appendZ {s x : Operand} {bytes n : Nat} {k kn : IntKind} {z : Value} (hinfo : (P.info? T).map (fun i => (i.zero, i.size, i.bytes)) = some (some z, e.sz, bytes)) (hzs : z.cells.size = e.sz)
    (ht : P.underlying t = some (.slice T)) (htx : P.underlying tx = some (.int kn)) (hs : ev E s = some (.slice none 0 0)) (hx : ev E x = some (.int k (n : Int))) (hn : 0 < n ∧ n ≤ 9223372036854775807 ∧ n * bytes ≤ 140737488355328) (hd : Nat.blt d N = true)
    (h : ∀ g c w', Row (fun b => b = g) w' T e (some ⟨g, 0, none⟩) c ([] : List α) → n ≤ c → Chg Nob w w' → g = w.heap.size → WL P ops Q N rest ((d, .slice (some ⟨g, 0, none⟩) n c) :: E) w') :
    WL P ops Q N (⟨some d, .call ⟨.builtin .append, #[s, x], #[t, tx]⟩, ty, pos, af, none⟩ :: rest) E w := by
  obtain ⟨i, hi, h1, h2, h3⟩ := info_parts hinfo
  have hr := Lib.run_append_nil_zeros (P := P) w t tx ty T i z k kn ht htx hi h1 n hn.1 (by rw [h2]; exact e.pos) (by omega) (by rw [h3]; omega)
  have hge := grownCap_ge w n 0 T
  have hcm : grownCap w n 0 T ≤ maxLen := grownCap_le_maxLen w n 0 T (by simpa [maxLen] using hn.2.1)
  obtain ⟨cap, hcap⟩ : ∃ cap, cap = grownCap w n 0 T := ⟨_, rfl⟩
  rw [← hcap] at hr hge hcm
  obtain ⟨W', hW'⟩ : ∃ W', W' = w.drew.alloc (.cells (Builtin.zeroCells z.cells n ++ Builtin.zeroCells z.cells (cap - n)) T) := ⟨_, rfl⟩
  rw [← hW'] at hr
  refine WL.run (.slice (some ⟨w.heap.size, 0, none⟩) n cap) W' (fun a ha => by simp [execOp, resolve, invoke, builtin, ev_eval ha hs, ev_eval ha hx, hr]) hd ?_
  subst hW'
  refine h w.heap.size cap _ ⟨fun a ea => by injection ea with ea; subst ea; rfl, by simp [Enc.all], Nat.zero_le _, .inr ⟨w.heap.size, _, (0, 0), rfl, heap_alloc_new w.drew _, fun j _ hh => by omega, hcm, ?_, ?_⟩⟩ hge ⟨rfl, rfl, rfl, by simp, fun k hk _ => Below.heap_alloc w.drew _ k hk⟩ rfl
  · simp only [Array.size_append, size_zeroCells, hzs, ← Nat.add_mul]
    congr 1
    omega
  · simp [Enc.all]
end
end Go.HL
namespace Go.HL
open Go.RowKit
/-- rows of the call's own, gathered one behind the other, each in a block of its own -/
structure AR (L N n1 : Nat) (w : World) (T U : TypeId) (ao : Option Addr) (c : Nat) (gs : List Nat) (rs : List Rw) : Prop where
  outer : Row (fun x => N ≤ x ∧ x < n1) w T erow ao c rs
  inner : ∀ (i g : Nat) (r : Rw), gs[i]? = some g → rs[i]? = some r → r.ao = some ⟨g, 0, none⟩ ∧ Row (fun b => b = g) w U eb (some ⟨g, 0, none⟩) r.cap r.xs ∧ g < n1 ∧ ¬ Eqb ao g
  len : gs.length = rs.length
  apart : ∀ (i j g : Nat), gs[i]? = some g → gs[j]? = some g → i = j
  low : ∀ (i g : Nat), gs[i]? = some g → L ≤ g
section
variable {L N n1 : Nat} {w w' : World} {T U : TypeId} {ao : Option Addr} {c : Nat} {gs : List Nat} {rs : List Rw} {M : Nat → Prop}
theorem AR.nil (L N n1 : Nat) (w : World) (T U : TypeId) : AR L N n1 w T U none 0 [] [] :=
  ⟨Row.nil _ _ _ _, fun i g r h => by simp at h, rfl, fun i j g h => by simp at h, fun i g h => by simp at h⟩
theorem AR.chg (h : AR L N n1 w T U ao c gs rs) (k : Chg M w w') (hd : ∀ x, x < n1 → M x → False) : AR L N n1 w' T U ao c gs rs :=
  ⟨h.outer.chg k (fun b _ hs hm => hd b hs.2 hm), fun i g r hg hr => by
    obtain ⟨h1, h2, h3, h4⟩ := h.inner i g r hg hr
    exact ⟨h1, h2.chg k (fun b _ hs hm => hd b (by have h5 : b = g := hs; omega) hm), h3, h4⟩, h.len, h.apart, h.low⟩
theorem AR.pure (h : AR L N n1 w T U ao c gs rs) (k : Chg Nob w w') : AR L N n1 w' T U ao c gs rs := h.chg k (fun _ _ x => x)
theorem get_snoc {α : Type} {l : List α} {a b : α} {i : Nat} (h : (l ++ [a])[i]? = some b) : l[i]? = some b ∨ i = l.length ∧ b = a := by
  rcases Nat.lt_or_ge i l.length with h2 | h2
  · rw [List.getElem?_append_left h2] at h; exact .inl h
  · rw [List.getElem?_append_right h2] at h
    have h3 := (List.getElem?_eq_some_iff.1 h).1
    simp at h3
    have h4 : i - l.length = 0 := by omega
    rw [h4] at h
    simp at h
    exact .inr ⟨by omega, h.symm⟩
/-- one more, which was made after all others -/
theorem AR.snoc (h : AR L N n1 w T U ao c gs rs) {g cr : Nat} {xs : List UInt8} (hg : n1 ≤ g) (hL : L ≤ g) (hr : Row (fun b => b = g) w U eb (some ⟨g, 0, none⟩) cr xs) (hs : n1 ≤ w.heap.size) {ao2 : Option Addr} {c2 : Nat} (ho : Row (fun x => N ≤ x) w' T erow ao2 c2 (rs ++ [⟨some ⟨g, 0, none⟩, cr, xs⟩])) (gw : Grow (fun x => N ≤ x) w ao w' ao2) :
    AR L N w'.heap.size w' T U ao2 c2 (gs ++ [g]) (rs ++ [⟨some ⟨g, 0, none⟩, cr, xs⟩]) := by
  have zs := gw.chg.size
  have hgl : g < w.heap.size := hr.own.lt _ rfl
  have hat : ∀ x, Eqb ao x → x < n1 := fun x e => (h.outer.at_.eqb e).2
  have hnew : ∀ x, x < w.heap.size → Eqb ao2 x → Eqb ao x := by
    intro x hx e
    rcases gw.fr with e1 | e1
    · rw [← e1]; exact e
    · have := e1.eqb e
      omega
  refine ⟨ho.lt, fun i g' r hg' hr' => ?_, by simp [h.len], fun i j g' h1 h2 => ?_, fun i g' h1 => ?_⟩
  · rcases get_snoc hg' with h1 | ⟨h1, h1'⟩
    · have hil := (List.getElem?_eq_some_iff.1 h1).1
      rw [List.getElem?_append_left (by rw [← h.len]; exact hil)] at hr'
      obtain ⟨h2, h3, h4, h5⟩ := h.inner i g' r h1 hr'
      exact ⟨h2, h3.chg gw.chg (fun b _ hb hm => h5 ((show b = g' from hb) ▸ hm.1)), by omega, fun e => h5 (hnew g' (by omega) e)⟩
    · subst h1; subst h1'
      rw [List.getElem?_append_right (by rw [h.len]; exact Nat.le_refl _), h.len, Nat.sub_self] at hr'
      simp at hr'
      subst hr'
      exact ⟨rfl, hr.chg gw.chg (fun b _ hb hm => by have h6 : b = g' := hb; have := hat b hm.1; omega), by omega, fun e => by have := hat g' (hnew g' hgl e); omega⟩
  · rcases get_snoc h1 with h3 | ⟨h3, h3'⟩ <;> rcases get_snoc h2 with h4 | ⟨h4, h4'⟩
    · exact h.apart i j g' h3 h4
    · have hil := (List.getElem?_eq_some_iff.1 h3).1
      obtain ⟨r, hr0⟩ : ∃ r, rs[i]? = some r := ⟨_, List.getElem?_eq_getElem (by rw [← h.len]; exact hil)⟩
      have := (h.inner i g' r h3 hr0).2.2.1
      omega
    · have hil := (List.getElem?_eq_some_iff.1 h4).1
      obtain ⟨r, hr0⟩ : ∃ r, rs[j]? = some r := ⟨_, List.getElem?_eq_getElem (by rw [← h.len]; exact hil)⟩
      have := (h.inner j g' r h4 hr0).2.2.1
      omega
    · omega
  · rcases get_snoc h1 with h3 | ⟨h3, h3'⟩
    · exact h.low i g' h3
    · omega
/-- one row has turned -/
theorem AR.upd (h : AR L N n1 w T U ao c gs rs) {r g : Nat} {q : Rw} {x' : List UInt8} (hg : gs[r]? = some g) (hx : rs[r]? = some q) (hl : x'.length = q.xs.length) (k : Chg (fun b => b = g) w w') (hr : Row (fun b => b = g) w' U eb (some ⟨g, 0, none⟩) q.cap x') :
    AR L N n1 w' T U ao c gs (rs.set r ⟨q.ao, q.cap, x'⟩) := by
  obtain ⟨h1, h2, h3, h4⟩ := h.inner r g q hg hx
  have hrl : r < rs.length := (List.getElem?_eq_some_iff.1 hx).1
  have hgo : ∀ x, x = g → N ≤ x ∧ x < n1 → Eqb ao x → False := fun x e _ hq => h4 (e ▸ hq)
  refine ⟨?_, fun i g' r' hg' hr' => ?_, by rw [List.length_set]; exact h.len, h.apart, h.low⟩
  · have hat : Row (fun x => (N ≤ x ∧ x < n1) ∧ ¬ x = g) w T erow ao c rs := ⟨fun a ea => ⟨h.outer.at_ a ea, fun e => h4 ⟨a, ea, e.symm⟩⟩, h.outer.own⟩
    have ho := hat.chg k (fun b _ hs hm => hs.2 hm)
    have e1 : erow.all (rs.set r ⟨q.ao, q.cap, x'⟩) = erow.all rs := by
      have : ∀ (ys : List Rw) (r : Nat), ys[r]? = some q → erow.all (ys.set r ⟨q.ao, q.cap, x'⟩) = erow.all ys := by
        intro ys
        induction ys with
        | nil => intro r hr; simp at hr
        | cons y ys ih =>
          intro r hr
          cases r with
          | zero =>
            simp at hr
            subst hr
            simp [Enc.all, erow, hl]
          | succ r =>
            have := ih r (by simpa using hr)
            simp only [Enc.all] at this
            simp [Enc.all, this]
      exact this rs r hx
    exact ⟨fun a ea => (ho.at_ a ea).1, by rw [e1, List.length_set]; exact ho.own⟩
  · by_cases hir : i = r
    · subst hir
      rw [hg] at hg'
      injection hg' with hg'
      subst hg'
      rw [List.getElem?_set_self hrl] at hr'
      injection hr' with hr'
      subst hr'
      exact ⟨h1, hr, h3, h4⟩
    · rw [List.getElem?_set_ne (fun e => hir e.symm)] at hr'
      obtain ⟨i1, i2, i3, i4⟩ := h.inner i g' r' hg' hr'
      refine ⟨i1, i2.chg k (fun b _ hb hm => ?_), i3, i4⟩
      have e1 : b = g' := hb
      have e2 : b = g := hm
      exact hir (h.apart i r g (by rw [← e2, e1]; exact hg') hg)
/-- as rows that are read -/
theorem AR.read (h : AR L N n1 w T U ao c gs rs) : RS (fun _ => True) w ao c rs := by
  refine ⟨h.outer.rsl.mono (fun _ _ => trivial), fun r hr => ?_⟩
  obtain ⟨i, hi⟩ := List.getElem?_of_mem hr
  have hil := (List.getElem?_eq_some_iff.1 hi).1
  obtain ⟨g, hg⟩ : ∃ g, gs[i]? = some g := ⟨_, List.getElem?_eq_getElem (by rw [h.len]; exact hil)⟩
  obtain ⟨h1, h2, _⟩ := h.inner i g r hg hi
  rw [h1]
  exact h2.rsl.mono (fun _ _ => trivial)
end
end Go.HL
namespace Go.HL
open Go.RowKit
theorem get_app {α : Type} {l m : List α} {b : α} {i : Nat} (h : (l ++ m)[i]? = some b) : i < l.length ∧ l[i]? = some b ∨ l.length ≤ i ∧ m[i - l.length]? = some b := by
  rcases Nat.lt_or_ge i l.length with h2 | h2
  · rw [List.getElem?_append_left h2] at h; exact .inl ⟨h2, h⟩
  · rw [List.getElem?_append_right h2] at h; exact .inr ⟨h2, h⟩
/-- three more, which were made ahead of all others -/
theorem AR.app {L N n1 : Nat} {w w' : World} {T U : TypeId} {ao ao2 : Option Addr} {c c2 go k n : Nat} {gs gs' : List Nat} {rs : List Rw} {ys : List (List UInt8)} (h : AR L N n1 w T U ao c gs rs) (hp : OR w T U go k gs' n ys []) (hLN : N ≤ L)
    (hlt : ∀ (i g : Nat), gs'[i]? = some g → g < N) (hNn : N ≤ n1) (hs : n1 ≤ w.heap.size) (ho : Row (fun x => N ≤ x) w' T erow ao2 c2 (rs ++ orows gs' n ys)) (gw : Grow (fun x => N ≤ x) w ao w' ao2) :
    AR 0 N w'.heap.size w' T U ao2 c2 (gs ++ gs') (rs ++ orows gs' n ys) := by
  have zs := gw.chg.size
  have hat : ∀ x, Eqb ao x → N ≤ x ∧ x < n1 := fun x e => h.outer.at_.eqb e
  have hnew : ∀ x, x < w.heap.size → Eqb ao2 x → Eqb ao x := by
    intro x hx e
    rcases gw.fr with e1 | e1
    · rw [← e1]; exact e
    · have := e1.eqb e
      omega
  have hol := orows_len (n := n) hp.len
  refine ⟨ho.lt, fun i g' r hg' hr' => ?_, by rw [List.length_append, List.length_append, h.len, hol], fun i j g' h1 h2 => ?_, fun i g' h1 => Nat.zero_le _⟩
  · rcases get_app hg' with ⟨h0, h1⟩ | ⟨h0, h1⟩
    · rw [List.getElem?_append_left (by rw [← h.len]; exact h0)] at hr'
      obtain ⟨h2, h3, h4, h5⟩ := h.inner i g' r h1 hr'
      exact ⟨h2, h3.chg gw.chg (fun b _ hb hm => h5 ((show b = g' from hb) ▸ hm.1)), by omega, fun e => h5 (hnew g' (by omega) e)⟩
    · rw [List.getElem?_append_right (by rw [← h.len]; exact h0), ← h.len] at hr'
      have hil := (List.getElem?_eq_some_iff.1 h1).1
      obtain ⟨y, hy⟩ : ∃ y, ys[i - gs.length]? = some y := ⟨_, List.getElem?_eq_getElem (by rw [← hp.len]; exact hil)⟩
      have hrow := hp.inner _ g' y h1 hy
      rw [orows, List.getElem?_zipWith, h1, hy] at hr'
      injection hr' with hr'
      subst hr'
      have hg'N := hlt _ g' h1
      exact ⟨rfl, hrow.chg gw.chg (fun b _ hb hm => by have h6 : b = g' := hb; have := hat b hm.1; omega), by omega, fun e => by have := hat g' (hnew g' (by omega) e); omega⟩
  · rcases get_app h1 with ⟨h3, h3'⟩ | ⟨h3, h3'⟩ <;> rcases get_app h2 with ⟨h4, h4'⟩ | ⟨h4, h4'⟩
    · exact h.apart i j g' h3' h4'
    · have := h.low i g' h3'
      have := hlt _ g' h4'
      omega
    · have := h.low j g' h4'
      have := hlt _ g' h3'
      omega
    · have := hp.apart _ _ g' h3' h4'
      omega
end Go.HL
namespace Go.Proofs.YtggecdldnpildaaGreat
open Go.RowKit Go.HL
set_option maxRecDepth 100000

/-! rows joined; a row times an element; a row plus a multiple of another -/
theorem grow_calls {w : World} (n : Nat) (hn : 1 ≤ n ∧ n ≤ 100000) : Calls Tryz.prog 110 [.slice none 0 0, vi (n : Int)].toArray w (Ret fun v w' => (∃ g c, v = .slice (some ⟨g, 0, none⟩) 0 c ∧ Row (fun b => b = g) w' 5 eb (some ⟨g, 0, none⟩) c [] ∧ w.heap.size ≤ g) ∧ Chg Nob w w') := by
  have hw := Chg.refl Nob w
  refine Calls.of_WC Tryz.func110 rfl Tryz.ntmps110 (by simp) ?_
  refine WC.seq (WC.region (WL.assign rfl rfl (WL.nil (WX.then_normal (WC.seq (WC.seq (WC.region (?_))))))))
  refine WL.move rfl rfl (?_)
  refine WL.lssF rfl rfl rfl (by omega) ?_
  refine WL.nil (WX.then_normal (WC.cond_false rfl (WC.skip (WX.then_normal (WC.seq (WC.seq (WC.region (?_))))))))
  refine WL.move rfl rfl (WL.move rfl rfl (?_))
  refine WL.cap Tryz.underlying26 rfl rfl ?_
  refine WL.move rfl rfl (WL.len Tryz.underlying26 rfl rfl (WL.sub64 rfl rfl (by omega) rfl (WL.sub64 rfl rfl (by omega) rfl (WL.assign rfl rfl (WL.nil (WX.then_normal (WC.seq (?_))))))))
  refine WC.region (WL.move rfl rfl (?_))
  refine WL.gtrT rfl rfl rfl (by omega) ?_
  refine WL.nil (WX.then_normal (WC.cond_true rfl (WC.region (WL.move rfl rfl (WL.move rfl rfl (?_))))))
  refine WL.cap Tryz.underlying26 rfl rfl ?_
  refine WL.sliceN (l := 0) (h := 0) (k := .i64) Tryz.underlying26 Tryz.sizeOf5 rfl (.inr ⟨rfl, rfl⟩) (.inl ⟨rfl, Nat.le_refl _⟩) (Nat.le_refl _) rfl ?_
  refine WL.move rfl rfl (?_)
  refine WL.appendZ (e := eb) (n := n) info_5 rfl Tryz.underlying26 Tryz.underlying3 rfl (by show some (vi ((n : Int) - (((0 : Nat) : Int) - ((0 : Nat) : Int)))) = some (vi (n : Int)); rw [show (n : Int) - (((0 : Nat) : Int) - ((0 : Nat) : Int)) = (n : Int) by omega]) ⟨by omega, by omega, by omega⟩ rfl ?_
  intro g c w3 hr hc k3 eg
  have zs_k3 := k3.size
  replace hw := hw.pure k3
  refine WL.move rfl rfl (WL.len Tryz.underlying26 rfl rfl (?_))
  refine WL.sliceN (l := 0) (h := 0) (k := .i64) Tryz.underlying26 Tryz.sizeOf5 rfl (.inr ⟨rfl, rfl⟩) (.inl ⟨rfl, Nat.zero_le _⟩) (Nat.le_refl _) rfl ?_
  refine WL.assign rfl rfl (WL.nil (WX.then_normal (WC.seq (WC.region (WL.move rfl rfl (WL.assign rfl rfl (WL.nil (?_))))))))
  refine WX.then_normal (WC.ret (?_))
  refine WX.ret1 (.inl rfl) Tryz.results110 rfl ?_
  refine ⟨_, rfl, ⟨g, c, ?_, hr, by have := hw.size; omega⟩, hw⟩
  have e1 : cutAt (some (⟨g, 0, none⟩ : Addr)) c 0 1 = some ⟨g, 0, none⟩ := by unfold cutAt; split <;> simp [Addr.add_lit]
  simp [e1]
theorem concat_calls {S : Nat → Prop} {w : World} {ao : Option Addr} {c : Nat} {r1 r2 : Rw} (h : RS S w ao c [r1, r2]) (h1 : 1 ≤ r1.xs.length ∧ r1.xs.length ≤ 10000) (h2 : r2.xs.length ≤ 10000) :
    Calls Tryz.prog 105 [.slice ao 2 c].toArray w (Ret fun v w' => (∃ g c2, v = .slice (some ⟨g, 0, none⟩) (r1.xs ++ r2.xs).length c2 ∧ Row (fun b => b = g) w' 5 eb (some ⟨g, 0, none⟩) c2 (r1.xs ++ r2.xs) ∧ w.heap.size ≤ g) ∧ Chg Nob w w') := by
  have hw := Chg.refl Nob w
  replace h := h.old
  obtain ⟨sm, hsm⟩ : ∃ sm : Nat → Nat, sm = fun i => if i = 0 then 0 else if i = 1 then r1.xs.length else r1.xs.length + r2.xs.length := ⟨_, rfl⟩
  obtain ⟨jn, hjn⟩ : ∃ jn : Nat → List UInt8, jn = fun i => if i = 0 then [] else if i = 1 then r1.xs else r1.xs ++ r2.xs := ⟨_, rfl⟩
  have hs0 : sm 0 = 0 := by rw [hsm]; rfl
  have hs2 : sm 2 = r1.xs.length + r2.xs.length := by rw [hsm]; rfl
  have hst : ∀ i r, i < 2 → [r1, r2][i]? = some r → sm (i + 1) = sm i + r.xs.length ∧ r.xs.length ≤ 10000 ∧ sm i ≤ 10000 ∧ jn (i + 1) = jn i ++ r.xs ∧ (jn i).length ≤ 10000 ∧ 1 ≤ (jn i ++ r.xs).length := fun i r hi hr => by
    have h3 : i = 0 ∨ i = 1 := by omega
    rcases h3 with rfl | rfl
    · injection hr with hr
      subst hr
      rw [hsm, hjn]
      exact ⟨by simp, by omega, by simp, by simp, by simp, by simp; omega⟩
    · injection hr with hr
      subst hr
      rw [hsm, hjn]
      exact ⟨by simp, by omega, by simp; omega, by simp, by simp; omega, by simp; omega⟩
  refine Calls.of_WC Tryz.func105 rfl Tryz.ntmps105 (by simp) ?_
  refine WC.seq (WC.region (WL.assign rfl rfl (WL.nil (WX.then_normal (WC.seq (WC.region (WL.assign rfl rfl (?_))))))))
  refine WL.nil (WX.then_normal (WC.seq (WC.seq (WC.region (WL.move rfl rfl (WL.len Tryz.underlying87 rfl rfl (WL.move rfl rfl (?_))))))))
  refine WL.nil (WX.then_normal (WC.block (?_)))
  refine WC.loop (σ := Nat) (fun i => [(0, .slice ao 2 c), (3, vi (sm i : Int)), (9, .slice ao 2 c), (10, vi 2), (11, vi (i : Int))]) (fun i w' => i ≤ 2 ∧ RS (· < w.heap.size) w' ao c [r1, r2] ∧ Chg Nob w w') (fun i => 2 - i) 0 ⟨rfl, by rw [hs0]; rfl, rfl, rfl, rfl, trivial⟩ ⟨Nat.zero_le _, h, hw⟩ ?_
  clear h hw
  rintro i w1 ⟨hi, h, hw⟩
  refine WC.seq (WC.region (?_))
  refine WL.lss? rfl rfl rfl (fun h12 => ?_) (fun h12 => ?_)
  ·
    refine WL.nil (WX.then_normal (WC.seq (WC.cond_true rfl (WC.skip (WX.then_normal (WC.seq (WC.block (?_))))))))
    refine WC.seq (WC.region (?_))
    obtain ⟨r, hr⟩ : ∃ r, [r1, r2][i]? = some r := ⟨_, List.getElem?_eq_getElem (by simp; omega)⟩
    obtain ⟨e1, e2, e3, -, -, -⟩ := hst i r (by omega) hr
    refine WL.indexT (e := erow) Tryz.underlying87 Tryz.sizeOf26 h.outer rfl rfl ⟨hr, rfl⟩ rfl ?_
    intro bb oo hcc
    refine WL.load Tryz.isAgg26 rfl (hcc 0 _ rfl) rfl ?_
    refine WL.assign rfl rfl (WL.nil (WX.then_normal (WC.seq (WC.region (WL.move rfl rfl (WL.move rfl rfl (WL.len Tryz.underlying26 rfl rfl (?_))))))))
    refine WL.add64 rfl rfl (by omega) rfl (WL.assign rfl rfl (WL.nil (WX.then_normal (WC.seq (WC.region (WL.move rfl rfl (?_)))))))
    refine WL.lssF rfl rfl rfl (by omega) ?_
    refine WL.nil (WX.then_normal (WC.cond_false rfl (WC.skip (WX.block_normal (WX.then_normal (WC.region (WL.add64 rfl rfl (by omega) rfl (?_))))))))
    refine WL.move rfl rfl (WL.nil (?_))
    exact WX.loop_next (i + 1) ⟨rfl, by simp [List.lookup, ev, e1], rfl, rfl, rfl, trivial⟩ ⟨by omega, h, hw⟩ (by omega)
  ·
    refine WL.nil (WX.then_normal (WC.seq (WC.cond_false rfl (WC.exit (WX.then_exit (WX.then_exit (WX.block_here (?_))))))))
    refine WX.then_normal (WC.seq (WC.region (WL.move rfl rfl (?_))))
    have hi2 : i = 2 := by omega
    subst hi2
    rw [hs2]
    have zw1 := hw.size
    refine WL.call eg_110 rfl rfl (grow_calls (r1.xs.length + r2.xs.length) ⟨by omega, by omega⟩) ?_
    rintro v w2 ⟨⟨g, cg, rfl, hg, hge⟩, k2⟩
    have zs_k2 := k2.size
    replace h := h.pure k2
    replace hw := hw.pure k2
    refine WL.assign rfl rfl (WL.nil (WX.then_normal (WC.seq (WC.seq (WC.region (WL.move rfl rfl (WL.len Tryz.underlying87 rfl rfl (?_))))))))
    refine WL.move rfl rfl (WL.nil (WX.then_normal (WC.block (?_))))
    have hj0 : jn 0 = [] := by rw [hjn]; rfl
    refine WC.loop (σ := Nat × Nat × Nat) (fun q => [(0, .slice ao 2 c), (6, .slice (some ⟨q.2.1, 0, none⟩) (jn q.1).length q.2.2), (25, .slice ao 2 c), (26, vi 2), (27, vi (q.1 : Int))]) (fun q w' => q.1 ≤ 2 ∧ RS (· < w.heap.size) w' ao c [r1, r2] ∧ Row (fun b => b = q.2.1) w' 5 eb (some ⟨q.2.1, 0, none⟩) q.2.2 (jn q.1) ∧ w.heap.size ≤ q.2.1 ∧ Chg Nob w w') (fun q => 2 - q.1) (0, g, cg) ⟨rfl, by rw [hj0]; rfl, rfl, rfl, rfl, trivial⟩ ⟨Nat.zero_le _, h, by rw [hj0]; exact hg, by show w.heap.size ≤ g; have := hw.size; omega, hw⟩ ?_
    clear h hw hg
    rintro ⟨i, g, cg⟩ w1 ⟨hi, h, hg, hge, hw⟩
    simp only at hi hg hge
    dsimp only
    refine WC.seq (WC.region (?_))
    refine WL.lss? rfl rfl rfl (fun h28 => ?_) (fun h28 => ?_)
    ·
      refine WL.nil (WX.then_normal (WC.seq (WC.cond_true rfl (WC.skip (WX.then_normal (WC.seq (WC.block (?_))))))))
      refine WC.seq (WC.region (?_))
      obtain ⟨r, hr⟩ : ∃ r, [r1, r2][i]? = some r := ⟨_, List.getElem?_eq_getElem (by simp; omega)⟩
      obtain ⟨-, e2, -, e4, e5, e6⟩ := hst i r (by omega) hr
      refine WL.indexT (e := erow) Tryz.underlying87 Tryz.sizeOf26 h.outer rfl rfl ⟨hr, rfl⟩ rfl ?_
      intro bb oo hcc
      refine WL.load Tryz.isAgg26 rfl (hcc 0 _ rfl) rfl ?_
      refine WL.assign rfl rfl (WL.nil (WX.then_normal (WC.region (WL.move rfl rfl (WL.move rfl rfl (?_))))))
      refine WL.append (e := eb) info_5 rfl Tryz.underlying26 rfl rfl (hg.mono (S' := fun b => w.heap.size ≤ b) (fun b hb => by have : b = g := hb; omega)) ((h.at hr).src Tryz.underlying26) (by constructor <;> omega) (fun b hb => by have := hw.size; omega) rfl ?_
      intro a2 c2 w5 hg2 gg nn
      replace h := h.chg gg.chg (fun b _ h2 h3 => by have := h3.2; omega)
      replace hw := hw.chg gg.chg (fun b h2 h3 => by have := h3.2; omega)
      obtain ⟨g2, rfl⟩ : ∃ g2, a2 = some ⟨g2, 0, none⟩ := by
        rcases gg.fr with e | e
        ·
          exact ⟨g, e⟩
        ·
          rcases hg2.own.2.2 with ⟨rfl, hc0⟩ | ⟨g2, _, _, rfl, _⟩
          ·
            rw [nn rfl] at e6
            exact absurd e6 (by decide)
          ·
            exact ⟨g2, rfl⟩
      have hg3 : Row (fun b => b = g2) _ 5 eb (some ⟨g2, 0, none⟩) c2 (jn i ++ r.xs) := ⟨fun a ea => by injection ea with ea; rw [← ea], hg2.own⟩
      have hge2 : w.heap.size ≤ g2 := hg2.at_ _ rfl
      refine WL.assign rfl rfl (WL.nil (WX.block_normal (WX.then_normal (WC.region (WL.add64 rfl rfl (by omega) rfl (WL.move rfl rfl (WL.nil (?_))))))))
      exact WX.loop_next (i + 1, g2, c2) ⟨rfl, by rw [e4]; rfl, rfl, rfl, rfl, trivial⟩ ⟨by show i + 1 ≤ 2; omega, h, by show Row _ _ _ _ _ _ (jn (i + 1)); rw [e4]; exact hg3, hge2, hw⟩ (by show 2 - (i + 1) < 2 - i; omega)
    ·
      refine WL.nil (WX.then_normal (WC.seq (WC.cond_false rfl (WC.exit (WX.then_exit (WX.then_exit (WX.block_here (?_))))))))
      refine WX.then_normal (WC.seq (WC.region (WL.move rfl rfl (WL.assign rfl rfl (WL.nil (WX.then_normal (WC.ret (?_))))))))
      refine WX.ret1 (.inl rfl) Tryz.results105 rfl ?_
      have hi2 : i = 2 := by omega
      subst hi2
      have e2 : jn 2 = r1.xs ++ r2.xs := by rw [hjn]; rfl
      rw [e2] at hg ⊢
      exact ⟨_, rfl, ⟨g, cg, rfl, hg, hge⟩, hw⟩
theorem scale_calls {w : World} {gf g c : Nat} {xs : List UInt8} (hR : Blk w gf 146 FR) (hr : Row (fun b => b = g) w 5 eb (some ⟨g, 0, none⟩) c xs) (hne : g ≠ gf) (hl : xs.length ≤ 100000) (s : UInt8) :
    Calls Tryz.prog 108 [.pointer (some ⟨gf, 0, none⟩), .slice (some ⟨g, 0, none⟩) xs.length c, v8 s].toArray w (Ret fun v w' => v = .tuple #[] ∧ (∃ ys : List UInt8, ys.length = xs.length ∧ (∀ j, ys.getD j 0 = mul (xs.getD j 0) s) ∧ Row (fun b => b = g) w' 5 eb (some ⟨g, 0, none⟩) c ys) ∧ Chg (fun b => b = g) w w') := by
  have hw := Chg.refl (fun b => b = g) w
  refine Calls.of_WC Tryz.func108 rfl Tryz.ntmps108 (by simp) ?_
  refine WC.seq (WC.region (WL.move rfl rfl (WL.len Tryz.underlying26 rfl rfl (WL.move rfl rfl (WL.nil (WX.then_normal (WC.block (?_))))))))
  refine WC.loop (σ := Nat × List UInt8) (fun q => [(0, .pointer (some ⟨gf, 0, none⟩)), (1, .slice (some ⟨g, 0, none⟩) xs.length c), (2, v8 s), (8, vi xs.length), (9, vi (q.1 : Int))]) (fun q w' => q.1 ≤ xs.length ∧ (q.2.length = xs.length ∧ ∀ j, q.2.getD j 0 = if j < q.1 then mul (xs.getD j 0) s else xs.getD j 0) ∧ Blk w' gf 146 FR ∧ Row (fun b => b = g) w' 5 eb (some ⟨g, 0, none⟩) c q.2 ∧ Chg (fun b => b = g) w w') (fun q => xs.length - q.1) (0, xs) ⟨rfl, rfl, rfl, rfl, rfl, trivial⟩ ⟨Nat.zero_le _, ⟨rfl, fun j => by rw [if_neg (Nat.not_lt_zero j)]⟩, hR, hr, hw⟩ ?_
  clear hR hr hw
  rintro ⟨i, ys⟩ w1 ⟨hi, ⟨hyl, hyv⟩, hR, hr, hw⟩
  simp only at hi hyl hyv hr
  dsimp only
  refine WC.seq (WC.region (?_))
  refine WL.lss? rfl rfl rfl (fun h10 => ?_) (fun h10 => ?_)
  ·
    refine WL.nil (WX.then_normal (WC.seq (WC.cond_true rfl (WC.skip (WX.then_normal (WC.seq (WC.block (?_))))))))
    refine WC.seq (WC.region (WL.move rfl rfl (WL.assign rfl rfl (WL.nil (WX.then_normal (WC.region (WL.move rfl rfl (?_))))))))
    refine WL.move rfl rfl (WL.move rfl rfl (WL.move rfl rfl (WL.move rfl rfl (?_))))
    obtain ⟨y, hy⟩ : ∃ y, ys[i]? = some y := ⟨_, List.getElem?_eq_getElem (by omega)⟩
    refine WL.indexT (e := eb) Tryz.underlying26 Tryz.sizeOf5 hr.rsl (by show some (Value.slice _ xs.length c) = _; rw [hyl]) rfl ⟨hy, rfl⟩ rfl ?_
    intro bb oo hcc
    refine WL.load Tryz.isAgg5 rfl (hcc 0 _ rfl) rfl ?_
    refine WL.move rfl rfl (?_)
    refine WL.call eg_102 rfl rfl (mulR_calls hR y s) ?_
    rintro v w2 ⟨rfl, k2⟩
    have zs_k2 := k2.size
    replace hR := hR.pure k2
    replace hr := hr.pure k2
    replace hw := hw.pure k2
    refine WL.index (j := i) (sz := 1) Tryz.underlying26 Tryz.sizeOf5 rfl rfl rfl (by omega) rfl ?_
    refine WL.storeRow (z := mul y s) i Tryz.sizeOf5 hr rfl rfl rfl (by show 0 + i * 1 = i; omega) (by omega) rfl ?_
    intro w3 z3 hr3 k3
    replace hR := hR.chg k3 (fun e => hne e.symm)
    replace hw := hw.chg k3 (fun x _ h => h)
    refine WL.nil (WX.block_normal (WX.then_normal (WC.region (WL.add64 rfl rfl (by omega) rfl (WL.move rfl rfl (WL.nil (?_)))))))
    refine WX.loop_next (i + 1, ys.set i (mul y s)) ⟨rfl, rfl, rfl, rfl, rfl, trivial⟩ ⟨by show i + 1 ≤ _; omega, ⟨by show (ys.set i _).length = _; rw [List.length_set]; exact hyl, fun j => ?_⟩, hR, hr3, hw⟩ (by show xs.length - (i + 1) < xs.length - i; omega)
    show (ys.set i (mul y s)).getD j 0 = if j < i + 1 then _ else _
    rw [List.getD_eq_getElem?_getD, List.getElem?_set]
    by_cases e : i = j
    ·
      subst e
      have h1 := hyv i
      rw [if_neg (Nat.lt_irrefl i), List.getD_eq_getElem?_getD, hy] at h1
      rw [if_pos rfl, if_pos (by omega), if_pos (by omega), ← h1]
      rfl
    ·
      rw [if_neg e, ← List.getD_eq_getElem?_getD, hyv j]
      by_cases e2 : j < i
      ·
        rw [if_pos e2, if_pos (by omega)]
      ·
        rw [if_neg e2, if_neg (by omega)]
  ·
    refine WL.nil (WX.then_normal (WC.seq (WC.cond_false rfl (WC.exit (WX.then_exit (WX.then_exit (WX.block_here (?_))))))))
    refine WX.ret0 (.inr rfl) Tryz.results108 ?_
    have hi2 : i = xs.length := by omega
    subst hi2
    refine ⟨_, rfl, rfl, ⟨ys, hyl, fun j => ?_, hr⟩, hw⟩
    rw [hyv j]
    by_cases e : j < xs.length
    ·
      rw [if_pos e]
    ·
      rw [if_neg e]
      have e3 : xs.getD j 0 = 0 := by rw [List.getD_eq_getElem?_getD, List.getElem?_eq_none (by omega)]; rfl
      rw [e3, mul_zero_l]
theorem fadd_calls {w : World} {gf g c cr : Nat} {ar : Option Addr} {xs rs : List UInt8} (hR : Blk w gf 146 FR) (hr : Row (fun b => b = g) w 5 eb (some ⟨g, 0, none⟩) c xs) (hs : RSl (fun b => b ≠ g) w eb ar cr rs) (hrl : rs.length = xs.length) (hne : g ≠ gf) (hl : xs.length ≤ 100000) (s : UInt8) :
    Calls Tryz.prog 109 [.pointer (some ⟨gf, 0, none⟩), .slice (some ⟨g, 0, none⟩) xs.length c, .slice ar rs.length cr, v8 s].toArray w (Ret fun v w' => v = .tuple #[] ∧ (∃ ys : List UInt8, ys.length = xs.length ∧ (∀ j, ys.getD j 0 = xs.getD j 0 ^^^ mul (rs.getD j 0) s) ∧ Row (fun b => b = g) w' 5 eb (some ⟨g, 0, none⟩) c ys) ∧ Chg (fun b => b = g) w w') := by
  have hw := Chg.refl (fun b => b = g) w
  refine Calls.of_WC Tryz.func109 rfl Tryz.ntmps109 (by simp) ?_
  refine WC.seq (WC.region (WL.move rfl rfl (WL.len Tryz.underlying26 rfl rfl (WL.move rfl rfl (WL.nil (WX.then_normal (WC.block (?_))))))))
  refine WC.loop (σ := Nat × List UInt8) (fun q => [(0, .pointer (some ⟨gf, 0, none⟩)), (1, .slice (some ⟨g, 0, none⟩) xs.length c), (2, .slice ar rs.length cr), (3, v8 s), (10, vi xs.length), (11, vi (q.1 : Int))]) (fun q w' => q.1 ≤ xs.length ∧ (q.2.length = xs.length ∧ ∀ j, q.2.getD j 0 = if j < q.1 then xs.getD j 0 ^^^ mul (rs.getD j 0) s else xs.getD j 0) ∧ Blk w' gf 146 FR ∧ Row (fun b => b = g) w' 5 eb (some ⟨g, 0, none⟩) c q.2 ∧ RSl (fun b => b ≠ g) w' eb ar cr rs ∧ Chg (fun b => b = g) w w') (fun q => xs.length - q.1) (0, xs) ⟨rfl, rfl, rfl, rfl, rfl, rfl, trivial⟩ ⟨Nat.zero_le _, ⟨rfl, fun j => by rw [if_neg (Nat.not_lt_zero j)]⟩, hR, hr, hs, hw⟩ ?_
  clear hR hr hs hw
  rintro ⟨i, ys⟩ w1 ⟨hi, ⟨hyl, hyv⟩, hR, hr, hs, hw⟩
  simp only at hi hyl hyv hr
  dsimp only
  refine WC.seq (WC.region (?_))
  refine WL.lss? rfl rfl rfl (fun h12 => ?_) (fun h12 => ?_)
  ·
    refine WL.nil (WX.then_normal (WC.seq (WC.cond_true rfl (WC.skip (WX.then_normal (WC.seq (WC.block (?_))))))))
    refine WC.seq (WC.region (WL.move rfl rfl (WL.assign rfl rfl (WL.nil (WX.then_normal (?_))))))
    obtain ⟨y, hy⟩ : ∃ y, ys[i]? = some y := ⟨_, List.getElem?_eq_getElem (by omega)⟩
    obtain ⟨z, hz⟩ : ∃ z, rs[i]? = some z := ⟨_, List.getElem?_eq_getElem (by omega)⟩
    obtain ⟨zb, zo, hza⟩ := hs.place hz
    refine WC.draw (fun b => b = g) [0, 1, 2, 4, 5, 6, 7, 8, 9, 10, 12] [3, 11, 13] mixed rfl rfl (fun wd_1 kd_1 zd_1 => ?_)
    have zs_kd_1 := kd_1.size
    replace hR := hR.pure kd_1
    replace hr := hr.pure kd_1
    replace hs := hs.pure kd_1
    replace hw := hw.pure kd_1
    apply DQ.step (E' := [(1, _)])
    case ho => rfl
    case hs => exact ⟨rfl, trivial⟩
    case hk => rfl
    case h1 =>
      intro wq_3 kq_3
      refine WL.move rfl rfl (?_)
      refine WL.nil ?_
      exact WX.one ⟨rfl, by exact Chg.refl _ _⟩
    apply DQ.step (E' := [(8, _)])
    case ho => rfl
    case hs => exact ⟨rfl, trivial⟩
    case hk => rfl
    case h1 =>
      intro wq_4 kq_4
      refine WL.move rfl rfl (?_)
      refine WL.nil ?_
      exact WX.one ⟨rfl, by exact Chg.refl _ _⟩
    apply DQ.step (E' := [(14, _), (15, _)])
    case ho => rfl
    case hs => exact ⟨rfl, rfl, trivial⟩
    case hk => rfl
    case h1 =>
      intro wq_5 kq_5
      have zs_kq_5 := kq_5.size
      replace hR := hR.chg kq_5 (by intro h1; have h2 : _ = _ := h1; exfalso; omega)
      replace hs := hs.chg kq_5 (by intro x h1 h2; exact h2)
      refine WL.index (j := i) (sz := 1) Tryz.underlying26 Tryz.sizeOf5 rfl rfl rfl (by omega) rfl ?_
      refine WL.nil ?_
      exact WX.one ⟨rfl, by exact Chg.refl _ _⟩
    apply DQ.step (E' := [(0, _)])
    case ho => rfl
    case hs => exact ⟨rfl, trivial⟩
    case hk => rfl
    case h1 =>
      intro wq_6 kq_6
      refine WL.move rfl rfl (?_)
      refine WL.nil ?_
      exact WX.one ⟨rfl, by exact Chg.refl _ _⟩
    apply DQ.step (E' := [(2, _)])
    case ho => rfl
    case hs => exact ⟨rfl, trivial⟩
    case hk => rfl
    case h1 =>
      intro wq_7 kq_7
      refine WL.move rfl rfl (?_)
      refine WL.nil ?_
      exact WX.one ⟨rfl, by exact Chg.refl _ _⟩
    apply DQ.step (E' := [(8, _)])
    case ho => rfl
    case hs => exact ⟨rfl, trivial⟩
    case hk => rfl
    case h1 =>
      intro wq_8 kq_8
      refine WL.move rfl rfl (?_)
      refine WL.nil ?_
      exact WX.one ⟨rfl, by exact Chg.refl _ _⟩
    apply DQ.step (E' := [(19, _), (20, _)])
    case ho => rfl
    case hs => exact ⟨rfl, rfl, trivial⟩
    case hk => rfl
    case h1 =>
      intro wq_9 kq_9
      have zs_kq_9 := kq_9.size
      replace hR := hR.chg kq_9 (by intro h1; have h2 : _ = _ := h1; exfalso; omega)
      replace hs := hs.chg kq_9 (by intro x h1 h2; exact h2)
      have hsq := hs
      rw [hza] at hsq
      refine WL.indexC (e := eb) hsq Tryz.underlying26 Tryz.sizeOf5 (by show some (Value.slice ar rs.length cr) = _; rw [hza]) rfl ⟨hz, rfl⟩ rfl ?_
      refine WL.nil ?_
      exact WX.one ⟨rfl, by exact Chg.refl _ _⟩
    apply DQ.step (E' := [(21, _)])
    case ho => rfl
    case hs => exact ⟨rfl, trivial⟩
    case hk => rfl
    case h1 =>
      intro wq_10 kq_10
      have zs_kq_10 := kq_10.size
      replace hR := hR.chg kq_10 (by intro h1; have h2 : _ = _ := h1; exfalso; omega)
      replace hs := hs.chg kq_10 (by intro x h1 h2; exact h2)
      have hsq := hs
      rw [hza] at hsq
      refine WL.load Tryz.isAgg5 rfl (hsq.cellsAt hz 0 _ rfl) rfl ?_
      refine WL.nil ?_
      exact WX.one ⟨rfl, by exact Chg.refl _ _⟩
    apply DQ.step (E' := [(3, _)])
    case ho => rfl
    case hs => exact ⟨rfl, trivial⟩
    case hk => rfl
    case h1 =>
      intro wq_11 kq_11
      refine WL.move rfl rfl (?_)
      refine WL.nil ?_
      exact WX.one ⟨rfl, by exact Chg.refl _ _⟩
    apply DQ.step (E' := [(18, _), (22, _), (23, _)])
    case ho => rfl
    case hs => exact ⟨rfl, rfl, rfl, trivial⟩
    case hk => rfl
    case h1 =>
      intro wq_12 kq_12
      have zs_kq_12 := kq_12.size
      replace hR := hR.chg kq_12 (by intro h1; have h2 : _ = _ := h1; exfalso; omega)
      replace hs := hs.chg kq_12 (by intro x h1 h2; exact h2)
      refine WL.call eg_102 rfl rfl (mulR_calls hR z s) ?_
      rintro v w2 ⟨rfl, k2⟩
      have zs_k2 := k2.size
      replace hR := hR.pure k2
      replace hs := hs.pure k2
      refine WL.nil ?_
      exact WX.one ⟨rfl, by assumption⟩
    apply DQ.step (E' := [(14, _), (15, _)])
    case ho => rfl
    case hs => exact ⟨rfl, rfl, trivial⟩
    case hk => rfl
    case h1 =>
      intro wq_13 kq_13
      have zs_kq_13 := kq_13.size
      replace hR := hR.chg kq_13 (by intro h1; have h2 : _ = _ := h1; exfalso; omega)
      replace hs := hs.chg kq_13 (by intro x h1 h2; exact h2)
      refine WL.index (j := i) (sz := 1) Tryz.underlying26 Tryz.sizeOf5 rfl rfl rfl (by omega) rfl ?_
      refine WL.nil ?_
      exact WX.one ⟨rfl, by exact Chg.refl _ _⟩
    refine DQ.done (fun hd_2 => ?_)
    refine DL.step [(16, _)] rfl ⟨rfl, trivial⟩ rfl (fun wq_14 kq_14 => ?_)
    have zs_kq_14 := kq_14.size
    replace hR := hR.pure kq_14
    replace hr := hr.pure kq_14
    replace hs := hs.pure kq_14
    replace hw := hw.pure kq_14
    replace hd_2 := hd_2.pure kq_14
    refine WL.load Tryz.isAgg5 rfl ((hr.rsl.cellsAt hy) 0 _ rfl) rfl ?_
    refine WL.nil ?_
    refine WX.one ⟨hd_2, ?_⟩
    refine DL.step [(17, _), (24, _)] rfl ⟨rfl, rfl, trivial⟩ rfl (fun wq_15 kq_15 => ?_)
    have zs_kq_15 := kq_15.size
    replace hR := hR.pure kq_15
    replace hr := hr.pure kq_15
    replace hs := hs.pure kq_15
    replace hw := hw.pure kq_15
    replace hd_2 := hd_2.pure kq_15
    refine WL.num rfl rfl (n_xor8 _ _ _ _) rfl (?_)
    refine WL.nil ?_
    refine WX.one ⟨hd_2, ?_⟩
    refine DL.step [(26, _), (25, _)] rfl ⟨rfl, rfl, trivial⟩ rfl (fun wq_16 kq_16 => ?_)
    have zs_kq_16 := kq_16.size
    replace hR := hR.pure kq_16
    replace hr := hr.pure kq_16
    replace hs := hs.pure kq_16
    replace hw := hw.pure kq_16
    replace hd_2 := hd_2.pure kq_16
    refine WL.storeRow (z := y ^^^ mul z s) i Tryz.sizeOf5 hr rfl rfl rfl (by show 0 + i * 1 = i; omega) (by omega) rfl ?_
    intro w3 z3 hr3 k3
    have zs_k3 := k3.size
    replace hR := hR.chg k3 (by intro h1; have h2 : _ = _ := h1; exfalso; omega)
    replace hs := hs.chg k3 (by intro x h1 h2; exact h2)
    replace hw := hw.chg k3 (by intro x h1 h2; exact h2)
    replace hd_2 := hd_2.chg k3 (by intro x h1 h2; exact h2)
    refine WL.nil ?_
    refine WX.one0 (v := undef) ⟨hd_2, ?_⟩
    refine DL.done (fun we_17 ke_17 => ?_)
    have zs_ke_17 := ke_17.size
    replace hR := hR.pure ke_17
    replace hs := hs.pure ke_17
    replace hw := hw.pure ke_17
    replace hd_2 := hd_2.pure ke_17
    replace hr3 := hr3.pure ke_17
    refine WX.block_normal (WX.then_normal (WC.region (WL.add64 rfl rfl (by omega) rfl (WL.move rfl rfl (WL.nil (?_))))))
    refine WX.loop_next (i + 1, ys.set i (y ^^^ mul z s)) ⟨rfl, rfl, rfl, rfl, rfl, rfl, trivial⟩ ⟨by show i + 1 ≤ _; omega, ⟨by show (ys.set i _).length = _; rw [List.length_set]; exact hyl, fun j => ?_⟩, hR, hr3, hs, hw⟩ (by show xs.length - (i + 1) < xs.length - i; omega)
    show (ys.set i (y ^^^ mul z s)).getD j 0 = if j < i + 1 then _ else _
    rw [List.getD_eq_getElem?_getD, List.getElem?_set]
    by_cases e : i = j
    ·
      subst e
      have h1 := hyv i
      rw [if_neg (Nat.lt_irrefl i), List.getD_eq_getElem?_getD, hy] at h1
      have h2 : rs.getD i 0 = z := by rw [List.getD_eq_getElem?_getD, hz]; rfl
      rw [if_pos rfl, if_pos (by omega), if_pos (by omega), ← h1, h2]
      rfl
    ·
      rw [if_neg e, ← List.getD_eq_getElem?_getD, hyv j]
      by_cases e2 : j < i
      ·
        rw [if_pos e2, if_pos (by omega)]
      ·
        rw [if_neg e2, if_neg (by omega)]
  ·
    refine WL.nil (WX.then_normal (WC.seq (WC.cond_false rfl (WC.exit (WX.then_exit (WX.then_exit (WX.block_here (?_))))))))
    refine WX.ret0 (.inr rfl) Tryz.results109 ?_
    have hi2 : i = xs.length := by omega
    subst hi2
    refine ⟨_, rfl, rfl, ⟨ys, hyl, fun j => ?_, hr⟩, hw⟩
    rw [hyv j]
    by_cases e : j < xs.length
    ·
      rw [if_pos e]
    ·
      rw [if_neg e]
      have e3 : rs.getD j 0 = 0 := by rw [List.getD_eq_getElem?_getD, List.getElem?_eq_none (by omega)]; rfl
      rw [e3, mul_zero_l, xor_zero']
end Go.Proofs.YtggecdldnpildaaGreat
namespace Go.HL
open Go.RowKit
/-! two places of a list change -/
def sg (a b i : Nat) : Nat := if i = a then b else if i = b then a else i
theorem sg_sg (a b i : Nat) : sg a b (sg a b i) = i := by
  unfold sg
  by_cases e1 : i = a
  · rw [if_pos e1]
    by_cases e2 : b = a
    · rw [if_pos e2]; omega
    · rw [if_neg e2, if_pos rfl]; omega
  · rw [if_neg e1]
    by_cases e2 : i = b
    · rw [if_pos e2, if_pos rfl]; omega
    · rw [if_neg e2, if_neg e1, if_neg e2]
theorem sg_inj {a b i j : Nat} (h : sg a b i = sg a b j) : i = j := by
  rw [← sg_sg a b i, h, sg_sg]
theorem swap_get {α : Type} {l : List α} {a b : Nat} {x y : α} (ha : l[a]? = some x) (hb : l[b]? = some y) (i : Nat) : ((l.set a y).set b x)[i]? = l[sg a b i]? := by
  have hal := (List.getElem?_eq_some_iff.1 ha).1
  have hbl := (List.getElem?_eq_some_iff.1 hb).1
  rw [List.getElem?_set, List.length_set, List.getElem?_set]
  unfold sg
  by_cases e1 : b = i
  · subst e1
    rw [if_pos rfl, if_pos hbl]
    by_cases e2 : b = a
    · subst e2; rw [if_pos rfl]; exact ha.symm
    · rw [if_neg e2, if_pos rfl]; exact ha.symm
  · rw [if_neg e1]
    by_cases e2 : a = i
    · subst e2; rw [if_pos rfl, if_pos hal, if_pos rfl]; exact hb.symm
    · rw [if_neg e2, if_neg (fun e => e2 e.symm), if_neg (fun e => e1 e.symm)]
section
variable {L N n1 : Nat} {w w' : World} {T U : TypeId} {ao : Option Addr} {c : Nat} {gs : List Nat} {rs : List Rw} {M : Nat → Prop}
theorem AR.chgN (h : AR L N n1 w T U ao c gs rs) (k : Chg M w w') (hd : ∀ x, L ≤ x ∨ N ≤ x → M x → False) : AR L N n1 w' T U ao c gs rs :=
  ⟨h.outer.chg k (fun b _ hs hm => hd b (.inr hs.1) hm), fun i g r hg hr => by
    obtain ⟨h1, h2, h3, h4⟩ := h.inner i g r hg hr
    exact ⟨h1, h2.chg k (fun b _ hs hm => hd b (.inl (by have h5 : b = g := hs; have := h.low i g hg; omega)) hm), h3, h4⟩, h.len, h.apart, h.low⟩
theorem AR.up (h : AR L N n1 w T U ao c gs rs) {n2 : Nat} (hn : n1 ≤ n2) : AR L N n2 w T U ao c gs rs :=
  ⟨h.outer.mono (fun b hb => ⟨hb.1, by have := hb.2; omega⟩), fun i g r hg hr => by
    obtain ⟨h1, h2, h3, h4⟩ := h.inner i g r hg hr
    exact ⟨h1, h2, by omega, h4⟩, h.len, h.apart, h.low⟩
theorem AR.swap (h : AR L N n1 w T U ao c gs rs) {a b ga gb : Nat} {ra rb : Rw} (hga : gs[a]? = some ga) (hgb : gs[b]? = some gb) (hra : rs[a]? = some ra) (hrb : rs[b]? = some rb) (k : Chg (Eqb ao) w w')
    (ho : Row (fun x => N ≤ x ∧ x < n1) w' T erow ao c ((rs.set a rb).set b ra)) : AR L N n1 w' T U ao c ((gs.set a gb).set b ga) ((rs.set a rb).set b ra) := by
  refine ⟨ho, fun i g r hg hr => ?_, by simp [h.len], fun i j g h1 h2 => ?_, fun i g h1 => ?_⟩
  · rw [swap_get hga hgb] at hg
    rw [swap_get hra hrb] at hr
    obtain ⟨h1, h2, h3, h4⟩ := h.inner _ g r hg hr
    exact ⟨h1, h2.chg k (fun x _ hx hm => h4 (by have e : x = g := hx; rw [← e]; exact hm)), h3, h4⟩
  · rw [swap_get hga hgb] at h1 h2
    exact sg_inj (h.apart _ _ g h1 h2)
  · rw [swap_get hga hgb] at h1
    exact h.low _ g h1
end
def mx (rs : List Rw) : List (List UInt8) := rs.map (·.xs)
theorem mx_at {rs : List Rw} {i : Nat} {r : Rw} (h : rs[i]? = some r) : (mx rs)[i]? = some r.xs := by simp [mx, h]
theorem mx_len (rs : List Rw) : (mx rs).length = rs.length := by simp [mx]
theorem fn_row {m : List (List UInt8)} {i : Nat} {r : Option (List UInt8)} (h : m[i]? = r) (j : Nat) : fn m i j = (r.getD []).getD j 0 := by
  have e : m.getD i [] = r.getD [] := by rw [List.getD_eq_getElem?_getD, h]
  rw [fn, e]
theorem fn_mx {rs : List Rw} {i : Nat} {r : Rw} (h : rs[i]? = some r) (j : Nat) : fn (mx rs) i j = r.xs.getD j 0 := by
  rw [fn_row (mx_at h)]
  rfl
theorem fn_swap {rs : List Rw} {a b : Nat} {ra rb : Rw} (hra : rs[a]? = some ra) (hrb : rs[b]? = some rb) (i j : Nat) : fn (mx ((rs.set a rb).set b ra)) i j = fn (mx rs) (sg a b i) j := by
  have e : (mx ((rs.set a rb).set b ra))[i]? = (mx rs)[sg a b i]? := by
    rw [mx, mx, List.getElem?_map, List.getElem?_map, swap_get hra hrb]
  rw [fn_row e, fn_row rfl]
theorem fn_setr {rs : List Rw} {k : Nat} (hk : k < rs.length) (q : Rw) (i j : Nat) : fn (mx (rs.set k q)) i j = if i = k then q.xs.getD j 0 else fn (mx rs) i j := by
  have e : mx (rs.set k q) = (mx rs).set k q.xs := by rw [mx, mx, List.map_set]
  rw [e, fn_set (by rw [mx_len]; exact hk)]
end Go.HL
namespace Go.Proofs.YtggecdldnpildaaGreat
open Go.RowKit Go.HL
set_option maxRecDepth 100000

theorem invR_calls {w : World} {g : Nat} (hR : Blk w g 146 FR) (a : UInt8) : Calls Tryz.prog 107 [.pointer (some ⟨g, 0, none⟩), v8 a].toArray w (Ret fun v w' => v = .tuple #[v8 (inv a), vi (if a = 0 then 1 else 0)] ∧ Chg Nob w w') := by
  have hw := Chg.refl Nob w
  have hla := L_lt a
  refine Calls.of_WC Tryz.func107 rfl Tryz.ntmps107 (by simp) ?_
  refine WC.seq (WC.region (WL.assign rfl rfl (WL.assign rfl rfl (WL.nil (WX.then_normal (WC.seq (WC.seq (?_))))))))
  refine WC.region (WL.move rfl rfl (?_))
  refine WL.eql? rfl rfl rfl (fun h7 => ?_) (fun h7 => ?_)
  ·
    refine WL.nil (WX.then_normal (WC.cond_true rfl (WC.seq (WC.region (WL.assign rfl rfl (WL.assign rfl rfl (WL.nil (?_))))))))
    refine WX.then_normal (WC.ret (WX.then_ret (?_)))
    refine WX.ret2 (.inl rfl) Tryz.results107 rfl rfl ?_
    have ha := u8_zero h7
    subst ha
    exact ⟨_, rfl, rfl, hw⟩
  ·
    refine WL.nil (WX.then_normal (WC.cond_false rfl (WC.skip (WX.then_normal (WC.seq (WC.region (WL.move rfl rfl (?_))))))))
    refine WL.call eg_106 rfl rfl (readyR_calls hR) ?_
    rintro v w2 ⟨rfl, k⟩
    have zs_k := k.size
    replace hR := hR.pure k
    replace hw := hw.pure k
    refine WL.assign rfl rfl (WL.nil (WX.then_normal (WC.seq (?_))))
    refine WC.draw (Nob) [0, 1, 2, 3, 4, 5, 6, 7, 8, 9, 10, 11, 12, 13] [] mixed rfl rfl (fun wd_1 kd_1 zd_1 => ?_)
    have zs_kd_1 := kd_1.size
    replace hR := hR.pure kd_1
    replace hw := hw.pure kd_1
    apply DQ.step (E' := [(0, _)])
    case ho => rfl
    case hs => exact ⟨rfl, trivial⟩
    case hk => rfl
    case h1 =>
      intro wq_2 kq_2
      refine WL.move rfl rfl (?_)
      refine WL.nil ?_
      exact WX.one ⟨rfl, by exact Chg.refl _ _⟩
    apply DQ.step (E' := [(0, _)])
    case ho => rfl
    case hs => exact ⟨rfl, trivial⟩
    case hk => rfl
    case h1 =>
      intro wq_3 kq_3
      refine WL.move rfl rfl (?_)
      refine WL.nil ?_
      exact WX.one ⟨rfl, by exact Chg.refl _ _⟩
    apply DQ.step (E' := [(1, _)])
    case ho => rfl
    case hs => exact ⟨rfl, trivial⟩
    case hk => rfl
    case h1 =>
      intro wq_4 kq_4
      refine WL.move rfl rfl (?_)
      refine WL.nil ?_
      exact WX.one ⟨rfl, by exact Chg.refl _ _⟩
    apply DQ.step (E' := [(11, _)])
    case ho => rfl
    case hs => exact ⟨rfl, trivial⟩
    case hk => rfl
    case h1 =>
      intro wq_5 kq_5
      refine WL.nilCheck rfl rfl (?_)
      refine WL.nil ?_
      exact WX.one ⟨rfl, by exact Chg.refl _ _⟩
    apply DQ.step (E' := [(13, _)])
    case ho => rfl
    case hs => exact ⟨rfl, trivial⟩
    case hk => rfl
    case h1 =>
      intro wq_6 kq_6
      refine WL.fieldAddr (fld_146_2) rfl rfl (?_)
      refine WL.nil ?_
      exact WX.one ⟨rfl, by exact Chg.refl _ _⟩
    apply DQ.step (E' := [(14, _), (12, _)])
    case ho => rfl
    case hs => exact ⟨rfl, rfl, trivial⟩
    case hk => rfl
    case h1 =>
      intro wq_7 kq_7
      have zs_kq_7 := kq_7.size
      replace hR := hR.pure kq_7
      replace hw := hw.pure kq_7
      refine WL.indexArrO a.toNat Tryz.underlying144 Tryz.sizeOf3 rfl rfl ⟨rfl, a.toNat_lt⟩ rfl ?_
      refine WL.nil ?_
      exact WX.one ⟨rfl, by exact Chg.refl _ _⟩
    apply DQ.step (E' := [(15, _)])
    case ho => rfl
    case hs => exact ⟨rfl, trivial⟩
    case hk => rfl
    case h1 =>
      intro wq_8 kq_8
      have zs_kq_8 := kq_8.size
      replace hR := hR.pure kq_8
      replace hw := hw.pure kq_8
      refine WL.loadB Tryz.isAgg3 hR rfl (FR_l a) rfl ?_
      refine WL.nil ?_
      exact WX.one ⟨rfl, by exact Chg.refl _ _⟩
    apply DQ.step (E' := [(16, _)])
    case ho => rfl
    case hs => exact ⟨rfl, trivial⟩
    case hk => rfl
    case h1 =>
      intro wq_9 kq_9
      refine WL.sub64 rfl rfl (by omega) rfl (?_)
      refine WL.nil ?_
      exact WX.one ⟨rfl, by exact Chg.refl _ _⟩
    apply DQ.step (E' := [(10, _)])
    case ho => rfl
    case hs => exact ⟨rfl, trivial⟩
    case hk => rfl
    case h1 =>
      intro wq_10 kq_10
      refine WL.nilCheck rfl rfl (?_)
      refine WL.nil ?_
      exact WX.one ⟨rfl, by exact Chg.refl _ _⟩
    apply DQ.step (E' := [(18, _)])
    case ho => rfl
    case hs => exact ⟨rfl, trivial⟩
    case hk => rfl
    case h1 =>
      intro wq_11 kq_11
      refine WL.fieldAddr (fld_146_1) rfl rfl (?_)
      refine WL.nil ?_
      exact WX.one ⟨rfl, by exact Chg.refl _ _⟩
    apply DQ.step (E' := [(19, _), (17, _)])
    case ho => rfl
    case hs => exact ⟨rfl, rfl, trivial⟩
    case hk => rfl
    case h1 =>
      intro wq_12 kq_12
      have zs_kq_12 := kq_12.size
      replace hR := hR.pure kq_12
      replace hw := hw.pure kq_12
      refine WL.indexArrO (255 - L a) Tryz.underlying143 Tryz.sizeOf5 rfl rfl ⟨by omega, by omega⟩ rfl ?_
      refine WL.nil ?_
      exact WX.one ⟨rfl, by exact Chg.refl _ _⟩
    apply DQ.step (E' := [(20, _)])
    case ho => rfl
    case hs => exact ⟨rfl, trivial⟩
    case hk => rfl
    case h1 =>
      intro wq_13 kq_13
      have zs_kq_13 := kq_13.size
      replace hR := hR.pure kq_13
      replace hw := hw.pure kq_13
      refine WL.loadB Tryz.isAgg5 hR rfl (FR_e (by omega)) rfl ?_
      refine WL.nil ?_
      exact WX.one ⟨rfl, by exact Chg.refl _ _⟩
    apply DQ.step (E' := [(21, _)])
    case ho => rfl
    case hs => exact ⟨rfl, trivial⟩
    case hk => rfl
    case h1 =>
      intro wq_14 kq_14
      refine WL.assign rfl rfl (?_)
      refine WL.nil ?_
      exact WX.one ⟨rfl, by exact Chg.refl _ _⟩
    apply DQ.step (E' := [])
    case ho => rfl
    case hs => exact trivial
    case hk => rfl
    case h1 =>
      intro wq_15 kq_15
      refine WL.assign rfl rfl (?_)
      refine WL.nil ?_
      exact WX.one ⟨rfl, by exact Chg.refl _ _⟩
    refine DQ.done (fun _ => ?_)
    refine DL.done (fun we_16 ke_16 => ?_)
    have zs_ke_16 := ke_16.size
    replace hR := hR.pure ke_16
    replace hw := hw.pure ke_16
    refine WX.then_normal (WC.ret (?_))
    refine WX.ret2 (.inl rfl) Tryz.results107 rfl rfl ?_
    refine ⟨_, rfl, ?_, hw⟩
    rw [inv, if_neg (u8_ne h7), if_neg (u8_ne h7)]
/-- what the built rows are -/
structure Blt (rs ms : List Rw) (rgt : List UInt8) (i : Nat) : Prop where
  len : ms.length = i
  row : ∀ (j : Nat) (r q : Rw), rs[j]? = some r → ms[j]? = some q → ∃ y, rgt[j]? = some y ∧ q.xs = r.xs ++ [y] ∧ r.xs.length = rs.length
theorem Blt.snoc {rs ms : List Rw} {rgt : List UInt8} {i : Nat} (h : Blt rs ms rgt i) {r q : Rw} {y : UInt8} (hr : rs[i]? = some r) (hy : rgt[i]? = some y) (hq : q.xs = r.xs ++ [y]) (hl : r.xs.length = rs.length) : Blt rs (ms ++ [q]) rgt (i + 1) := by
  refine ⟨by simp [h.len], fun j r' q' h1 h2 => ?_⟩
  rcases get_snoc h2 with h3 | ⟨h3, h4⟩
  · exact h.row j r' q' h1 h3
  · subst h4
    rw [h3, h.len, hr] at h1
    injection h1 with h1
    subst h1
    exact ⟨y, by rw [h3, h.len]; exact hy, hq, hl⟩
end Go.Proofs.YtggecdldnpildaaGreat
namespace Go.Proofs.YtggecdldnpildaaGreat
open Go.RowKit Go.HL
set_option maxRecDepth 100000

theorem Blt.fin {rs ms : List Rw} {rgt : List UInt8} (h : Blt rs ms rgt rs.length) : (∀ i j, i < rs.length → j < rs.length → fn (mx ms) i j = fn (mx rs) i j) ∧ (∀ i, i < rs.length → fn (mx ms) i rs.length = rgt.getD i 0) ∧ ∀ q ∈ ms, q.xs.length = rs.length + 1 := by
  have key : ∀ i, i < rs.length → ∃ (r q : Rw) (y : UInt8), rs[i]? = some r ∧ ms[i]? = some q ∧ rgt[i]? = some y ∧ q.xs = r.xs ++ [y] ∧ r.xs.length = rs.length := fun i hi => by
    have h1 : rs[i]? = some (rs[i]'hi) := List.getElem?_eq_getElem hi
    have h2 : ms[i]? = some (ms[i]'(by rw [h.len]; exact hi)) := List.getElem?_eq_getElem _
    obtain ⟨y, h3, h4, h5⟩ := h.row i _ _ h1 h2
    exact ⟨_, _, y, h1, h2, h3, h4, h5⟩
  refine ⟨fun i j hi hj => ?_, fun i hi => ?_, fun q hq => ?_⟩
  · obtain ⟨r, q, y, h1, h2, h3, h4, h5⟩ := key i hi
    rw [fn_mx h2, fn_mx h1, h4, List.getD_eq_getElem?_getD, List.getElem?_append_left (by omega), ← List.getD_eq_getElem?_getD]
  · obtain ⟨r, q, y, h1, h2, h3, h4, h5⟩ := key i hi
    rw [fn_mx h2, h4, List.getD_eq_getElem?_getD, List.getElem?_append_right (by omega), h5, Nat.sub_self]
    have e : rgt.getD i 0 = y := by rw [List.getD_eq_getElem?_getD, h3]; rfl
    rw [e]
    rfl
  · obtain ⟨i, hi, rfl⟩ := List.getElem_of_mem hq
    obtain ⟨r, q, y, h1, h2, h3, h4, h5⟩ := key i (by rw [← h.len]; exact hi)
    rw [List.getElem?_eq_getElem hi] at h2
    injection h2 with h2
    rw [h2, h4]
    simp [h5]
set_option maxHeartbeats 16000000 in
theorem Solve_calls {w : World} {gf cr c : Nat} {ar ao : Option Addr} {rgt : List UInt8} {rs : List Rw} (hF : Fld w gf) (h : RS (fun b => b ≠ gf) w ao c rs) (hr : RSl (fun b => b ≠ gf) w eb ar cr rgt) (hl1 : rs.length ≤ 9223372036854775807) (hl2 : rgt.length ≤ 9223372036854775807) :
    Calls Tryz.prog 101 [.pointer (some ⟨gf, 0, none⟩), .slice ao rs.length c, .slice ar rgt.length cr].toArray w (Ret fun v w' => (∃ ao2 c2 out e, v = .tuple #[.slice ao2 out.length c2, vi e] ∧ SolR (mx rs) rgt out e ∧ Row (w.heap.size ≤ ·) w' 5 eb ao2 c2 out) ∧ Fld w' gf ∧ Chg (fun x => x = gf) w w') := by
  have hw := Chg.refl (fun x => x = gf) w
  have lgf := hF.lt
  have hsh : ∀ {P : Prop}, (ShapeOk (mx rs) rgt → P) → (¬ P → ¬ ShapeOk (mx rs) rgt) := fun hp hn hs => hn (hp hs)
  have hml := mx_len rs
  replace hr := hr.lt
  replace h := (⟨h.outer.lt, fun r hr => (h.inner r hr).lt⟩ : RS (fun b => b ≠ gf ∧ b < w.heap.size) w ao c rs)
  refine Calls.of_WC Tryz.func101 rfl Tryz.ntmps101 (by simp) ?_
  refine WC.seq (WC.region (WL.assign rfl rfl (WL.assign rfl rfl (WL.nil (WX.then_normal (WC.seq (WC.region (?_))))))))
  refine WL.move rfl rfl (WL.len Tryz.underlying87 rfl rfl (WL.assign rfl rfl (WL.nil (WX.then_normal (WC.seq (WC.seq (WC.region (?_))))))))
  refine WL.move rfl rfl (?_)
  refine WL.lss? rfl rfl rfl (fun h22 => ?_) (fun h22 => ?_)
  ·
    refine WL.move rfl rfl (WL.pass rfl rfl rfl rfl (WL.pass rfl rfl rfl rfl (WL.pickT rfl rfl rfl (WL.move rfl rfl (WL.pass rfl rfl rfl rfl (WL.pass rfl rfl rfl rfl (WL.pass rfl rfl rfl rfl (?_))))))))
    refine WL.pass rfl rfl rfl rfl (WL.pickT rfl rfl rfl (WL.nil (WX.then_normal (WC.cond_true rfl (WC.seq (WC.region (WL.assign rfl rfl (?_))))))))
    refine WL.assign rfl rfl (WL.nil (WX.then_normal (WC.ret (WX.then_ret (?_)))))
    refine WX.ret2 (.inl rfl) Tryz.results101 rfl rfl ?_
    refine ⟨_, rfl, ⟨none, 0, [], 1, rfl, .inl ⟨fun hs => ?_, rfl, rfl⟩, Row.nil _ _ _ _⟩, hF, hw⟩
    have hs1 := hs.1
    have hs2 := hs.2.1
    rw [hml] at hs1 hs2
    omega
  ·
    refine WL.move rfl rfl (WL.want rfl rfl rfl (WL.move rfl rfl (WL.want rfl rfl rfl (?_))))
    refine WL.gtr? rfl rfl rfl (fun h25 => ?_) (fun h25 => ?_)
    ·
      refine WL.pickF rfl rfl rfl (WL.move rfl rfl (WL.pass rfl rfl rfl rfl (WL.pass rfl rfl rfl rfl (WL.pass rfl rfl rfl rfl (WL.pass rfl rfl rfl rfl (WL.pickT rfl rfl rfl (WL.nil (?_))))))))
      refine WX.then_normal (WC.cond_true rfl (WC.seq (WC.region (WL.assign rfl rfl (WL.assign rfl rfl (WL.nil (WX.then_normal (?_))))))))
      refine WC.ret (WX.then_ret (?_))
      refine WX.ret2 (.inl rfl) Tryz.results101 rfl rfl ?_
      refine ⟨_, rfl, ⟨none, 0, [], 1, rfl, .inl ⟨fun hs => ?_, rfl, rfl⟩, Row.nil _ _ _ _⟩, hF, hw⟩
      have hs1 := hs.1
      have hs2 := hs.2.1
      rw [hml] at hs1 hs2
      omega
    ·
      refine WL.pickF rfl rfl rfl (WL.move rfl rfl (WL.want rfl rfl rfl (WL.move rfl rfl (WL.want rfl rfl rfl (WL.len Tryz.underlying26 rfl rfl (WL.want rfl rfl rfl (WL.move rfl rfl (?_))))))))
      refine WL.want rfl rfl rfl (?_)
      refine WL.neq? rfl rfl rfl (fun h31 => ?_) (fun h31 => ?_)
      ·
        refine WL.pickF rfl rfl rfl (WL.nil (WX.then_normal (WC.cond_true rfl (WC.seq (WC.region (WL.assign rfl rfl (WL.assign rfl rfl (?_))))))))
        refine WL.nil (WX.then_normal (WC.ret (WX.then_ret (?_))))
        refine WX.ret2 (.inl rfl) Tryz.results101 rfl rfl ?_
        refine ⟨_, rfl, ⟨none, 0, [], 1, rfl, .inl ⟨fun hs => ?_, rfl, rfl⟩, Row.nil _ _ _ _⟩, hF, hw⟩
        have hs1 := hs.1
        have hs2 := hs.2.1
        rw [hml] at hs1 hs2
        omega
      ·
        refine WL.pickF rfl rfl rfl (WL.nil (WX.then_normal (WC.cond_false rfl (WC.skip (WX.then_normal (WC.seq (WC.region (?_))))))))
        refine WL.assign rfl rfl (WL.nil (WX.then_normal (WC.seq (WC.seq (WC.region (WL.move rfl rfl (WL.len Tryz.underlying87 rfl rfl (?_))))))))
        refine WL.move rfl rfl (WL.nil (WX.then_normal (WC.block (?_))))
        have hbnd : (1 ≤ rs.length ∧ rs.length ≤ 8) ∧ rgt.length = rs.length := by omega
        refine WC.loop (σ := Nat × (Option Addr × Nat × Nat × List Nat × List Rw)) (fun q => [(0, .pointer (some ⟨gf, 0, none⟩)), (2, .slice ar rgt.length cr), (8, vi rs.length), (9, .slice q.2.1 q.2.2.2.2.2.length q.2.2.1), (33, .slice ao rs.length c), (34, vi rs.length), (35, vi (q.1 : Int))])
          (fun q w' => (q.1 ≤ rs.length ∧ Blt rs q.2.2.2.2.2 rgt q.1) ∧ AR w.heap.size w.heap.size q.2.2.2.1 w' 26 5 q.2.1 q.2.2.1 q.2.2.2.2.1 q.2.2.2.2.2 ∧ q.2.2.2.1 ≤ w'.heap.size ∧ w.heap.size ≤ q.2.2.2.1 ∧ Fld w' gf ∧ RS (fun b => b ≠ gf ∧ b < w.heap.size) w' ao c rs ∧ RSl (fun b => b ≠ gf ∧ b < w.heap.size) w' eb ar cr rgt ∧ Chg (fun x => x = gf) w w') (fun q => rs.length - q.1) (0, none, 0, w.heap.size, [], []) ⟨rfl, rfl, rfl, rfl, rfl, rfl, rfl, trivial⟩ ⟨⟨Nat.zero_le _, ⟨rfl, fun j r q _ hq => by simp at hq⟩⟩, AR.nil _ _ _ _ _ _, Nat.le_refl _, Nat.le_refl _, hF, h, hr, hw⟩ ?_
        clear hF h hr hw
        rintro ⟨i, am, cm, n1, gs, ms⟩ w1 ⟨⟨hi, hB⟩, hA, hn1, hwn, hF, h, hr, hw⟩
        simp only at hi hB hA hn1 hwn
        dsimp only
        refine WC.seq (WC.region (?_))
        refine WL.lss? rfl rfl rfl (fun h36 => ?_) (fun h36 => ?_)
        ·
          refine WL.nil (WX.then_normal (WC.seq (WC.cond_true rfl (WC.skip (WX.then_normal (WC.seq (WC.block (?_))))))))
          refine WC.seq (WC.region (WL.move rfl rfl (?_)))
          obtain ⟨r, hri⟩ : ∃ r, rs[i]? = some r := ⟨_, List.getElem?_eq_getElem (by omega)⟩
          refine WL.indexT (e := erow) Tryz.underlying87 Tryz.sizeOf26 h.outer rfl rfl ⟨hri, rfl⟩ rfl ?_
          intro bb oo hcc
          refine WL.load Tryz.isAgg26 rfl (hcc 0 _ rfl) rfl ?_
          refine WL.assign rfl rfl (WL.assign rfl rfl (WL.nil (WX.then_normal (WC.seq (WC.seq (WC.region (WL.move rfl rfl (?_))))))))
          refine WL.len Tryz.underlying26 rfl rfl (WL.move rfl rfl (?_))
          refine WL.neq? rfl rfl rfl (fun h43 => ?_) (fun h43 => ?_)
          ·
            refine WL.nil (WX.then_normal (WC.cond_true rfl (WC.seq (WC.region (WL.assign rfl rfl (WL.assign rfl rfl (WL.nil (?_))))))))
            refine WX.then_normal (WC.ret (WX.then_ret (WX.block_ret (WX.then_ret (WX.then_ret (WX.block_ret (WX.then_ret (?_))))))))
            refine WX.ret2 (.inl rfl) Tryz.results101 rfl rfl ?_
            refine ⟨_, rfl, ⟨none, 0, [], 1, rfl, .inl ⟨fun hs => ?_, rfl, rfl⟩, Row.nil _ _ _ _⟩, hF, hw⟩
            have hs3 := hs.2.2 r.xs (List.mem_map.2 ⟨r, List.mem_of_getElem? hri, rfl⟩)
            rw [hml] at hs3
            omega
          ·
            refine WL.nil (WX.then_normal (WC.cond_false rfl (WC.skip (WX.then_normal (WC.region (WL.move rfl rfl (WL.move rfl rfl (?_))))))))
            refine WL.move rfl rfl (WL.move rfl rfl (WL.move rfl rfl (WL.add64 rfl rfl (by omega) rfl (?_))))
            obtain ⟨y, hyi⟩ : ∃ y, rgt[i]? = some y := ⟨_, List.getElem?_eq_getElem (by omega)⟩
            have hrl : r.xs.length = rs.length := by omega
            refine WL.slice (l := i) (h := i + 1) Tryz.underlying26 Tryz.sizeOf5 hr rfl (.inl rfl) (.inl rfl) (by constructor <;> omega) rfl ?_
            intro a_qc c_qc qc n_qc
            have ecut : (rgt.take (i + 1)).drop i = [y] := by
              rw [List.take_add_one, hyi, List.drop_append_of_le_length (by simp; omega), List.drop_of_length_le (by rw [List.length_take]; exact Nat.min_le_left _ _)]
              rfl
            rw [ecut] at qc ⊢
            refine WL.build (e := erow) [r, ⟨a_qc, c_qc, [y]⟩] Tryz.underlying87 Tryz.sizeOf26 Tryz.zeroValue26 rfl rfl rfl (by simp [Value.cells] <;> rfl) (by decide) rfl ?_
            intro a_qb w_qb qb l_qb z_qb k_qb
            have zs_k_qb := k_qb.size
            replace hA := hA.pure k_qb
            replace hF := hF.pure k_qb
            replace h := h.pure k_qb
            replace hr := hr.pure k_qb
            replace hw := hw.pure k_qb
            replace qc := qc.pure k_qb
            have hrow := h.at hri
            have hRS : RS (fun _ => True) _ a_qb _ [r, ⟨a_qc, c_qc, [y]⟩] := ⟨qb.rsl.mono (fun _ _ => trivial), fun z hz => by
              rcases List.mem_cons.1 hz with e | e
              ·
                rw [e]; exact hrow.mono (fun _ _ => trivial)
              ·
                rw [List.mem_singleton.1 e]; exact qc.mono (fun _ _ => trivial)⟩
            refine WL.call eg_105 rfl rfl (concat_calls hRS ⟨by omega, by omega⟩ (by show 1 ≤ 10000; decide)) ?_
            rintro v w3 ⟨⟨g3, c3, rfl, hR3, hg3⟩, k3⟩
            have zk3 := k3.size
            have zs_k3 := k3.size
            replace hA := hA.pure k3
            replace hF := hF.pure k3
            replace h := h.pure k3
            replace hr := hr.pure k3
            replace hw := hw.pure k3
            refine WL.build (e := erow) [⟨some ⟨g3, 0, none⟩, c3, r.xs ++ [y]⟩] Tryz.underlying87 Tryz.sizeOf26 Tryz.zeroValue26 rfl rfl rfl (by simp [Value.cells] <;> rfl) (by decide) rfl ?_
            intro a_qr w_qr qr l_qr z_qr k_qr
            have zs_k_qr := k_qr.size
            replace hA := hA.pure k_qr
            replace hF := hF.pure k_qr
            replace h := h.pure k_qr
            replace hr := hr.pure k_qr
            replace hw := hw.pure k_qr
            replace hR3 := hR3.pure k_qr
            refine WL.append (e := erow) info_26 rfl Tryz.underlying87 rfl rfl (hA.outer.mono (S' := fun b => w.heap.size ≤ b) (fun b hb => hb.1)) (qr.rsl.src Tryz.underlying87) (by show (ms.length + 1) * 24 ≤ _ ∧ ms.length + 1 ≤ _; have := hB.len; constructor <;> omega) (fun b hb => by have := hw.size; omega) rfl ?_
            intro a4 c4 w4 hO4 g4 nn4
            have hA4 := hA.snoc (by omega) (by omega) hR3 (by omega) hO4 g4
            replace hF := hF.chg g4.chg (fun h3 => by have := h3.2; omega)
            replace hw := hw.chg g4.chg (fun x hx h3 => by have := h3.2; omega)
            replace hr := hr.chg g4.chg (fun b _ h2 h3 => by have := h2.2; have := h3.2; omega)
            replace h := h.chg g4.chg (fun b _ h2 h3 => by have := h2.2; have := h3.2; omega)
            have hB4 := hB.snoc (q := ⟨some ⟨g3, 0, none⟩, c3, r.xs ++ [y]⟩) hri hyi rfl hrl
            refine WL.assign rfl rfl (WL.nil (WX.block_normal (WX.then_normal (WC.region (WL.add64 rfl rfl (by omega) rfl (WL.move rfl rfl (WL.nil (?_))))))))
            first
              | exact WX.loop_next (i + 1, a4, c4, _, _, _) ⟨rfl, rfl, rfl, rfl, rfl, rfl, rfl, trivial⟩ ⟨⟨by show i + 1 ≤ _; omega, hB4⟩, hA4, Nat.le_refl _, hw.size, hF, h, hr, hw⟩ (by show rs.length - (i + 1) < rs.length - i; omega)
              | exact WX.loop_next (a + 1) ⟨rfl, rfl, rfl, rfl, rfl, rfl, rfl, trivial⟩ ⟨⟨by omega, by omega⟩, fun i h1 h2 => (by
                  rcases Nat.lt_or_ge i a with h3 | h3
                  ·
                    exact hz0 i h1 h3
                  ·
                    rw [show i = a by omega, hfx]; exact u8_zero h74), hA, hn1, hR, hw⟩ (by omega)
              | exact WX.loop_next (i + 1, ms.set i ⟨ri.ao, ri.cap, ys⟩) ⟨rfl, rfl, by show _ = some (Value.slice am (ms.set i ⟨ri.ao, ri.cap, ys⟩).length cm); rw [List.length_set]; rfl, rfl, rfl, rfl, rfl, rfl, trivial⟩ ⟨by show i + 1 ≤ _; omega, hA0.upd hgi hri hyl hC hr8, by show n1 ≤ _; have := hC.size; omega, ⟨by show (ms.set _ _).length = _; rw [List.length_set]; exact hmsl, fun z hz => by
                  rcases List.mem_or_eq_of_mem_set hz with h2 | h2
                  ·
                    exact hRl z h2
                  ·
                    rw [h2]; show ys.length = _; omega⟩, hG.add ⟨by omega, hik⟩ (by omega) x (fun p j hp => by
                  rw [fn_setr (by omega)]
                  by_cases e : p = i
                  ·
                    rw [if_pos e, if_pos e, e, fn_mx hri, fn_mx hrk]; exact hyv j
                  ·
                    rw [if_neg e, if_neg e]), ⟨by show fn (mx (ms.set _ _)) k k = 1; rw [fn_setr (by omega), if_neg (fun e => hik e.symm)]; exact h1k, fun p h1 h2 => (by
                  show fn (mx (ms.set _ _)) p k = 0
                  rw [fn_setr (by omega)]
                  by_cases e : p = i
                  ·
                    rw [if_pos e]
                    show ys.getD k 0 = 0
                    rw [hyv k, ← fn_mx hri, hfx, ← fn_mx hrk, h1k, one_mul', xor_self']
                  ·
                    rw [if_neg e]; exact hz1 p (by have h1 : p < i + 1 := h1; omega) h2)⟩, hR, hw⟩ (by show rs.length - (i + 1) < rs.length - i; omega)
              | (have hik : i = k := by omega
                 exact WX.loop_next (i + 1, ms) ⟨rfl, rfl, rfl, rfl, rfl, rfl, rfl, rfl, trivial⟩ ⟨by show i + 1 ≤ _; omega, hA, hn1, ⟨hmsl, hRl⟩, hG, ⟨h1k, fun p h1 h2 => hz1 p (by have h1 : p < i + 1 := h1; omega) h2⟩, hR, hw⟩ (by show rs.length - (i + 1) < rs.length - i; omega))
              | exact WX.loop_next (i + 1, out.set i x) ⟨rfl, rfl, rfl, rfl, rfl, trivial⟩ ⟨by show i + 1 ≤ _; omega, ⟨by show (out.set i x).length = _; rw [List.length_set]; exact hol, fun j hj => (by
                  show (out.set i x).getD j 0 = _
                  rw [List.getD_eq_getElem?_getD, List.getElem?_set]
                  by_cases e : i = j
                  ·
                    rw [if_pos e, if_pos (by omega), ← e, hfx]; rfl
                  ·
                    rw [if_neg e, ← List.getD_eq_getElem?_getD]
                    exact hov j (by have h1 : j < i + 1 := hj; omega))⟩, hA, hO7, hR, hw⟩ (by show rs.length - (i + 1) < rs.length - i; omega)
              | (have hin : i = rs.length := by omega
                 exact WX.loop_next (k + 1, gs2, ms) ⟨rfl, rfl, rfl, rfl, rfl, trivial⟩ ⟨by show k + 1 ≤ _; omega, hA, hn1, ⟨hmsl, hRl⟩, hG.next (fun p hp => by
                   by_cases e : p = k
                   ·
                     rw [if_pos e, e]; exact h1k
                   ·
                     rw [if_neg e]; exact hz1 p (by omega) e), hR, hw⟩ (by show rs.length - (k + 1) < rs.length - k; omega))
        ·
          refine WL.nil (WX.then_normal (WC.seq (WC.cond_false rfl (WC.exit (WX.then_exit (WX.then_exit (WX.block_here (?_))))))))
          refine WX.then_normal (WC.seq (WC.region (WL.move rfl rfl (?_))))
          have hil : i = rs.length := by omega
          subst hil
          obtain ⟨hRj, hRn, hRl⟩ := hB.fin
          have hmsl := hB.len
          have hSok : ShapeOk (mx rs) rgt := by
            refine ⟨by rw [hml]; exact hbnd.1, by rw [hml]; exact hbnd.2, fun z hz => ?_⟩
            obtain ⟨j, hj, rfl⟩ := List.getElem_of_mem hz
            have hj2 : j < rs.length := by rw [← hml]; exact hj
            obtain ⟨y, _, _, h5⟩ := hB.row j _ _ (List.getElem?_eq_getElem hj2) (List.getElem?_eq_getElem (show j < ms.length by omega))
            rw [hml, ← h5]
            simp [mx]
          refine WL.call eg_106 rfl rfl (ready_calls hF) ?_
          rintro v w3 ⟨rfl, hR, k3⟩
          replace hA := hA.chgN k3 (fun x h1 h2 => by have h3 : x = gf := h2; omega)
          replace hw := hw.chg k3 (fun x _ h1 => h1)
          have zk3 := k3.size
          refine WL.assign rfl rfl (WL.nil (WX.then_normal (WC.seq (WC.seq (WC.region (WL.move rfl rfl (WL.move rfl rfl (?_))))))))
          refine WL.nil (WX.then_normal (WC.block (?_)))
          obtain ⟨R, hRd⟩ : ∃ R, R = fn (mx ms) := ⟨_, rfl⟩
          rw [← hRd] at hRj hRn
          have hG0 : GE rs.length R (fn (mx ms)) 0 := by rw [← hRd]; exact GE.start _ _
          refine WC.loop (σ := Nat × List Nat × List Rw) (fun q => [(0, .pointer (some ⟨gf, 0, none⟩)), (8, vi rs.length), (9, .slice am q.2.2.length cm), (58, vi rs.length), (59, vi (q.1 : Int))])
            (fun q w' => q.1 ≤ rs.length ∧ AR w.heap.size w.heap.size n1 w' 26 5 am cm q.2.1 q.2.2 ∧ n1 ≤ w'.heap.size ∧ (q.2.2.length = rs.length ∧ ∀ z ∈ q.2.2, z.xs.length = rs.length + 1) ∧ GE rs.length R (fn (mx q.2.2)) q.1 ∧ Blk w' gf 146 FR ∧ Chg (fun x => x = gf) w w') (fun q => rs.length - q.1) (0, gs, ms) ⟨rfl, rfl, rfl, rfl, rfl, trivial⟩ ⟨Nat.zero_le _, hA, by show n1 ≤ _; omega, ⟨hmsl, hRl⟩, hG0, hR, hw⟩ ?_
          clear hA hR hw hG0 hRd hB hmsl hRl h hr hF hn1
          rintro ⟨k, gs, ms⟩ w1 ⟨hk, hA, hn1, ⟨hmsl, hRl⟩, hG, hR, hw⟩
          simp only at hk hA hmsl hRl hG
          dsimp only
          refine WC.seq (WC.region (?_))
          refine WL.lss? rfl rfl rfl (fun h60 => ?_) (fun h60 => ?_)
          ·
            refine WL.nil (WX.then_normal (WC.seq (WC.cond_true rfl (WC.skip (WX.then_normal (WC.seq (WC.block (?_))))))))
            refine WC.seq (WC.region (WL.move rfl rfl (WL.assign rfl rfl (WL.nil (WX.then_normal (WC.seq (WC.region (?_))))))))
            refine WL.move rfl rfl (WL.assign rfl rfl (WL.nil (WX.then_normal (WC.seq (?_)))))
            refine WC.cutG (σ := Nat) (fun a => [(0, .pointer (some ⟨gf, 0, none⟩)), (8, vi rs.length), (9, .slice am ms.length cm), (12, vi (k : Int)), (13, vi (a : Int)), (58, vi rs.length), (59, vi (k : Int))])
              (fun a w' => (k ≤ a ∧ a ≤ rs.length) ∧ (∀ i, k ≤ i → i < a → fn (mx ms) i k = 0) ∧ (a < rs.length → fn (mx ms) a k ≠ 0) ∧ AR w.heap.size w.heap.size n1 w' 26 5 am cm gs ms ∧ n1 ≤ w'.heap.size ∧ Blk w' gf 146 FR ∧ Chg (fun x => x = gf) w w') ?_ ?_
            rotate_left
            ·
              refine WC.block ?_
              refine WC.loop (σ := Nat) (fun a => [(0, .pointer (some ⟨gf, 0, none⟩)), (8, vi rs.length), (9, .slice am ms.length cm), (12, vi (k : Int)), (13, vi (a : Int)), (58, vi rs.length), (59, vi (k : Int))])
                (fun a w' => (k ≤ a ∧ a ≤ rs.length) ∧ (∀ i, k ≤ i → i < a → fn (mx ms) i k = 0) ∧ AR w.heap.size w.heap.size n1 w' 26 5 am cm gs ms ∧ n1 ≤ w'.heap.size ∧ Blk w' gf 146 FR ∧ Chg (fun x => x = gf) w w') (fun a => rs.length - a) k ⟨rfl, rfl, rfl, rfl, rfl, rfl, rfl, trivial⟩ ⟨⟨Nat.le_refl _, by omega⟩, fun i h1 h2 => by omega, hA, hn1, hR, hw⟩ ?_
              clear hA hR hw hn1
              rintro a w2 ⟨⟨hka, han⟩, hz0, hA, hn1, hR, hw⟩
              refine WC.seq (WC.seq (WC.region (WL.move rfl rfl (WL.move rfl rfl (?_)))))
              refine WL.lss? rfl rfl rfl (fun h65 => ?_) (fun h65 => ?_)
              ·
                refine WL.move rfl rfl (WL.want rfl rfl rfl (WL.move rfl rfl (WL.want rfl rfl rfl (WL.move rfl rfl (WL.want rfl rfl rfl (?_))))))
                obtain ⟨ra, hra⟩ : ∃ ra, ms[a]? = some ra := ⟨_, List.getElem?_eq_getElem (by omega)⟩
                obtain ⟨ga, hga⟩ : ∃ ga, gs[a]? = some ga := ⟨_, List.getElem?_eq_getElem (by have := hA.len; omega)⟩
                obtain ⟨ea, hrowa, -, -⟩ := hA.inner a ga ra hga hra
                have hral := hRl ra (List.mem_of_getElem? hra)
                obtain ⟨x, hx⟩ : ∃ x, ra.xs[k]? = some x := ⟨_, List.getElem?_eq_getElem (by omega)⟩
                have hfx : fn (mx ms) a k = x := by rw [fn_mx hra, List.getD_eq_getElem?_getD, hx]; rfl
                refine WL.indexT (e := erow) Tryz.underlying87 Tryz.sizeOf26 hA.outer.rsl rfl rfl ⟨hra, rfl⟩ rfl ?_
                intro bb oo hcc
                refine WL.want rfl rfl rfl (?_)
                refine WL.load Tryz.isAgg26 rfl (hcc 0 _ rfl) rfl ?_
                refine WL.want rfl rfl rfl (WL.move rfl rfl (WL.want rfl rfl rfl (?_)))
                refine WL.indexT (e := eb) Tryz.underlying26 Tryz.sizeOf5 hrowa.rsl (by show some (Value.slice ra.ao _ _) = _; rw [ea]) rfl ⟨hx, rfl⟩ rfl ?_
                intro bb2 oo2 hcc2
                refine WL.want rfl rfl rfl (?_)
                refine WL.load Tryz.isAgg5 rfl (hcc2 0 _ rfl) rfl ?_
                refine WL.want rfl rfl rfl (?_)
                refine WL.eql? rfl rfl rfl (fun h74 => ?_) (fun h74 => ?_)
                ·
                  refine WL.pickT rfl rfl rfl (WL.nil (WX.then_normal (WC.cond_true rfl (WC.skip (WX.then_normal (WC.block (WC.region (?_))))))))
                  refine WL.move rfl rfl (WL.add64 rfl rfl (by omega) rfl (WL.assign rfl rfl (WL.nil (WX.block_normal (?_)))))
                  first
                    | exact WX.loop_next (i + 1, a4, c4, _, _, _) ⟨rfl, rfl, rfl, rfl, rfl, rfl, rfl, trivial⟩ ⟨⟨by show i + 1 ≤ _; omega, hB4⟩, hA4, Nat.le_refl _, hw.size, hF, h, hr, hw⟩ (by show rs.length - (i + 1) < rs.length - i; omega)
                    | exact WX.loop_next (a + 1) ⟨rfl, rfl, rfl, rfl, rfl, rfl, rfl, trivial⟩ ⟨⟨by omega, by omega⟩, fun i h1 h2 => (by
                        rcases Nat.lt_or_ge i a with h3 | h3
                        ·
                          exact hz0 i h1 h3
                        ·
                          rw [show i = a by omega, hfx]; exact u8_zero h74), hA, hn1, hR, hw⟩ (by omega)
                    | exact WX.loop_next (i + 1, ms.set i ⟨ri.ao, ri.cap, ys⟩) ⟨rfl, rfl, by show _ = some (Value.slice am (ms.set i ⟨ri.ao, ri.cap, ys⟩).length cm); rw [List.length_set]; rfl, rfl, rfl, rfl, rfl, rfl, trivial⟩ ⟨by show i + 1 ≤ _; omega, hA0.upd hgi hri hyl hC hr8, by show n1 ≤ _; have := hC.size; omega, ⟨by show (ms.set _ _).length = _; rw [List.length_set]; exact hmsl, fun z hz => by
                        rcases List.mem_or_eq_of_mem_set hz with h2 | h2
                        ·
                          exact hRl z h2
                        ·
                          rw [h2]; show ys.length = _; omega⟩, hG.add ⟨by omega, hik⟩ (by omega) x (fun p j hp => by
                        rw [fn_setr (by omega)]
                        by_cases e : p = i
                        ·
                          rw [if_pos e, if_pos e, e, fn_mx hri, fn_mx hrk]; exact hyv j
                        ·
                          rw [if_neg e, if_neg e]), ⟨by show fn (mx (ms.set _ _)) k k = 1; rw [fn_setr (by omega), if_neg (fun e => hik e.symm)]; exact h1k, fun p h1 h2 => (by
                        show fn (mx (ms.set _ _)) p k = 0
                        rw [fn_setr (by omega)]
                        by_cases e : p = i
                        ·
                          rw [if_pos e]
                          show ys.getD k 0 = 0
                          rw [hyv k, ← fn_mx hri, hfx, ← fn_mx hrk, h1k, one_mul', xor_self']
                        ·
                          rw [if_neg e]; exact hz1 p (by have h1 : p < i + 1 := h1; omega) h2)⟩, hR, hw⟩ (by show rs.length - (i + 1) < rs.length - i; omega)
                    | (have hik : i = k := by omega
                       exact WX.loop_next (i + 1, ms) ⟨rfl, rfl, rfl, rfl, rfl, rfl, rfl, rfl, trivial⟩ ⟨by show i + 1 ≤ _; omega, hA, hn1, ⟨hmsl, hRl⟩, hG, ⟨h1k, fun p h1 h2 => hz1 p (by have h1 : p < i + 1 := h1; omega) h2⟩, hR, hw⟩ (by show rs.length - (i + 1) < rs.length - i; omega))
                    | exact WX.loop_next (i + 1, out.set i x) ⟨rfl, rfl, rfl, rfl, rfl, trivial⟩ ⟨by show i + 1 ≤ _; omega, ⟨by show (out.set i x).length = _; rw [List.length_set]; exact hol, fun j hj => (by
                        show (out.set i x).getD j 0 = _
                        rw [List.getD_eq_getElem?_getD, List.getElem?_set]
                        by_cases e : i = j
                        ·
                          rw [if_pos e, if_pos (by omega), ← e, hfx]; rfl
                        ·
                          rw [if_neg e, ← List.getD_eq_getElem?_getD]
                          exact hov j (by have h1 : j < i + 1 := hj; omega))⟩, hA, hO7, hR, hw⟩ (by show rs.length - (i + 1) < rs.length - i; omega)
                    | (have hin : i = rs.length := by omega
                       exact WX.loop_next (k + 1, gs2, ms) ⟨rfl, rfl, rfl, rfl, rfl, trivial⟩ ⟨by show k + 1 ≤ _; omega, hA, hn1, ⟨hmsl, hRl⟩, hG.next (fun p hp => by
                         by_cases e : p = k
                         ·
                           rw [if_pos e, e]; exact h1k
                         ·
                           rw [if_neg e]; exact hz1 p (by omega) e), hR, hw⟩ (by show rs.length - (k + 1) < rs.length - k; omega))
                ·
                  refine WL.pickT rfl rfl rfl (WL.nil (WX.then_normal (WC.cond_false rfl (WC.exit (WX.then_exit (WX.then_exit (WX.block_here (?_))))))))
                  exact WX.cutN a ⟨rfl, rfl, rfl, rfl, rfl, rfl, rfl, trivial⟩ ⟨⟨hka, han⟩, hz0, fun _ => by rw [hfx]; exact u8_ne h74, hA, hn1, hR, hw⟩
              ·
                refine WL.move rfl rfl (WL.pass rfl rfl rfl rfl (WL.pass rfl rfl rfl rfl (WL.pass rfl rfl rfl rfl (WL.pass rfl rfl rfl rfl (WL.pass rfl rfl rfl rfl (WL.pass rfl rfl rfl rfl (WL.pass rfl rfl rfl rfl (?_))))))))
                refine WL.pass rfl rfl rfl rfl (WL.pickF rfl rfl rfl (WL.nil (WX.then_normal (WC.cond_false rfl (WC.exit (WX.then_exit (WX.then_exit (?_))))))))
                refine WX.block_here (?_)
                exact WX.cutN a ⟨rfl, rfl, rfl, rfl, rfl, rfl, rfl, trivial⟩ ⟨⟨hka, han⟩, hz0, fun h => by omega, hA, hn1, hR, hw⟩
            ·
              clear hA hR hw hn1
              rintro a w2 ⟨⟨hka, han⟩, hz0, hpv, hA, hn1, hR, hw⟩
              refine WX.then_normal (WC.seq (WC.seq (WC.region (WL.move rfl rfl (WL.move rfl rfl (?_))))))
              refine WL.eql? rfl rfl rfl (fun h80 => ?_) (fun h80 => ?_)
              ·
                refine WL.nil (WX.then_normal (WC.cond_true rfl (WC.seq (WC.region (WL.assign rfl rfl (WL.assign rfl rfl (WL.nil (?_))))))))
                refine WX.then_normal (WC.ret (WX.then_ret (WX.block_ret (WX.then_ret (WX.then_ret (WX.block_ret (WX.then_ret (?_))))))))
                refine WX.ret2 (.inl rfl) Tryz.results101 rfl rfl ?_
                have han2 : a = rs.length := by omega
                obtain ⟨y, ⟨j, hj, hy⟩, hK⟩ := hG.miss (by omega) (fun i h1 h2 => hz0 i h1 (by omega))
                exact ⟨_, rfl, ⟨none, 0, [], 7, rfl, .inr (.inr ⟨hSok, rfl, rfl, y, ⟨j, by rw [hml]; exact hj, hy⟩, by rw [hml]; exact fun i hi => (by
                  rw [← hK i hi]
                  exact sumF_cong (fun j hj => by rw [hRj i j hi hj]))⟩), Row.nil _ _ _ _⟩, .inr hR, hw⟩
              ·
                refine WL.nil (WX.then_normal (WC.cond_false rfl (WC.skip (WX.then_normal (WC.seq (?_))))))
                have hal : a < rs.length := by omega
                have hpa := hpv hal
                obtain ⟨ra, hra⟩ : ∃ ra, ms[a]? = some ra := ⟨_, List.getElem?_eq_getElem (by omega)⟩
                obtain ⟨ga, hga⟩ : ∃ ga, gs[a]? = some ga := ⟨_, List.getElem?_eq_getElem (by have := hA.len; omega)⟩
                obtain ⟨rk, hrk⟩ : ∃ rk, ms[k]? = some rk := ⟨_, List.getElem?_eq_getElem (by omega)⟩
                obtain ⟨gk, hgk⟩ : ∃ gk, gs[k]? = some gk := ⟨_, List.getElem?_eq_getElem (by have := hA.len; omega)⟩
                obtain ⟨go, hgo⟩ := hA.outer.place0 (j := k) (by omega)
                have hOu : Row (fun x => w.heap.size ≤ x ∧ x < n1) w2 26 erow (some ⟨go, 0, none⟩) cm ms := by rw [← hgo]; exact hA.outer
                have hgol : w.heap.size ≤ go ∧ go < n1 := hA.outer.at_ _ hgo
                have hC := Chg.refl (fun b => b = go) w2
                have hA0 := hA
                refine WC.drawM (fun b => b = go) [0, 1, 2, 3, 4, 5, 6, 8, 9, 10, 12, 14] [7, 11, 13, 15] mixed rfl rfl (fun wd_1 kd_1 zd_1 => ?_)
                have zs_kd_1 := kd_1.size
                replace hR := hR.pure kd_1
                replace hw := hw.pure kd_1
                replace hOu := hOu.pure kd_1
                replace hC := hC.pure kd_1
                apply DQT.step (E' := [(9, _)])
                case ho => rfl
                case hs => exact ⟨rfl, trivial⟩
                case hk => rfl
                case h1 =>
                  intro wq_3 kq_3
                  refine WL.move rfl rfl (?_)
                  refine WL.nil ?_
                  exact WX.one ⟨rfl, by exact Chg.refl _ _⟩
                apply DQT.step (E' := [(12, _)])
                case ho => rfl
                case hs => exact ⟨rfl, trivial⟩
                case hk => rfl
                case h1 =>
                  intro wq_4 kq_4
                  refine WL.move rfl rfl (?_)
                  refine WL.nil ?_
                  exact WX.one ⟨rfl, by exact Chg.refl _ _⟩
                apply DQT.step (E' := [(9, _)])
                case ho => rfl
                case hs => exact ⟨rfl, trivial⟩
                case hk => rfl
                case h1 =>
                  intro wq_5 kq_5
                  refine WL.move rfl rfl (?_)
                  refine WL.nil ?_
                  exact WX.one ⟨rfl, by exact Chg.refl _ _⟩
                apply DQT.step (E' := [(13, _)])
                case ho => rfl
                case hs => exact ⟨rfl, trivial⟩
                case hk => rfl
                case h1 =>
                  intro wq_6 kq_6
                  refine WL.move rfl rfl (?_)
                  refine WL.nil ?_
                  exact WX.one ⟨rfl, by exact Chg.refl _ _⟩
                apply DQT.step (E' := [(9, _)])
                case ho => rfl
                case hs => exact ⟨rfl, trivial⟩
                case hk => rfl
                case h1 =>
                  intro wq_7 kq_7
                  refine WL.move rfl rfl (?_)
                  refine WL.nil ?_
                  exact WX.one ⟨rfl, by exact Chg.refl _ _⟩
                apply DQT.step (E' := [(13, _)])
                case ho => rfl
                case hs => exact ⟨rfl, trivial⟩
                case hk => rfl
                case h1 =>
                  intro wq_8 kq_8
                  refine WL.move rfl rfl (?_)
                  refine WL.nil ?_
                  exact WX.one ⟨rfl, by exact Chg.refl _ _⟩
                apply DQT.step (E' := [(85, _), (86, _)])
                case ho => rfl
                case hs => exact ⟨rfl, rfl, trivial⟩
                case hk => rfl
                case h1 =>
                  intro wq_9 kq_9
                  have zs_kq_9 := kq_9.size
                  refine WL.index (j := a) (sz := 1) Tryz.underlying87 Tryz.sizeOf26 (by show some (Value.slice am _ _) = some (Value.slice (some ⟨go, 0, none⟩) _ _); rw [hgo]) rfl rfl (by omega) rfl ?_
                  refine WL.nil ?_
                  exact WX.one ⟨rfl, by exact Chg.refl _ _⟩
                apply DQT.step (E' := [(9, _)])
                case ho => rfl
                case hs => exact ⟨rfl, trivial⟩
                case hk => rfl
                case h1 =>
                  intro wq_10 kq_10
                  refine WL.move rfl rfl (?_)
                  refine WL.nil ?_
                  exact WX.one ⟨rfl, by exact Chg.refl _ _⟩
                apply DQT.step (E' := [(12, _)])
                case ho => rfl
                case hs => exact ⟨rfl, trivial⟩
                case hk => rfl
                case h1 =>
                  intro wq_11 kq_11
                  refine WL.move rfl rfl (?_)
                  refine WL.nil ?_
                  exact WX.one ⟨rfl, by exact Chg.refl _ _⟩
                apply DQT.step (E' := [(89, _), (90, _)])
                case ho => rfl
                case hs => exact ⟨rfl, rfl, trivial⟩
                case hk => rfl
                case h1 =>
                  intro wq_12 kq_12
                  have zs_kq_12 := kq_12.size
                  refine WL.index (j := k) (sz := 1) Tryz.underlying87 Tryz.sizeOf26 (by show some (Value.slice am _ _) = some (Value.slice (some ⟨go, 0, none⟩) _ _); rw [hgo]) rfl rfl (by omega) rfl ?_
                  refine WL.nil ?_
                  exact WX.one ⟨rfl, by exact Chg.refl _ _⟩
                apply DQT.step (E' := [(81, _), (82, _)])
                case ho => rfl
                case hs => exact ⟨rfl, rfl, trivial⟩
                case hk => rfl
                case h1 =>
                  intro wq_13 kq_13
                  have zs_kq_13 := kq_13.size
                  refine WL.index (j := k) (sz := 1) Tryz.underlying87 Tryz.sizeOf26 (by show some (Value.slice am _ _) = some (Value.slice (some ⟨go, 0, none⟩) _ _); rw [hgo]) rfl rfl (by omega) rfl ?_
                  refine WL.nil ?_
                  exact WX.one ⟨rfl, by exact Chg.refl _ _⟩
                apply DQT.step (E' := [(83, _), (84, _)])
                case ho => rfl
                case hs => exact ⟨rfl, rfl, trivial⟩
                case hk => rfl
                case h1 =>
                  intro wq_14 kq_14
                  have zs_kq_14 := kq_14.size
                  refine WL.index (j := a) (sz := 1) Tryz.underlying87 Tryz.sizeOf26 (by show some (Value.slice am _ _) = some (Value.slice (some ⟨go, 0, none⟩) _ _); rw [hgo]) rfl rfl (by omega) rfl ?_
                  refine WL.nil ?_
                  exact WX.one ⟨rfl, by exact Chg.refl _ _⟩
                refine DQT.done (fun hd_2 => ?_)
                refine ⟨?_, ?_, trivial, trivial, trivial⟩
                refine DT.step [(87, _)] rfl ⟨rfl, trivial⟩ rfl (fun wq_15 kq_15 => ?_)
                have zs_kq_15 := kq_15.size
                replace hR := hR.pure kq_15
                replace hw := hw.pure kq_15
                replace hOu := hOu.pure kq_15
                replace hC := hC.pure kq_15
                replace hd_2 := hd_2.pure kq_15
                refine WL.load Tryz.isAgg26 rfl ((hOu.rsl.cellsAt hra) 0 _ rfl) rfl ?_
                refine WL.nil (WX.one ⟨hd_2, ?_⟩)
                refine ⟨?_, trivial, trivial, trivial⟩
                refine DT.step [(91, _)] rfl ⟨rfl, trivial⟩ rfl (fun wq_16 kq_16 => ?_)
                have zs_kq_16 := kq_16.size
                replace hR := hR.pure kq_16
                replace hw := hw.pure kq_16
                replace hOu := hOu.pure kq_16
                replace hC := hC.pure kq_16
                replace hd_2 := hd_2.pure kq_16
                refine WL.load Tryz.isAgg26 rfl ((hOu.rsl.cellsAt hrk) 0 _ rfl) rfl ?_
                refine WL.nil (WX.one ⟨hd_2, ?_⟩)
                refine ⟨?_, trivial, trivial⟩
                refine DT.step [(93, _), (88, _)] rfl ⟨rfl, rfl, trivial⟩ rfl (fun wq_17 kq_17 => ?_)
                have zs_kq_17 := kq_17.size
                replace hR := hR.pure kq_17
                replace hw := hw.pure kq_17
                replace hOu := hOu.pure kq_17
                replace hC := hC.pure kq_17
                replace hd_2 := hd_2.pure kq_17
                refine WL.storeRow (z := ra) k Tryz.sizeOf26 hOu rfl rfl rfl (by show 0 + k * 1 = k; omega) (by omega) rfl ?_
                intro w5 z5 hO5 k5
                have zs_k5 := k5.size
                replace hR := hR.chg k5 (by intro h1; have h2 : _ = _ := h1; exfalso; omega)
                replace hw := hw.chg k5 (by intro x h1 h2; have h3 : _ = _ := h2; exfalso; omega)
                replace hC := hC.chg k5 (by intro x h1 h2; exact h2)
                replace hd_2 := hd_2.chg k5 (by intro x h1 h2; exact h2)
                refine WL.nil (WX.one0 (v := undef) ⟨hd_2, ?_⟩)
                refine ⟨?_, trivial⟩
                refine DT.step [(94, _), (92, _)] rfl ⟨rfl, rfl, trivial⟩ rfl (fun wq_18 kq_18 => ?_)
                have zs_kq_18 := kq_18.size
                replace hR := hR.pure kq_18
                replace hw := hw.pure kq_18
                replace hC := hC.pure kq_18
                replace hd_2 := hd_2.pure kq_18
                replace hO5 := hO5.pure kq_18
                refine WL.storeRow (z := rk) a Tryz.sizeOf26 hO5 rfl rfl rfl (by show 0 + a * 1 = a; omega) (by rw [List.length_set]; omega) rfl ?_
                intro w6 z6 hO6 k6
                have zs_k6 := k6.size
                replace hR := hR.chg k6 (by intro h1; have h2 : _ = _ := h1; exfalso; omega)
                replace hw := hw.chg k6 (by intro x h1 h2; have h3 : _ = _ := h2; exfalso; omega)
                replace hC := hC.chg k6 (by intro x h1 h2; exact h2)
                replace hd_2 := hd_2.chg k6 (by intro x h1 h2; exact h2)
                refine WL.nil (WX.one0 (v := undef) ⟨hd_2, ?_⟩)
                refine DT.done (fun we_19 ke_19 => ?_) _
                have zs_ke_19 := ke_19.size
                replace hR := hR.pure ke_19
                replace hw := hw.pure ke_19
                replace hC := hC.pure ke_19
                replace hd_2 := hd_2.pure ke_19
                replace hO6 := hO6.pure ke_19
                rotate_left
                refine DT.step [(91, _)] rfl ⟨rfl, trivial⟩ rfl (fun wq_15 kq_15 => ?_)
                have zs_kq_15 := kq_15.size
                replace hR := hR.pure kq_15
                replace hw := hw.pure kq_15
                replace hOu := hOu.pure kq_15
                replace hC := hC.pure kq_15
                replace hd_2 := hd_2.pure kq_15
                refine WL.load Tryz.isAgg26 rfl ((hOu.rsl.cellsAt hrk) 0 _ rfl) rfl ?_
                refine WL.nil (WX.one ⟨hd_2, ?_⟩)
                refine ⟨?_, trivial, trivial, trivial⟩
                refine DT.step [(87, _)] rfl ⟨rfl, trivial⟩ rfl (fun wq_16 kq_16 => ?_)
                have zs_kq_16 := kq_16.size
                replace hR := hR.pure kq_16
                replace hw := hw.pure kq_16
                replace hOu := hOu.pure kq_16
                replace hC := hC.pure kq_16
                replace hd_2 := hd_2.pure kq_16
                refine WL.load Tryz.isAgg26 rfl ((hOu.rsl.cellsAt hra) 0 _ rfl) rfl ?_
                refine WL.nil (WX.one ⟨hd_2, ?_⟩)
                refine ⟨?_, trivial, trivial⟩
                refine DT.step [(93, _), (88, _)] rfl ⟨rfl, rfl, trivial⟩ rfl (fun wq_17 kq_17 => ?_)
                have zs_kq_17 := kq_17.size
                replace hR := hR.pure kq_17
                replace hw := hw.pure kq_17
                replace hOu := hOu.pure kq_17
                replace hC := hC.pure kq_17
                replace hd_2 := hd_2.pure kq_17
                refine WL.storeRow (z := ra) k Tryz.sizeOf26 hOu rfl rfl rfl (by show 0 + k * 1 = k; omega) (by omega) rfl ?_
                intro w5 z5 hO5 k5
                have zs_k5 := k5.size
                replace hR := hR.chg k5 (by intro h1; have h2 : _ = _ := h1; exfalso; omega)
                replace hw := hw.chg k5 (by intro x h1 h2; have h3 : _ = _ := h2; exfalso; omega)
                replace hC := hC.chg k5 (by intro x h1 h2; exact h2)
                replace hd_2 := hd_2.chg k5 (by intro x h1 h2; exact h2)
                refine WL.nil (WX.one0 (v := undef) ⟨hd_2, ?_⟩)
                refine ⟨?_, trivial⟩
                refine DT.step [(94, _), (92, _)] rfl ⟨rfl, rfl, trivial⟩ rfl (fun wq_18 kq_18 => ?_)
                have zs_kq_18 := kq_18.size
                replace hR := hR.pure kq_18
                replace hw := hw.pure kq_18
                replace hC := hC.pure kq_18
                replace hd_2 := hd_2.pure kq_18
                replace hO5 := hO5.pure kq_18
                refine WL.storeRow (z := rk) a Tryz.sizeOf26 hO5 rfl rfl rfl (by show 0 + a * 1 = a; omega) (by rw [List.length_set]; omega) rfl ?_
                intro w6 z6 hO6 k6
                have zs_k6 := k6.size
                replace hR := hR.chg k6 (by intro h1; have h2 : _ = _ := h1; exfalso; omega)
                replace hw := hw.chg k6 (by intro x h1 h2; have h3 : _ = _ := h2; exfalso; omega)
                replace hC := hC.chg k6 (by intro x h1 h2; exact h2)
                replace hd_2 := hd_2.chg k6 (by intro x h1 h2; exact h2)
                refine WL.nil (WX.one0 (v := undef) ⟨hd_2, ?_⟩)
                refine DT.done (fun we_19 ke_19 => ?_) _
                have zs_ke_19 := ke_19.size
                replace hR := hR.pure ke_19
                replace hw := hw.pure ke_19
                replace hC := hC.pure ke_19
                replace hd_2 := hd_2.pure ke_19
                replace hO6 := hO6.pure ke_19
                rotate_left
                all_goals
                  refine WX.then_normal (WC.seq (WC.region (WL.move rfl rfl (WL.move rfl rfl (WL.move rfl rfl (?_))))))
                  have hCm := hC.mono (M' := Eqb am) (fun b _ e => ⟨_, hgo, e⟩)
                  have hO7 := hO6
                  rw [← hgo] at hO7
                  have hA7 := hA0.swap hgk hga hrk hra hCm hO7
                  have hG7 := hG.swap (a := k) (b := a) ⟨Nat.le_refl _, by omega⟩ ⟨hka, hal⟩ (fun i j _ => fn_swap hrk hra i j)
                  obtain ⟨ms2, hms2⟩ : ∃ ms2, ms2 = (ms.set k ra).set a rk := ⟨_, rfl⟩
                  obtain ⟨gs2, hgs2⟩ : ∃ gs2, gs2 = (gs.set k ga).set a gk := ⟨_, rfl⟩
                  have hpk : fn (mx ms2) k k ≠ 0 := by
                    rw [hms2, fn_swap hrk hra]
                    unfold sg
                    rw [if_pos rfl]
                    exact hpa
                  have hl2 : ms2.length = rs.length := by rw [hms2]; simp [hmsl]
                  have hRl2 : ∀ z ∈ ms2, z.xs.length = rs.length + 1 := fun z hz => by
                    obtain ⟨i, hi⟩ := List.getElem?_of_mem hz
                    rw [hms2, swap_get hrk hra] at hi
                    exact hRl z (List.mem_of_getElem? hi)
                  have hk2 : ms2[k]? = some ra := by
                    rw [hms2, swap_get hrk hra]
                    unfold sg
                    rw [if_pos rfl]
                    exact hra
                  have hgk2 : gs2[k]? = some ga := by
                    rw [hgs2, swap_get hgk hga]
                    unfold sg
                    rw [if_pos rfl]
                    exact hga
                  have hml2 : ms2.length = ms.length := by omega
                  rw [← hms2, ← hgs2] at hA7
                  rw [← hms2] at hG7
                  obtain ⟨ek, hrowk, hgk3, hgk4⟩ := hA7.inner k ga ra hgk2 hk2
                  have hgal : w.heap.size ≤ ga := hA7.low k ga hgk2
                  have hral := hRl2 ra (List.mem_of_getElem? hk2)
                  obtain ⟨x, hx⟩ : ∃ x, ra.xs[k]? = some x := ⟨_, List.getElem?_eq_getElem (by omega)⟩
                  have hfx : fn (mx ms2) k k = x := by rw [fn_mx hk2, List.getD_eq_getElem?_getD, hx]; rfl
                  have hx0 : x ≠ 0 := by rw [← hfx]; exact hpk
                  refine WL.indexT (e := erow) Tryz.underlying87 Tryz.sizeOf26 hA7.outer.rsl (by show some (Value.slice am ms.length cm) = _; rw [hml2]) rfl ⟨hk2, rfl⟩ rfl ?_
                  intro bb oo hcc
                  refine WL.load Tryz.isAgg26 rfl (hcc 0 _ rfl) rfl ?_
                  refine WL.move rfl rfl (?_)
                  refine WL.indexT (e := eb) Tryz.underlying26 Tryz.sizeOf5 hrowk.rsl (by show some (Value.slice ra.ao _ _) = _; rw [ek]) rfl ⟨hx, rfl⟩ rfl ?_
                  intro bb2 oo2 hcc2
                  refine WL.load Tryz.isAgg5 rfl (hcc2 0 _ rfl) rfl ?_
                  refine WL.call eg_107 rfl rfl (invR_calls hR x) ?_
                  rintro v w7 ⟨rfl, k7⟩
                  rw [if_neg hx0]
                  have zs_k7 := k7.size
                  replace hR := hR.pure k7
                  replace hw := hw.pure k7
                  replace hA7 := hA7.pure k7
                  refine WL.move rfl rfl (WL.extract rfl rfl rfl (WL.extract rfl rfl rfl (WL.assign rfl rfl (WL.assign rfl rfl (WL.nil (WX.then_normal (WC.seq (?_))))))))
                  refine WC.seq (WC.region (WL.move rfl rfl (?_)))
                  refine WL.neqF rfl rfl rfl (by rfl) ?_
                  refine WL.nil (WX.then_normal (WC.cond_false rfl (WC.skip (WX.then_normal (WC.seq (WC.region (WL.move rfl rfl (?_))))))))
                  refine WL.move rfl rfl (WL.move rfl rfl (?_))
                  refine WL.indexT (e := erow) Tryz.underlying87 Tryz.sizeOf26 hA7.outer.rsl (by show some (Value.slice am ms.length cm) = _; rw [hml2]) rfl ⟨hk2, rfl⟩ rfl ?_
                  intro bb3 oo3 hcc3
                  refine WL.load Tryz.isAgg26 rfl (hcc3 0 _ rfl) rfl ?_
                  rw [ek]
                  refine WL.move rfl rfl (?_)
                  obtain ⟨-, hrowk8, -, -⟩ := hA7.inner k ga ra hgk2 hk2
                  have hinv : inv x ≠ 0 := fun e => by
                    have h1 := mul_inv hx0
                    rw [e, mul_zero_r] at h1
                    exact absurd h1 (by decide)
                  refine WL.call eg_108 rfl rfl (scale_calls hR hrowk8 (by omega) (by omega) (inv x)) ?_
                  rintro v w8 ⟨rfl, ⟨ys, hyl, hyv, hr8⟩, k8⟩
                  have zk8 := k8.size
                  have hA8 := hA7.upd hgk2 hk2 hyl k8 hr8
                  replace hR := hR.chg k8 (fun e => by have e2 : gf = ga := e; omega)
                  replace hw := hw.chg k8 (fun z hz e => by have e2 : z = ga := e; omega)
                  have hG8 := hG7.scale (m' := fn (mx (ms2.set k ⟨ra.ao, ra.cap, ys⟩))) hinv (by omega) (fun i j hi => by
                    rw [fn_setr (by omega)]
                    by_cases e : i = k
                    ·
                      rw [if_pos e, if_pos e, e, fn_mx hk2]; exact hyv j
                    ·
                      rw [if_neg e, if_neg e])
                  have h1k : fn (mx (ms2.set k ⟨ra.ao, ra.cap, ys⟩)) k k = 1 := by
                    rw [fn_setr (by omega), if_pos rfl]
                    show ys.getD k 0 = 1
                    rw [hyv k, ← fn_mx hk2, hfx]
                    exact mul_inv hx0
                  obtain ⟨ms3, hms3⟩ : ∃ ms3, ms3 = ms2.set k ⟨ra.ao, ra.cap, ys⟩ := ⟨_, rfl⟩
                  have hl3 : ms3.length = rs.length := by rw [hms3, List.length_set]; exact hl2
                  have hRl3 : ∀ z ∈ ms3, z.xs.length = rs.length + 1 := fun z hz => by
                    rw [hms3] at hz
                    rcases List.mem_or_eq_of_mem_set hz with h2 | h2
                    ·
                      exact hRl2 z h2
                    ·
                      rw [h2]; show ys.length = _; omega
                  rw [← hms3] at hA8 hG8 h1k
                  have hml3 : ms3.length = ms.length := by omega
                  refine WL.nil (WX.then_normal (WC.seq (WC.region (WL.move rfl rfl (WL.move rfl rfl (WL.nil (WX.then_normal (?_))))))))
                  refine WC.block (?_)
                  refine WC.loop (σ := Nat × List Rw) (fun q => [(0, .pointer (some ⟨gf, 0, none⟩)), (8, vi rs.length), (9, .slice am q.2.length cm), (12, vi (k : Int)), (58, vi rs.length), (59, vi (k : Int)), (117, vi rs.length), (118, vi (q.1 : Int))])
                    (fun q w' => q.1 ≤ rs.length ∧ AR w.heap.size w.heap.size n1 w' 26 5 am cm gs2 q.2 ∧ n1 ≤ w'.heap.size ∧ (q.2.length = rs.length ∧ ∀ z ∈ q.2, z.xs.length = rs.length + 1) ∧ GE rs.length R (fn (mx q.2)) k ∧ (fn (mx q.2) k k = 1 ∧ ∀ i, i < q.1 → i ≠ k → fn (mx q.2) i k = 0) ∧ Blk w' gf 146 FR ∧ Chg (fun x => x = gf) w w') (fun q => rs.length - q.1) (0, ms3) ⟨rfl, rfl, by show some (Value.slice am ms.length cm) = _; rw [← hml3], rfl, rfl, rfl, rfl, rfl, trivial⟩ ⟨Nat.zero_le _, hA8, by show n1 ≤ _; omega, ⟨hl3, hRl3⟩, hG8, ⟨h1k, fun i hi => absurd hi (Nat.not_lt_zero i)⟩, hR, hw⟩ ?_
                  clear hA8 hG8 h1k hR hw hA0 hA7 hn1 hmsl hRl hG hG7
                  rintro ⟨i, ms⟩ w3 ⟨hi, hA, hn1, ⟨hmsl, hRl⟩, hG, ⟨h1k, hz1⟩, hR, hw⟩
                  simp only at hi hA hmsl hRl hG h1k hz1
                  dsimp only
                  refine WC.seq (WC.region (?_))
                  refine WL.lss? rfl rfl rfl (fun h119 => ?_) (fun h119 => ?_)
                  ·
                    refine WL.nil (WX.then_normal (WC.seq (WC.cond_true rfl (WC.skip (WX.then_normal (WC.seq (WC.block (?_))))))))
                    refine WC.seq (WC.region (WL.move rfl rfl (WL.assign rfl rfl (WL.nil (WX.then_normal (WC.seq (WC.region (?_))))))))
                    refine WL.move rfl rfl (WL.move rfl rfl (?_))
                    refine WL.neq? rfl rfl rfl (fun h123 => ?_) (fun h123 => ?_)
                    ·
                      refine WL.nil (WX.then_normal (WC.cond_true rfl (?_)))
                      have hik : i ≠ k := by omega
                      obtain ⟨ri, hri⟩ : ∃ ri, ms[i]? = some ri := ⟨_, List.getElem?_eq_getElem (by omega)⟩
                      obtain ⟨gi, hgi⟩ : ∃ gi, gs2[i]? = some gi := ⟨_, List.getElem?_eq_getElem (by have := hA.len; omega)⟩
                      obtain ⟨rk, hrk⟩ : ∃ rk, ms[k]? = some rk := ⟨_, List.getElem?_eq_getElem (by omega)⟩
                      obtain ⟨gk, hgk⟩ : ∃ gk, gs2[k]? = some gk := ⟨_, List.getElem?_eq_getElem (by have := hA.len; omega)⟩
                      obtain ⟨ei, hRi, -, hni⟩ := hA.inner i gi ri hgi hri
                      obtain ⟨ek, hRk0, -, -⟩ := hA.inner k gk rk hgk hrk
                      have hril := hRl ri (List.mem_of_getElem? hri)
                      have hrkl := hRl rk (List.mem_of_getElem? hrk)
                      have hgkl : gk ≠ gi := fun e => hik (hA.apart i k gi hgi (by rw [← e]; exact hgk))
                      have hgil : w.heap.size ≤ gi := hA.low i gi hgi
                      obtain ⟨go, hgo⟩ := hA.outer.place0 (j := k) (by omega)
                      have hgoi : go ≠ gi := fun e => hni ⟨_, hgo, e.symm⟩
                      have hOu : Row (fun x => x ≠ gi) w3 26 erow (some ⟨go, 0, none⟩) cm ms := ⟨fun p ep => by injection ep with ep; rw [← ep]; exact hgoi, by rw [← hgo]; exact hA.outer.own⟩
                      have hRk : RSl (fun b => b ≠ gi) w3 eb (some ⟨gk, 0, none⟩) rk.cap rk.xs := hRk0.rsl.mono (fun b hb => by have e : b = gk := hb; omega)
                      obtain ⟨x, hx⟩ : ∃ x, ri.xs[k]? = some x := ⟨_, List.getElem?_eq_getElem (by omega)⟩
                      have hfx : fn (mx ms) i k = x := by rw [fn_mx hri, List.getD_eq_getElem?_getD, hx]; rfl
                      have hC := Chg.refl (fun b => b = gi) w3
                      have hA0 := hA
                      refine WC.draw (fun b => b = gi) [0, 1, 2, 3, 4, 5, 6, 7, 8, 9, 10, 11, 12, 13, 14] [15, 16] mixed rfl rfl (fun wd_20 kd_20 zd_20 => ?_)
                      have zs_kd_20 := kd_20.size
                      replace hR := hR.pure kd_20
                      replace hw := hw.pure kd_20
                      replace hOu := hOu.pure kd_20
                      replace hRk := hRk.pure kd_20
                      replace hRi := hRi.pure kd_20
                      replace hC := hC.pure kd_20
                      apply DQ.step (E' := [(0, _)])
                      case ho => rfl
                      case hs => exact ⟨rfl, trivial⟩
                      case hk => rfl
                      case h1 =>
                        intro wq_22 kq_22
                        refine WL.move rfl rfl (?_)
                        refine WL.nil ?_
                        exact WX.one ⟨rfl, by exact Chg.refl _ _⟩
                      apply DQ.step (E' := [(9, _)])
                      case ho => rfl
                      case hs => exact ⟨rfl, trivial⟩
                      case hk => rfl
                      case h1 =>
                        intro wq_23 kq_23
                        refine WL.move rfl rfl (?_)
                        refine WL.nil ?_
                        exact WX.one ⟨rfl, by exact Chg.refl _ _⟩
                      apply DQ.step (E' := [(16, _)])
                      case ho => rfl
                      case hs => exact ⟨rfl, trivial⟩
                      case hk => rfl
                      case h1 =>
                        intro wq_24 kq_24
                        refine WL.move rfl rfl (?_)
                        refine WL.nil ?_
                        exact WX.one ⟨rfl, by exact Chg.refl _ _⟩
                      apply DQ.step (E' := [(125, _), (126, _)])
                      case ho => rfl
                      case hs => exact ⟨rfl, rfl, trivial⟩
                      case hk => rfl
                      case h1 =>
                        intro wq_25 kq_25
                        have zs_kq_25 := kq_25.size
                        replace hOu := hOu.chg kq_25 (by intro x h1 h2; exact h2)
                        replace hRk := hRk.chg kq_25 (by intro x h1 h2; exact h2)
                        refine WL.indexC (e := erow) hOu.rsl Tryz.underlying87 Tryz.sizeOf26 (by show some (Value.slice am _ _) = _; rw [hgo]) rfl ⟨hri, rfl⟩ rfl ?_
                        refine WL.nil ?_
                        exact WX.one ⟨rfl, by exact Chg.refl _ _⟩
                      apply DQ.step (E' := [(127, _)])
                      case ho => rfl
                      case hs => exact ⟨rfl, trivial⟩
                      case hk => rfl
                      case h1 =>
                        intro wq_26 kq_26
                        have zs_kq_26 := kq_26.size
                        replace hOu := hOu.chg kq_26 (by intro x h1 h2; exact h2)
                        replace hRk := hRk.chg kq_26 (by intro x h1 h2; exact h2)
                        refine WL.load Tryz.isAgg26 rfl ((hOu.rsl.cellsAt hri) 0 _ rfl) rfl ?_
                        refine WL.nil ?_
                        exact WX.one ⟨rfl, by exact Chg.refl _ _⟩
                      apply DQ.step (E' := [(9, _)])
                      case ho => rfl
                      case hs => exact ⟨rfl, trivial⟩
                      case hk => rfl
                      case h1 =>
                        intro wq_27 kq_27
                        refine WL.move rfl rfl (?_)
                        refine WL.nil ?_
                        exact WX.one ⟨rfl, by exact Chg.refl _ _⟩
                      apply DQ.step (E' := [(12, _)])
                      case ho => rfl
                      case hs => exact ⟨rfl, trivial⟩
                      case hk => rfl
                      case h1 =>
                        intro wq_28 kq_28
                        refine WL.move rfl rfl (?_)
                        refine WL.nil ?_
                        exact WX.one ⟨rfl, by exact Chg.refl _ _⟩
                      apply DQ.step (E' := [(129, _), (130, _)])
                      case ho => rfl
                      case hs => exact ⟨rfl, rfl, trivial⟩
                      case hk => rfl
                      case h1 =>
                        intro wq_29 kq_29
                        have zs_kq_29 := kq_29.size
                        replace hOu := hOu.chg kq_29 (by intro x h1 h2; exact h2)
                        replace hRk := hRk.chg kq_29 (by intro x h1 h2; exact h2)
                        refine WL.indexC (e := erow) hOu.rsl Tryz.underlying87 Tryz.sizeOf26 (by show some (Value.slice am _ _) = _; rw [hgo]) rfl ⟨hrk, rfl⟩ rfl ?_
                        refine WL.nil ?_
                        exact WX.one ⟨rfl, by exact Chg.refl _ _⟩
                      apply DQ.step (E' := [(131, _)])
                      case ho => rfl
                      case hs => exact ⟨rfl, trivial⟩
                      case hk => rfl
                      case h1 =>
                        intro wq_30 kq_30
                        have zs_kq_30 := kq_30.size
                        replace hOu := hOu.chg kq_30 (by intro x h1 h2; exact h2)
                        replace hRk := hRk.chg kq_30 (by intro x h1 h2; exact h2)
                        refine WL.load Tryz.isAgg26 rfl ((hOu.rsl.cellsAt hrk) 0 _ rfl) rfl ?_
                        refine WL.nil ?_
                        exact WX.one ⟨rfl, by exact Chg.refl _ _⟩
                      apply DQ.step (E' := [(9, _)])
                      case ho => rfl
                      case hs => exact ⟨rfl, trivial⟩
                      case hk => rfl
                      case h1 =>
                        intro wq_31 kq_31
                        refine WL.move rfl rfl (?_)
                        refine WL.nil ?_
                        exact WX.one ⟨rfl, by exact Chg.refl _ _⟩
                      apply DQ.step (E' := [(16, _)])
                      case ho => rfl
                      case hs => exact ⟨rfl, trivial⟩
                      case hk => rfl
                      case h1 =>
                        intro wq_32 kq_32
                        refine WL.move rfl rfl (?_)
                        refine WL.nil ?_
                        exact WX.one ⟨rfl, by exact Chg.refl _ _⟩
                      apply DQ.step (E' := [(133, _), (134, _)])
                      case ho => rfl
                      case hs => exact ⟨rfl, rfl, trivial⟩
                      case hk => rfl
                      case h1 =>
                        intro wq_33 kq_33
                        have zs_kq_33 := kq_33.size
                        replace hOu := hOu.chg kq_33 (by intro x h1 h2; exact h2)
                        replace hRk := hRk.chg kq_33 (by intro x h1 h2; exact h2)
                        refine WL.indexC (e := erow) hOu.rsl Tryz.underlying87 Tryz.sizeOf26 (by show some (Value.slice am _ _) = _; rw [hgo]) rfl ⟨hri, rfl⟩ rfl ?_
                        refine WL.nil ?_
                        exact WX.one ⟨rfl, by exact Chg.refl _ _⟩
                      apply DQ.step (E' := [(135, _)])
                      case ho => rfl
                      case hs => exact ⟨rfl, trivial⟩
                      case hk => rfl
                      case h1 =>
                        intro wq_34 kq_34
                        have zs_kq_34 := kq_34.size
                        replace hOu := hOu.chg kq_34 (by intro x h1 h2; exact h2)
                        replace hRk := hRk.chg kq_34 (by intro x h1 h2; exact h2)
                        refine WL.load Tryz.isAgg26 rfl ((hOu.rsl.cellsAt hri) 0 _ rfl) rfl ?_
                        refine WL.nil ?_
                        exact WX.one ⟨rfl, by exact Chg.refl _ _⟩
                      apply DQ.step (E' := [(12, _)])
                      case ho => rfl
                      case hs => exact ⟨rfl, trivial⟩
                      case hk => rfl
                      case h1 =>
                        intro wq_35 kq_35
                        refine WL.move rfl rfl (?_)
                        refine WL.nil ?_
                        exact WX.one ⟨rfl, by exact Chg.refl _ _⟩
                      apply DQ.step (E' := [(136, _), (137, _)])
                      case ho => rfl
                      case hs => exact ⟨rfl, rfl, trivial⟩
                      case hk => rfl
                      case h1 =>
                        intro wq_36 kq_36
                        have zs_kq_36 := kq_36.size
                        replace hOu := hOu.chg kq_36 (by intro x h1 h2; exact h2)
                        replace hRk := hRk.chg kq_36 (by intro x h1 h2; exact h2)
                        refine WL.index (j := k) (sz := 1) Tryz.underlying26 Tryz.sizeOf5 (by show some (Value.slice ri.ao _ _) = some (Value.slice (some ⟨gi, 0, none⟩) _ _); rw [ei]) rfl rfl (by omega) rfl ?_
                        refine WL.nil ?_
                        exact WX.one ⟨rfl, by exact Chg.refl _ _⟩
                      refine DQ.done (fun hd_21 => ?_)
                      refine DL.step [(138, _)] rfl ⟨rfl, trivial⟩ rfl (fun wq_37 kq_37 => ?_)
                      have zs_kq_37 := kq_37.size
                      replace hR := hR.pure kq_37
                      replace hw := hw.pure kq_37
                      replace hOu := hOu.pure kq_37
                      replace hRk := hRk.pure kq_37
                      replace hRi := hRi.pure kq_37
                      replace hC := hC.pure kq_37
                      replace hd_21 := hd_21.pure kq_37
                      refine WL.load Tryz.isAgg5 rfl ((hRi.rsl.cellsAt hx) 0 _ rfl) rfl ?_
                      refine WL.nil ?_
                      refine WX.one ⟨hd_21, ?_⟩
                      refine DL.step [(124, _), (128, _), (132, _), (139, _)] rfl ⟨rfl, rfl, rfl, rfl, trivial⟩ rfl (fun wq_38 kq_38 => ?_)
                      have zs_kq_38 := kq_38.size
                      replace hR := hR.pure kq_38
                      replace hw := hw.pure kq_38
                      replace hOu := hOu.pure kq_38
                      replace hRk := hRk.pure kq_38
                      replace hRi := hRi.pure kq_38
                      replace hC := hC.pure kq_38
                      replace hd_21 := hd_21.pure kq_38
                      refine WL.call eg_109 (vs := [.pointer (some ⟨gf, 0, none⟩), .slice (some ⟨gi, 0, none⟩) ri.xs.length ri.cap, .slice (some ⟨gk, 0, none⟩) rk.xs.length rk.cap, v8 x]) (by show some [_, Value.slice ri.ao _ _, Value.slice rk.ao _ _, _] = _; rw [ei, ek]) rfl (fadd_calls hR hRi hRk (by omega) (by omega) (by omega) x) ?_
                      rintro v w8 ⟨rfl, ⟨ys, hyl, hyv, hr8⟩, k8⟩
                      have zk8 := k8.size
                      have zs_k8 := k8.size
                      replace hR := hR.chg k8 (by intro h1; have h2 : _ = _ := h1; exfalso; omega)
                      replace hw := hw.chg k8 (by intro x h1 h2; have h3 : _ = _ := h2; exfalso; omega)
                      replace hOu := hOu.chg k8 (by intro x h1 h2; exact h2)
                      replace hRk := hRk.chg k8 (by intro x h1 h2; exact h2)
                      replace hC := hC.chg k8 (by intro x h1 h2; exact h2)
                      replace hd_21 := hd_21.chg k8 (by intro x h1 h2; exact h2)
                      refine WL.nil ?_
                      refine WX.one ⟨hd_21, ?_⟩
                      refine DL.done (fun we_39 ke_39 => ?_)
                      have zs_ke_39 := ke_39.size
                      replace hR := hR.pure ke_39
                      replace hw := hw.pure ke_39
                      replace hOu := hOu.pure ke_39
                      replace hRk := hRk.pure ke_39
                      replace hC := hC.pure ke_39
                      replace hd_21 := hd_21.pure ke_39
                      replace hr8 := hr8.pure ke_39
                      refine WX.block_normal (WX.then_normal (WC.region (WL.add64 rfl rfl (by omega) rfl (WL.move rfl rfl (WL.nil (?_))))))
                      first
                        | exact WX.loop_next (i + 1, a4, c4, _, _, _) ⟨rfl, rfl, rfl, rfl, rfl, rfl, rfl, trivial⟩ ⟨⟨by show i + 1 ≤ _; omega, hB4⟩, hA4, Nat.le_refl _, hw.size, hF, h, hr, hw⟩ (by show rs.length - (i + 1) < rs.length - i; omega)
                        | exact WX.loop_next (a + 1) ⟨rfl, rfl, rfl, rfl, rfl, rfl, rfl, trivial⟩ ⟨⟨by omega, by omega⟩, fun i h1 h2 => (by
                            rcases Nat.lt_or_ge i a with h3 | h3
                            ·
                              exact hz0 i h1 h3
                            ·
                              rw [show i = a by omega, hfx]; exact u8_zero h74), hA, hn1, hR, hw⟩ (by omega)
                        | exact WX.loop_next (i + 1, ms.set i ⟨ri.ao, ri.cap, ys⟩) ⟨rfl, rfl, by show _ = some (Value.slice am (ms.set i ⟨ri.ao, ri.cap, ys⟩).length cm); rw [List.length_set]; rfl, rfl, rfl, rfl, rfl, rfl, trivial⟩ ⟨by show i + 1 ≤ _; omega, hA0.upd hgi hri hyl hC hr8, by show n1 ≤ _; have := hC.size; omega, ⟨by show (ms.set _ _).length = _; rw [List.length_set]; exact hmsl, fun z hz => by
                            rcases List.mem_or_eq_of_mem_set hz with h2 | h2
                            ·
                              exact hRl z h2
                            ·
                              rw [h2]; show ys.length = _; omega⟩, hG.add ⟨by omega, hik⟩ (by omega) x (fun p j hp => by
                            rw [fn_setr (by omega)]
                            by_cases e : p = i
                            ·
                              rw [if_pos e, if_pos e, e, fn_mx hri, fn_mx hrk]; exact hyv j
                            ·
                              rw [if_neg e, if_neg e]), ⟨by show fn (mx (ms.set _ _)) k k = 1; rw [fn_setr (by omega), if_neg (fun e => hik e.symm)]; exact h1k, fun p h1 h2 => (by
                            show fn (mx (ms.set _ _)) p k = 0
                            rw [fn_setr (by omega)]
                            by_cases e : p = i
                            ·
                              rw [if_pos e]
                              show ys.getD k 0 = 0
                              rw [hyv k, ← fn_mx hri, hfx, ← fn_mx hrk, h1k, one_mul', xor_self']
                            ·
                              rw [if_neg e]; exact hz1 p (by have h1 : p < i + 1 := h1; omega) h2)⟩, hR, hw⟩ (by show rs.length - (i + 1) < rs.length - i; omega)
                        | (have hik : i = k := by omega
                           exact WX.loop_next (i + 1, ms) ⟨rfl, rfl, rfl, rfl, rfl, rfl, rfl, rfl, trivial⟩ ⟨by show i + 1 ≤ _; omega, hA, hn1, ⟨hmsl, hRl⟩, hG, ⟨h1k, fun p h1 h2 => hz1 p (by have h1 : p < i + 1 := h1; omega) h2⟩, hR, hw⟩ (by show rs.length - (i + 1) < rs.length - i; omega))
                        | exact WX.loop_next (i + 1, out.set i x) ⟨rfl, rfl, rfl, rfl, rfl, trivial⟩ ⟨by show i + 1 ≤ _; omega, ⟨by show (out.set i x).length = _; rw [List.length_set]; exact hol, fun j hj => (by
                            show (out.set i x).getD j 0 = _
                            rw [List.getD_eq_getElem?_getD, List.getElem?_set]
                            by_cases e : i = j
                            ·
                              rw [if_pos e, if_pos (by omega), ← e, hfx]; rfl
                            ·
                              rw [if_neg e, ← List.getD_eq_getElem?_getD]
                              exact hov j (by have h1 : j < i + 1 := hj; omega))⟩, hA, hO7, hR, hw⟩ (by show rs.length - (i + 1) < rs.length - i; omega)
                        | (have hin : i = rs.length := by omega
                           exact WX.loop_next (k + 1, gs2, ms) ⟨rfl, rfl, rfl, rfl, rfl, trivial⟩ ⟨by show k + 1 ≤ _; omega, hA, hn1, ⟨hmsl, hRl⟩, hG.next (fun p hp => by
                             by_cases e : p = k
                             ·
                               rw [if_pos e, e]; exact h1k
                             ·
                               rw [if_neg e]; exact hz1 p (by omega) e), hR, hw⟩ (by show rs.length - (k + 1) < rs.length - k; omega))
                    ·
                      refine WL.nil (WX.then_normal (WC.cond_false rfl (WC.skip (WX.block_normal (WX.then_normal (WC.region (WL.add64 rfl rfl (by omega) rfl (?_))))))))
                      refine WL.move rfl rfl (WL.nil (?_))
                      first
                        | exact WX.loop_next (i + 1, a4, c4, _, _, _) ⟨rfl, rfl, rfl, rfl, rfl, rfl, rfl, trivial⟩ ⟨⟨by show i + 1 ≤ _; omega, hB4⟩, hA4, Nat.le_refl _, hw.size, hF, h, hr, hw⟩ (by show rs.length - (i + 1) < rs.length - i; omega)
                        | exact WX.loop_next (a + 1) ⟨rfl, rfl, rfl, rfl, rfl, rfl, rfl, trivial⟩ ⟨⟨by omega, by omega⟩, fun i h1 h2 => (by
                            rcases Nat.lt_or_ge i a with h3 | h3
                            ·
                              exact hz0 i h1 h3
                            ·
                              rw [show i = a by omega, hfx]; exact u8_zero h74), hA, hn1, hR, hw⟩ (by omega)
                        | exact WX.loop_next (i + 1, ms.set i ⟨ri.ao, ri.cap, ys⟩) ⟨rfl, rfl, by show _ = some (Value.slice am (ms.set i ⟨ri.ao, ri.cap, ys⟩).length cm); rw [List.length_set]; rfl, rfl, rfl, rfl, rfl, rfl, trivial⟩ ⟨by show i + 1 ≤ _; omega, hA0.upd hgi hri hyl hC hr8, by show n1 ≤ _; have := hC.size; omega, ⟨by show (ms.set _ _).length = _; rw [List.length_set]; exact hmsl, fun z hz => by
                            rcases List.mem_or_eq_of_mem_set hz with h2 | h2
                            ·
                              exact hRl z h2
                            ·
                              rw [h2]; show ys.length = _; omega⟩, hG.add ⟨by omega, hik⟩ (by omega) x (fun p j hp => by
                            rw [fn_setr (by omega)]
                            by_cases e : p = i
                            ·
                              rw [if_pos e, if_pos e, e, fn_mx hri, fn_mx hrk]; exact hyv j
                            ·
                              rw [if_neg e, if_neg e]), ⟨by show fn (mx (ms.set _ _)) k k = 1; rw [fn_setr (by omega), if_neg (fun e => hik e.symm)]; exact h1k, fun p h1 h2 => (by
                            show fn (mx (ms.set _ _)) p k = 0
                            rw [fn_setr (by omega)]
                            by_cases e : p = i
                            ·
                              rw [if_pos e]
                              show ys.getD k 0 = 0
                              rw [hyv k, ← fn_mx hri, hfx, ← fn_mx hrk, h1k, one_mul', xor_self']
                            ·
                              rw [if_neg e]; exact hz1 p (by have h1 : p < i + 1 := h1; omega) h2)⟩, hR, hw⟩ (by show rs.length - (i + 1) < rs.length - i; omega)
                        | (have hik : i = k := by omega
                           exact WX.loop_next (i + 1, ms) ⟨rfl, rfl, rfl, rfl, rfl, rfl, rfl, rfl, trivial⟩ ⟨by show i + 1 ≤ _; omega, hA, hn1, ⟨hmsl, hRl⟩, hG, ⟨h1k, fun p h1 h2 => hz1 p (by have h1 : p < i + 1 := h1; omega) h2⟩, hR, hw⟩ (by show rs.length - (i + 1) < rs.length - i; omega))
                        | exact WX.loop_next (i + 1, out.set i x) ⟨rfl, rfl, rfl, rfl, rfl, trivial⟩ ⟨by show i + 1 ≤ _; omega, ⟨by show (out.set i x).length = _; rw [List.length_set]; exact hol, fun j hj => (by
                            show (out.set i x).getD j 0 = _
                            rw [List.getD_eq_getElem?_getD, List.getElem?_set]
                            by_cases e : i = j
                            ·
                              rw [if_pos e, if_pos (by omega), ← e, hfx]; rfl
                            ·
                              rw [if_neg e, ← List.getD_eq_getElem?_getD]
                              exact hov j (by have h1 : j < i + 1 := hj; omega))⟩, hA, hO7, hR, hw⟩ (by show rs.length - (i + 1) < rs.length - i; omega)
                        | (have hin : i = rs.length := by omega
                           exact WX.loop_next (k + 1, gs2, ms) ⟨rfl, rfl, rfl, rfl, rfl, trivial⟩ ⟨by show k + 1 ≤ _; omega, hA, hn1, ⟨hmsl, hRl⟩, hG.next (fun p hp => by
                             by_cases e : p = k
                             ·
                               rw [if_pos e, e]; exact h1k
                             ·
                               rw [if_neg e]; exact hz1 p (by omega) e), hR, hw⟩ (by show rs.length - (k + 1) < rs.length - k; omega))
                  ·
                    refine WL.nil (WX.then_normal (WC.seq (WC.cond_false rfl (WC.exit (WX.then_exit (WX.then_exit (WX.block_here (?_))))))))
                    refine WX.block_normal (WX.then_normal (WC.region (WL.add64 rfl rfl (by omega) rfl (WL.move rfl rfl (WL.nil (?_))))))
                    first
                      | exact WX.loop_next (i + 1, a4, c4, _, _, _) ⟨rfl, rfl, rfl, rfl, rfl, rfl, rfl, trivial⟩ ⟨⟨by show i + 1 ≤ _; omega, hB4⟩, hA4, Nat.le_refl _, hw.size, hF, h, hr, hw⟩ (by show rs.length - (i + 1) < rs.length - i; omega)
                      | exact WX.loop_next (a + 1) ⟨rfl, rfl, rfl, rfl, rfl, rfl, rfl, trivial⟩ ⟨⟨by omega, by omega⟩, fun i h1 h2 => (by
                          rcases Nat.lt_or_ge i a with h3 | h3
                          ·
                            exact hz0 i h1 h3
                          ·
                            rw [show i = a by omega, hfx]; exact u8_zero h74), hA, hn1, hR, hw⟩ (by omega)
                      | exact WX.loop_next (i + 1, ms.set i ⟨ri.ao, ri.cap, ys⟩) ⟨rfl, rfl, by show _ = some (Value.slice am (ms.set i ⟨ri.ao, ri.cap, ys⟩).length cm); rw [List.length_set]; rfl, rfl, rfl, rfl, rfl, rfl, trivial⟩ ⟨by show i + 1 ≤ _; omega, hA0.upd hgi hri hyl hC hr8, by show n1 ≤ _; have := hC.size; omega, ⟨by show (ms.set _ _).length = _; rw [List.length_set]; exact hmsl, fun z hz => by
                          rcases List.mem_or_eq_of_mem_set hz with h2 | h2
                          ·
                            exact hRl z h2
                          ·
                            rw [h2]; show ys.length = _; omega⟩, hG.add ⟨by omega, hik⟩ (by omega) x (fun p j hp => by
                          rw [fn_setr (by omega)]
                          by_cases e : p = i
                          ·
                            rw [if_pos e, if_pos e, e, fn_mx hri, fn_mx hrk]; exact hyv j
                          ·
                            rw [if_neg e, if_neg e]), ⟨by show fn (mx (ms.set _ _)) k k = 1; rw [fn_setr (by omega), if_neg (fun e => hik e.symm)]; exact h1k, fun p h1 h2 => (by
                          show fn (mx (ms.set _ _)) p k = 0
                          rw [fn_setr (by omega)]
                          by_cases e : p = i
                          ·
                            rw [if_pos e]
                            show ys.getD k 0 = 0
                            rw [hyv k, ← fn_mx hri, hfx, ← fn_mx hrk, h1k, one_mul', xor_self']
                          ·
                            rw [if_neg e]; exact hz1 p (by have h1 : p < i + 1 := h1; omega) h2)⟩, hR, hw⟩ (by show rs.length - (i + 1) < rs.length - i; omega)
                      | (have hik : i = k := by omega
                         exact WX.loop_next (i + 1, ms) ⟨rfl, rfl, rfl, rfl, rfl, rfl, rfl, rfl, trivial⟩ ⟨by show i + 1 ≤ _; omega, hA, hn1, ⟨hmsl, hRl⟩, hG, ⟨h1k, fun p h1 h2 => hz1 p (by have h1 : p < i + 1 := h1; omega) h2⟩, hR, hw⟩ (by show rs.length - (i + 1) < rs.length - i; omega))
                      | exact WX.loop_next (i + 1, out.set i x) ⟨rfl, rfl, rfl, rfl, rfl, trivial⟩ ⟨by show i + 1 ≤ _; omega, ⟨by show (out.set i x).length = _; rw [List.length_set]; exact hol, fun j hj => (by
                          show (out.set i x).getD j 0 = _
                          rw [List.getD_eq_getElem?_getD, List.getElem?_set]
                          by_cases e : i = j
                          ·
                            rw [if_pos e, if_pos (by omega), ← e, hfx]; rfl
                          ·
                            rw [if_neg e, ← List.getD_eq_getElem?_getD]
                            exact hov j (by have h1 : j < i + 1 := hj; omega))⟩, hA, hO7, hR, hw⟩ (by show rs.length - (i + 1) < rs.length - i; omega)
                      | (have hin : i = rs.length := by omega
                         exact WX.loop_next (k + 1, gs2, ms) ⟨rfl, rfl, rfl, rfl, rfl, trivial⟩ ⟨by show k + 1 ≤ _; omega, hA, hn1, ⟨hmsl, hRl⟩, hG.next (fun p hp => by
                           by_cases e : p = k
                           ·
                             rw [if_pos e, e]; exact h1k
                           ·
                             rw [if_neg e]; exact hz1 p (by omega) e), hR, hw⟩ (by show rs.length - (k + 1) < rs.length - k; omega))
          ·
            refine WL.nil (WX.then_normal (WC.seq (WC.cond_false rfl (WC.exit (WX.then_exit (WX.then_exit (WX.block_here (?_))))))))
            refine WX.then_normal (WC.seq (WC.region (WL.move rfl rfl (?_))))
            have hkn : k = rs.length := by omega
            subst hkn
            refine WL.make (e := eb) (0 : UInt8) rs.length rs.length Tryz.underlying26 info_5 rfl rfl rfl ⟨rfl, rfl, Nat.le_refl _⟩ (by constructor <;> omega) rfl ?_
            intro g5 w5 hO5 k5 z5 e5
            rw [List.length_replicate]
            have zs_k5 := k5.size
            replace hA := hA.pure k5
            replace hR := hR.pure k5
            replace hw := hw.pure k5
            refine WL.assign rfl rfl (WL.nil (WX.then_normal (WC.seq (WC.seq (WC.region (WL.move rfl rfl (WL.move rfl rfl (?_))))))))
            refine WL.nil (WX.then_normal (WC.block (?_)))
            refine WC.loop (σ := Nat × List UInt8) (fun q => [(8, vi rs.length), (9, .slice am ms.length cm), (17, .slice (some ⟨g5, 0, none⟩) rs.length rs.length), (145, vi rs.length), (146, vi (q.1 : Int))])
              (fun q w' => q.1 ≤ rs.length ∧ (q.2.length = rs.length ∧ ∀ j, j < q.1 → q.2.getD j 0 = fn (mx ms) j rs.length) ∧ AR w.heap.size w.heap.size n1 w' 26 5 am cm gs ms ∧ Row (fun b => n1 ≤ b) w' 5 eb (some ⟨g5, 0, none⟩) rs.length q.2 ∧ Blk w' gf 146 FR ∧ Chg (fun x => x = gf) w w') (fun q => rs.length - q.1) (0, List.replicate rs.length 0) ⟨rfl, rfl, rfl, rfl, rfl, trivial⟩ ⟨Nat.zero_le _, ⟨List.length_replicate, fun j hj => absurd hj (Nat.not_lt_zero j)⟩, hA, hO5.mono (fun b hb => by omega), hR, hw⟩ ?_
            clear hA hO5 hR hw
            rintro ⟨i, out⟩ w6 ⟨hi, ⟨hol, hov⟩, hA, hO, hR, hw⟩
            simp only at hi hol hov hO
            dsimp only
            refine WC.seq (WC.region (?_))
            refine WL.lss? rfl rfl rfl (fun h147 => ?_) (fun h147 => ?_)
            ·
              refine WL.nil (WX.then_normal (WC.seq (WC.cond_true rfl (WC.skip (WX.then_normal (WC.seq (WC.block (?_))))))))
              refine WC.seq (WC.region (WL.move rfl rfl (WL.assign rfl rfl (WL.nil (WX.then_normal (WC.region (WL.move rfl rfl (?_))))))))
              refine WL.move rfl rfl (WL.move rfl rfl (WL.move rfl rfl (?_)))
              obtain ⟨ri, hri⟩ : ∃ ri, ms[i]? = some ri := ⟨_, List.getElem?_eq_getElem (by omega)⟩
              obtain ⟨gi, hgi⟩ : ∃ gi, gs[i]? = some gi := ⟨_, List.getElem?_eq_getElem (by have := hA.len; omega)⟩
              obtain ⟨ei, hRi, -, -⟩ := hA.inner i gi ri hgi hri
              have hril := hRl ri (List.mem_of_getElem? hri)
              obtain ⟨x, hx⟩ : ∃ x, ri.xs[rs.length]? = some x := ⟨_, List.getElem?_eq_getElem (by omega)⟩
              have hfx : fn (mx ms) i rs.length = x := by rw [fn_mx hri, List.getD_eq_getElem?_getD, hx]; rfl
              refine WL.indexT (e := erow) Tryz.underlying87 Tryz.sizeOf26 hA.outer.rsl rfl rfl ⟨hri, rfl⟩ rfl ?_
              intro bb oo hcc
              refine WL.load Tryz.isAgg26 rfl (hcc 0 _ rfl) rfl ?_
              refine WL.move rfl rfl (?_)
              refine WL.indexT (e := eb) Tryz.underlying26 Tryz.sizeOf5 hRi.rsl (by show some (Value.slice ri.ao _ _) = _; rw [ei]) rfl ⟨hx, rfl⟩ rfl ?_
              intro bb2 oo2 hcc2
              refine WL.load Tryz.isAgg5 rfl (hcc2 0 _ rfl) rfl ?_
              refine WL.index (j := i) (sz := 1) Tryz.underlying26 Tryz.sizeOf5 rfl rfl rfl (by omega) rfl ?_
              refine WL.storeRow (z := x) i Tryz.sizeOf5 hO rfl rfl rfl (by show 0 + i * 1 = i; omega) (by omega) rfl ?_
              intro w7 z7 hO7 k7
              have hg5n : n1 ≤ g5 := hO.at_ _ rfl
              replace hA := hA.chg k7 (fun b h1 h2 => by have e : b = g5 := h2; omega)
              replace hR := hR.chg k7 (fun e => by have e2 : gf = g5 := e; omega)
              replace hw := hw.chg k7 (fun z hz e => by have e2 : z = g5 := e; omega)
              refine WL.nil (WX.block_normal (WX.then_normal (WC.region (WL.add64 rfl rfl (by omega) rfl (WL.move rfl rfl (WL.nil (?_)))))))
              first
                | exact WX.loop_next (i + 1, a4, c4, _, _, _) ⟨rfl, rfl, rfl, rfl, rfl, rfl, rfl, trivial⟩ ⟨⟨by show i + 1 ≤ _; omega, hB4⟩, hA4, Nat.le_refl _, hw.size, hF, h, hr, hw⟩ (by show rs.length - (i + 1) < rs.length - i; omega)
                | exact WX.loop_next (a + 1) ⟨rfl, rfl, rfl, rfl, rfl, rfl, rfl, trivial⟩ ⟨⟨by omega, by omega⟩, fun i h1 h2 => (by
                    rcases Nat.lt_or_ge i a with h3 | h3
                    ·
                      exact hz0 i h1 h3
                    ·
                      rw [show i = a by omega, hfx]; exact u8_zero h74), hA, hn1, hR, hw⟩ (by omega)
                | exact WX.loop_next (i + 1, ms.set i ⟨ri.ao, ri.cap, ys⟩) ⟨rfl, rfl, by show _ = some (Value.slice am (ms.set i ⟨ri.ao, ri.cap, ys⟩).length cm); rw [List.length_set]; rfl, rfl, rfl, rfl, rfl, rfl, trivial⟩ ⟨by show i + 1 ≤ _; omega, hA0.upd hgi hri hyl hC hr8, by show n1 ≤ _; have := hC.size; omega, ⟨by show (ms.set _ _).length = _; rw [List.length_set]; exact hmsl, fun z hz => by
                    rcases List.mem_or_eq_of_mem_set hz with h2 | h2
                    ·
                      exact hRl z h2
                    ·
                      rw [h2]; show ys.length = _; omega⟩, hG.add ⟨by omega, hik⟩ (by omega) x (fun p j hp => by
                    rw [fn_setr (by omega)]
                    by_cases e : p = i
                    ·
                      rw [if_pos e, if_pos e, e, fn_mx hri, fn_mx hrk]; exact hyv j
                    ·
                      rw [if_neg e, if_neg e]), ⟨by show fn (mx (ms.set _ _)) k k = 1; rw [fn_setr (by omega), if_neg (fun e => hik e.symm)]; exact h1k, fun p h1 h2 => (by
                    show fn (mx (ms.set _ _)) p k = 0
                    rw [fn_setr (by omega)]
                    by_cases e : p = i
                    ·
                      rw [if_pos e]
                      show ys.getD k 0 = 0
                      rw [hyv k, ← fn_mx hri, hfx, ← fn_mx hrk, h1k, one_mul', xor_self']
                    ·
                      rw [if_neg e]; exact hz1 p (by have h1 : p < i + 1 := h1; omega) h2)⟩, hR, hw⟩ (by show rs.length - (i + 1) < rs.length - i; omega)
                | (have hik : i = k := by omega
                   exact WX.loop_next (i + 1, ms) ⟨rfl, rfl, rfl, rfl, rfl, rfl, rfl, rfl, trivial⟩ ⟨by show i + 1 ≤ _; omega, hA, hn1, ⟨hmsl, hRl⟩, hG, ⟨h1k, fun p h1 h2 => hz1 p (by have h1 : p < i + 1 := h1; omega) h2⟩, hR, hw⟩ (by show rs.length - (i + 1) < rs.length - i; omega))
                | exact WX.loop_next (i + 1, out.set i x) ⟨rfl, rfl, rfl, rfl, rfl, trivial⟩ ⟨by show i + 1 ≤ _; omega, ⟨by show (out.set i x).length = _; rw [List.length_set]; exact hol, fun j hj => (by
                    show (out.set i x).getD j 0 = _
                    rw [List.getD_eq_getElem?_getD, List.getElem?_set]
                    by_cases e : i = j
                    ·
                      rw [if_pos e, if_pos (by omega), ← e, hfx]; rfl
                    ·
                      rw [if_neg e, ← List.getD_eq_getElem?_getD]
                      exact hov j (by have h1 : j < i + 1 := hj; omega))⟩, hA, hO7, hR, hw⟩ (by show rs.length - (i + 1) < rs.length - i; omega)
                | (have hin : i = rs.length := by omega
                   exact WX.loop_next (k + 1, gs2, ms) ⟨rfl, rfl, rfl, rfl, rfl, trivial⟩ ⟨by show k + 1 ≤ _; omega, hA, hn1, ⟨hmsl, hRl⟩, hG.next (fun p hp => by
                     by_cases e : p = k
                     ·
                       rw [if_pos e, e]; exact h1k
                     ·
                       rw [if_neg e]; exact hz1 p (by omega) e), hR, hw⟩ (by show rs.length - (k + 1) < rs.length - k; omega))
            ·
              refine WL.nil (WX.then_normal (WC.seq (WC.cond_false rfl (WC.exit (WX.then_exit (WX.then_exit (WX.block_here (?_))))))))
              refine WX.then_normal (WC.seq (WC.region (WL.move rfl rfl (WL.assign rfl rfl (WL.assign rfl rfl (WL.nil (WX.then_normal (?_))))))))
              refine WC.ret (?_)
              refine WX.ret2 (.inl rfl) Tryz.results101 rfl rfl ?_
              have hin : i = rs.length := by omega
              refine ⟨_, rfl, ⟨some ⟨g5, 0, none⟩, rs.length, out, 0, by rw [hol], .inr (.inl ⟨hSok, rfl, by rw [hml]; exact hol, fun z => ?_⟩), hO.mono (fun b hb => by omega)⟩, .inr hR, hw⟩
              rw [hml]
              have hd := hG.done z
              constructor
              ·
                intro hs p hp
                rw [hov p (by omega)]
                exact hd.1 (fun q hq => by
                  rw [hRn q hq, ← hs q hq]
                  exact sumF_cong (fun j hj => by rw [hRj q j hq hj])) p hp
              ·
                intro hs p hp
                rw [← hRn p hp, ← hd.2 (fun q hq => by rw [hs q hq, hov q (by omega)]) p hp]
                exact sumF_cong (fun j hj => by rw [hRj p j hp hj])
end Go.Proofs.YtggecdldnpildaaGreat
