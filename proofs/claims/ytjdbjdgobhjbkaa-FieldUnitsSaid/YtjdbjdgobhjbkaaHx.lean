import Derived.Test.YtjdbjdgobhjbkaaHv
import Derived.Test.YtjdbjdgobhjbkaaHw
import Derived.Test.YtjdbjdgobhjbkaaHk
namespace Go.HL
open Go.RowKit
section
variable {P : Program} {N : Nat} {E : Env} {w : World} {fn : Func} {R : Ending → World → Prop}
theorem WX.ret3c {x : Exit} (hx : x = .ret ∨ x = .normal) {t u s T e : TypeId} {b k : Nat} {cs : List Value} {v z : Value} (h : fn.results = #[.cell t T, .tmp u, .tmp s]) (ha : ∀ w, (isAgg T).run P w = .ok true w) (hs : ∀ w, (sizeOf T).run P w = .ok k w) (hb : Blk w b e cs) (hv : E.lookup t = some (.pointer (some ⟨b, 0, none⟩))) (hk : cs.length = k)
    (hu : E.lookup u = some v) (hz : E.lookup s = some z) (hR : R (.returned (.tuple #[.agg cs.toArray, v, z])) w) : WX (bodyPost P fn R) x N E w :=
  WX.retOf hx _ (fun a hh => by
    have h1 := getD_of hh hv
    have h3 := getD_of hh hu
    have h4 := getD_of hh hz
    simp only [Array.getD_eq_getD_getElem?] at h1 h3 h4
    have h2 := run_loadVarB ha hs hb hk
    simp [results, h, h1, h3, h4, asAddr, h2]) hR
end
section
variable {P : Program} {ops : Array Oper} {Q : Exit → Act → World → Prop} {N : Nat} {E : Env} {w : World} {rest : List Oper}
  {d : Nat} {ty : TypeId} {pos : String} {af : Array Edge} {α : Type} {e : Enc α} {S : Nat → Prop} {t tx T : TypeId} {s x : Operand} {g i c bytes : Nat} {xs ys : List α} {z v : Value}
/-- append within a row of the call's own -/
theorem WL.appendRoom (hinfo : (P.info? T).map (fun i => (i.zero, i.size, i.bytes)) = some (some z, e.sz, bytes)) (ht : P.underlying t = some (.slice T)) (hs : ev E s = some (.slice (some ⟨g, 0, none⟩) i c)) (hx : ev E x = some v) (ho : Row S w T e (some ⟨g, 0, none⟩) c xs) (hsrc : Src P e.sz tx v ys.length (e.all ys) w)
    (hroom : i + ys.length ≤ xs.length) (hd : Nat.blt d N = true)
    (h : ∀ w', Row S w' T e (some ⟨g, 0, none⟩) c (xs.take i ++ ys ++ xs.drop (i + ys.length)) → Chg (· = g) w w' → w'.heap.size = w.heap.size → WL P ops Q N rest ((d, .slice (some ⟨g, 0, none⟩) (i + ys.length) c) :: E) w') :
    WL P ops Q N (⟨some d, .call ⟨.builtin .append, #[s, x], #[t, tx]⟩, ty, pos, af, none⟩ :: rest) E w := by
  obtain ⟨inf, hi, h1, h2, h3⟩ := info_parts hinfo
  have hlen : (e.all ys).length = ys.length * e.sz := Enc.all_len _ _
  have hcap := ho.own.cap
  have hxl : (e.all xs).length = xs.length * e.sz := Enc.all_len _ _
  have hfit : i * e.sz + (e.all ys).length ≤ xs.length * e.sz := by rw [hlen, ← Nat.add_mul]; exact Nat.mul_le_mul_right _ hroom
  have hsp := ho.splice (o := i * e.sz) (vs := e.all ys) (ys := xs.take i ++ ys ++ xs.drop (i + ys.length)) hfit (by simp; omega) (by rw [Enc.all_append, Enc.all_append, ← Enc.all_take, ← Enc.all_drop, hlen, Nat.add_mul])
  have hr := run_append_room_src (P := P) w t tx ty T inf ht hi g 0 i c v ys.length (e.all ys) (by rw [h2]; exact hsrc) (by omega)
    (fun j hj => by
      rw [Nat.zero_add, h2]
      exact hsp.2.1 j (by omega))
    (fun j hj => by
      rw [Nat.zero_add, h2]
      exact hsp.2.2 j (by omega))
  rw [Nat.zero_add, h2] at hr
  exact WL.run _ _ (fun a ha => by simp [execOp, resolve, invoke, builtin, ev_eval ha hs, ev_eval ha hx, hr]) hd (h _ hsp.1 (setCells_chg g _ _ w) (setCells_sz _ _ _))
/-- a part of a slice, up to its room -/
theorem WL.sliceN {lo hi : Option Operand} {ao : Option Addr} {n l h : Nat} {k j : IntKind} {sz : Nat} (ht : P.underlying t = some (.slice T)) (hs : ∀ w, (sizeOf T).run P w = .ok sz w) (hx : ev E x = some (.slice ao n c))
    (hlo : lo.map (ev E) = some (some (.int k (l : Int))) ∨ lo = none ∧ l = 0) (hhi : hi.map (ev E) = some (some (.int j (h : Int))) ∧ h ≤ c ∨ hi = none ∧ h = n) (hl : l ≤ h) (hd : Nat.blt d N = true)
    (k' : WL P ops Q N rest ((d, .slice (cutAt ao c l sz) (h - l) (c - l)) :: E) w) : WL P ops Q N (⟨some d, .slice t x lo hi none, ty, pos, af, none⟩ :: rest) E w := by
  refine WL.run _ w (fun a ha => ?_) hd k'
  have hlo' : lo.map a.eval = some (.int k (l : Int)) ∨ lo.map a.eval = none ∧ l = 0 := by
    rcases hlo with h2 | ⟨rfl, h2⟩
    · cases lo with
      | none => cases h2
      | some y => simp at h2; left; simp [ev_eval ha h2]
    · right; exact ⟨rfl, h2⟩
  have hhi' : hi.map a.eval = some (.int j (h : Int)) ∧ h ≤ c ∨ hi.map a.eval = none ∧ h = n := by
    rcases hhi with ⟨h2, h3⟩ | ⟨rfl, h2⟩
    · cases hi with
      | none => cases h2
      | some y => simp at h2; left; exact ⟨by simp [ev_eval ha h2], h3⟩
    · right; exact ⟨rfl, h2⟩
  simp only [execOp, ev_eval ha hx, Option.map_none]
  simp [run_sliceAt w ht hs ao n c l h k j _ _ hlo' hhi' hl]
/-- a part with its room told: only its run counts -/
theorem WL.slice3 {lo hi mx : Operand} {ao : Option Addr} {n l h m : Nat} {k j q : IntKind} {sz : Nat} (ht : P.underlying t = some (.slice T)) (hs : ∀ w, (sizeOf T).run P w = .ok sz w) (hx : ev E x = some (.slice ao n c))
    (hlo : ev E lo = some (.int k (l : Int))) (hhi : ev E hi = some (.int j (h : Int))) (hmx : ev E mx = some (.int q (m : Int))) (hl : l ≤ h ∧ h ≤ m ∧ m ≤ c) (hd : Nat.blt d N = true)
    (k' : ∀ u, WL P ops Q N rest ((d, u) :: E) w) : WL P ops Q N (⟨some d, .slice t x (some lo) (some hi) (some mx), ty, pos, af, none⟩ :: rest) E w := by
  have hr : ∃ u, (Instr.sliceAt t (.slice ao n c) (some (.int k (l : Int))) (some (.int j (h : Int))) (some (.int q (m : Int)))).run P w = .ok u w := by
    have e1 : (0 : Int) ≤ (l : Int) ∧ (l : Int) ≤ (h : Int) := by omega
    have e2 : (h : Int) ≤ (m : Int) := by omega
    have e3 : m ≤ c := hl.2.2
    simp [Instr.sliceAt, Instr.slice, Instr.sliceBounds, Instr.sliceBound, asIntOf, run_underlying ht, hs, e1, e2, e3, hl.1, hl.2.1]
  obtain ⟨u, hu⟩ := hr
  refine WL.run u w (fun a ha => ?_) hd (k' u)
  simp [execOp, ev_eval ha hx, ev_eval ha hlo, ev_eval ha hhi, ev_eval ha hmx, hu]
end
end Go.HL
