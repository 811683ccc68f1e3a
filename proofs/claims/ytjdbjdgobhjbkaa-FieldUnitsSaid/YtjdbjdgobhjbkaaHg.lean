import Derived.Laws.BytesString
import Derived.Laws.MakeOwn
import Derived.Test.YtjdbjdgobhjbkaaHf
namespace Go.HL
open Go.RowKit

/-! pieces of slices -/
def cutAt (ao : Option Addr) (c l sz : Nat) : Option Addr := if c = l then ao else ao.map (·.add (l * sz))
theorem cutAt_at {S : Nat → Prop} {ao : Option Addr} (h : At S ao) (c l sz : Nat) : At S (cutAt ao c l sz) := by
  intro a ea
  unfold cutAt at ea
  split at ea
  · exact h a ea
  · cases ao with
    | none => cases ea
    | some a0 =>
      simp at ea
      subst ea
      have := h a0 rfl
      unfold Addr.add
      split <;> exact this
section
variable {α : Type} {e : Enc α} {S : Nat → Prop} {w : World} {ao : Option Addr} {c : Nat} {xs : List α}
theorem RSl.drop (h : RSl S w e ao c xs) (l : Nat) (hl : l ≤ xs.length) : RSl S w e (cutAt ao c l e.sz) (c - l) (xs.drop l) := by
  refine ⟨fun hx => cutAt_at (h.at_ (fun h0 => hx (by simp [h0]))) _ _ _, by have := h.cap; simp; omega, Enc.all_len _ _, fun j u hu => ?_⟩
  rw [← Enc.all_drop, List.getElem?_drop] at hu
  obtain ⟨b, off, rfl, hc⟩ := h.sl.2 _ u hu
  have h1 := (List.getElem?_eq_some_iff.1 hu).1
  rw [Enc.all_len] at h1
  have hlt : l < xs.length := by
    rcases Nat.lt_or_ge l xs.length with h2 | h2
    · exact h2
    · have := Nat.mul_le_mul_right e.sz h2; omega
  have hne : ¬ c = l := by have := h.cap; omega
  refine ⟨b, off + l * e.sz, ?_, by rw [Nat.add_assoc]; exact hc⟩
  simp [cutAt, hne, Addr.add_lit]
theorem RSl.take (h : RSl S w e ao c xs) (k : Nat) (hk : k ≤ xs.length) : RSl S w e ao c (xs.take k) := by
  refine ⟨fun hx => h.at_ (fun h0 => hx (by simp [h0])), by have := h.cap; simp; omega, Enc.all_len _ _, fun j u hu => ?_⟩
  rw [← Enc.all_take, List.getElem?_take] at hu
  split at hu
  · exact h.sl.2 j u hu
  · cases hu
theorem RSl.cap_le (h : RSl S w e ao c xs) : xs.length ≤ c := h.cap
end
section
variable {P : Program} {ops : Array Oper} {Q : Exit → Act → World → Prop} {N : Nat} {E : Env} {w : World} {rest : List Oper}
  {d : Nat} {ty : TypeId} {pos : String} {af : Array Edge} {α : Type} {e : Enc α} {S : Nat → Prop}
theorem run_sliceAt {t T : TypeId} (w : World) (ht : P.underlying t = some (.slice T)) {sz : Nat} (hs : ∀ w, (sizeOf T).run P w = .ok sz w) (ao : Option Addr) (n c l h : Nat) (k j : IntKind) (lo hi : Option Value) (hlo : lo = some (.int k (l : Int)) ∨ lo = none ∧ l = 0) (hhi : hi = some (.int j (h : Int)) ∧ h ≤ c ∨ hi = none ∧ h = n) (hl : l ≤ h) :
    (Instr.sliceAt t (.slice ao n c) lo hi none).run P w = .ok (.slice (cutAt ao c l sz) (h - l) (c - l)) w := by
  have h1 : (0 : Int) ≤ (l : Int) ∧ (l : Int) ≤ (h : Int) := by omega
  rcases hlo with rfl | ⟨rfl, rfl⟩ <;> rcases hhi with ⟨rfl, h2⟩ | ⟨rfl, rfl⟩ <;>
    simp [Instr.sliceAt, Instr.slice, Instr.sliceBounds, Instr.sliceBound, asIntOf, run_underlying ht, hs, cutAt, *]
theorem WL.slice {t T : TypeId} {x : Operand} {lo hi : Option Operand} {ao : Option Addr} {c l h : Nat} {k j : IntKind} {xs : List α} (ht : P.underlying t = some (.slice T)) (hs : ∀ w, (sizeOf T).run P w = .ok e.sz w) (hr : RSl S w e ao c xs) (hx : ev E x = some (.slice ao xs.length c))
    (hlo : lo.map (ev E) = some (some (.int k (l : Int))) ∨ lo = none ∧ l = 0) (hhi : hi.map (ev E) = some (some (.int j (h : Int))) ∨ hi = none ∧ h = xs.length) (hl : l ≤ h ∧ h ≤ xs.length) (hd : Nat.blt d N = true)
    (k' : ∀ ao2 c2, RSl S w e ao2 c2 ((xs.take h).drop l) → (ao = none → ao2 = none) → WL P ops Q N rest ((d, .slice ao2 ((xs.take h).drop l).length c2) :: E) w) : WL P ops Q N (⟨some d, .slice t x lo hi none, ty, pos, af, none⟩ :: rest) E w := by
  have h1 := (hr.take h hl.2).drop l (by simp; omega)
  have hlen : h - l = ((xs.take h).drop l).length := by simp; omega
  refine WL.run _ w (fun a ha => ?_) hd (k' _ _ h1 (fun hn => by subst hn; unfold cutAt; split <;> rfl))
  have hlo' : lo.map a.eval = some (.int k (l : Int)) ∨ lo.map a.eval = none ∧ l = 0 := by
    rcases hlo with h2 | ⟨rfl, h2⟩
    · cases lo with
      | none => cases h2
      | some y => simp at h2; left; simp [ev_eval ha h2]
    · right; exact ⟨rfl, h2⟩
  have hhi' : hi.map a.eval = some (.int j (h : Int)) ∧ h ≤ c ∨ hi.map a.eval = none ∧ h = xs.length := by
    rcases hhi with h2 | ⟨rfl, h2⟩
    · cases hi with
      | none => cases h2
      | some y => simp at h2; left; exact ⟨by simp [ev_eval ha h2], by have := hr.cap; omega⟩
    · right; exact ⟨rfl, h2⟩
  simp only [execOp, ev_eval ha hx, Option.map_none]
  rw [← hlen]
  simp [run_sliceAt w ht hs ao xs.length c l h k j _ _ hlo' hhi' hl.1]
theorem RSl.cut {ao : Option Addr} {c : Nat} {xs : List α} (hr : RSl S w e ao c xs) (l h : Nat) (hl : l ≤ h ∧ h ≤ xs.length) : RSl S w e (cutAt ao c l e.sz) (c - l) ((xs.take h).drop l) := (hr.take h hl.2).drop l (by simp; omega)
/-- the same with its place written out -/
theorem WL.sliceC {t T : TypeId} {x : Operand} {lo hi : Option Operand} {ao : Option Addr} {c l h : Nat} {k j : IntKind} {xs : List α} (ht : P.underlying t = some (.slice T)) (hs : ∀ w, (sizeOf T).run P w = .ok e.sz w) (hr : RSl S w e ao c xs) (hx : ev E x = some (.slice ao xs.length c))
    (hlo : lo.map (ev E) = some (some (.int k (l : Int))) ∨ lo = none ∧ l = 0) (hhi : hi.map (ev E) = some (some (.int j (h : Int))) ∨ hi = none ∧ h = xs.length) (hl : l ≤ h ∧ h ≤ xs.length) (hd : Nat.blt d N = true)
    (k' : WL P ops Q N rest ((d, .slice (cutAt ao c l e.sz) ((xs.take h).drop l).length (c - l)) :: E) w) : WL P ops Q N (⟨some d, .slice t x lo hi none, ty, pos, af, none⟩ :: rest) E w := by
  have hlen : h - l = ((xs.take h).drop l).length := by simp; omega
  refine WL.run _ w (fun a ha => ?_) hd k'
  have hlo' : lo.map a.eval = some (.int k (l : Int)) ∨ lo.map a.eval = none ∧ l = 0 := by
    rcases hlo with h2 | ⟨rfl, h2⟩
    · cases lo with
      | none => cases h2
      | some y => simp at h2; left; simp [ev_eval ha h2]
    · right; exact ⟨rfl, h2⟩
  have hhi' : hi.map a.eval = some (.int j (h : Int)) ∧ h ≤ c ∨ hi.map a.eval = none ∧ h = xs.length := by
    rcases hhi with h2 | ⟨rfl, h2⟩
    · cases hi with
      | none => cases h2
      | some y => simp at h2; left; exact ⟨by simp [ev_eval ha h2], by have := hr.cap; omega⟩
    · right; exact ⟨rfl, h2⟩
  simp only [execOp, ev_eval ha hx, Option.map_none]
  rw [← hlen]
  simp [run_sliceAt w ht hs ao xs.length c l h k j _ _ hlo' hhi' hl.1]
theorem WL.sslice {t : TypeId} {x : Operand} {lo hi : Option Operand} {l h : Nat} {k j : IntKind} {s : ByteArray} (ht : P.underlying t = some .string) (hx : ev E x = some (.string s))
    (hlo : lo.map (ev E) = some (some (.int k (l : Int))) ∨ lo = none ∧ l = 0) (hhi : hi.map (ev E) = some (some (.int j (h : Int))) ∨ hi = none ∧ h = s.size) (hl : l ≤ h ∧ h ≤ s.size) (hd : Nat.blt d N = true)
    (k' : WL P ops Q N rest ((d, .string (s.extract l h)) :: E) w) : WL P ops Q N (⟨some d, .slice t x lo hi none, ty, pos, af, none⟩ :: rest) E w := by
  refine WL.run _ w (fun a ha => ?_) hd k'
  have h1 : (0 : Int) ≤ (l : Int) ∧ (l : Int) ≤ (h : Int) := by omega
  have h2 : (h : Int) ≤ (s.size : Int) := by omega
  have hlo' : lo.map a.eval = some (.int k (l : Int)) ∨ lo.map a.eval = none ∧ l = 0 := by
    rcases hlo with h2 | ⟨rfl, h2⟩
    · cases lo with
      | none => cases h2
      | some y => simp at h2; left; simp [ev_eval ha h2]
    · right; exact ⟨rfl, h2⟩
  have hhi' : hi.map a.eval = some (.int j (h : Int)) ∨ hi.map a.eval = none ∧ h = s.size := by
    rcases hhi with h2 | ⟨rfl, h2⟩
    · cases hi with
      | none => cases h2
      | some y => simp at h2; left; simp [ev_eval ha h2]
    · right; exact ⟨rfl, h2⟩
  simp only [execOp, ev_eval ha hx, Option.map_none]
  have h7 : (l : Int) ≤ (s.size : Int) := by omega
  rcases hlo' with h3 | ⟨h3, h5⟩ <;> rcases hhi' with h4 | ⟨h4, h6⟩ <;> rw [h3, h4] <;> (try subst h5) <;> (try subst h6) <;>
    simp [Instr.sliceAt, Instr.slice, Instr.sliceBounds, Instr.sliceBound, asIntOf, run_underlying ht, *]

/-! bytes and texts -/
theorem eb_all (xs : List UInt8) : eb.all xs = xs.map v8 := by
  unfold Enc.all eb
  induction xs with
  | nil => rfl
  | cons x r ih => rw [List.flatMap_cons, ih]; rfl
theorem run_toString {T src dst : TypeId} (w : World) (hk : P.underlying src = some (.slice T)) (hT : P.underlying T = some (.int .u8)) (ht : P.underlying dst = some .string) {ao : Option Addr} {c : Nat} {xs : List UInt8} (h : RSl S w eb ao c xs) :
    (convert src dst (.slice ao xs.length c)).run P w = .ok (.string ⟨xs.toArray⟩) w := by
  have hall := eb_all xs
  rw [run_convert_bytes_string w src dst T ao xs.length c hk hT ht]
  cases ao with
  | none =>
    have := h.none_nil
    subst this
    rfl
  | some a =>
    have hl := run_loadCells_list (P := P) w a (eb.all xs) (fun j u hu => by
      obtain ⟨b, off, ea, hc⟩ := h.sl.2 j u hu
      injection ea with ea
      subst ea
      rw [Addr.add_lit, hc])
    have hr := run_bytesToString (P := P) w a xs.length c (xs.map fun b => (b.toNat : Int)) (by
      have hlen : (eb.all xs).length = xs.length := by rw [Enc.all_len]; simp [eb]
      rw [hlen, hall] at hl
      rw [hl, List.map_map]
      rfl)
    have hf : ∀ (l : List UInt8) (s : ByteArray), (l.map fun b => (b.toNat : Int)).foldl (fun r n => r.push (UInt8.ofNat n.toNat)) s = ⟨s.data ++ l.toArray⟩ := by
      intro l
      induction l with
      | nil => intro s; simp
      | cons x r ih =>
        intro s
        simp only [List.map_cons, List.foldl_cons]
        rw [ih]
        congr 1
        apply Array.ext'
        simp [ByteArray.push]
    rw [hr, hf]
    simp
theorem WL.toStr {T src dst : TypeId} {x : Operand} {ao : Option Addr} {c : Nat} {xs : List UInt8} (hk : P.underlying src = some (.slice T)) (hT : P.underlying T = some (.int .u8)) (ht : P.underlying dst = some .string) (h : RSl S w eb ao c xs) (hx : ev E x = some (.slice ao xs.length c)) (hd : Nat.blt d N = true)
    (k : WL P ops Q N rest ((d, .string ⟨xs.toArray⟩) :: E) w) : WL P ops Q N (⟨some d, .convert src dst x, ty, pos, af, none⟩ :: rest) E w :=
  WL.run _ w (fun a ha => by simp [execOp, ev_eval ha hx, run_toString w hk hT ht h]) hd k
theorem toBytes_row (w : World) (T : TypeId) (s : ByteArray) (hs : s.size ≤ maxLen) : Row (w.heap.size ≤ ·) (Lib.bytesWorld w T s) T eb (some ⟨w.heap.size, 0, none⟩) (grownCap w s.size 0 T) s.data.toList := by
  have hall := eb_all s.data.toList
  have hge := grownCap_ge w s.size 0 T
  have e2 : s.data.toList.length = s.size := by simp
  refine ⟨fun a ea => by injection ea with ea; subst ea; exact Nat.le_refl _, Enc.all_len _ _, by rw [e2]; exact hge, .inr ⟨_, _, _, rfl, Lib.bytesWorld_at_new w T s, fun j hj hh => by have := hh.1; simp only at this; omega, grownCap_le_maxLen w _ 0 T hs, ?_, ?_⟩⟩
  · simp [Lib.bytesCells, eb]; omega
  · rw [hall]
    simp only [eb, Nat.mul_one, Lib.bytesCells, Array.toList_append]
    rw [List.take_append_of_le_length (by simp)]
    rw [List.take_of_length_le (by simp)]
    simp
theorem toBytes_chg (w : World) (T : TypeId) (s : ByteArray) : Chg Nob w (Lib.bytesWorld w T s) :=
  ⟨rfl, rfl, rfl, by rw [Lib.bytesWorld_size]; omega, fun k hk _ => Lib.bytesWorld_at_old w T s k hk⟩
theorem WL.toBytes {T src dst : TypeId} {x : Operand} {s : ByteArray} (hk : P.underlying src = some .string) (ht : P.underlying dst = some (.slice T)) (hT : P.underlying T = some (.int .u8)) (hx : ev E x = some (.string s)) (hs : s.size ≤ 9223372036854775807) (hd : Nat.blt d N = true)
    (k : ∀ ao c w', Row (w.heap.size ≤ ·) w' T eb ao c s.data.toList → Chg Nob w w' → w'.heap.size = w.heap.size + 1 → WL P ops Q N rest ((d, .slice ao s.data.toList.length c) :: E) w') : WL P ops Q N (⟨some d, .convert src dst x, ty, pos, af, none⟩ :: rest) E w := by
  refine WL.run _ _ (fun a ha => ?_) hd (k _ _ _ (toBytes_row w T s (by simpa [maxLen] using hs)) (toBytes_chg w T s) (Lib.bytesWorld_size w T s))
  have h1 := Lib.run_convert_string_bytes (P := P) w src dst T s hk ht hT
  have e2 : s.data.toList.length = s.size := by simp
  simp [execOp, ev_eval ha hx, h1, e2]
/-! values of several parts -/
def evq (E : Env) : List (Nat × Operand) → Option (List (Nat × Value))
  | [] => some []
  | (i, x) :: r => (ev E x).bind fun v => (evq E r).map ((i, v) :: ·)
theorem evq_eval {a : Act} (ha : Holds N E a) : ∀ {ps : List (Nat × Operand)} {l : List (Nat × Value)}, evq E ps = some l → ps.map (fun p => (p.1, a.eval p.2)) = l
  | [], l, h => by simp [evq] at h; simp [h]
  | (i, x) :: r, l, h => by
    simp only [evq, Option.bind_eq_some_iff, Option.map_eq_some_iff] at h
    obtain ⟨v, hv, us, hu, rfl⟩ := h
    simp [ev_eval ha hv, evq_eval ha hu]
theorem WL.bld {t : TypeId} {ps : List (Nat × Operand)} {l : List (Nat × Value)} {v : Value} (hx : evq E ps = some l) (hrun : ∀ w, (Instr.build t l.toArray).run P w = .ok v w) (hd : Nat.blt d N = true)
    (h : WL P ops Q N rest ((d, v) :: E) w) : WL P ops Q N (⟨some d, .build t ps.toArray, ty, pos, af, none⟩ :: rest) E w :=
  WL.run v w (fun a ha => by simp [execOp, evq_eval ha hx, hrun]) hd h
end
end Go.HL
