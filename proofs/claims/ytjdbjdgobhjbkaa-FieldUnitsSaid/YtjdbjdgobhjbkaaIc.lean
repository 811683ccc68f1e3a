import Derived.Lib.AppendZeros
import Derived.Test.YtjdbjdgobhjbkaaIb
import Derived.Test.YtjdbjdgobhjbkaaHx
import Derived.Test.YtjdbjdgobhjbkaaHo
namespace Go.HL
open Go.RowKit
section
variable {P : Program} {ops : Array Oper} {Q : Exit → Act → World → Prop} {N : Nat} {E : Env} {w : World} {rest : List Oper} {ty : TypeId} {pos : String} {af : Array Edge} {d : Nat} {α : Type} {e : Enc α} {t T tx : TypeId}
/-- noughts are appended to what is nil: room is made -/
theorem WL.appendZ {s x : Operand} {bytes n : Nat} {k kn : IntKind} {z : Value} (hinfo : (P.info? T).map (fun i => (i.zero, i.size, i.bytes)) = some (some z, e.sz, bytes)) (hzs : z.cells.size = e.sz)
    (ht : P.underlying t = some (.slice T)) (htx : P.underlying tx = some (.int kn)) (hs : ev E s = some (.slice none 0 0)) (hx : ev E x = some (.int k (n : Int))) (hn : 0 < n ∧ n ≤ 9223372036854775807 ∧ n * bytes ≤ 140737488355328) (hd : Nat.blt d N = true)
    (h : ∀ g c w', Row (fun b => b = g) w' T e (some ⟨g, 0, none⟩) c ([] : List α) → n ≤ c → Chg Nob w w' → g = w.heap.size → WL P ops Q N rest ((d, .slice (some ⟨g, 0, none⟩) n c) :: E) w') :
    WL P ops Q N (⟨some d, .call ⟨.builtin .append, #[s, x], #[t, tx]⟩, ty, pos, af, none⟩ :: rest) E w := by
  obtain ⟨i, hi, h1, h2, h3⟩ := info_parts hinfo
  have hr := Lib.run_append_nil_zeros (P := P) w t tx ty T i z k kn ht htx hi h1 n hn.1 (by rw [h2]; exact e.pos) (by omega) (by rw [h3]; omega)
  have hge := grownCap_ge w n 0 T
  have hcm : grownCap w n 0 T ≤ maxLen := grownCap_le_maxLen w n 0 T (by simpa [maxLen] using hn.2.1)
  obtain ⟨cap, hcap⟩ : ∃ cap, cap = grownCap w n 0 T := ⟨_, rfl⟩
  rw [← hcap] at hr hge hcm
  obtain ⟨W', hW'⟩ : ∃ W', W' = w.drew.alloc (.cells (Builtin.zeroCells z.cells n ++ Builtin.zeroCells z.cells (cap - n)) T) := ⟨_, rfl⟩
  rw [← hW'] at hr
  refine WL.run (.slice (some ⟨w.heap.size, 0, none⟩) n cap) W' (fun a ha => by simp [execOp, resolve, invoke, builtin, ev_eval ha hs, ev_eval ha hx, hr]) hd ?_
  subst hW'
  refine h w.heap.size cap _ ⟨fun a ea => by injection ea with ea; subst ea; rfl, by simp [Enc.all], Nat.zero_le _, .inr ⟨w.heap.size, _, (0, 0), rfl, heap_alloc_new w.drew _, fun j _ hh => by omega, hcm, ?_, ?_⟩⟩ hge ⟨rfl, rfl, rfl, by simp, fun k hk _ => Below.heap_alloc w.drew _ k hk⟩ rfl
  · simp only [Array.size_append, size_zeroCells, hzs, ← Nat.add_mul]
    congr 1
    omega
  · simp [Enc.all]
end
end Go.HL
