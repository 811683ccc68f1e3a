import Derived.Test.YtjdbjdgobhjbkaaHp
namespace Go.HL
open Go.RowKit
/-- a row of bytes among others: where it lies, its room, what it holds -/
structure Rw where
  ao : Option Addr
  cap : Nat
  xs : List UInt8
def erow : Enc Rw := ⟨1, fun r => [.slice r.ao r.xs.length r.cap], fun _ => rfl, by simp [Value.oneCell'], by decide⟩
/-- rows of bytes that are read -/
structure RS (S : Nat → Prop) (w : World) (ao : Option Addr) (c : Nat) (rs : List Rw) : Prop where
  outer : RSl S w erow ao c rs
  inner : ∀ r ∈ rs, RSl S w eb r.ao r.cap r.xs
section
variable {S : Nat → Prop} {w w' : World} {ao : Option Addr} {c : Nat} {rs : List Rw} {M : Nat → Prop}
theorem RS.chg (h : RS S w ao c rs) (k : Chg M w w') (hd : ∀ b, b < w.heap.size → S b → M b → False) : RS S w' ao c rs := ⟨h.outer.chg k hd, fun r hr => (h.inner r hr).chg k hd⟩
theorem RS.pure (h : RS S w ao c rs) (k : Chg Nob w w') : RS S w' ao c rs := ⟨h.outer.pure k, fun r hr => (h.inner r hr).pure k⟩
theorem RS.mono {S' : Nat → Prop} (h : RS S w ao c rs) (k : ∀ b, S b → S' b) : RS S' w ao c rs := ⟨h.outer.mono k, fun r hr => (h.inner r hr).mono k⟩
theorem RS.old (h : RS S w ao c rs) : RS (· < w.heap.size) w ao c rs := ⟨h.outer.old, fun r hr => (h.inner r hr).old⟩
theorem RS.at (h : RS S w ao c rs) {i : Nat} {r : Rw} (hr : rs[i]? = some r) : RSl S w eb r.ao r.cap r.xs := h.inner r (List.mem_of_getElem? hr)
end
end Go.HL
