import Derived.Test.YtjdbjdgobhjbkaaFa
namespace Go.HL
def xNext (x : Nat) : Nat := if 255 < 2 * x then (2 * x) ^^^ 285 else 2 * x
def X : Nat → Nat
  | 0 => 1
  | n + 1 => xNext (X n)
def expN : Nat → List UInt8
  | 0 => List.replicate 510 0
  | n + 1 => ((expN n).set n (UInt8.ofNat (X n))).set (n + 255) (UInt8.ofNat (X n))
def logN : Nat → List Nat
  | 0 => List.replicate 256 0
  | n + 1 => (logN n).set (X n) n
theorem X_lt : ∀ n : Fin 256, X n.1 < 256 := by decide +kernel
set_option maxRecDepth 100000 in
theorem exp_end : expN 255 = EXP := by decide +kernel
set_option maxRecDepth 100000 in
theorem log_end : logN 255 = LOG := by decide +kernel
end Go.HL
