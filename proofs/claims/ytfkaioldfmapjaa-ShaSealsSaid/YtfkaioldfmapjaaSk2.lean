import Derived.Test.YtfkaioldfmapjaaSk
namespace Go.Proofs.Ytfkaioldfmapjaa
open Go.RowKit Go.HL
theorem roots_k : ∀ i : Fin 64, rootF (P64.getD i.1 0) true = (K256.getD i.1 0).toUInt64 := by decide +kernel
theorem roots_h : ∀ i : Fin 8, rootF (P64.getD i.1 0) false = (st0.list.getD i.1 0).toUInt64 := by decide +kernel
end Go.Proofs.Ytfkaioldfmapjaa
