/-
  No cell of these rows narrows 'for every input' (looked for: loops, veiled, ifaces, maps, wideKeys, modest, calm, conditions, laid).
  DERIVED. THE GIVEN ROWS OF THIS SEAT. 5 by the template 'for every input the law returns true; each argument reads behind the call as it read before'; 0 by the template 'total and deterministic' (their statements: YtgmkoieemmglpaaTotals.lean).
  GIVEN WITH THE SEED: the statements are not yours to turn. If you find one false, say at which input.
  Laid BY PROGRAM, IN A SANDBOX (cutbox-rows.mjs): the forced cells as the released guide's own fill.sh prints them over the translation 144390189b497a46… (all of the seat's roots in one cut). By AI agents, Wed Nov 11 2026. No macro, syntax, notation, axiom, sorry.
-/
import Derived.Test.YtgmkoieemmglpaaChecked
import GoSem.Claim
import GoSem.ClaimJoined
import GoSem.ClaimMapViews
import Derived.JoinedTies
import Derived.KernelRfl
namespace Go.Proofs.Ytgmkoieemmglpaa
/- THE CELL 'sum', in the pinned program and in every row, IS THE sha256 OF THE DUMP (.gsa) THAT YtgmkoieemmglpaaProg.lean LOADS. Nothing in Lean hashes anything: it is a label: what it is worth is what the hold of that sum in a sandbox is worth. -/
noncomputable def Try.pinned : Pinned := { name := "ytgmkoieemmglpaa", sum := "144390189b497a4609ca008f5ba234fbdc2bcf852f1b67b7e1baf418d067681c", checked := Try.checked }
namespace Rows
def none {H : Type} : Left H := { results := [], args := [] }

/-- 'hoardlaw11.DeadPlays': WHATEVER THE INPUT: true; the input reads as it did. -/
def deadPlaysSpec : ChangeSpec := { name := "deadPlays", fn := fun _ => fun
  | [d1, d2, d3] => { results := [.lit (.bool true)], args := [d1, d2, d3] }
  | _ => none }
def deadPlaysRow : OpenClaim := { program := "ytgmkoieemmglpaa", sum := "144390189b497a4609ca008f5ba234fbdc2bcf852f1b67b7e1baf418d067681c", func := "hoard/hoardlaw11.DeadPlays", spec := "deadPlays", unfollowed := true, recurses := true, apart := false }
def DeadPlaysSaid : Prop := deadPlaysRow.holds Try.pinned (OpenSpec.ofChange deadPlaysSpec)

/-- ITS FALSE NEIGHBOUR: 'it returns false'. Refute it at one input. -/
def deadPlaysWrong : ChangeSpec := { name := "deadPlays", fn := fun _ => fun
  | [d1, d2, d3] => { results := [.lit (.bool false)], args := [d1, d2, d3] }
  | _ => none }
def DeadPlaysWrongFalsely : Prop := deadPlaysRow.holds Try.pinned (OpenSpec.ofChange deadPlaysWrong)

/-- 'hoardlaw11.DeadGoes': WHATEVER THE INPUT: true; the input reads as it did. -/
def deadGoesSpec : ChangeSpec := { name := "deadGoes", fn := fun _ => fun
  | [d1, d2] => { results := [.lit (.bool true)], args := [d1, d2] }
  | _ => none }
def deadGoesRow : OpenClaim := { program := "ytgmkoieemmglpaa", sum := "144390189b497a4609ca008f5ba234fbdc2bcf852f1b67b7e1baf418d067681c", func := "hoard/hoardlaw11.DeadGoes", spec := "deadGoes", unfollowed := true, recurses := true, apart := false }
def DeadGoesSaid : Prop := deadGoesRow.holds Try.pinned (OpenSpec.ofChange deadGoesSpec)

/-- ITS FALSE NEIGHBOUR: 'it returns false'. Refute it at one input. -/
def deadGoesWrong : ChangeSpec := { name := "deadGoes", fn := fun _ => fun
  | [d1, d2] => { results := [.lit (.bool false)], args := [d1, d2] }
  | _ => none }
def DeadGoesWrongFalsely : Prop := deadGoesRow.holds Try.pinned (OpenSpec.ofChange deadGoesWrong)

/-- 'hoardlaw11.DeadExact': WHATEVER THE INPUT: true; the input reads as it did. -/
def deadExactSpec : ChangeSpec := { name := "deadExact", fn := fun _ => fun
  | [d1, d2, d3] => { results := [.lit (.bool true)], args := [d1, d2, d3] }
  | _ => none }
def deadExactRow : OpenClaim := { program := "ytgmkoieemmglpaa", sum := "144390189b497a4609ca008f5ba234fbdc2bcf852f1b67b7e1baf418d067681c", func := "hoard/hoardlaw11.DeadExact", spec := "deadExact", unfollowed := true, recurses := true, apart := false }
def DeadExactSaid : Prop := deadExactRow.holds Try.pinned (OpenSpec.ofChange deadExactSpec)

/-- ITS FALSE NEIGHBOUR: 'it returns false'. Refute it at one input. -/
def deadExactWrong : ChangeSpec := { name := "deadExact", fn := fun _ => fun
  | [d1, d2, d3] => { results := [.lit (.bool false)], args := [d1, d2, d3] }
  | _ => none }
def DeadExactWrongFalsely : Prop := deadExactRow.holds Try.pinned (OpenSpec.ofChange deadExactWrong)

/-- 'hoardlaw11.DeadApart': WHATEVER THE INPUT: true; the input reads as it did. -/
def deadApartSpec : ChangeSpec := { name := "deadApart", fn := fun _ => fun
  | [d1, d2, d3] => { results := [.lit (.bool true)], args := [d1, d2, d3] }
  | _ => none }
def deadApartRow : OpenClaim := { program := "ytgmkoieemmglpaa", sum := "144390189b497a4609ca008f5ba234fbdc2bcf852f1b67b7e1baf418d067681c", func := "hoard/hoardlaw11.DeadApart", spec := "deadApart", unfollowed := true, recurses := true, apart := false }
def DeadApartSaid : Prop := deadApartRow.holds Try.pinned (OpenSpec.ofChange deadApartSpec)

/-- ITS FALSE NEIGHBOUR: 'it returns false'. Refute it at one input. -/
def deadApartWrong : ChangeSpec := { name := "deadApart", fn := fun _ => fun
  | [d1, d2, d3] => { results := [.lit (.bool false)], args := [d1, d2, d3] }
  | _ => none }
def DeadApartWrongFalsely : Prop := deadApartRow.holds Try.pinned (OpenSpec.ofChange deadApartWrong)

/-- 'hoardlaw11.DeadOrders': WHATEVER THE INPUT: true; the input reads as it did. -/
def deadOrdersSpec : ChangeSpec := { name := "deadOrders", fn := fun _ => fun
  | [d1, d2] => { results := [.lit (.bool true)], args := [d1, d2] }
  | _ => none }
def deadOrdersRow : OpenClaim := { program := "ytgmkoieemmglpaa", sum := "144390189b497a4609ca008f5ba234fbdc2bcf852f1b67b7e1baf418d067681c", func := "hoard/hoardlaw11.DeadOrders", spec := "deadOrders", unfollowed := true, recurses := true, apart := false }
def DeadOrdersSaid : Prop := deadOrdersRow.holds Try.pinned (OpenSpec.ofChange deadOrdersSpec)

/-- ITS FALSE NEIGHBOUR: 'it returns false'. Refute it at one input. -/
def deadOrdersWrong : ChangeSpec := { name := "deadOrders", fn := fun _ => fun
  | [d1, d2] => { results := [.lit (.bool false)], args := [d1, d2] }
  | _ => none }
def DeadOrdersWrongFalsely : Prop := deadOrdersRow.holds Try.pinned (OpenSpec.ofChange deadOrdersWrong)

/- THE SECOND FORM. 'bulk': how many values and letters a reading holds, each counted each time it is reached (what is shared counts as often as it is met; a slice's spare places count too). A statement '..UptoSaid' is the law's where the arguments, and the package variables that the reading takes, are together of bulk at most 1048576: NARROWER than '..Said'. Prove '..Said' where nothing that the law and all that it calls make is longer than what came in: it says more and counts as full. Else prove '..UptoSaid'. A law counts once. -/
mutual
def uptoBulk {H : Type} : DataW H → Nat
  | .lit (.string bytes) => bytes.length + 1
  | .lit _ => 1
  | .nil => 1
  | .ptr d => uptoBulk d + 1
  | .slice elems spare => uptoBulkAll elems + uptoBulkAll spare + 1
  | .agg parts => uptoBulkAll parts + 1
  | .iface _ d => uptoBulk d + 1
  | .map entries => uptoBulkEntries entries + 1
  | .held _ => 1
def uptoBulkAll {H : Type} : List (DataW H) → Nat
  | [] => 0
  | d :: r => uptoBulk d + uptoBulkAll r
def uptoBulkEntries {H : Type} : List (Lit × DataW H) → Nat
  | [] => 0
  | x :: r => uptoBulkEntry x + uptoBulkEntries r
def uptoBulkEntry {H : Type} : Lit × DataW H → Nat
  | (.string bytes, d) => bytes.length + uptoBulk d + 1
  | (_, d) => uptoBulk d + 1
 end
def uptoSmall : (H : Type) → List (DataW H) → Bool := fun _ ds => decide (uptoBulkAll ds ≤ 1048576)
def OpenSpec.upto (s : _root_.Go.ChangeSpec) : _root_.Go.OpenSpec := { _root_.Go.OpenSpec.ofChange s with cond := some uptoSmall }

/-- 'hoardlaw11.DeadPlays', WHERE WHAT IT READS IS OF BULK AT MOST 1048576: true; the input reads as it did. -/
def deadPlaysUptoRow : OpenClaim := { program := "ytgmkoieemmglpaa", sum := "144390189b497a4609ca008f5ba234fbdc2bcf852f1b67b7e1baf418d067681c", func := "hoard/hoardlaw11.DeadPlays", spec := "deadPlays", unfollowed := true, recurses := true, apart := false, narrowed := true }
def DeadPlaysUptoSaid : Prop := deadPlaysUptoRow.holds Try.pinned (OpenSpec.upto deadPlaysSpec)

/-- 'hoardlaw11.DeadGoes', WHERE WHAT IT READS IS OF BULK AT MOST 1048576: true; the input reads as it did. -/
def deadGoesUptoRow : OpenClaim := { program := "ytgmkoieemmglpaa", sum := "144390189b497a4609ca008f5ba234fbdc2bcf852f1b67b7e1baf418d067681c", func := "hoard/hoardlaw11.DeadGoes", spec := "deadGoes", unfollowed := true, recurses := true, apart := false, narrowed := true }
def DeadGoesUptoSaid : Prop := deadGoesUptoRow.holds Try.pinned (OpenSpec.upto deadGoesSpec)

/-- 'hoardlaw11.DeadExact', WHERE WHAT IT READS IS OF BULK AT MOST 1048576: true; the input reads as it did. -/
def deadExactUptoRow : OpenClaim := { program := "ytgmkoieemmglpaa", sum := "144390189b497a4609ca008f5ba234fbdc2bcf852f1b67b7e1baf418d067681c", func := "hoard/hoardlaw11.DeadExact", spec := "deadExact", unfollowed := true, recurses := true, apart := false, narrowed := true }
def DeadExactUptoSaid : Prop := deadExactUptoRow.holds Try.pinned (OpenSpec.upto deadExactSpec)

/-- 'hoardlaw11.DeadApart', WHERE WHAT IT READS IS OF BULK AT MOST 1048576: true; the input reads as it did. -/
def deadApartUptoRow : OpenClaim := { program := "ytgmkoieemmglpaa", sum := "144390189b497a4609ca008f5ba234fbdc2bcf852f1b67b7e1baf418d067681c", func := "hoard/hoardlaw11.DeadApart", spec := "deadApart", unfollowed := true, recurses := true, apart := false, narrowed := true }
def DeadApartUptoSaid : Prop := deadApartUptoRow.holds Try.pinned (OpenSpec.upto deadApartSpec)

/-- 'hoardlaw11.DeadOrders', WHERE WHAT IT READS IS OF BULK AT MOST 1048576: true; the input reads as it did. -/
def deadOrdersUptoRow : OpenClaim := { program := "ytgmkoieemmglpaa", sum := "144390189b497a4609ca008f5ba234fbdc2bcf852f1b67b7e1baf418d067681c", func := "hoard/hoardlaw11.DeadOrders", spec := "deadOrders", unfollowed := true, recurses := true, apart := false, narrowed := true }
def DeadOrdersUptoSaid : Prop := deadOrdersUptoRow.holds Try.pinned (OpenSpec.upto deadOrdersSpec)

end Rows
end Go.Proofs.Ytgmkoieemmglpaa
