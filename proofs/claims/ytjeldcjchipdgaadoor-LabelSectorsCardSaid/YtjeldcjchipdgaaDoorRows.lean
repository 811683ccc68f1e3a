/-
  NARROWER THAN 'FOR EVERY INPUT', by the rows' own cells (each row's printed sentence says how): LabelSectors: laid · LabelRots: laid · LabelCrashes: laid · IntentEdges: laid · IntentRooms: laid · IntentStands: laid.
  DERIVED. THE GIVEN ROWS OF THIS SEAT. 6 by the template 'for every input the law returns true; each argument reads behind the call as it read before'; 0 by the template 'total and deterministic' (their statements: YtjeldcjchipdgaaDoorTotals.lean).
  GIVEN WITH THE SEED: the statements are not yours to turn. If you find one false, say at which input.
  Laid BY PROGRAM, IN A SANDBOX (cutbox-rows.mjs): the forced cells as the released guide's own fill.sh prints them over the translation 7300ceb5529a81b5… (all of the seat's roots in one cut). By AI agents, Wed Nov 11 2026. No macro, syntax, notation, axiom, sorry.
-/
import Derived.Test.YtjeldcjchipdgaaDoorChecked
import GoSem.PinnedTables
import GoSem.Claim
import GoSem.ClaimJoined
import GoSem.ClaimMapViews
import Derived.JoinedTies
import Derived.KernelRfl
namespace Go.Proofs.YtjeldcjchipdgaaDoor
/- THE CELL 'sum', in the pinned program and in every row, IS THE sha256 OF THE DUMP (.gsa) THAT YtjeldcjchipdgaaDoorProg.lean LOADS. Nothing in Lean hashes anything: it is a label: what it is worth is what the hold of that sum in a sandbox is worth. -/
noncomputable def Tryd.pinned : Pinned := { name := "ytjeldcjchipdgaadoor", sum := "7300ceb5529a81b5040c3ff26a7d8e450bae25c886ea563196e93e5857e3937e", checked := Tryd.checked }
namespace Rows
def none {H : Type} : Left H := { results := [], args := [] }

/- WHAT THE LISTED PACKAGE-LEVEL VARIABLES READ AS WHEN THE CALL BEGINS. Each datum BY PROGRAM (the guide's laid-datum.mjs) off the statement by which the dump's own 'gosem.cut.vars' lays the variable. In a bare row this is a premise. The card (YtjeldcjchipdgaaDoorCards.lean) ties it to the program's text. -/
def laid_unicode_utf8_acceptRanges {H : Type} : DataW H := .agg [.agg [.lit (.int .u8 128), .lit (.int .u8 191)], .agg [.lit (.int .u8 160), .lit (.int .u8 191)], .agg [.lit (.int .u8 128), .lit (.int .u8 159)], .agg [.lit (.int .u8 144), .lit (.int .u8 191)], .agg [.lit (.int .u8 128), .lit (.int .u8 143)], .agg [.lit (.int .u8 0), .lit (.int .u8 0)], .agg [.lit (.int .u8 0), .lit (.int .u8 0)], .agg [.lit (.int .u8 0), .lit (.int .u8 0)], .agg [.lit (.int .u8 0), .lit (.int .u8 0)], .agg [.lit (.int .u8 0), .lit (.int .u8 0)], .agg [.lit (.int .u8 0), .lit (.int .u8 0)], .agg [.lit (.int .u8 0), .lit (.int .u8 0)], .agg [.lit (.int .u8 0), .lit (.int .u8 0)], .agg [.lit (.int .u8 0), .lit (.int .u8 0)], .agg [.lit (.int .u8 0), .lit (.int .u8 0)], .agg [.lit (.int .u8 0), .lit (.int .u8 0)]]
/-- One of Go's own tables, pinned by name: the form's constant. -/
def laid_unicode_utf8_first : DataW Unit := Go.Pinned.utf8First

/-- 'hoardlaw08.LabelSectors': WHATEVER THE INPUT: true; the input reads as it did. -/
def labelSectorsSpec : ChangeSpec := { name := "labelSectors", fn := fun _ => fun
  | [d1, d2] => { results := [.lit (.bool true)], args := [d1, d2] }
  | _ => none }
def labelSectorsRow : OpenClaim := { program := "ytjeldcjchipdgaadoor", sum := "7300ceb5529a81b5040c3ff26a7d8e450bae25c886ea563196e93e5857e3937e", func := "hoard/hoardlaw08.LabelSectors", spec := "labelSectors", unfollowed := true, recurses := true, named := ["unicode/utf8.first", "unicode/utf8.acceptRanges"], plainKeys := false, apart := false, laid := [("unicode/utf8.acceptRanges", laid_unicode_utf8_acceptRanges), ("unicode/utf8.first", laid_unicode_utf8_first)] }
def LabelSectorsSaid : Prop := labelSectorsRow.holds Tryd.pinned (OpenSpec.ofChange labelSectorsSpec)

/-- ITS FALSE NEIGHBOUR: 'it returns false'. Refute it at one input. -/
def labelSectorsWrong : ChangeSpec := { name := "labelSectors", fn := fun _ => fun
  | [d1, d2] => { results := [.lit (.bool false)], args := [d1, d2] }
  | _ => none }
def LabelSectorsWrongFalsely : Prop := labelSectorsRow.holds Tryd.pinned (OpenSpec.ofChange labelSectorsWrong)

/-- 'hoardlaw08.LabelRots': WHATEVER THE INPUT: true; the input reads as it did. -/
def labelRotsSpec : ChangeSpec := { name := "labelRots", fn := fun _ => fun
  | [d1, d2, d3] => { results := [.lit (.bool true)], args := [d1, d2, d3] }
  | _ => none }
def labelRotsRow : OpenClaim := { program := "ytjeldcjchipdgaadoor", sum := "7300ceb5529a81b5040c3ff26a7d8e450bae25c886ea563196e93e5857e3937e", func := "hoard/hoardlaw08.LabelRots", spec := "labelRots", unfollowed := true, recurses := true, named := ["unicode/utf8.first", "unicode/utf8.acceptRanges"], plainKeys := false, apart := false, laid := [("unicode/utf8.acceptRanges", laid_unicode_utf8_acceptRanges), ("unicode/utf8.first", laid_unicode_utf8_first)] }
def LabelRotsSaid : Prop := labelRotsRow.holds Tryd.pinned (OpenSpec.ofChange labelRotsSpec)

/-- ITS FALSE NEIGHBOUR: 'it returns false'. Refute it at one input. -/
def labelRotsWrong : ChangeSpec := { name := "labelRots", fn := fun _ => fun
  | [d1, d2, d3] => { results := [.lit (.bool false)], args := [d1, d2, d3] }
  | _ => none }
def LabelRotsWrongFalsely : Prop := labelRotsRow.holds Tryd.pinned (OpenSpec.ofChange labelRotsWrong)

/-- 'hoardlaw08.LabelCrashes': WHATEVER THE INPUT: true; the input reads as it did. -/
def labelCrashesSpec : ChangeSpec := { name := "labelCrashes", fn := fun _ => fun
  | [d1, d2, d3] => { results := [.lit (.bool true)], args := [d1, d2, d3] }
  | _ => none }
def labelCrashesRow : OpenClaim := { program := "ytjeldcjchipdgaadoor", sum := "7300ceb5529a81b5040c3ff26a7d8e450bae25c886ea563196e93e5857e3937e", func := "hoard/hoardlaw08.LabelCrashes", spec := "labelCrashes", unfollowed := true, recurses := true, named := ["unicode/utf8.first", "unicode/utf8.acceptRanges"], plainKeys := false, apart := false, laid := [("unicode/utf8.acceptRanges", laid_unicode_utf8_acceptRanges), ("unicode/utf8.first", laid_unicode_utf8_first)] }
def LabelCrashesSaid : Prop := labelCrashesRow.holds Tryd.pinned (OpenSpec.ofChange labelCrashesSpec)

/-- ITS FALSE NEIGHBOUR: 'it returns false'. Refute it at one input. -/
def labelCrashesWrong : ChangeSpec := { name := "labelCrashes", fn := fun _ => fun
  | [d1, d2, d3] => { results := [.lit (.bool false)], args := [d1, d2, d3] }
  | _ => none }
def LabelCrashesWrongFalsely : Prop := labelCrashesRow.holds Tryd.pinned (OpenSpec.ofChange labelCrashesWrong)

/-- 'hoardlaw13.IntentEdges': WHATEVER THE INPUT: true; the input reads as it did. -/
def intentEdgesSpec : ChangeSpec := { name := "intentEdges", fn := fun _ => fun
  | [d1, d2] => { results := [.lit (.bool true)], args := [d1, d2] }
  | _ => none }
def intentEdgesRow : OpenClaim := { program := "ytjeldcjchipdgaadoor", sum := "7300ceb5529a81b5040c3ff26a7d8e450bae25c886ea563196e93e5857e3937e", func := "hoard/hoardlaw13.IntentEdges", spec := "intentEdges", inPlace := ["internal/abi.NoEscape"], unfollowed := true, recurses := true, named := ["unicode/utf8.first", "unicode/utf8.acceptRanges"], plainKeys := false, apart := false, laid := [("unicode/utf8.acceptRanges", laid_unicode_utf8_acceptRanges), ("unicode/utf8.first", laid_unicode_utf8_first)] }
def IntentEdgesSaid : Prop := intentEdgesRow.holds Tryd.pinned (OpenSpec.ofChange intentEdgesSpec)

/-- ITS FALSE NEIGHBOUR: 'it returns false'. Refute it at one input. -/
def intentEdgesWrong : ChangeSpec := { name := "intentEdges", fn := fun _ => fun
  | [d1, d2] => { results := [.lit (.bool false)], args := [d1, d2] }
  | _ => none }
def IntentEdgesWrongFalsely : Prop := intentEdgesRow.holds Tryd.pinned (OpenSpec.ofChange intentEdgesWrong)

/-- 'hoardlaw13.IntentRooms': WHATEVER THE INPUT: true; the input reads as it did. -/
def intentRoomsSpec : ChangeSpec := { name := "intentRooms", fn := fun _ => fun
  | [d1, d2] => { results := [.lit (.bool true)], args := [d1, d2] }
  | _ => none }
def intentRoomsRow : OpenClaim := { program := "ytjeldcjchipdgaadoor", sum := "7300ceb5529a81b5040c3ff26a7d8e450bae25c886ea563196e93e5857e3937e", func := "hoard/hoardlaw13.IntentRooms", spec := "intentRooms", inPlace := ["internal/abi.NoEscape"], unfollowed := true, recurses := true, named := ["unicode/utf8.first", "unicode/utf8.acceptRanges"], plainKeys := false, apart := false, laid := [("unicode/utf8.acceptRanges", laid_unicode_utf8_acceptRanges), ("unicode/utf8.first", laid_unicode_utf8_first)] }
def IntentRoomsSaid : Prop := intentRoomsRow.holds Tryd.pinned (OpenSpec.ofChange intentRoomsSpec)

/-- ITS FALSE NEIGHBOUR: 'it returns false'. Refute it at one input. -/
def intentRoomsWrong : ChangeSpec := { name := "intentRooms", fn := fun _ => fun
  | [d1, d2] => { results := [.lit (.bool false)], args := [d1, d2] }
  | _ => none }
def IntentRoomsWrongFalsely : Prop := intentRoomsRow.holds Tryd.pinned (OpenSpec.ofChange intentRoomsWrong)

/-- 'hoardlaw13.IntentStands': WHATEVER THE INPUT: true; the input reads as it did. -/
def intentStandsSpec : ChangeSpec := { name := "intentStands", fn := fun _ => fun
  | [d] => { results := [.lit (.bool true)], args := [d] }
  | _ => none }
def intentStandsRow : OpenClaim := { program := "ytjeldcjchipdgaadoor", sum := "7300ceb5529a81b5040c3ff26a7d8e450bae25c886ea563196e93e5857e3937e", func := "hoard/hoardlaw13.IntentStands", spec := "intentStands", inPlace := ["internal/abi.NoEscape"], unfollowed := true, recurses := true, named := ["unicode/utf8.first", "unicode/utf8.acceptRanges"], plainKeys := false, apart := false, laid := [("unicode/utf8.acceptRanges", laid_unicode_utf8_acceptRanges), ("unicode/utf8.first", laid_unicode_utf8_first)] }
def IntentStandsSaid : Prop := intentStandsRow.holds Tryd.pinned (OpenSpec.ofChange intentStandsSpec)

/-- ITS FALSE NEIGHBOUR: 'it returns false'. Refute it at one input. -/
def intentStandsWrong : ChangeSpec := { name := "intentStands", fn := fun _ => fun
  | [d] => { results := [.lit (.bool false)], args := [d] }
  | _ => none }
def IntentStandsWrongFalsely : Prop := intentStandsRow.holds Tryd.pinned (OpenSpec.ofChange intentStandsWrong)

/- THE SECOND FORM. 'bulk': how many values and letters a reading holds, each counted each time it is reached (what is shared counts as often as it is met; a slice's spare places count too). A statement '..UptoSaid' is the law's where the arguments, and the package variables that the reading takes, are together of bulk at most 1048576: NARROWER than '..Said'. Prove '..Said' where nothing that the law and all that it calls make is longer than what came in: it says more and counts as full. Else prove '..UptoSaid'. A law counts once. -/
mutual
def uptoBulk {H : Type} : DataW H → Nat
  | .lit (.string bytes) => bytes.length + 1
  | .lit _ => 1
  | .nil => 1
  | .ptr d => uptoBulk d + 1
  | .slice elems spare => uptoBulkAll elems + uptoBulkAll spare + 1
  | .agg parts => uptoBulkAll parts + 1
  | .iface _ d => uptoBulk d + 1
  | .map entries => uptoBulkEntries entries + 1
  | .held _ => 1
def uptoBulkAll {H : Type} : List (DataW H) → Nat
  | [] => 0
  | d :: r => uptoBulk d + uptoBulkAll r
def uptoBulkEntries {H : Type} : List (Lit × DataW H) → Nat
  | [] => 0
  | x :: r => uptoBulkEntry x + uptoBulkEntries r
def uptoBulkEntry {H : Type} : Lit × DataW H → Nat
  | (.string bytes, d) => bytes.length + uptoBulk d + 1
  | (_, d) => uptoBulk d + 1
 end
def uptoSmall : (H : Type) → List (DataW H) → Bool := fun _ ds => decide (uptoBulkAll ds ≤ 1048576)
def OpenSpec.upto (s : _root_.Go.ChangeSpec) : _root_.Go.OpenSpec := { _root_.Go.OpenSpec.ofChange s with cond := some uptoSmall }

/-- 'hoardlaw08.LabelSectors', WHERE WHAT IT READS IS OF BULK AT MOST 1048576: true; the input reads as it did. -/
def labelSectorsUptoRow : OpenClaim := { program := "ytjeldcjchipdgaadoor", sum := "7300ceb5529a81b5040c3ff26a7d8e450bae25c886ea563196e93e5857e3937e", func := "hoard/hoardlaw08.LabelSectors", spec := "labelSectors", unfollowed := true, recurses := true, named := ["unicode/utf8.first", "unicode/utf8.acceptRanges"], plainKeys := false, apart := false, laid := [("unicode/utf8.acceptRanges", laid_unicode_utf8_acceptRanges), ("unicode/utf8.first", laid_unicode_utf8_first)], narrowed := true }
def LabelSectorsUptoSaid : Prop := labelSectorsUptoRow.holds Tryd.pinned (OpenSpec.upto labelSectorsSpec)

/-- 'hoardlaw08.LabelRots', WHERE WHAT IT READS IS OF BULK AT MOST 1048576: true; the input reads as it did. -/
def labelRotsUptoRow : OpenClaim := { program := "ytjeldcjchipdgaadoor", sum := "7300ceb5529a81b5040c3ff26a7d8e450bae25c886ea563196e93e5857e3937e", func := "hoard/hoardlaw08.LabelRots", spec := "labelRots", unfollowed := true, recurses := true, named := ["unicode/utf8.first", "unicode/utf8.acceptRanges"], plainKeys := false, apart := false, laid := [("unicode/utf8.acceptRanges", laid_unicode_utf8_acceptRanges), ("unicode/utf8.first", laid_unicode_utf8_first)], narrowed := true }
def LabelRotsUptoSaid : Prop := labelRotsUptoRow.holds Tryd.pinned (OpenSpec.upto labelRotsSpec)

/-- 'hoardlaw08.LabelCrashes', WHERE WHAT IT READS IS OF BULK AT MOST 1048576: true; the input reads as it did. -/
def labelCrashesUptoRow : OpenClaim := { program := "ytjeldcjchipdgaadoor", sum := "7300ceb5529a81b5040c3ff26a7d8e450bae25c886ea563196e93e5857e3937e", func := "hoard/hoardlaw08.LabelCrashes", spec := "labelCrashes", unfollowed := true, recurses := true, named := ["unicode/utf8.first", "unicode/utf8.acceptRanges"], plainKeys := false, apart := false, laid := [("unicode/utf8.acceptRanges", laid_unicode_utf8_acceptRanges), ("unicode/utf8.first", laid_unicode_utf8_first)], narrowed := true }
def LabelCrashesUptoSaid : Prop := labelCrashesUptoRow.holds Tryd.pinned (OpenSpec.upto labelCrashesSpec)

/-- 'hoardlaw13.IntentEdges', WHERE WHAT IT READS IS OF BULK AT MOST 1048576: true; the input reads as it did. -/
def intentEdgesUptoRow : OpenClaim := { program := "ytjeldcjchipdgaadoor", sum := "7300ceb5529a81b5040c3ff26a7d8e450bae25c886ea563196e93e5857e3937e", func := "hoard/hoardlaw13.IntentEdges", spec := "intentEdges", inPlace := ["internal/abi.NoEscape"], unfollowed := true, recurses := true, named := ["unicode/utf8.first", "unicode/utf8.acceptRanges"], plainKeys := false, apart := false, laid := [("unicode/utf8.acceptRanges", laid_unicode_utf8_acceptRanges), ("unicode/utf8.first", laid_unicode_utf8_first)], narrowed := true }
def IntentEdgesUptoSaid : Prop := intentEdgesUptoRow.holds Tryd.pinned (OpenSpec.upto intentEdgesSpec)

/-- 'hoardlaw13.IntentRooms', WHERE WHAT IT READS IS OF BULK AT MOST 1048576: true; the input reads as it did. -/
def intentRoomsUptoRow : OpenClaim := { program := "ytjeldcjchipdgaadoor", sum := "7300ceb5529a81b5040c3ff26a7d8e450bae25c886ea563196e93e5857e3937e", func := "hoard/hoardlaw13.IntentRooms", spec := "intentRooms", inPlace := ["internal/abi.NoEscape"], unfollowed := true, recurses := true, named := ["unicode/utf8.first", "unicode/utf8.acceptRanges"], plainKeys := false, apart := false, laid := [("unicode/utf8.acceptRanges", laid_unicode_utf8_acceptRanges), ("unicode/utf8.first", laid_unicode_utf8_first)], narrowed := true }
def IntentRoomsUptoSaid : Prop := intentRoomsUptoRow.holds Tryd.pinned (OpenSpec.upto intentRoomsSpec)

/-- 'hoardlaw13.IntentStands', WHERE WHAT IT READS IS OF BULK AT MOST 1048576: true; the input reads as it did. -/
def intentStandsUptoRow : OpenClaim := { program := "ytjeldcjchipdgaadoor", sum := "7300ceb5529a81b5040c3ff26a7d8e450bae25c886ea563196e93e5857e3937e", func := "hoard/hoardlaw13.IntentStands", spec := "intentStands", inPlace := ["internal/abi.NoEscape"], unfollowed := true, recurses := true, named := ["unicode/utf8.first", "unicode/utf8.acceptRanges"], plainKeys := false, apart := false, laid := [("unicode/utf8.acceptRanges", laid_unicode_utf8_acceptRanges), ("unicode/utf8.first", laid_unicode_utf8_first)], narrowed := true }
def IntentStandsUptoSaid : Prop := intentStandsUptoRow.holds Tryd.pinned (OpenSpec.upto intentStandsSpec)

end Rows
end Go.Proofs.YtjeldcjchipdgaaDoor
