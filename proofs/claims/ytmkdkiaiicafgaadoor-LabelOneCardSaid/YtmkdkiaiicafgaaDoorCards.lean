/-
  DERIVED. GIVEN WITH THE SEED: THE CARDS: each row of YtmkdkiaiicafgaaDoorRows.lean that lists a variable, with what it lists TIED to the program's text (the seventh form; the later family's looks); each row that meets fmt, with fmt's text TOLD by the authors' own Lean function (tested against real Go, not proved from fmt's source: count such statements apart). THE CARD IS WHAT COUNTS. Prove the row's statement (the work); the ties are given (YtmkdkiaiicafgaaDoorTie.lean); close each card by the builder's one call (the guide's Derived/Test/ToyasCard.lean, 'card_holds'). Laid BY PROGRAM, IN A SANDBOX (cutbox-door.mjs). By AI agents, Wed Nov 11 2026. No macro, syntax, notation, axiom, sorry.
-/
import Derived.Test.YtmkdkiaiicafgaaDoorRows
import GoSem.ClaimSeven
namespace Go.Proofs.YtmkdkiaiicafgaaDoor
namespace Rows

/-- THE TIED CARD OF 'hoardlaw08.LabelRings'. -/
def labelRingsCard : Claim7 := { stood := { row := labelRingsRow, standIns := [], harness := (true, "9529f94b981dfcecf2b9a45865c45ebc61c44ba4367fca4fd83cf74a10e3e834"), looks := false }, kinds := [], alts := [], laidByText := true, laidKinds := [.data, .pinned], laidTests := true, laidLooks := .later }
def LabelRingsCardSaid : Prop := Claim7.holds Tryd.pinned (.plain (OpenSpec.ofChange labelRingsSpec)) labelRingsCard

/-- THE TIED CARD OF 'hoardlaw08.LabelSectors'. -/
def labelSectorsCard : Claim7 := { stood := { row := labelSectorsRow, standIns := [], harness := (true, "9529f94b981dfcecf2b9a45865c45ebc61c44ba4367fca4fd83cf74a10e3e834"), looks := false }, kinds := [], alts := [], laidByText := true, laidKinds := [.data, .pinned], laidTests := true, laidLooks := .later }
def LabelSectorsCardSaid : Prop := Claim7.holds Tryd.pinned (.plain (OpenSpec.ofChange labelSectorsSpec)) labelSectorsCard

/-- THE TIED CARD OF 'hoardlaw08.LabelRots'. -/
def labelRotsCard : Claim7 := { stood := { row := labelRotsRow, standIns := [], harness := (true, "9529f94b981dfcecf2b9a45865c45ebc61c44ba4367fca4fd83cf74a10e3e834"), looks := false }, kinds := [], alts := [], laidByText := true, laidKinds := [.data, .pinned], laidTests := true, laidLooks := .later }
def LabelRotsCardSaid : Prop := Claim7.holds Tryd.pinned (.plain (OpenSpec.ofChange labelRotsSpec)) labelRotsCard

/-- THE TIED CARD OF 'hoardlaw08.LabelOne'. -/
def labelOneCard : Claim7 := { stood := { row := labelOneRow, standIns := [], harness := (true, "9529f94b981dfcecf2b9a45865c45ebc61c44ba4367fca4fd83cf74a10e3e834"), looks := false }, kinds := [], alts := [], laidByText := true, laidKinds := [.data, .pinned], laidTests := true, laidLooks := .later }
def LabelOneCardSaid : Prop := Claim7.holds Tryd.pinned (.plain (OpenSpec.ofChange labelOneSpec)) labelOneCard

/-- THE TIED CARD OF 'hoardlaw08.LabelCrashes'. -/
def labelCrashesCard : Claim7 := { stood := { row := labelCrashesRow, standIns := [], harness := (true, "9529f94b981dfcecf2b9a45865c45ebc61c44ba4367fca4fd83cf74a10e3e834"), looks := false }, kinds := [], alts := [], laidByText := true, laidKinds := [.data, .pinned], laidTests := true, laidLooks := .later }
def LabelCrashesCardSaid : Prop := Claim7.holds Tryd.pinned (.plain (OpenSpec.ofChange labelCrashesSpec)) labelCrashesCard

/-- THE SECOND FORM's CARD OF 'hoardlaw08.LabelRings'. -/
def labelRingsUptoCard : Claim7 := { stood := { row := labelRingsUptoRow, standIns := [], harness := (true, "9529f94b981dfcecf2b9a45865c45ebc61c44ba4367fca4fd83cf74a10e3e834"), looks := false }, kinds := [], alts := [], laidByText := true, laidKinds := [.data, .pinned], laidTests := true, laidLooks := .later }
def LabelRingsUptoCardSaid : Prop := Claim7.holds Tryd.pinned (.plain (OpenSpec.upto labelRingsSpec)) labelRingsUptoCard

/-- THE SECOND FORM's CARD OF 'hoardlaw08.LabelSectors'. -/
def labelSectorsUptoCard : Claim7 := { stood := { row := labelSectorsUptoRow, standIns := [], harness := (true, "9529f94b981dfcecf2b9a45865c45ebc61c44ba4367fca4fd83cf74a10e3e834"), looks := false }, kinds := [], alts := [], laidByText := true, laidKinds := [.data, .pinned], laidTests := true, laidLooks := .later }
def LabelSectorsUptoCardSaid : Prop := Claim7.holds Tryd.pinned (.plain (OpenSpec.upto labelSectorsSpec)) labelSectorsUptoCard

/-- THE SECOND FORM's CARD OF 'hoardlaw08.LabelRots'. -/
def labelRotsUptoCard : Claim7 := { stood := { row := labelRotsUptoRow, standIns := [], harness := (true, "9529f94b981dfcecf2b9a45865c45ebc61c44ba4367fca4fd83cf74a10e3e834"), looks := false }, kinds := [], alts := [], laidByText := true, laidKinds := [.data, .pinned], laidTests := true, laidLooks := .later }
def LabelRotsUptoCardSaid : Prop := Claim7.holds Tryd.pinned (.plain (OpenSpec.upto labelRotsSpec)) labelRotsUptoCard

/-- THE SECOND FORM's CARD OF 'hoardlaw08.LabelOne'. -/
def labelOneUptoCard : Claim7 := { stood := { row := labelOneUptoRow, standIns := [], harness := (true, "9529f94b981dfcecf2b9a45865c45ebc61c44ba4367fca4fd83cf74a10e3e834"), looks := false }, kinds := [], alts := [], laidByText := true, laidKinds := [.data, .pinned], laidTests := true, laidLooks := .later }
def LabelOneUptoCardSaid : Prop := Claim7.holds Tryd.pinned (.plain (OpenSpec.upto labelOneSpec)) labelOneUptoCard

/-- THE SECOND FORM's CARD OF 'hoardlaw08.LabelCrashes'. -/
def labelCrashesUptoCard : Claim7 := { stood := { row := labelCrashesUptoRow, standIns := [], harness := (true, "9529f94b981dfcecf2b9a45865c45ebc61c44ba4367fca4fd83cf74a10e3e834"), looks := false }, kinds := [], alts := [], laidByText := true, laidKinds := [.data, .pinned], laidTests := true, laidLooks := .later }
def LabelCrashesUptoCardSaid : Prop := Claim7.holds Tryd.pinned (.plain (OpenSpec.upto labelCrashesSpec)) labelCrashesUptoCard
end Rows
end Go.Proofs.YtmkdkiaiicafgaaDoor
