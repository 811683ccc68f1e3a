/-
  DERIVED. GIVEN WITH THE SEED: THE CARDS: each row of YtjeldcjchipdgaaDoorRows.lean that lists a variable, with what it lists TIED to the program's text (the seventh form; the later family's looks); each row that meets fmt, with fmt's text TOLD by the authors' own Lean function (tested against real Go, not proved from fmt's source: count such statements apart). THE CARD IS WHAT COUNTS. Prove the row's statement (the work); the ties are given (YtjeldcjchipdgaaDoorTie.lean); close each card by the builder's one call (the guide's Derived/Test/ToyasCard.lean, 'card_holds'). Laid BY PROGRAM, IN A SANDBOX (cutbox-door.mjs). By AI agents, Wed Nov 11 2026. No macro, syntax, notation, axiom, sorry.
-/
import Derived.Test.YtjeldcjchipdgaaDoorRows
import GoSem.ClaimSeven
namespace Go.Proofs.YtjeldcjchipdgaaDoor
namespace Rows

/-- THE TIED CARD OF 'hoardlaw08.LabelSectors'. -/
def labelSectorsCard : Claim7 := { stood := { row := labelSectorsRow, standIns := [], harness := (true, "2724d4658f5c5baf697e04dbf1ff2a28058ada16d977a7f963ef95e001f0ede3"), looks := false }, kinds := [], alts := [], laidByText := true, laidKinds := [.data, .pinned], laidTests := true, laidLooks := .later }
def LabelSectorsCardSaid : Prop := Claim7.holds Tryd.pinned (.plain (OpenSpec.ofChange labelSectorsSpec)) labelSectorsCard

/-- THE TIED CARD OF 'hoardlaw08.LabelRots'. -/
def labelRotsCard : Claim7 := { stood := { row := labelRotsRow, standIns := [], harness := (true, "2724d4658f5c5baf697e04dbf1ff2a28058ada16d977a7f963ef95e001f0ede3"), looks := false }, kinds := [], alts := [], laidByText := true, laidKinds := [.data, .pinned], laidTests := true, laidLooks := .later }
def LabelRotsCardSaid : Prop := Claim7.holds Tryd.pinned (.plain (OpenSpec.ofChange labelRotsSpec)) labelRotsCard

/-- THE TIED CARD OF 'hoardlaw08.LabelCrashes'. -/
def labelCrashesCard : Claim7 := { stood := { row := labelCrashesRow, standIns := [], harness := (true, "2724d4658f5c5baf697e04dbf1ff2a28058ada16d977a7f963ef95e001f0ede3"), looks := false }, kinds := [], alts := [], laidByText := true, laidKinds := [.data, .pinned], laidTests := true, laidLooks := .later }
def LabelCrashesCardSaid : Prop := Claim7.holds Tryd.pinned (.plain (OpenSpec.ofChange labelCrashesSpec)) labelCrashesCard

/-- THE TIED CARD OF 'hoardlaw13.IntentEdges'. -/
def intentEdgesCard : Claim7 := { stood := { row := intentEdgesRow, standIns := [], harness := (true, "2724d4658f5c5baf697e04dbf1ff2a28058ada16d977a7f963ef95e001f0ede3"), looks := false }, kinds := [], alts := [], laidByText := true, laidKinds := [.data, .pinned], laidTests := true, laidLooks := .later }
def IntentEdgesCardSaid : Prop := Claim7.holds Tryd.pinned (.plain (OpenSpec.ofChange intentEdgesSpec)) intentEdgesCard

/-- THE TIED CARD OF 'hoardlaw13.IntentRooms'. -/
def intentRoomsCard : Claim7 := { stood := { row := intentRoomsRow, standIns := [], harness := (true, "2724d4658f5c5baf697e04dbf1ff2a28058ada16d977a7f963ef95e001f0ede3"), looks := false }, kinds := [], alts := [], laidByText := true, laidKinds := [.data, .pinned], laidTests := true, laidLooks := .later }
def IntentRoomsCardSaid : Prop := Claim7.holds Tryd.pinned (.plain (OpenSpec.ofChange intentRoomsSpec)) intentRoomsCard

/-- THE TIED CARD OF 'hoardlaw13.IntentStands'. -/
def intentStandsCard : Claim7 := { stood := { row := intentStandsRow, standIns := [], harness := (true, "2724d4658f5c5baf697e04dbf1ff2a28058ada16d977a7f963ef95e001f0ede3"), looks := false }, kinds := [], alts := [], laidByText := true, laidKinds := [.data, .pinned], laidTests := true, laidLooks := .later }
def IntentStandsCardSaid : Prop := Claim7.holds Tryd.pinned (.plain (OpenSpec.ofChange intentStandsSpec)) intentStandsCard

/-- THE SECOND FORM's CARD OF 'hoardlaw08.LabelSectors'. -/
def labelSectorsUptoCard : Claim7 := { stood := { row := labelSectorsUptoRow, standIns := [], harness := (true, "2724d4658f5c5baf697e04dbf1ff2a28058ada16d977a7f963ef95e001f0ede3"), looks := false }, kinds := [], alts := [], laidByText := true, laidKinds := [.data, .pinned], laidTests := true, laidLooks := .later }
def LabelSectorsUptoCardSaid : Prop := Claim7.holds Tryd.pinned (.plain (OpenSpec.upto labelSectorsSpec)) labelSectorsUptoCard

/-- THE SECOND FORM's CARD OF 'hoardlaw08.LabelRots'. -/
def labelRotsUptoCard : Claim7 := { stood := { row := labelRotsUptoRow, standIns := [], harness := (true, "2724d4658f5c5baf697e04dbf1ff2a28058ada16d977a7f963ef95e001f0ede3"), looks := false }, kinds := [], alts := [], laidByText := true, laidKinds := [.data, .pinned], laidTests := true, laidLooks := .later }
def LabelRotsUptoCardSaid : Prop := Claim7.holds Tryd.pinned (.plain (OpenSpec.upto labelRotsSpec)) labelRotsUptoCard

/-- THE SECOND FORM's CARD OF 'hoardlaw08.LabelCrashes'. -/
def labelCrashesUptoCard : Claim7 := { stood := { row := labelCrashesUptoRow, standIns := [], harness := (true, "2724d4658f5c5baf697e04dbf1ff2a28058ada16d977a7f963ef95e001f0ede3"), looks := false }, kinds := [], alts := [], laidByText := true, laidKinds := [.data, .pinned], laidTests := true, laidLooks := .later }
def LabelCrashesUptoCardSaid : Prop := Claim7.holds Tryd.pinned (.plain (OpenSpec.upto labelCrashesSpec)) labelCrashesUptoCard

/-- THE SECOND FORM's CARD OF 'hoardlaw13.IntentEdges'. -/
def intentEdgesUptoCard : Claim7 := { stood := { row := intentEdgesUptoRow, standIns := [], harness := (true, "2724d4658f5c5baf697e04dbf1ff2a28058ada16d977a7f963ef95e001f0ede3"), looks := false }, kinds := [], alts := [], laidByText := true, laidKinds := [.data, .pinned], laidTests := true, laidLooks := .later }
def IntentEdgesUptoCardSaid : Prop := Claim7.holds Tryd.pinned (.plain (OpenSpec.upto intentEdgesSpec)) intentEdgesUptoCard

/-- THE SECOND FORM's CARD OF 'hoardlaw13.IntentRooms'. -/
def intentRoomsUptoCard : Claim7 := { stood := { row := intentRoomsUptoRow, standIns := [], harness := (true, "2724d4658f5c5baf697e04dbf1ff2a28058ada16d977a7f963ef95e001f0ede3"), looks := false }, kinds := [], alts := [], laidByText := true, laidKinds := [.data, .pinned], laidTests := true, laidLooks := .later }
def IntentRoomsUptoCardSaid : Prop := Claim7.holds Tryd.pinned (.plain (OpenSpec.upto intentRoomsSpec)) intentRoomsUptoCard

/-- THE SECOND FORM's CARD OF 'hoardlaw13.IntentStands'. -/
def intentStandsUptoCard : Claim7 := { stood := { row := intentStandsUptoRow, standIns := [], harness := (true, "2724d4658f5c5baf697e04dbf1ff2a28058ada16d977a7f963ef95e001f0ede3"), looks := false }, kinds := [], alts := [], laidByText := true, laidKinds := [.data, .pinned], laidTests := true, laidLooks := .later }
def IntentStandsUptoCardSaid : Prop := Claim7.holds Tryd.pinned (.plain (OpenSpec.upto intentStandsSpec)) intentStandsUptoCard
end Rows
end Go.Proofs.YtjeldcjchipdgaaDoor
