/-
  No cell of these rows narrows 'for every input' (looked for: loops, veiled, ifaces, maps, wideKeys, modest, calm, conditions, laid).
  DERIVED. THE GIVEN ROWS OF THIS SEAT. 8 by the template 'for every input the law returns true; each argument reads behind the call as it read before'; 0 by the template 'total and deterministic' (their statements: YtdjlfbadcijjaaaTotals.lean).
  GIVEN WITH THE SEED: the statements are not yours to turn. If you find one false, say at which input.
  Laid BY PROGRAM, IN A SANDBOX (cutbox-rows.mjs): the forced cells as the released guide's own fill.sh prints them over the translation 43e606fae2b53717… (all of the seat's roots in one cut). By AI agents, Wed Nov 11 2026. No macro, syntax, notation, axiom, sorry.
-/
import Derived.Test.YtdjlfbadcijjaaaChecked
import GoSem.Claim
import GoSem.ClaimJoined
import GoSem.ClaimMapViews
import Derived.JoinedTies
import Derived.KernelRfl
namespace Go.Proofs.Ytdjlfbadcijjaaa
/- THE CELL 'sum', in the pinned program and in every row, IS THE sha256 OF THE DUMP (.gsa) THAT YtdjlfbadcijjaaaProg.lean LOADS. Nothing in Lean hashes anything: it is a label: what it is worth is what the hold of that sum in a sandbox is worth. -/
noncomputable def Try.pinned : Pinned := { name := "ytdjlfbadcijjaaa", sum := "43e606fae2b537178a15e22ad9c21736cc69cd6dc8594f81d176667a8a28be36", checked := Try.checked }
namespace Rows
def none {H : Type} : Left H := { results := [], args := [] }

/-- 'hoardlaw01.RackNewest': WHATEVER THE INPUT: true; the input reads as it did. -/
def rackNewestSpec : ChangeSpec := { name := "rackNewest", fn := fun _ => fun
  | [d1, d2] => { results := [.lit (.bool true)], args := [d1, d2] }
  | _ => none }
def rackNewestRow : OpenClaim := { program := "ytdjlfbadcijjaaa", sum := "43e606fae2b537178a15e22ad9c21736cc69cd6dc8594f81d176667a8a28be36", func := "hoard/hoardlaw01.RackNewest", spec := "rackNewest", plainKeys := false, apart := false }
def RackNewestSaid : Prop := rackNewestRow.holds Try.pinned (OpenSpec.ofChange rackNewestSpec)

/-- ITS FALSE NEIGHBOUR: 'it returns false'. Refute it at one input. -/
def rackNewestWrong : ChangeSpec := { name := "rackNewest", fn := fun _ => fun
  | [d1, d2] => { results := [.lit (.bool false)], args := [d1, d2] }
  | _ => none }
def RackNewestWrongFalsely : Prop := rackNewestRow.holds Try.pinned (OpenSpec.ofChange rackNewestWrong)

/-- 'hoardlaw01.RackPicks': WHATEVER THE INPUT: true; the input reads as it did. -/
def rackPicksSpec : ChangeSpec := { name := "rackPicks", fn := fun _ => fun
  | [d1, d2] => { results := [.lit (.bool true)], args := [d1, d2] }
  | _ => none }
def rackPicksRow : OpenClaim := { program := "ytdjlfbadcijjaaa", sum := "43e606fae2b537178a15e22ad9c21736cc69cd6dc8594f81d176667a8a28be36", func := "hoard/hoardlaw01.RackPicks", spec := "rackPicks", plainKeys := false, apart := false }
def RackPicksSaid : Prop := rackPicksRow.holds Try.pinned (OpenSpec.ofChange rackPicksSpec)

/-- ITS FALSE NEIGHBOUR: 'it returns false'. Refute it at one input. -/
def rackPicksWrong : ChangeSpec := { name := "rackPicks", fn := fun _ => fun
  | [d1, d2] => { results := [.lit (.bool false)], args := [d1, d2] }
  | _ => none }
def RackPicksWrongFalsely : Prop := rackPicksRow.holds Try.pinned (OpenSpec.ofChange rackPicksWrong)

/-- 'hoardlaw01.RackSpoils': WHATEVER THE INPUT: true; the input reads as it did. -/
def rackSpoilsSpec : ChangeSpec := { name := "rackSpoils", fn := fun _ => fun
  | [d] => { results := [.lit (.bool true)], args := [d] }
  | _ => none }
def rackSpoilsRow : OpenClaim := { program := "ytdjlfbadcijjaaa", sum := "43e606fae2b537178a15e22ad9c21736cc69cd6dc8594f81d176667a8a28be36", func := "hoard/hoardlaw01.RackSpoils", spec := "rackSpoils", plainKeys := false, apart := false }
def RackSpoilsSaid : Prop := rackSpoilsRow.holds Try.pinned (OpenSpec.ofChange rackSpoilsSpec)

/-- ITS FALSE NEIGHBOUR: 'it returns false'. Refute it at one input. -/
def rackSpoilsWrong : ChangeSpec := { name := "rackSpoils", fn := fun _ => fun
  | [d] => { results := [.lit (.bool false)], args := [d] }
  | _ => none }
def RackSpoilsWrongFalsely : Prop := rackSpoilsRow.holds Try.pinned (OpenSpec.ofChange rackSpoilsWrong)

/-- 'hoardlaw01.RackArms': WHATEVER THE INPUT: true; the input reads as it did. -/
def rackArmsSpec : ChangeSpec := { name := "rackArms", fn := fun _ => fun
  | [d1, d2] => { results := [.lit (.bool true)], args := [d1, d2] }
  | _ => none }
def rackArmsRow : OpenClaim := { program := "ytdjlfbadcijjaaa", sum := "43e606fae2b537178a15e22ad9c21736cc69cd6dc8594f81d176667a8a28be36", func := "hoard/hoardlaw01.RackArms", spec := "rackArms", unfollowed := true, recurses := true, plainKeys := false, apart := false }
def RackArmsSaid : Prop := rackArmsRow.holds Try.pinned (OpenSpec.ofChange rackArmsSpec)

/-- ITS FALSE NEIGHBOUR: 'it returns false'. Refute it at one input. -/
def rackArmsWrong : ChangeSpec := { name := "rackArms", fn := fun _ => fun
  | [d1, d2] => { results := [.lit (.bool false)], args := [d1, d2] }
  | _ => none }
def RackArmsWrongFalsely : Prop := rackArmsRow.holds Try.pinned (OpenSpec.ofChange rackArmsWrong)

/-- 'hoardlaw01.RackLasts': WHATEVER THE INPUT: true; the input reads as it did. -/
def rackLastsSpec : ChangeSpec := { name := "rackLasts", fn := fun _ => fun
  | [d1, d2, d3] => { results := [.lit (.bool true)], args := [d1, d2, d3] }
  | _ => none }
def rackLastsRow : OpenClaim := { program := "ytdjlfbadcijjaaa", sum := "43e606fae2b537178a15e22ad9c21736cc69cd6dc8594f81d176667a8a28be36", func := "hoard/hoardlaw01.RackLasts", spec := "rackLasts", unfollowed := true, recurses := true, plainKeys := false, apart := false }
def RackLastsSaid : Prop := rackLastsRow.holds Try.pinned (OpenSpec.ofChange rackLastsSpec)

/-- ITS FALSE NEIGHBOUR: 'it returns false'. Refute it at one input. -/
def rackLastsWrong : ChangeSpec := { name := "rackLasts", fn := fun _ => fun
  | [d1, d2, d3] => { results := [.lit (.bool false)], args := [d1, d2, d3] }
  | _ => none }
def RackLastsWrongFalsely : Prop := rackLastsRow.holds Try.pinned (OpenSpec.ofChange rackLastsWrong)

/-- 'hoardlaw01.RackPlaces': WHATEVER THE INPUT: true; the input reads as it did. -/
def rackPlacesSpec : ChangeSpec := { name := "rackPlaces", fn := fun _ => fun
  | [d] => { results := [.lit (.bool true)], args := [d] }
  | _ => none }
def rackPlacesRow : OpenClaim := { program := "ytdjlfbadcijjaaa", sum := "43e606fae2b537178a15e22ad9c21736cc69cd6dc8594f81d176667a8a28be36", func := "hoard/hoardlaw01.RackPlaces", spec := "rackPlaces", unfollowed := true, recurses := true, plainKeys := false, apart := false }
def RackPlacesSaid : Prop := rackPlacesRow.holds Try.pinned (OpenSpec.ofChange rackPlacesSpec)

/-- ITS FALSE NEIGHBOUR: 'it returns false'. Refute it at one input. -/
def rackPlacesWrong : ChangeSpec := { name := "rackPlaces", fn := fun _ => fun
  | [d] => { results := [.lit (.bool false)], args := [d] }
  | _ => none }
def RackPlacesWrongFalsely : Prop := rackPlacesRow.holds Try.pinned (OpenSpec.ofChange rackPlacesWrong)

/-- 'hoardlaw01.RackApart': WHATEVER THE INPUT: true; the input reads as it did. -/
def rackApartSpec : ChangeSpec := { name := "rackApart", fn := fun _ => fun
  | [d1, d2] => { results := [.lit (.bool true)], args := [d1, d2] }
  | _ => none }
def rackApartRow : OpenClaim := { program := "ytdjlfbadcijjaaa", sum := "43e606fae2b537178a15e22ad9c21736cc69cd6dc8594f81d176667a8a28be36", func := "hoard/hoardlaw01.RackApart", spec := "rackApart", unfollowed := true, recurses := true, plainKeys := false, apart := false }
def RackApartSaid : Prop := rackApartRow.holds Try.pinned (OpenSpec.ofChange rackApartSpec)

/-- ITS FALSE NEIGHBOUR: 'it returns false'. Refute it at one input. -/
def rackApartWrong : ChangeSpec := { name := "rackApart", fn := fun _ => fun
  | [d1, d2] => { results := [.lit (.bool false)], args := [d1, d2] }
  | _ => none }
def RackApartWrongFalsely : Prop := rackApartRow.holds Try.pinned (OpenSpec.ofChange rackApartWrong)

/-- 'hoardlaw01.RackPlays': WHATEVER THE INPUT: true; the input reads as it did. -/
def rackPlaysSpec : ChangeSpec := { name := "rackPlays", fn := fun _ => fun
  | [d1, d2, d3] => { results := [.lit (.bool true)], args := [d1, d2, d3] }
  | _ => none }
def rackPlaysRow : OpenClaim := { program := "ytdjlfbadcijjaaa", sum := "43e606fae2b537178a15e22ad9c21736cc69cd6dc8594f81d176667a8a28be36", func := "hoard/hoardlaw01.RackPlays", spec := "rackPlays", unfollowed := true, recurses := true, plainKeys := false, apart := false }
def RackPlaysSaid : Prop := rackPlaysRow.holds Try.pinned (OpenSpec.ofChange rackPlaysSpec)

/-- ITS FALSE NEIGHBOUR: 'it returns false'. Refute it at one input. -/
def rackPlaysWrong : ChangeSpec := { name := "rackPlays", fn := fun _ => fun
  | [d1, d2, d3] => { results := [.lit (.bool false)], args := [d1, d2, d3] }
  | _ => none }
def RackPlaysWrongFalsely : Prop := rackPlaysRow.holds Try.pinned (OpenSpec.ofChange rackPlaysWrong)

/- THE SECOND FORM. 'bulk': how many values and letters a reading holds, each counted each time it is reached (what is shared counts as often as it is met; a slice's spare places count too). A statement '..UptoSaid' is the law's where the arguments, and the package variables that the reading takes, are together of bulk at most 1048576: NARROWER than '..Said'. Prove '..Said' where nothing that the law and all that it calls make is longer than what came in: it says more and counts as full. Else prove '..UptoSaid'. A law counts once. -/
mutual
def uptoBulk {H : Type} : DataW H → Nat
  | .lit (.string bytes) => bytes.length + 1
  | .lit _ => 1
  | .nil => 1
  | .ptr d => uptoBulk d + 1
  | .slice elems spare => uptoBulkAll elems + uptoBulkAll spare + 1
  | .agg parts => uptoBulkAll parts + 1
  | .iface _ d => uptoBulk d + 1
  | .map entries => uptoBulkEntries entries + 1
  | .held _ => 1
def uptoBulkAll {H : Type} : List (DataW H) → Nat
  | [] => 0
  | d :: r => uptoBulk d + uptoBulkAll r
def uptoBulkEntries {H : Type} : List (Lit × DataW H) → Nat
  | [] => 0
  | x :: r => uptoBulkEntry x + uptoBulkEntries r
def uptoBulkEntry {H : Type} : Lit × DataW H → Nat
  | (.string bytes, d) => bytes.length + uptoBulk d + 1
  | (_, d) => uptoBulk d + 1
 end
def uptoSmall : (H : Type) → List (DataW H) → Bool := fun _ ds => decide (uptoBulkAll ds ≤ 1048576)
def OpenSpec.upto (s : _root_.Go.ChangeSpec) : _root_.Go.OpenSpec := { _root_.Go.OpenSpec.ofChange s with cond := some uptoSmall }

/-- 'hoardlaw01.RackNewest', WHERE WHAT IT READS IS OF BULK AT MOST 1048576: true; the input reads as it did. -/
def rackNewestUptoRow : OpenClaim := { program := "ytdjlfbadcijjaaa", sum := "43e606fae2b537178a15e22ad9c21736cc69cd6dc8594f81d176667a8a28be36", func := "hoard/hoardlaw01.RackNewest", spec := "rackNewest", plainKeys := false, apart := false, narrowed := true }
def RackNewestUptoSaid : Prop := rackNewestUptoRow.holds Try.pinned (OpenSpec.upto rackNewestSpec)

/-- 'hoardlaw01.RackPicks', WHERE WHAT IT READS IS OF BULK AT MOST 1048576: true; the input reads as it did. -/
def rackPicksUptoRow : OpenClaim := { program := "ytdjlfbadcijjaaa", sum := "43e606fae2b537178a15e22ad9c21736cc69cd6dc8594f81d176667a8a28be36", func := "hoard/hoardlaw01.RackPicks", spec := "rackPicks", plainKeys := false, apart := false, narrowed := true }
def RackPicksUptoSaid : Prop := rackPicksUptoRow.holds Try.pinned (OpenSpec.upto rackPicksSpec)

/-- 'hoardlaw01.RackSpoils', WHERE WHAT IT READS IS OF BULK AT MOST 1048576: true; the input reads as it did. -/
def rackSpoilsUptoRow : OpenClaim := { program := "ytdjlfbadcijjaaa", sum := "43e606fae2b537178a15e22ad9c21736cc69cd6dc8594f81d176667a8a28be36", func := "hoard/hoardlaw01.RackSpoils", spec := "rackSpoils", plainKeys := false, apart := false, narrowed := true }
def RackSpoilsUptoSaid : Prop := rackSpoilsUptoRow.holds Try.pinned (OpenSpec.upto rackSpoilsSpec)

/-- 'hoardlaw01.RackArms', WHERE WHAT IT READS IS OF BULK AT MOST 1048576: true; the input reads as it did. -/
def rackArmsUptoRow : OpenClaim := { program := "ytdjlfbadcijjaaa", sum := "43e606fae2b537178a15e22ad9c21736cc69cd6dc8594f81d176667a8a28be36", func := "hoard/hoardlaw01.RackArms", spec := "rackArms", unfollowed := true, recurses := true, plainKeys := false, apart := false, narrowed := true }
def RackArmsUptoSaid : Prop := rackArmsUptoRow.holds Try.pinned (OpenSpec.upto rackArmsSpec)

/-- 'hoardlaw01.RackLasts', WHERE WHAT IT READS IS OF BULK AT MOST 1048576: true; the input reads as it did. -/
def rackLastsUptoRow : OpenClaim := { program := "ytdjlfbadcijjaaa", sum := "43e606fae2b537178a15e22ad9c21736cc69cd6dc8594f81d176667a8a28be36", func := "hoard/hoardlaw01.RackLasts", spec := "rackLasts", unfollowed := true, recurses := true, plainKeys := false, apart := false, narrowed := true }
def RackLastsUptoSaid : Prop := rackLastsUptoRow.holds Try.pinned (OpenSpec.upto rackLastsSpec)

/-- 'hoardlaw01.RackPlaces', WHERE WHAT IT READS IS OF BULK AT MOST 1048576: true; the input reads as it did. -/
def rackPlacesUptoRow : OpenClaim := { program := "ytdjlfbadcijjaaa", sum := "43e606fae2b537178a15e22ad9c21736cc69cd6dc8594f81d176667a8a28be36", func := "hoard/hoardlaw01.RackPlaces", spec := "rackPlaces", unfollowed := true, recurses := true, plainKeys := false, apart := false, narrowed := true }
def RackPlacesUptoSaid : Prop := rackPlacesUptoRow.holds Try.pinned (OpenSpec.upto rackPlacesSpec)

/-- 'hoardlaw01.RackApart', WHERE WHAT IT READS IS OF BULK AT MOST 1048576: true; the input reads as it did. -/
def rackApartUptoRow : OpenClaim := { program := "ytdjlfbadcijjaaa", sum := "43e606fae2b537178a15e22ad9c21736cc69cd6dc8594f81d176667a8a28be36", func := "hoard/hoardlaw01.RackApart", spec := "rackApart", unfollowed := true, recurses := true, plainKeys := false, apart := false, narrowed := true }
def RackApartUptoSaid : Prop := rackApartUptoRow.holds Try.pinned (OpenSpec.upto rackApartSpec)

/-- 'hoardlaw01.RackPlays', WHERE WHAT IT READS IS OF BULK AT MOST 1048576: true; the input reads as it did. -/
def rackPlaysUptoRow : OpenClaim := { program := "ytdjlfbadcijjaaa", sum := "43e606fae2b537178a15e22ad9c21736cc69cd6dc8594f81d176667a8a28be36", func := "hoard/hoardlaw01.RackPlays", spec := "rackPlays", unfollowed := true, recurses := true, plainKeys := false, apart := false, narrowed := true }
def RackPlaysUptoSaid : Prop := rackPlaysUptoRow.holds Try.pinned (OpenSpec.upto rackPlaysSpec)

end Rows
end Go.Proofs.Ytdjlfbadcijjaaa
