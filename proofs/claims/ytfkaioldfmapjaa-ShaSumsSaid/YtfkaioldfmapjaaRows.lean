/-
  No cell of these rows narrows 'for every input' (looked for: loops, veiled, ifaces, maps, wideKeys, modest, calm, conditions, laid).
  DERIVED. THE GIVEN ROWS OF THIS SEAT. 10 by the template 'for every input the law returns true; each argument reads behind the call as it read before'; 0 by the template 'total and deterministic' (their statements: YtfkaioldfmapjaaTotals.lean).
  GIVEN WITH THE SEED: the statements are not yours to turn. If you find one false, say at which input.
  Laid BY PROGRAM, IN A SANDBOX (cutbox-rows.mjs): the forced cells as the released guide's own fill.sh prints them over the translation 35b43e7e7b700370… (all of the seat's roots in one cut). By AI agents, Wed Nov 11 2026. No macro, syntax, notation, axiom, sorry.
-/
import Derived.Test.YtfkaioldfmapjaaChecked
import GoSem.Claim
import GoSem.ClaimJoined
import GoSem.ClaimMapViews
import Derived.JoinedTies
import Derived.KernelRfl
namespace Go.Proofs.Ytfkaioldfmapjaa
/- THE CELL 'sum', in the pinned program and in every row, IS THE sha256 OF THE DUMP (.gsa) THAT YtfkaioldfmapjaaProg.lean LOADS. Nothing in Lean hashes anything: it is a label: what it is worth is what the hold of that sum in a sandbox is worth. -/
noncomputable def Try.pinned : Pinned := { name := "ytfkaioldfmapjaa", sum := "35b43e7e7b7003700ee93f8a550d9869f09a323417c88710ab5ea3cb10f9cc88", checked := Try.checked }
namespace Rows
def none {H : Type} : Left H := { results := [], args := [] }

/-- 'hoardlaw05.PackJoins': WHATEVER THE INPUT: true; the input reads as it did. -/
def packJoinsSpec : ChangeSpec := { name := "packJoins", fn := fun _ => fun
  | [d1, d2] => { results := [.lit (.bool true)], args := [d1, d2] }
  | _ => none }
def packJoinsRow : OpenClaim := { program := "ytfkaioldfmapjaa", sum := "35b43e7e7b7003700ee93f8a550d9869f09a323417c88710ab5ea3cb10f9cc88", func := "hoard/hoardlaw05.PackJoins", spec := "packJoins", unfollowed := true, recurses := true, apart := false }
def PackJoinsSaid : Prop := packJoinsRow.holds Try.pinned (OpenSpec.ofChange packJoinsSpec)

/-- ITS FALSE NEIGHBOUR: 'it returns false'. Refute it at one input. -/
def packJoinsWrong : ChangeSpec := { name := "packJoins", fn := fun _ => fun
  | [d1, d2] => { results := [.lit (.bool false)], args := [d1, d2] }
  | _ => none }
def PackJoinsWrongFalsely : Prop := packJoinsRow.holds Try.pinned (OpenSpec.ofChange packJoinsWrong)

/-- 'hoardlaw05.PackRecords': WHATEVER THE INPUT: true; the input reads as it did. -/
def packRecordsSpec : ChangeSpec := { name := "packRecords", fn := fun _ => fun
  | [d1, d2] => { results := [.lit (.bool true)], args := [d1, d2] }
  | _ => none }
def packRecordsRow : OpenClaim := { program := "ytfkaioldfmapjaa", sum := "35b43e7e7b7003700ee93f8a550d9869f09a323417c88710ab5ea3cb10f9cc88", func := "hoard/hoardlaw05.PackRecords", spec := "packRecords", unfollowed := true, recurses := true, apart := false }
def PackRecordsSaid : Prop := packRecordsRow.holds Try.pinned (OpenSpec.ofChange packRecordsSpec)

/-- ITS FALSE NEIGHBOUR: 'it returns false'. Refute it at one input. -/
def packRecordsWrong : ChangeSpec := { name := "packRecords", fn := fun _ => fun
  | [d1, d2] => { results := [.lit (.bool false)], args := [d1, d2] }
  | _ => none }
def PackRecordsWrongFalsely : Prop := packRecordsRow.holds Try.pinned (OpenSpec.ofChange packRecordsWrong)

/-- 'hoardlaw05.PackInverse': WHATEVER THE INPUT: true; the input reads as it did. -/
def packInverseSpec : ChangeSpec := { name := "packInverse", fn := fun _ => fun
  | [d1, d2, d3] => { results := [.lit (.bool true)], args := [d1, d2, d3] }
  | _ => none }
def packInverseRow : OpenClaim := { program := "ytfkaioldfmapjaa", sum := "35b43e7e7b7003700ee93f8a550d9869f09a323417c88710ab5ea3cb10f9cc88", func := "hoard/hoardlaw05.PackInverse", spec := "packInverse", unfollowed := true, recurses := true, apart := false }
def PackInverseSaid : Prop := packInverseRow.holds Try.pinned (OpenSpec.ofChange packInverseSpec)

/-- ITS FALSE NEIGHBOUR: 'it returns false'. Refute it at one input. -/
def packInverseWrong : ChangeSpec := { name := "packInverse", fn := fun _ => fun
  | [d1, d2, d3] => { results := [.lit (.bool false)], args := [d1, d2, d3] }
  | _ => none }
def PackInverseWrongFalsely : Prop := packInverseRow.holds Try.pinned (OpenSpec.ofChange packInverseWrong)

/-- 'hoardlaw05.PackNumbers': WHATEVER THE INPUT: true; the input reads as it did. -/
def packNumbersSpec : ChangeSpec := { name := "packNumbers", fn := fun _ => fun
  | [d] => { results := [.lit (.bool true)], args := [d] }
  | _ => none }
def packNumbersRow : OpenClaim := { program := "ytfkaioldfmapjaa", sum := "35b43e7e7b7003700ee93f8a550d9869f09a323417c88710ab5ea3cb10f9cc88", func := "hoard/hoardlaw05.PackNumbers", spec := "packNumbers", unfollowed := true, recurses := true, apart := false }
def PackNumbersSaid : Prop := packNumbersRow.holds Try.pinned (OpenSpec.ofChange packNumbersSpec)

/-- ITS FALSE NEIGHBOUR: 'it returns false'. Refute it at one input. -/
def packNumbersWrong : ChangeSpec := { name := "packNumbers", fn := fun _ => fun
  | [d] => { results := [.lit (.bool false)], args := [d] }
  | _ => none }
def PackNumbersWrongFalsely : Prop := packNumbersRow.holds Try.pinned (OpenSpec.ofChange packNumbersWrong)

/-- 'hoardlaw04.ShaDigits': WHATEVER THE INPUT: true; the input reads as it did. -/
def shaDigitsSpec : ChangeSpec := { name := "shaDigits", fn := fun _ => fun
  | [d1, d2] => { results := [.lit (.bool true)], args := [d1, d2] }
  | _ => none }
def shaDigitsRow : OpenClaim := { program := "ytfkaioldfmapjaa", sum := "35b43e7e7b7003700ee93f8a550d9869f09a323417c88710ab5ea3cb10f9cc88", func := "hoard/hoardlaw04.ShaDigits", spec := "shaDigits", apart := false }
def ShaDigitsSaid : Prop := shaDigitsRow.holds Try.pinned (OpenSpec.ofChange shaDigitsSpec)

/-- ITS FALSE NEIGHBOUR: 'it returns false'. Refute it at one input. -/
def shaDigitsWrong : ChangeSpec := { name := "shaDigits", fn := fun _ => fun
  | [d1, d2] => { results := [.lit (.bool false)], args := [d1, d2] }
  | _ => none }
def ShaDigitsWrongFalsely : Prop := shaDigitsRow.holds Try.pinned (OpenSpec.ofChange shaDigitsWrong)

/-- 'hoardlaw04.ShaTells': WHATEVER THE INPUT: true; the input reads as it did. -/
def shaTellsSpec : ChangeSpec := { name := "shaTells", fn := fun _ => fun
  | [d1, d2, d3] => { results := [.lit (.bool true)], args := [d1, d2, d3] }
  | _ => none }
def shaTellsRow : OpenClaim := { program := "ytfkaioldfmapjaa", sum := "35b43e7e7b7003700ee93f8a550d9869f09a323417c88710ab5ea3cb10f9cc88", func := "hoard/hoardlaw04.ShaTells", spec := "shaTells", apart := false }
def ShaTellsSaid : Prop := shaTellsRow.holds Try.pinned (OpenSpec.ofChange shaTellsSpec)

/-- ITS FALSE NEIGHBOUR: 'it returns false'. Refute it at one input. -/
def shaTellsWrong : ChangeSpec := { name := "shaTells", fn := fun _ => fun
  | [d1, d2, d3] => { results := [.lit (.bool false)], args := [d1, d2, d3] }
  | _ => none }
def ShaTellsWrongFalsely : Prop := shaTellsRow.holds Try.pinned (OpenSpec.ofChange shaTellsWrong)

/-- 'hoardlaw04.ShaApart': WHATEVER THE INPUT: true; the input reads as it did. -/
def shaApartSpec : ChangeSpec := { name := "shaApart", fn := fun _ => fun
  | [d] => { results := [.lit (.bool true)], args := [d] }
  | _ => none }
def shaApartRow : OpenClaim := { program := "ytfkaioldfmapjaa", sum := "35b43e7e7b7003700ee93f8a550d9869f09a323417c88710ab5ea3cb10f9cc88", func := "hoard/hoardlaw04.ShaApart", spec := "shaApart", apart := false }
def ShaApartSaid : Prop := shaApartRow.holds Try.pinned (OpenSpec.ofChange shaApartSpec)

/-- ITS FALSE NEIGHBOUR: 'it returns false'. Refute it at one input. -/
def shaApartWrong : ChangeSpec := { name := "shaApart", fn := fun _ => fun
  | [d] => { results := [.lit (.bool false)], args := [d] }
  | _ => none }
def ShaApartWrongFalsely : Prop := shaApartRow.holds Try.pinned (OpenSpec.ofChange shaApartWrong)

/-- 'hoardlaw05.PackPtrs': WHATEVER THE INPUT: true; the input reads as it did. -/
def packPtrsSpec : ChangeSpec := { name := "packPtrs", fn := fun _ => fun
  | [d1, d2] => { results := [.lit (.bool true)], args := [d1, d2] }
  | _ => none }
def packPtrsRow : OpenClaim := { program := "ytfkaioldfmapjaa", sum := "35b43e7e7b7003700ee93f8a550d9869f09a323417c88710ab5ea3cb10f9cc88", func := "hoard/hoardlaw05.PackPtrs", spec := "packPtrs", unfollowed := true, recurses := true, apart := false }
def PackPtrsSaid : Prop := packPtrsRow.holds Try.pinned (OpenSpec.ofChange packPtrsSpec)

/-- ITS FALSE NEIGHBOUR: 'it returns false'. Refute it at one input. -/
def packPtrsWrong : ChangeSpec := { name := "packPtrs", fn := fun _ => fun
  | [d1, d2] => { results := [.lit (.bool false)], args := [d1, d2] }
  | _ => none }
def PackPtrsWrongFalsely : Prop := packPtrsRow.holds Try.pinned (OpenSpec.ofChange packPtrsWrong)

/-- 'hoardlaw04.ShaSums': WHATEVER THE INPUT: true; the input reads as it did. -/
def shaSumsSpec : ChangeSpec := { name := "shaSums", fn := fun _ => fun
  | [d1, d2] => { results := [.lit (.bool true)], args := [d1, d2] }
  | _ => none }
def shaSumsRow : OpenClaim := { program := "ytfkaioldfmapjaa", sum := "35b43e7e7b7003700ee93f8a550d9869f09a323417c88710ab5ea3cb10f9cc88", func := "hoard/hoardlaw04.ShaSums", spec := "shaSums", apart := false }
def ShaSumsSaid : Prop := shaSumsRow.holds Try.pinned (OpenSpec.ofChange shaSumsSpec)

/-- ITS FALSE NEIGHBOUR: 'it returns false'. Refute it at one input. -/
def shaSumsWrong : ChangeSpec := { name := "shaSums", fn := fun _ => fun
  | [d1, d2] => { results := [.lit (.bool false)], args := [d1, d2] }
  | _ => none }
def ShaSumsWrongFalsely : Prop := shaSumsRow.holds Try.pinned (OpenSpec.ofChange shaSumsWrong)

/-- 'hoardlaw04.ShaSeals': WHATEVER THE INPUT: true; the input reads as it did. -/
def shaSealsSpec : ChangeSpec := { name := "shaSeals", fn := fun _ => fun
  | [d] => { results := [.lit (.bool true)], args := [d] }
  | _ => none }
def shaSealsRow : OpenClaim := { program := "ytfkaioldfmapjaa", sum := "35b43e7e7b7003700ee93f8a550d9869f09a323417c88710ab5ea3cb10f9cc88", func := "hoard/hoardlaw04.ShaSeals", spec := "shaSeals", apart := false }
def ShaSealsSaid : Prop := shaSealsRow.holds Try.pinned (OpenSpec.ofChange shaSealsSpec)

/-- ITS FALSE NEIGHBOUR: 'it returns false'. Refute it at one input. -/
def shaSealsWrong : ChangeSpec := { name := "shaSeals", fn := fun _ => fun
  | [d] => { results := [.lit (.bool false)], args := [d] }
  | _ => none }
def ShaSealsWrongFalsely : Prop := shaSealsRow.holds Try.pinned (OpenSpec.ofChange shaSealsWrong)

/- THE SECOND FORM. 'bulk': how many values and letters a reading holds, each counted each time it is reached (what is shared counts as often as it is met; a slice's spare places count too). A statement '..UptoSaid' is the law's where the arguments, and the package variables that the reading takes, are together of bulk at most 1048576: NARROWER than '..Said'. Prove '..Said' where nothing that the law and all that it calls make is longer than what came in: it says more and counts as full. Else prove '..UptoSaid'. A law counts once. -/
mutual
def uptoBulk {H : Type} : DataW H → Nat
  | .lit (.string bytes) => bytes.length + 1
  | .lit _ => 1
  | .nil => 1
  | .ptr d => uptoBulk d + 1
  | .slice elems spare => uptoBulkAll elems + uptoBulkAll spare + 1
  | .agg parts => uptoBulkAll parts + 1
  | .iface _ d => uptoBulk d + 1
  | .map entries => uptoBulkEntries entries + 1
  | .held _ => 1
def uptoBulkAll {H : Type} : List (DataW H) → Nat
  | [] => 0
  | d :: r => uptoBulk d + uptoBulkAll r
def uptoBulkEntries {H : Type} : List (Lit × DataW H) → Nat
  | [] => 0
  | x :: r => uptoBulkEntry x + uptoBulkEntries r
def uptoBulkEntry {H : Type} : Lit × DataW H → Nat
  | (.string bytes, d) => bytes.length + uptoBulk d + 1
  | (_, d) => uptoBulk d + 1
 end
def uptoSmall : (H : Type) → List (DataW H) → Bool := fun _ ds => decide (uptoBulkAll ds ≤ 1048576)
def OpenSpec.upto (s : _root_.Go.ChangeSpec) : _root_.Go.OpenSpec := { _root_.Go.OpenSpec.ofChange s with cond := some uptoSmall }

/-- 'hoardlaw05.PackJoins', WHERE WHAT IT READS IS OF BULK AT MOST 1048576: true; the input reads as it did. -/
def packJoinsUptoRow : OpenClaim := { program := "ytfkaioldfmapjaa", sum := "35b43e7e7b7003700ee93f8a550d9869f09a323417c88710ab5ea3cb10f9cc88", func := "hoard/hoardlaw05.PackJoins", spec := "packJoins", unfollowed := true, recurses := true, apart := false, narrowed := true }
def PackJoinsUptoSaid : Prop := packJoinsUptoRow.holds Try.pinned (OpenSpec.upto packJoinsSpec)

/-- 'hoardlaw05.PackRecords', WHERE WHAT IT READS IS OF BULK AT MOST 1048576: true; the input reads as it did. -/
def packRecordsUptoRow : OpenClaim := { program := "ytfkaioldfmapjaa", sum := "35b43e7e7b7003700ee93f8a550d9869f09a323417c88710ab5ea3cb10f9cc88", func := "hoard/hoardlaw05.PackRecords", spec := "packRecords", unfollowed := true, recurses := true, apart := false, narrowed := true }
def PackRecordsUptoSaid : Prop := packRecordsUptoRow.holds Try.pinned (OpenSpec.upto packRecordsSpec)

/-- 'hoardlaw05.PackInverse', WHERE WHAT IT READS IS OF BULK AT MOST 1048576: true; the input reads as it did. -/
def packInverseUptoRow : OpenClaim := { program := "ytfkaioldfmapjaa", sum := "35b43e7e7b7003700ee93f8a550d9869f09a323417c88710ab5ea3cb10f9cc88", func := "hoard/hoardlaw05.PackInverse", spec := "packInverse", unfollowed := true, recurses := true, apart := false, narrowed := true }
def PackInverseUptoSaid : Prop := packInverseUptoRow.holds Try.pinned (OpenSpec.upto packInverseSpec)

/-- 'hoardlaw05.PackNumbers', WHERE WHAT IT READS IS OF BULK AT MOST 1048576: true; the input reads as it did. -/
def packNumbersUptoRow : OpenClaim := { program := "ytfkaioldfmapjaa", sum := "35b43e7e7b7003700ee93f8a550d9869f09a323417c88710ab5ea3cb10f9cc88", func := "hoard/hoardlaw05.PackNumbers", spec := "packNumbers", unfollowed := true, recurses := true, apart := false, narrowed := true }
def PackNumbersUptoSaid : Prop := packNumbersUptoRow.holds Try.pinned (OpenSpec.upto packNumbersSpec)

/-- 'hoardlaw04.ShaDigits', WHERE WHAT IT READS IS OF BULK AT MOST 1048576: true; the input reads as it did. -/
def shaDigitsUptoRow : OpenClaim := { program := "ytfkaioldfmapjaa", sum := "35b43e7e7b7003700ee93f8a550d9869f09a323417c88710ab5ea3cb10f9cc88", func := "hoard/hoardlaw04.ShaDigits", spec := "shaDigits", apart := false, narrowed := true }
def ShaDigitsUptoSaid : Prop := shaDigitsUptoRow.holds Try.pinned (OpenSpec.upto shaDigitsSpec)

/-- 'hoardlaw04.ShaTells', WHERE WHAT IT READS IS OF BULK AT MOST 1048576: true; the input reads as it did. -/
def shaTellsUptoRow : OpenClaim := { program := "ytfkaioldfmapjaa", sum := "35b43e7e7b7003700ee93f8a550d9869f09a323417c88710ab5ea3cb10f9cc88", func := "hoard/hoardlaw04.ShaTells", spec := "shaTells", apart := false, narrowed := true }
def ShaTellsUptoSaid : Prop := shaTellsUptoRow.holds Try.pinned (OpenSpec.upto shaTellsSpec)

/-- 'hoardlaw04.ShaApart', WHERE WHAT IT READS IS OF BULK AT MOST 1048576: true; the input reads as it did. -/
def shaApartUptoRow : OpenClaim := { program := "ytfkaioldfmapjaa", sum := "35b43e7e7b7003700ee93f8a550d9869f09a323417c88710ab5ea3cb10f9cc88", func := "hoard/hoardlaw04.ShaApart", spec := "shaApart", apart := false, narrowed := true }
def ShaApartUptoSaid : Prop := shaApartUptoRow.holds Try.pinned (OpenSpec.upto shaApartSpec)

/-- 'hoardlaw05.PackPtrs', WHERE WHAT IT READS IS OF BULK AT MOST 1048576: true; the input reads as it did. -/
def packPtrsUptoRow : OpenClaim := { program := "ytfkaioldfmapjaa", sum := "35b43e7e7b7003700ee93f8a550d9869f09a323417c88710ab5ea3cb10f9cc88", func := "hoard/hoardlaw05.PackPtrs", spec := "packPtrs", unfollowed := true, recurses := true, apart := false, narrowed := true }
def PackPtrsUptoSaid : Prop := packPtrsUptoRow.holds Try.pinned (OpenSpec.upto packPtrsSpec)

/-- 'hoardlaw04.ShaSums', WHERE WHAT IT READS IS OF BULK AT MOST 1048576: true; the input reads as it did. -/
def shaSumsUptoRow : OpenClaim := { program := "ytfkaioldfmapjaa", sum := "35b43e7e7b7003700ee93f8a550d9869f09a323417c88710ab5ea3cb10f9cc88", func := "hoard/hoardlaw04.ShaSums", spec := "shaSums", apart := false, narrowed := true }
def ShaSumsUptoSaid : Prop := shaSumsUptoRow.holds Try.pinned (OpenSpec.upto shaSumsSpec)

/-- 'hoardlaw04.ShaSeals', WHERE WHAT IT READS IS OF BULK AT MOST 1048576: true; the input reads as it did. -/
def shaSealsUptoRow : OpenClaim := { program := "ytfkaioldfmapjaa", sum := "35b43e7e7b7003700ee93f8a550d9869f09a323417c88710ab5ea3cb10f9cc88", func := "hoard/hoardlaw04.ShaSeals", spec := "shaSeals", apart := false, narrowed := true }
def ShaSealsUptoSaid : Prop := shaSealsUptoRow.holds Try.pinned (OpenSpec.upto shaSealsSpec)

end Rows
end Go.Proofs.Ytfkaioldfmapjaa
