/-
  No cell of these rows narrows 'for every input' (looked for: loops, veiled, ifaces, maps, wideKeys, modest, calm, conditions, laid).
  DERIVED. THE GIVEN ROWS OF THIS SEAT. 7 by the template 'for every input the law returns true; each argument reads behind the call as it read before'; 0 by the template 'total and deterministic' (their statements: YtggecdldnpildaaGreatTotals.lean).
  GIVEN WITH THE SEED: the statements are not yours to turn. If you find one false, say at which input.
  Laid BY PROGRAM, IN A SANDBOX (cutbox-rows.mjs): the forced cells as the released guide's own fill.sh prints them over the translation 508e63711ee488f4… (all of the seat's roots in one cut). By AI agents, Wed Nov 11 2026. No macro, syntax, notation, axiom, sorry.
-/
import Derived.Test.YtggecdldnpildaaGreatChecked
import GoSem.Claim
import GoSem.ClaimJoined
import GoSem.ClaimMapViews
import Derived.JoinedTies
import Derived.KernelRfl
namespace Go.Proofs.YtggecdldnpildaaGreat
/- THE CELL 'sum', in the pinned program and in every row, IS THE sha256 OF THE DUMP (.gsa) THAT YtggecdldnpildaaGreatProg.lean LOADS. Nothing in Lean hashes anything: it is a label: what it is worth is what the hold of that sum in a sandbox is worth. -/
noncomputable def Tryz.pinned : Pinned := { name := "ytggecdldnpildaagreat", sum := "508e63711ee488f485569f31fee8293745b4abc7608ed0008c1da5975f3a9acf", checked := Tryz.checked }
namespace Rows
def none {H : Type} : Left H := { results := [], args := [] }

/-- 'hoardtop.HoardErasures': WHATEVER THE INPUT: true; the input reads as it did. -/
def hoardErasuresSpec : ChangeSpec := { name := "hoardErasures", fn := fun _ => fun
  | [d1, d2, d3] => { results := [.lit (.bool true)], args := [d1, d2, d3] }
  | _ => none }
def hoardErasuresRow : OpenClaim := { program := "ytggecdldnpildaagreat", sum := "508e63711ee488f485569f31fee8293745b4abc7608ed0008c1da5975f3a9acf", func := "hoard/hoardtop.HoardErasures", spec := "hoardErasures", inPlace := ["sync/atomic.LoadUint32", "(*internal/sync.Mutex).Lock", "internal/race.Disable", "sync/atomic.CompareAndSwapInt32", "internal/race.Enable", "internal/race.Acquire", "(*internal/sync.Mutex).lockSlow", "internal/sync.runtime_canSpin", "internal/sync.runtime_doSpin", "internal/sync.throw", "internal/sync.runtime_nanotime", "internal/sync.runtime_SemacquireMutex", "sync/atomic.AddInt32", "(*internal/sync.Mutex).Unlock", "internal/race.ReleaseMerge", "(*internal/sync.Mutex).unlockSlow", "internal/sync.fatal", "internal/sync.runtime_Semrelease", "sync/atomic.StoreUint32"], unfollowed := true, recurses := true, plainKeys := false, apart := false }
def HoardErasuresSaid : Prop := hoardErasuresRow.holds Tryz.pinned (OpenSpec.ofChange hoardErasuresSpec)

/-- ITS FALSE NEIGHBOUR: 'it returns false'. Refute it at one input. -/
def hoardErasuresWrong : ChangeSpec := { name := "hoardErasures", fn := fun _ => fun
  | [d1, d2, d3] => { results := [.lit (.bool false)], args := [d1, d2, d3] }
  | _ => none }
def HoardErasuresWrongFalsely : Prop := hoardErasuresRow.holds Tryz.pinned (OpenSpec.ofChange hoardErasuresWrong)

/-- 'hoardlaw06.ArrayCosts': WHATEVER THE INPUT: true; the input reads as it did. -/
def arrayCostsSpec : ChangeSpec := { name := "arrayCosts", fn := fun _ => fun
  | [d1, d2, d3] => { results := [.lit (.bool true)], args := [d1, d2, d3] }
  | _ => none }
def arrayCostsRow : OpenClaim := { program := "ytggecdldnpildaagreat", sum := "508e63711ee488f485569f31fee8293745b4abc7608ed0008c1da5975f3a9acf", func := "hoard/hoardlaw06.ArrayCosts", spec := "arrayCosts", inPlace := ["sync/atomic.LoadUint32", "(*internal/sync.Mutex).Lock", "internal/race.Disable", "sync/atomic.CompareAndSwapInt32", "internal/race.Enable", "internal/race.Acquire", "(*internal/sync.Mutex).lockSlow", "internal/sync.runtime_canSpin", "internal/sync.runtime_doSpin", "internal/sync.throw", "internal/sync.runtime_nanotime", "internal/sync.runtime_SemacquireMutex", "sync/atomic.AddInt32", "(*internal/sync.Mutex).Unlock", "internal/race.ReleaseMerge", "(*internal/sync.Mutex).unlockSlow", "internal/sync.fatal", "internal/sync.runtime_Semrelease", "sync/atomic.StoreUint32"], unfollowed := true, recurses := true, plainKeys := false, apart := false }
def ArrayCostsSaid : Prop := arrayCostsRow.holds Tryz.pinned (OpenSpec.ofChange arrayCostsSpec)

/-- ITS FALSE NEIGHBOUR: 'it returns false'. Refute it at one input. -/
def arrayCostsWrong : ChangeSpec := { name := "arrayCosts", fn := fun _ => fun
  | [d1, d2, d3] => { results := [.lit (.bool false)], args := [d1, d2, d3] }
  | _ => none }
def ArrayCostsWrongFalsely : Prop := arrayCostsRow.holds Tryz.pinned (OpenSpec.ofChange arrayCostsWrong)

/-- 'hoardlaw06.ArrayApart': WHATEVER THE INPUT: true; the input reads as it did. -/
def arrayApartSpec : ChangeSpec := { name := "arrayApart", fn := fun _ => fun
  | [d1, d2] => { results := [.lit (.bool true)], args := [d1, d2] }
  | _ => none }
def arrayApartRow : OpenClaim := { program := "ytggecdldnpildaagreat", sum := "508e63711ee488f485569f31fee8293745b4abc7608ed0008c1da5975f3a9acf", func := "hoard/hoardlaw06.ArrayApart", spec := "arrayApart", inPlace := ["sync/atomic.LoadUint32", "(*internal/sync.Mutex).Lock", "internal/race.Disable", "sync/atomic.CompareAndSwapInt32", "internal/race.Enable", "internal/race.Acquire", "(*internal/sync.Mutex).lockSlow", "internal/sync.runtime_canSpin", "internal/sync.runtime_doSpin", "internal/sync.throw", "internal/sync.runtime_nanotime", "internal/sync.runtime_SemacquireMutex", "sync/atomic.AddInt32", "(*internal/sync.Mutex).Unlock", "internal/race.ReleaseMerge", "(*internal/sync.Mutex).unlockSlow", "internal/sync.fatal", "internal/sync.runtime_Semrelease", "sync/atomic.StoreUint32"], unfollowed := true, recurses := true, plainKeys := false, apart := false }
def ArrayApartSaid : Prop := arrayApartRow.holds Tryz.pinned (OpenSpec.ofChange arrayApartSpec)

/-- ITS FALSE NEIGHBOUR: 'it returns false'. Refute it at one input. -/
def arrayApartWrong : ChangeSpec := { name := "arrayApart", fn := fun _ => fun
  | [d1, d2] => { results := [.lit (.bool false)], args := [d1, d2] }
  | _ => none }
def ArrayApartWrongFalsely : Prop := arrayApartRow.holds Tryz.pinned (OpenSpec.ofChange arrayApartWrong)

/-- 'hoardlaw06.ArrayFour': WHATEVER THE INPUT: true; the input reads as it did. -/
def arrayFourSpec : ChangeSpec := { name := "arrayFour", fn := fun _ => fun
  | [d1, d2] => { results := [.lit (.bool true)], args := [d1, d2] }
  | _ => none }
def arrayFourRow : OpenClaim := { program := "ytggecdldnpildaagreat", sum := "508e63711ee488f485569f31fee8293745b4abc7608ed0008c1da5975f3a9acf", func := "hoard/hoardlaw06.ArrayFour", spec := "arrayFour", inPlace := ["sync/atomic.LoadUint32", "(*internal/sync.Mutex).Lock", "internal/race.Disable", "sync/atomic.CompareAndSwapInt32", "internal/race.Enable", "internal/race.Acquire", "(*internal/sync.Mutex).lockSlow", "internal/sync.runtime_canSpin", "internal/sync.runtime_doSpin", "internal/sync.throw", "internal/sync.runtime_nanotime", "internal/sync.runtime_SemacquireMutex", "sync/atomic.AddInt32", "(*internal/sync.Mutex).Unlock", "internal/race.ReleaseMerge", "(*internal/sync.Mutex).unlockSlow", "internal/sync.fatal", "internal/sync.runtime_Semrelease", "sync/atomic.StoreUint32"], unfollowed := true, recurses := true, plainKeys := false, apart := false }
def ArrayFourSaid : Prop := arrayFourRow.holds Tryz.pinned (OpenSpec.ofChange arrayFourSpec)

/-- ITS FALSE NEIGHBOUR: 'it returns false'. Refute it at one input. -/
def arrayFourWrong : ChangeSpec := { name := "arrayFour", fn := fun _ => fun
  | [d1, d2] => { results := [.lit (.bool false)], args := [d1, d2] }
  | _ => none }
def ArrayFourWrongFalsely : Prop := arrayFourRow.holds Tryz.pinned (OpenSpec.ofChange arrayFourWrong)

/-- 'hoardlaw06.ArrayStands': WHATEVER THE INPUT: true; the input reads as it did. -/
def arrayStandsSpec : ChangeSpec := { name := "arrayStands", fn := fun _ => fun
  | [d] => { results := [.lit (.bool true)], args := [d] }
  | _ => none }
def arrayStandsRow : OpenClaim := { program := "ytggecdldnpildaagreat", sum := "508e63711ee488f485569f31fee8293745b4abc7608ed0008c1da5975f3a9acf", func := "hoard/hoardlaw06.ArrayStands", spec := "arrayStands", inPlace := ["sync/atomic.LoadUint32", "(*internal/sync.Mutex).Lock", "internal/race.Disable", "sync/atomic.CompareAndSwapInt32", "internal/race.Enable", "internal/race.Acquire", "(*internal/sync.Mutex).lockSlow", "internal/sync.runtime_canSpin", "internal/sync.runtime_doSpin", "internal/sync.throw", "internal/sync.runtime_nanotime", "internal/sync.runtime_SemacquireMutex", "sync/atomic.AddInt32", "(*internal/sync.Mutex).Unlock", "internal/race.ReleaseMerge", "(*internal/sync.Mutex).unlockSlow", "internal/sync.fatal", "internal/sync.runtime_Semrelease", "sync/atomic.StoreUint32"], unfollowed := true, recurses := true, plainKeys := false, apart := false }
def ArrayStandsSaid : Prop := arrayStandsRow.holds Tryz.pinned (OpenSpec.ofChange arrayStandsSpec)

/-- ITS FALSE NEIGHBOUR: 'it returns false'. Refute it at one input. -/
def arrayStandsWrong : ChangeSpec := { name := "arrayStands", fn := fun _ => fun
  | [d] => { results := [.lit (.bool false)], args := [d] }
  | _ => none }
def ArrayStandsWrongFalsely : Prop := arrayStandsRow.holds Tryz.pinned (OpenSpec.ofChange arrayStandsWrong)

/-- 'hoardlaw06.ArrayHonest': WHATEVER THE INPUT: true; the input reads as it did. -/
def arrayHonestSpec : ChangeSpec := { name := "arrayHonest", fn := fun _ => fun
  | [d1, d2] => { results := [.lit (.bool true)], args := [d1, d2] }
  | _ => none }
def arrayHonestRow : OpenClaim := { program := "ytggecdldnpildaagreat", sum := "508e63711ee488f485569f31fee8293745b4abc7608ed0008c1da5975f3a9acf", func := "hoard/hoardlaw06.ArrayHonest", spec := "arrayHonest", inPlace := ["sync/atomic.LoadUint32", "(*internal/sync.Mutex).Lock", "internal/race.Disable", "sync/atomic.CompareAndSwapInt32", "internal/race.Enable", "internal/race.Acquire", "(*internal/sync.Mutex).lockSlow", "internal/sync.runtime_canSpin", "internal/sync.runtime_doSpin", "internal/sync.throw", "internal/sync.runtime_nanotime", "internal/sync.runtime_SemacquireMutex", "sync/atomic.AddInt32", "(*internal/sync.Mutex).Unlock", "internal/race.ReleaseMerge", "(*internal/sync.Mutex).unlockSlow", "internal/sync.fatal", "internal/sync.runtime_Semrelease", "sync/atomic.StoreUint32"], unfollowed := true, recurses := true, plainKeys := false, apart := false }
def ArrayHonestSaid : Prop := arrayHonestRow.holds Tryz.pinned (OpenSpec.ofChange arrayHonestSpec)

/-- ITS FALSE NEIGHBOUR: 'it returns false'. Refute it at one input. -/
def arrayHonestWrong : ChangeSpec := { name := "arrayHonest", fn := fun _ => fun
  | [d1, d2] => { results := [.lit (.bool false)], args := [d1, d2] }
  | _ => none }
def ArrayHonestWrongFalsely : Prop := arrayHonestRow.holds Tryz.pinned (OpenSpec.ofChange arrayHonestWrong)

/-- 'hoardlaw06.ArrayTails': WHATEVER THE INPUT: true; the input reads as it did. -/
def arrayTailsSpec : ChangeSpec := { name := "arrayTails", fn := fun _ => fun
  | [d1, d2] => { results := [.lit (.bool true)], args := [d1, d2] }
  | _ => none }
def arrayTailsRow : OpenClaim := { program := "ytggecdldnpildaagreat", sum := "508e63711ee488f485569f31fee8293745b4abc7608ed0008c1da5975f3a9acf", func := "hoard/hoardlaw06.ArrayTails", spec := "arrayTails", inPlace := ["sync/atomic.LoadUint32", "(*internal/sync.Mutex).Lock", "internal/race.Disable", "sync/atomic.CompareAndSwapInt32", "internal/race.Enable", "internal/race.Acquire", "(*internal/sync.Mutex).lockSlow", "internal/sync.runtime_canSpin", "internal/sync.runtime_doSpin", "internal/sync.throw", "internal/sync.runtime_nanotime", "internal/sync.runtime_SemacquireMutex", "sync/atomic.AddInt32", "(*internal/sync.Mutex).Unlock", "internal/race.ReleaseMerge", "(*internal/sync.Mutex).unlockSlow", "internal/sync.fatal", "internal/sync.runtime_Semrelease", "sync/atomic.StoreUint32"], unfollowed := true, recurses := true, plainKeys := false, apart := false }
def ArrayTailsSaid : Prop := arrayTailsRow.holds Tryz.pinned (OpenSpec.ofChange arrayTailsSpec)

/-- ITS FALSE NEIGHBOUR: 'it returns false'. Refute it at one input. -/
def arrayTailsWrong : ChangeSpec := { name := "arrayTails", fn := fun _ => fun
  | [d1, d2] => { results := [.lit (.bool false)], args := [d1, d2] }
  | _ => none }
def ArrayTailsWrongFalsely : Prop := arrayTailsRow.holds Tryz.pinned (OpenSpec.ofChange arrayTailsWrong)

/- THE SECOND FORM. 'bulk': how many values and letters a reading holds, each counted each time it is reached (what is shared counts as often as it is met; a slice's spare places count too). A statement '..UptoSaid' is the law's where the arguments, and the package variables that the reading takes, are together of bulk at most 1048576: NARROWER than '..Said'. Prove '..Said' where nothing that the law and all that it calls make is longer than what came in: it says more and counts as full. Else prove '..UptoSaid'. A law counts once. -/
mutual
def uptoBulk {H : Type} : DataW H → Nat
  | .lit (.string bytes) => bytes.length + 1
  | .lit _ => 1
  | .nil => 1
  | .ptr d => uptoBulk d + 1
  | .slice elems spare => uptoBulkAll elems + uptoBulkAll spare + 1
  | .agg parts => uptoBulkAll parts + 1
  | .iface _ d => uptoBulk d + 1
  | .map entries => uptoBulkEntries entries + 1
  | .held _ => 1
def uptoBulkAll {H : Type} : List (DataW H) → Nat
  | [] => 0
  | d :: r => uptoBulk d + uptoBulkAll r
def uptoBulkEntries {H : Type} : List (Lit × DataW H) → Nat
  | [] => 0
  | x :: r => uptoBulkEntry x + uptoBulkEntries r
def uptoBulkEntry {H : Type} : Lit × DataW H → Nat
  | (.string bytes, d) => bytes.length + uptoBulk d + 1
  | (_, d) => uptoBulk d + 1
 end
def uptoSmall : (H : Type) → List (DataW H) → Bool := fun _ ds => decide (uptoBulkAll ds ≤ 1048576)
def OpenSpec.upto (s : _root_.Go.ChangeSpec) : _root_.Go.OpenSpec := { _root_.Go.OpenSpec.ofChange s with cond := some uptoSmall }

/-- 'hoardtop.HoardErasures', WHERE WHAT IT READS IS OF BULK AT MOST 1048576: true; the input reads as it did. -/
def hoardErasuresUptoRow : OpenClaim := { program := "ytggecdldnpildaagreat", sum := "508e63711ee488f485569f31fee8293745b4abc7608ed0008c1da5975f3a9acf", func := "hoard/hoardtop.HoardErasures", spec := "hoardErasures", inPlace := ["sync/atomic.LoadUint32", "(*internal/sync.Mutex).Lock", "internal/race.Disable", "sync/atomic.CompareAndSwapInt32", "internal/race.Enable", "internal/race.Acquire", "(*internal/sync.Mutex).lockSlow", "internal/sync.runtime_canSpin", "internal/sync.runtime_doSpin", "internal/sync.throw", "internal/sync.runtime_nanotime", "internal/sync.runtime_SemacquireMutex", "sync/atomic.AddInt32", "(*internal/sync.Mutex).Unlock", "internal/race.ReleaseMerge", "(*internal/sync.Mutex).unlockSlow", "internal/sync.fatal", "internal/sync.runtime_Semrelease", "sync/atomic.StoreUint32"], unfollowed := true, recurses := true, plainKeys := false, apart := false, narrowed := true }
def HoardErasuresUptoSaid : Prop := hoardErasuresUptoRow.holds Tryz.pinned (OpenSpec.upto hoardErasuresSpec)

/-- 'hoardlaw06.ArrayCosts', WHERE WHAT IT READS IS OF BULK AT MOST 1048576: true; the input reads as it did. -/
def arrayCostsUptoRow : OpenClaim := { program := "ytggecdldnpildaagreat", sum := "508e63711ee488f485569f31fee8293745b4abc7608ed0008c1da5975f3a9acf", func := "hoard/hoardlaw06.ArrayCosts", spec := "arrayCosts", inPlace := ["sync/atomic.LoadUint32", "(*internal/sync.Mutex).Lock", "internal/race.Disable", "sync/atomic.CompareAndSwapInt32", "internal/race.Enable", "internal/race.Acquire", "(*internal/sync.Mutex).lockSlow", "internal/sync.runtime_canSpin", "internal/sync.runtime_doSpin", "internal/sync.throw", "internal/sync.runtime_nanotime", "internal/sync.runtime_SemacquireMutex", "sync/atomic.AddInt32", "(*internal/sync.Mutex).Unlock", "internal/race.ReleaseMerge", "(*internal/sync.Mutex).unlockSlow", "internal/sync.fatal", "internal/sync.runtime_Semrelease", "sync/atomic.StoreUint32"], unfollowed := true, recurses := true, plainKeys := false, apart := false, narrowed := true }
def ArrayCostsUptoSaid : Prop := arrayCostsUptoRow.holds Tryz.pinned (OpenSpec.upto arrayCostsSpec)

/-- 'hoardlaw06.ArrayApart', WHERE WHAT IT READS IS OF BULK AT MOST 1048576: true; the input reads as it did. -/
def arrayApartUptoRow : OpenClaim := { program := "ytggecdldnpildaagreat", sum := "508e63711ee488f485569f31fee8293745b4abc7608ed0008c1da5975f3a9acf", func := "hoard/hoardlaw06.ArrayApart", spec := "arrayApart", inPlace := ["sync/atomic.LoadUint32", "(*internal/sync.Mutex).Lock", "internal/race.Disable", "sync/atomic.CompareAndSwapInt32", "internal/race.Enable", "internal/race.Acquire", "(*internal/sync.Mutex).lockSlow", "internal/sync.runtime_canSpin", "internal/sync.runtime_doSpin", "internal/sync.throw", "internal/sync.runtime_nanotime", "internal/sync.runtime_SemacquireMutex", "sync/atomic.AddInt32", "(*internal/sync.Mutex).Unlock", "internal/race.ReleaseMerge", "(*internal/sync.Mutex).unlockSlow", "internal/sync.fatal", "internal/sync.runtime_Semrelease", "sync/atomic.StoreUint32"], unfollowed := true, recurses := true, plainKeys := false, apart := false, narrowed := true }
def ArrayApartUptoSaid : Prop := arrayApartUptoRow.holds Tryz.pinned (OpenSpec.upto arrayApartSpec)

/-- 'hoardlaw06.ArrayFour', WHERE WHAT IT READS IS OF BULK AT MOST 1048576: true; the input reads as it did. -/
def arrayFourUptoRow : OpenClaim := { program := "ytggecdldnpildaagreat", sum := "508e63711ee488f485569f31fee8293745b4abc7608ed0008c1da5975f3a9acf", func := "hoard/hoardlaw06.ArrayFour", spec := "arrayFour", inPlace := ["sync/atomic.LoadUint32", "(*internal/sync.Mutex).Lock", "internal/race.Disable", "sync/atomic.CompareAndSwapInt32", "internal/race.Enable", "internal/race.Acquire", "(*internal/sync.Mutex).lockSlow", "internal/sync.runtime_canSpin", "internal/sync.runtime_doSpin", "internal/sync.throw", "internal/sync.runtime_nanotime", "internal/sync.runtime_SemacquireMutex", "sync/atomic.AddInt32", "(*internal/sync.Mutex).Unlock", "internal/race.ReleaseMerge", "(*internal/sync.Mutex).unlockSlow", "internal/sync.fatal", "internal/sync.runtime_Semrelease", "sync/atomic.StoreUint32"], unfollowed := true, recurses := true, plainKeys := false, apart := false, narrowed := true }
def ArrayFourUptoSaid : Prop := arrayFourUptoRow.holds Tryz.pinned (OpenSpec.upto arrayFourSpec)

/-- 'hoardlaw06.ArrayStands', WHERE WHAT IT READS IS OF BULK AT MOST 1048576: true; the input reads as it did. -/
def arrayStandsUptoRow : OpenClaim := { program := "ytggecdldnpildaagreat", sum := "508e63711ee488f485569f31fee8293745b4abc7608ed0008c1da5975f3a9acf", func := "hoard/hoardlaw06.ArrayStands", spec := "arrayStands", inPlace := ["sync/atomic.LoadUint32", "(*internal/sync.Mutex).Lock", "internal/race.Disable", "sync/atomic.CompareAndSwapInt32", "internal/race.Enable", "internal/race.Acquire", "(*internal/sync.Mutex).lockSlow", "internal/sync.runtime_canSpin", "internal/sync.runtime_doSpin", "internal/sync.throw", "internal/sync.runtime_nanotime", "internal/sync.runtime_SemacquireMutex", "sync/atomic.AddInt32", "(*internal/sync.Mutex).Unlock", "internal/race.ReleaseMerge", "(*internal/sync.Mutex).unlockSlow", "internal/sync.fatal", "internal/sync.runtime_Semrelease", "sync/atomic.StoreUint32"], unfollowed := true, recurses := true, plainKeys := false, apart := false, narrowed := true }
def ArrayStandsUptoSaid : Prop := arrayStandsUptoRow.holds Tryz.pinned (OpenSpec.upto arrayStandsSpec)

/-- 'hoardlaw06.ArrayHonest', WHERE WHAT IT READS IS OF BULK AT MOST 1048576: true; the input reads as it did. -/
def arrayHonestUptoRow : OpenClaim := { program := "ytggecdldnpildaagreat", sum := "508e63711ee488f485569f31fee8293745b4abc7608ed0008c1da5975f3a9acf", func := "hoard/hoardlaw06.ArrayHonest", spec := "arrayHonest", inPlace := ["sync/atomic.LoadUint32", "(*internal/sync.Mutex).Lock", "internal/race.Disable", "sync/atomic.CompareAndSwapInt32", "internal/race.Enable", "internal/race.Acquire", "(*internal/sync.Mutex).lockSlow", "internal/sync.runtime_canSpin", "internal/sync.runtime_doSpin", "internal/sync.throw", "internal/sync.runtime_nanotime", "internal/sync.runtime_SemacquireMutex", "sync/atomic.AddInt32", "(*internal/sync.Mutex).Unlock", "internal/race.ReleaseMerge", "(*internal/sync.Mutex).unlockSlow", "internal/sync.fatal", "internal/sync.runtime_Semrelease", "sync/atomic.StoreUint32"], unfollowed := true, recurses := true, plainKeys := false, apart := false, narrowed := true }
def ArrayHonestUptoSaid : Prop := arrayHonestUptoRow.holds Tryz.pinned (OpenSpec.upto arrayHonestSpec)

/-- 'hoardlaw06.ArrayTails', WHERE WHAT IT READS IS OF BULK AT MOST 1048576: true; the input reads as it did. -/
def arrayTailsUptoRow : OpenClaim := { program := "ytggecdldnpildaagreat", sum := "508e63711ee488f485569f31fee8293745b4abc7608ed0008c1da5975f3a9acf", func := "hoard/hoardlaw06.ArrayTails", spec := "arrayTails", inPlace := ["sync/atomic.LoadUint32", "(*internal/sync.Mutex).Lock", "internal/race.Disable", "sync/atomic.CompareAndSwapInt32", "internal/race.Enable", "internal/race.Acquire", "(*internal/sync.Mutex).lockSlow", "internal/sync.runtime_canSpin", "internal/sync.runtime_doSpin", "internal/sync.throw", "internal/sync.runtime_nanotime", "internal/sync.runtime_SemacquireMutex", "sync/atomic.AddInt32", "(*internal/sync.Mutex).Unlock", "internal/race.ReleaseMerge", "(*internal/sync.Mutex).unlockSlow", "internal/sync.fatal", "internal/sync.runtime_Semrelease", "sync/atomic.StoreUint32"], unfollowed := true, recurses := true, plainKeys := false, apart := false, narrowed := true }
def ArrayTailsUptoSaid : Prop := arrayTailsUptoRow.holds Tryz.pinned (OpenSpec.upto arrayTailsSpec)

end Rows
end Go.Proofs.YtggecdldnpildaaGreat
