/-
  NARROWER THAN 'FOR EVERY INPUT', by the rows' own cells (each row's printed sentence says how): FnExactIsSpilled: loops · FnExactAlignOf: loops · FnExactCasesOf: loops · FnExactCaseAt: loops · FnExactTotalAlign: loops · FnExactSizeOf: loops · FnExactFlatOf: loops · FnExactTotalSize: loops · FnExactFlatOfAll: loops · FnExactPartsAt: loops · FnExactParamsOf: loops.
  DERIVED. THE GIVEN ROWS OF THIS SEAT. 14 by the template 'for every input the law returns true; each argument reads behind the call as it read before'; 0 by the template 'total and deterministic' (their statements: YtmmeaakhikcigaaTotals.lean).
  GIVEN WITH THE SEED: the statements are not yours to turn. If you find one false, say at which input.
  Laid BY PROGRAM, IN A SANDBOX (cutbox-rows.mjs): the forced cells as the released guide's own fill.sh prints them over the translation 6651fbb6184e3e33… (all of the seat's roots in one cut). By AI agents, Wed Nov 11 2026. No macro, syntax, notation, axiom, sorry.
-/
import Derived.Test.YtmmeaakhikcigaaChecked
import GoSem.Claim
import GoSem.ClaimJoined
import GoSem.ClaimMapViews
import Derived.JoinedTies
import Derived.KernelRfl
namespace Go.Proofs.Ytmmeaakhikcigaa
/- THE CELL 'sum', in the pinned program and in every row, IS THE sha256 OF THE DUMP (.gsa) THAT YtmmeaakhikcigaaProg.lean LOADS. Nothing in Lean hashes anything: it is a label: what it is worth is what the hold of that sum in a sandbox is worth. -/
noncomputable def Try.pinned : Pinned := { name := "ytmmeaakhikcigaa", sum := "6651fbb6184e3e333efb24574e25af99e75836f9c41007d53352067e4efc2b4b", checked := Try.checked }
namespace Rows
def none {H : Type} : Left H := { results := [], args := [] }

/-- 'laws.FnExactModuleShape': WHATEVER THE INPUT: true; the input reads as it did. -/
def fnExactModuleShapeSpec : ChangeSpec := { name := "fnExactModuleShape", fn := fun _ => fun
  | [d] => { results := [.lit (.bool true)], args := [d] }
  | _ => none }
def fnExactModuleShapeRow : OpenClaim := { program := "ytmmeaakhikcigaa", sum := "6651fbb6184e3e333efb24574e25af99e75836f9c41007d53352067e4efc2b4b", func := "loop.example/g00901/laws.FnExactModuleShape", spec := "fnExactModuleShape", inPlace := ["internal/bytealg.IndexByteString"], unfollowed := true, recurses := true, apart := false }
def FnExactModuleShapeSaid : Prop := fnExactModuleShapeRow.holds Try.pinned (OpenSpec.ofChange fnExactModuleShapeSpec)

/-- ITS FALSE NEIGHBOUR: 'it returns false'. Refute it at one input. -/
def fnExactModuleShapeWrong : ChangeSpec := { name := "fnExactModuleShape", fn := fun _ => fun
  | [d] => { results := [.lit (.bool false)], args := [d] }
  | _ => none }
def FnExactModuleShapeWrongFalsely : Prop := fnExactModuleShapeRow.holds Try.pinned (OpenSpec.ofChange fnExactModuleShapeWrong)

/-- 'laws.FnExactCoreOf': WHATEVER THE INPUT: true; the input reads as it did. -/
def fnExactCoreOfSpec : ChangeSpec := { name := "fnExactCoreOf", fn := fun _ => fun
  | [d1, d2] => { results := [.lit (.bool true)], args := [d1, d2] }
  | _ => none }
def fnExactCoreOfRow : OpenClaim := { program := "ytmmeaakhikcigaa", sum := "6651fbb6184e3e333efb24574e25af99e75836f9c41007d53352067e4efc2b4b", func := "loop.example/g00901/laws.FnExactCoreOf", spec := "fnExactCoreOf", inPlace := ["internal/bytealg.IndexByteString"], unfollowed := true, recurses := true, apart := false }
def FnExactCoreOfSaid : Prop := fnExactCoreOfRow.holds Try.pinned (OpenSpec.ofChange fnExactCoreOfSpec)

/-- ITS FALSE NEIGHBOUR: 'it returns false'. Refute it at one input. -/
def fnExactCoreOfWrong : ChangeSpec := { name := "fnExactCoreOf", fn := fun _ => fun
  | [d1, d2] => { results := [.lit (.bool false)], args := [d1, d2] }
  | _ => none }
def FnExactCoreOfWrongFalsely : Prop := fnExactCoreOfRow.holds Try.pinned (OpenSpec.ofChange fnExactCoreOfWrong)

/-- 'laws.FnExactImportOf': WHATEVER THE INPUT: true; the input reads as it did. -/
def fnExactImportOfSpec : ChangeSpec := { name := "fnExactImportOf", fn := fun _ => fun
  | [d1, d2] => { results := [.lit (.bool true)], args := [d1, d2] }
  | _ => none }
def fnExactImportOfRow : OpenClaim := { program := "ytmmeaakhikcigaa", sum := "6651fbb6184e3e333efb24574e25af99e75836f9c41007d53352067e4efc2b4b", func := "loop.example/g00901/laws.FnExactImportOf", spec := "fnExactImportOf", inPlace := ["internal/bytealg.IndexByteString"], unfollowed := true, recurses := true, apart := false }
def FnExactImportOfSaid : Prop := fnExactImportOfRow.holds Try.pinned (OpenSpec.ofChange fnExactImportOfSpec)

/-- ITS FALSE NEIGHBOUR: 'it returns false'. Refute it at one input. -/
def fnExactImportOfWrong : ChangeSpec := { name := "fnExactImportOf", fn := fun _ => fun
  | [d1, d2] => { results := [.lit (.bool false)], args := [d1, d2] }
  | _ => none }
def FnExactImportOfWrongFalsely : Prop := fnExactImportOfRow.holds Try.pinned (OpenSpec.ofChange fnExactImportOfWrong)

/-- 'laws.FnExactIsSpilled': WHATEVER THE INPUT: true; the input reads as it did. -/
def fnExactIsSpilledSpec : ChangeSpec := { name := "fnExactIsSpilled", fn := fun _ => fun
  | [d] => { results := [.lit (.bool true)], args := [d] }
  | _ => none }
def fnExactIsSpilledRow : OpenClaim := { program := "ytmmeaakhikcigaa", sum := "6651fbb6184e3e333efb24574e25af99e75836f9c41007d53352067e4efc2b4b", func := "loop.example/g00901/laws.FnExactIsSpilled", spec := "fnExactIsSpilled", unfollowed := true, recurses := true, loops := true, apart := false }
def FnExactIsSpilledSaid : Prop := fnExactIsSpilledRow.holds Try.pinned (OpenSpec.ofChange fnExactIsSpilledSpec)

/-- ITS FALSE NEIGHBOUR: 'it returns false'. Refute it at one input. -/
def fnExactIsSpilledWrong : ChangeSpec := { name := "fnExactIsSpilled", fn := fun _ => fun
  | [d] => { results := [.lit (.bool false)], args := [d] }
  | _ => none }
def FnExactIsSpilledWrongFalsely : Prop := fnExactIsSpilledRow.holds Try.pinned (OpenSpec.ofChange fnExactIsSpilledWrong)

/-- 'laws.FnExactAlignOf': WHATEVER THE INPUT: true; the input reads as it did. -/
def fnExactAlignOfSpec : ChangeSpec := { name := "fnExactAlignOf", fn := fun _ => fun
  | [d] => { results := [.lit (.bool true)], args := [d] }
  | _ => none }
def fnExactAlignOfRow : OpenClaim := { program := "ytmmeaakhikcigaa", sum := "6651fbb6184e3e333efb24574e25af99e75836f9c41007d53352067e4efc2b4b", func := "loop.example/g00901/laws.FnExactAlignOf", spec := "fnExactAlignOf", unfollowed := true, recurses := true, loops := true, apart := false }
def FnExactAlignOfSaid : Prop := fnExactAlignOfRow.holds Try.pinned (OpenSpec.ofChange fnExactAlignOfSpec)

/-- ITS FALSE NEIGHBOUR: 'it returns false'. Refute it at one input. -/
def fnExactAlignOfWrong : ChangeSpec := { name := "fnExactAlignOf", fn := fun _ => fun
  | [d] => { results := [.lit (.bool false)], args := [d] }
  | _ => none }
def FnExactAlignOfWrongFalsely : Prop := fnExactAlignOfRow.holds Try.pinned (OpenSpec.ofChange fnExactAlignOfWrong)

/-- 'laws.FnExactCasesOf': WHATEVER THE INPUT: true; the input reads as it did. -/
def fnExactCasesOfSpec : ChangeSpec := { name := "fnExactCasesOf", fn := fun _ => fun
  | [d] => { results := [.lit (.bool true)], args := [d] }
  | _ => none }
def fnExactCasesOfRow : OpenClaim := { program := "ytmmeaakhikcigaa", sum := "6651fbb6184e3e333efb24574e25af99e75836f9c41007d53352067e4efc2b4b", func := "loop.example/g00901/laws.FnExactCasesOf", spec := "fnExactCasesOf", unfollowed := true, recurses := true, loops := true, apart := false }
def FnExactCasesOfSaid : Prop := fnExactCasesOfRow.holds Try.pinned (OpenSpec.ofChange fnExactCasesOfSpec)

/-- ITS FALSE NEIGHBOUR: 'it returns false'. Refute it at one input. -/
def fnExactCasesOfWrong : ChangeSpec := { name := "fnExactCasesOf", fn := fun _ => fun
  | [d] => { results := [.lit (.bool false)], args := [d] }
  | _ => none }
def FnExactCasesOfWrongFalsely : Prop := fnExactCasesOfRow.holds Try.pinned (OpenSpec.ofChange fnExactCasesOfWrong)

/-- 'laws.FnExactCaseAt': WHATEVER THE INPUT: true; the input reads as it did. -/
def fnExactCaseAtSpec : ChangeSpec := { name := "fnExactCaseAt", fn := fun _ => fun
  | [d] => { results := [.lit (.bool true)], args := [d] }
  | _ => none }
def fnExactCaseAtRow : OpenClaim := { program := "ytmmeaakhikcigaa", sum := "6651fbb6184e3e333efb24574e25af99e75836f9c41007d53352067e4efc2b4b", func := "loop.example/g00901/laws.FnExactCaseAt", spec := "fnExactCaseAt", unfollowed := true, recurses := true, loops := true, apart := false }
def FnExactCaseAtSaid : Prop := fnExactCaseAtRow.holds Try.pinned (OpenSpec.ofChange fnExactCaseAtSpec)

/-- ITS FALSE NEIGHBOUR: 'it returns false'. Refute it at one input. -/
def fnExactCaseAtWrong : ChangeSpec := { name := "fnExactCaseAt", fn := fun _ => fun
  | [d] => { results := [.lit (.bool false)], args := [d] }
  | _ => none }
def FnExactCaseAtWrongFalsely : Prop := fnExactCaseAtRow.holds Try.pinned (OpenSpec.ofChange fnExactCaseAtWrong)

/-- 'laws.FnExactTotalAlign': WHATEVER THE INPUT: true; the input reads as it did. -/
def fnExactTotalAlignSpec : ChangeSpec := { name := "fnExactTotalAlign", fn := fun _ => fun
  | [d] => { results := [.lit (.bool true)], args := [d] }
  | _ => none }
def fnExactTotalAlignRow : OpenClaim := { program := "ytmmeaakhikcigaa", sum := "6651fbb6184e3e333efb24574e25af99e75836f9c41007d53352067e4efc2b4b", func := "loop.example/g00901/laws.FnExactTotalAlign", spec := "fnExactTotalAlign", unfollowed := true, recurses := true, loops := true, apart := false }
def FnExactTotalAlignSaid : Prop := fnExactTotalAlignRow.holds Try.pinned (OpenSpec.ofChange fnExactTotalAlignSpec)

/-- ITS FALSE NEIGHBOUR: 'it returns false'. Refute it at one input. -/
def fnExactTotalAlignWrong : ChangeSpec := { name := "fnExactTotalAlign", fn := fun _ => fun
  | [d] => { results := [.lit (.bool false)], args := [d] }
  | _ => none }
def FnExactTotalAlignWrongFalsely : Prop := fnExactTotalAlignRow.holds Try.pinned (OpenSpec.ofChange fnExactTotalAlignWrong)

/-- 'laws.FnExactSizeOf': WHATEVER THE INPUT: true; the input reads as it did. -/
def fnExactSizeOfSpec : ChangeSpec := { name := "fnExactSizeOf", fn := fun _ => fun
  | [d] => { results := [.lit (.bool true)], args := [d] }
  | _ => none }
def fnExactSizeOfRow : OpenClaim := { program := "ytmmeaakhikcigaa", sum := "6651fbb6184e3e333efb24574e25af99e75836f9c41007d53352067e4efc2b4b", func := "loop.example/g00901/laws.FnExactSizeOf", spec := "fnExactSizeOf", unfollowed := true, recurses := true, loops := true, apart := false }
def FnExactSizeOfSaid : Prop := fnExactSizeOfRow.holds Try.pinned (OpenSpec.ofChange fnExactSizeOfSpec)

/-- ITS FALSE NEIGHBOUR: 'it returns false'. Refute it at one input. -/
def fnExactSizeOfWrong : ChangeSpec := { name := "fnExactSizeOf", fn := fun _ => fun
  | [d] => { results := [.lit (.bool false)], args := [d] }
  | _ => none }
def FnExactSizeOfWrongFalsely : Prop := fnExactSizeOfRow.holds Try.pinned (OpenSpec.ofChange fnExactSizeOfWrong)

/-- 'laws.FnExactFlatOf': WHATEVER THE INPUT: true; the input reads as it did. -/
def fnExactFlatOfSpec : ChangeSpec := { name := "fnExactFlatOf", fn := fun _ => fun
  | [d] => { results := [.lit (.bool true)], args := [d] }
  | _ => none }
def fnExactFlatOfRow : OpenClaim := { program := "ytmmeaakhikcigaa", sum := "6651fbb6184e3e333efb24574e25af99e75836f9c41007d53352067e4efc2b4b", func := "loop.example/g00901/laws.FnExactFlatOf", spec := "fnExactFlatOf", unfollowed := true, recurses := true, loops := true, apart := false }
def FnExactFlatOfSaid : Prop := fnExactFlatOfRow.holds Try.pinned (OpenSpec.ofChange fnExactFlatOfSpec)

/-- ITS FALSE NEIGHBOUR: 'it returns false'. Refute it at one input. -/
def fnExactFlatOfWrong : ChangeSpec := { name := "fnExactFlatOf", fn := fun _ => fun
  | [d] => { results := [.lit (.bool false)], args := [d] }
  | _ => none }
def FnExactFlatOfWrongFalsely : Prop := fnExactFlatOfRow.holds Try.pinned (OpenSpec.ofChange fnExactFlatOfWrong)

/-- 'laws.FnExactTotalSize': WHATEVER THE INPUT: true; the input reads as it did. -/
def fnExactTotalSizeSpec : ChangeSpec := { name := "fnExactTotalSize", fn := fun _ => fun
  | [d] => { results := [.lit (.bool true)], args := [d] }
  | _ => none }
def fnExactTotalSizeRow : OpenClaim := { program := "ytmmeaakhikcigaa", sum := "6651fbb6184e3e333efb24574e25af99e75836f9c41007d53352067e4efc2b4b", func := "loop.example/g00901/laws.FnExactTotalSize", spec := "fnExactTotalSize", unfollowed := true, recurses := true, loops := true, apart := false }
def FnExactTotalSizeSaid : Prop := fnExactTotalSizeRow.holds Try.pinned (OpenSpec.ofChange fnExactTotalSizeSpec)

/-- ITS FALSE NEIGHBOUR: 'it returns false'. Refute it at one input. -/
def fnExactTotalSizeWrong : ChangeSpec := { name := "fnExactTotalSize", fn := fun _ => fun
  | [d] => { results := [.lit (.bool false)], args := [d] }
  | _ => none }
def FnExactTotalSizeWrongFalsely : Prop := fnExactTotalSizeRow.holds Try.pinned (OpenSpec.ofChange fnExactTotalSizeWrong)

/-- 'laws.FnExactFlatOfAll': WHATEVER THE INPUT: true; the input reads as it did. -/
def fnExactFlatOfAllSpec : ChangeSpec := { name := "fnExactFlatOfAll", fn := fun _ => fun
  | [d] => { results := [.lit (.bool true)], args := [d] }
  | _ => none }
def fnExactFlatOfAllRow : OpenClaim := { program := "ytmmeaakhikcigaa", sum := "6651fbb6184e3e333efb24574e25af99e75836f9c41007d53352067e4efc2b4b", func := "loop.example/g00901/laws.FnExactFlatOfAll", spec := "fnExactFlatOfAll", unfollowed := true, recurses := true, loops := true, apart := false }
def FnExactFlatOfAllSaid : Prop := fnExactFlatOfAllRow.holds Try.pinned (OpenSpec.ofChange fnExactFlatOfAllSpec)

/-- ITS FALSE NEIGHBOUR: 'it returns false'. Refute it at one input. -/
def fnExactFlatOfAllWrong : ChangeSpec := { name := "fnExactFlatOfAll", fn := fun _ => fun
  | [d] => { results := [.lit (.bool false)], args := [d] }
  | _ => none }
def FnExactFlatOfAllWrongFalsely : Prop := fnExactFlatOfAllRow.holds Try.pinned (OpenSpec.ofChange fnExactFlatOfAllWrong)

/-- 'laws.FnExactPartsAt': WHATEVER THE INPUT: true; the input reads as it did. -/
def fnExactPartsAtSpec : ChangeSpec := { name := "fnExactPartsAt", fn := fun _ => fun
  | [d] => { results := [.lit (.bool true)], args := [d] }
  | _ => none }
def fnExactPartsAtRow : OpenClaim := { program := "ytmmeaakhikcigaa", sum := "6651fbb6184e3e333efb24574e25af99e75836f9c41007d53352067e4efc2b4b", func := "loop.example/g00901/laws.FnExactPartsAt", spec := "fnExactPartsAt", unfollowed := true, recurses := true, loops := true, apart := false }
def FnExactPartsAtSaid : Prop := fnExactPartsAtRow.holds Try.pinned (OpenSpec.ofChange fnExactPartsAtSpec)

/-- ITS FALSE NEIGHBOUR: 'it returns false'. Refute it at one input. -/
def fnExactPartsAtWrong : ChangeSpec := { name := "fnExactPartsAt", fn := fun _ => fun
  | [d] => { results := [.lit (.bool false)], args := [d] }
  | _ => none }
def FnExactPartsAtWrongFalsely : Prop := fnExactPartsAtRow.holds Try.pinned (OpenSpec.ofChange fnExactPartsAtWrong)

/-- 'laws.FnExactParamsOf': WHATEVER THE INPUT: true; the input reads as it did. -/
def fnExactParamsOfSpec : ChangeSpec := { name := "fnExactParamsOf", fn := fun _ => fun
  | [d] => { results := [.lit (.bool true)], args := [d] }
  | _ => none }
def fnExactParamsOfRow : OpenClaim := { program := "ytmmeaakhikcigaa", sum := "6651fbb6184e3e333efb24574e25af99e75836f9c41007d53352067e4efc2b4b", func := "loop.example/g00901/laws.FnExactParamsOf", spec := "fnExactParamsOf", unfollowed := true, recurses := true, loops := true, apart := false }
def FnExactParamsOfSaid : Prop := fnExactParamsOfRow.holds Try.pinned (OpenSpec.ofChange fnExactParamsOfSpec)

/-- ITS FALSE NEIGHBOUR: 'it returns false'. Refute it at one input. -/
def fnExactParamsOfWrong : ChangeSpec := { name := "fnExactParamsOf", fn := fun _ => fun
  | [d] => { results := [.lit (.bool false)], args := [d] }
  | _ => none }
def FnExactParamsOfWrongFalsely : Prop := fnExactParamsOfRow.holds Try.pinned (OpenSpec.ofChange fnExactParamsOfWrong)

/- THE SECOND FORM. 'bulk': how many values and letters a reading holds, each counted each time it is reached (what is shared counts as often as it is met; a slice's spare places count too). A statement '..UptoSaid' is the law's where the arguments, and the package variables that the reading takes, are together of bulk at most 1048576: NARROWER than '..Said'. Prove '..Said' where nothing that the law and all that it calls make is longer than what came in: it says more and counts as full. Else prove '..UptoSaid'. A law counts once. -/
mutual
def uptoBulk {H : Type} : DataW H → Nat
  | .lit (.string bytes) => bytes.length + 1
  | .lit _ => 1
  | .nil => 1
  | .ptr d => uptoBulk d + 1
  | .slice elems spare => uptoBulkAll elems + uptoBulkAll spare + 1
  | .agg parts => uptoBulkAll parts + 1
  | .iface _ d => uptoBulk d + 1
  | .map entries => uptoBulkEntries entries + 1
  | .held _ => 1
def uptoBulkAll {H : Type} : List (DataW H) → Nat
  | [] => 0
  | d :: r => uptoBulk d + uptoBulkAll r
def uptoBulkEntries {H : Type} : List (Lit × DataW H) → Nat
  | [] => 0
  | x :: r => uptoBulkEntry x + uptoBulkEntries r
def uptoBulkEntry {H : Type} : Lit × DataW H → Nat
  | (.string bytes, d) => bytes.length + uptoBulk d + 1
  | (_, d) => uptoBulk d + 1
 end
def uptoSmall : (H : Type) → List (DataW H) → Bool := fun _ ds => decide (uptoBulkAll ds ≤ 1048576)
def OpenSpec.upto (s : _root_.Go.ChangeSpec) : _root_.Go.OpenSpec := { _root_.Go.OpenSpec.ofChange s with cond := some uptoSmall }

/-- 'laws.FnExactModuleShape', WHERE WHAT IT READS IS OF BULK AT MOST 1048576: true; the input reads as it did. -/
def fnExactModuleShapeUptoRow : OpenClaim := { program := "ytmmeaakhikcigaa", sum := "6651fbb6184e3e333efb24574e25af99e75836f9c41007d53352067e4efc2b4b", func := "loop.example/g00901/laws.FnExactModuleShape", spec := "fnExactModuleShape", inPlace := ["internal/bytealg.IndexByteString"], unfollowed := true, recurses := true, apart := false, narrowed := true }
def FnExactModuleShapeUptoSaid : Prop := fnExactModuleShapeUptoRow.holds Try.pinned (OpenSpec.upto fnExactModuleShapeSpec)

/-- 'laws.FnExactCoreOf', WHERE WHAT IT READS IS OF BULK AT MOST 1048576: true; the input reads as it did. -/
def fnExactCoreOfUptoRow : OpenClaim := { program := "ytmmeaakhikcigaa", sum := "6651fbb6184e3e333efb24574e25af99e75836f9c41007d53352067e4efc2b4b", func := "loop.example/g00901/laws.FnExactCoreOf", spec := "fnExactCoreOf", inPlace := ["internal/bytealg.IndexByteString"], unfollowed := true, recurses := true, apart := false, narrowed := true }
def FnExactCoreOfUptoSaid : Prop := fnExactCoreOfUptoRow.holds Try.pinned (OpenSpec.upto fnExactCoreOfSpec)

/-- 'laws.FnExactImportOf', WHERE WHAT IT READS IS OF BULK AT MOST 1048576: true; the input reads as it did. -/
def fnExactImportOfUptoRow : OpenClaim := { program := "ytmmeaakhikcigaa", sum := "6651fbb6184e3e333efb24574e25af99e75836f9c41007d53352067e4efc2b4b", func := "loop.example/g00901/laws.FnExactImportOf", spec := "fnExactImportOf", inPlace := ["internal/bytealg.IndexByteString"], unfollowed := true, recurses := true, apart := false, narrowed := true }
def FnExactImportOfUptoSaid : Prop := fnExactImportOfUptoRow.holds Try.pinned (OpenSpec.upto fnExactImportOfSpec)

/-- 'laws.FnExactIsSpilled', WHERE WHAT IT READS IS OF BULK AT MOST 1048576: true; the input reads as it did. -/
def fnExactIsSpilledUptoRow : OpenClaim := { program := "ytmmeaakhikcigaa", sum := "6651fbb6184e3e333efb24574e25af99e75836f9c41007d53352067e4efc2b4b", func := "loop.example/g00901/laws.FnExactIsSpilled", spec := "fnExactIsSpilled", unfollowed := true, recurses := true, loops := true, apart := false, narrowed := true }
def FnExactIsSpilledUptoSaid : Prop := fnExactIsSpilledUptoRow.holds Try.pinned (OpenSpec.upto fnExactIsSpilledSpec)

/-- 'laws.FnExactAlignOf', WHERE WHAT IT READS IS OF BULK AT MOST 1048576: true; the input reads as it did. -/
def fnExactAlignOfUptoRow : OpenClaim := { program := "ytmmeaakhikcigaa", sum := "6651fbb6184e3e333efb24574e25af99e75836f9c41007d53352067e4efc2b4b", func := "loop.example/g00901/laws.FnExactAlignOf", spec := "fnExactAlignOf", unfollowed := true, recurses := true, loops := true, apart := false, narrowed := true }
def FnExactAlignOfUptoSaid : Prop := fnExactAlignOfUptoRow.holds Try.pinned (OpenSpec.upto fnExactAlignOfSpec)

/-- 'laws.FnExactCasesOf', WHERE WHAT IT READS IS OF BULK AT MOST 1048576: true; the input reads as it did. -/
def fnExactCasesOfUptoRow : OpenClaim := { program := "ytmmeaakhikcigaa", sum := "6651fbb6184e3e333efb24574e25af99e75836f9c41007d53352067e4efc2b4b", func := "loop.example/g00901/laws.FnExactCasesOf", spec := "fnExactCasesOf", unfollowed := true, recurses := true, loops := true, apart := false, narrowed := true }
def FnExactCasesOfUptoSaid : Prop := fnExactCasesOfUptoRow.holds Try.pinned (OpenSpec.upto fnExactCasesOfSpec)

/-- 'laws.FnExactCaseAt', WHERE WHAT IT READS IS OF BULK AT MOST 1048576: true; the input reads as it did. -/
def fnExactCaseAtUptoRow : OpenClaim := { program := "ytmmeaakhikcigaa", sum := "6651fbb6184e3e333efb24574e25af99e75836f9c41007d53352067e4efc2b4b", func := "loop.example/g00901/laws.FnExactCaseAt", spec := "fnExactCaseAt", unfollowed := true, recurses := true, loops := true, apart := false, narrowed := true }
def FnExactCaseAtUptoSaid : Prop := fnExactCaseAtUptoRow.holds Try.pinned (OpenSpec.upto fnExactCaseAtSpec)

/-- 'laws.FnExactTotalAlign', WHERE WHAT IT READS IS OF BULK AT MOST 1048576: true; the input reads as it did. -/
def fnExactTotalAlignUptoRow : OpenClaim := { program := "ytmmeaakhikcigaa", sum := "6651fbb6184e3e333efb24574e25af99e75836f9c41007d53352067e4efc2b4b", func := "loop.example/g00901/laws.FnExactTotalAlign", spec := "fnExactTotalAlign", unfollowed := true, recurses := true, loops := true, apart := false, narrowed := true }
def FnExactTotalAlignUptoSaid : Prop := fnExactTotalAlignUptoRow.holds Try.pinned (OpenSpec.upto fnExactTotalAlignSpec)

/-- 'laws.FnExactSizeOf', WHERE WHAT IT READS IS OF BULK AT MOST 1048576: true; the input reads as it did. -/
def fnExactSizeOfUptoRow : OpenClaim := { program := "ytmmeaakhikcigaa", sum := "6651fbb6184e3e333efb24574e25af99e75836f9c41007d53352067e4efc2b4b", func := "loop.example/g00901/laws.FnExactSizeOf", spec := "fnExactSizeOf", unfollowed := true, recurses := true, loops := true, apart := false, narrowed := true }
def FnExactSizeOfUptoSaid : Prop := fnExactSizeOfUptoRow.holds Try.pinned (OpenSpec.upto fnExactSizeOfSpec)

/-- 'laws.FnExactFlatOf', WHERE WHAT IT READS IS OF BULK AT MOST 1048576: true; the input reads as it did. -/
def fnExactFlatOfUptoRow : OpenClaim := { program := "ytmmeaakhikcigaa", sum := "6651fbb6184e3e333efb24574e25af99e75836f9c41007d53352067e4efc2b4b", func := "loop.example/g00901/laws.FnExactFlatOf", spec := "fnExactFlatOf", unfollowed := true, recurses := true, loops := true, apart := false, narrowed := true }
def FnExactFlatOfUptoSaid : Prop := fnExactFlatOfUptoRow.holds Try.pinned (OpenSpec.upto fnExactFlatOfSpec)

/-- 'laws.FnExactTotalSize', WHERE WHAT IT READS IS OF BULK AT MOST 1048576: true; the input reads as it did. -/
def fnExactTotalSizeUptoRow : OpenClaim := { program := "ytmmeaakhikcigaa", sum := "6651fbb6184e3e333efb24574e25af99e75836f9c41007d53352067e4efc2b4b", func := "loop.example/g00901/laws.FnExactTotalSize", spec := "fnExactTotalSize", unfollowed := true, recurses := true, loops := true, apart := false, narrowed := true }
def FnExactTotalSizeUptoSaid : Prop := fnExactTotalSizeUptoRow.holds Try.pinned (OpenSpec.upto fnExactTotalSizeSpec)

/-- 'laws.FnExactFlatOfAll', WHERE WHAT IT READS IS OF BULK AT MOST 1048576: true; the input reads as it did. -/
def fnExactFlatOfAllUptoRow : OpenClaim := { program := "ytmmeaakhikcigaa", sum := "6651fbb6184e3e333efb24574e25af99e75836f9c41007d53352067e4efc2b4b", func := "loop.example/g00901/laws.FnExactFlatOfAll", spec := "fnExactFlatOfAll", unfollowed := true, recurses := true, loops := true, apart := false, narrowed := true }
def FnExactFlatOfAllUptoSaid : Prop := fnExactFlatOfAllUptoRow.holds Try.pinned (OpenSpec.upto fnExactFlatOfAllSpec)

/-- 'laws.FnExactPartsAt', WHERE WHAT IT READS IS OF BULK AT MOST 1048576: true; the input reads as it did. -/
def fnExactPartsAtUptoRow : OpenClaim := { program := "ytmmeaakhikcigaa", sum := "6651fbb6184e3e333efb24574e25af99e75836f9c41007d53352067e4efc2b4b", func := "loop.example/g00901/laws.FnExactPartsAt", spec := "fnExactPartsAt", unfollowed := true, recurses := true, loops := true, apart := false, narrowed := true }
def FnExactPartsAtUptoSaid : Prop := fnExactPartsAtUptoRow.holds Try.pinned (OpenSpec.upto fnExactPartsAtSpec)

/-- 'laws.FnExactParamsOf', WHERE WHAT IT READS IS OF BULK AT MOST 1048576: true; the input reads as it did. -/
def fnExactParamsOfUptoRow : OpenClaim := { program := "ytmmeaakhikcigaa", sum := "6651fbb6184e3e333efb24574e25af99e75836f9c41007d53352067e4efc2b4b", func := "loop.example/g00901/laws.FnExactParamsOf", spec := "fnExactParamsOf", unfollowed := true, recurses := true, loops := true, apart := false, narrowed := true }
def FnExactParamsOfUptoSaid : Prop := fnExactParamsOfUptoRow.holds Try.pinned (OpenSpec.upto fnExactParamsOfSpec)

end Rows
end Go.Proofs.Ytmmeaakhikcigaa
