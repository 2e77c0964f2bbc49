/-
  NARROWER THAN 'FOR EVERY INPUT', by the rows' own cells (each row's printed sentence says how): FnExactCopiedBytes: loops.
  DERIVED. THE GIVEN ROWS OF THIS SEAT. 12 by the template 'for every input the law returns true; each argument reads behind the call as it read before'; 0 by the template 'total and deterministic' (their statements: YtoeaihancoglpaaTotals.lean).
  GIVEN WITH THE SEED: the statements are not yours to turn. If you find one false, say at which input.
  Laid BY PROGRAM, IN A SANDBOX (cutbox-rows.mjs): the forced cells as the released guide's own fill.sh prints them over the translation e324f92ee70ff16f… (all of the seat's roots in one cut). By AI agents, Wed Nov 11 2026. No macro, syntax, notation, axiom, sorry.
-/
import Derived.Test.YtoeaihancoglpaaChecked
import GoSem.Claim
import GoSem.ClaimJoined
import GoSem.ClaimMapViews
import Derived.JoinedTies
import Derived.KernelRfl
namespace Go.Proofs.Ytoeaihancoglpaa
/- THE CELL 'sum', in the pinned program and in every row, IS THE sha256 OF THE DUMP (.gsa) THAT YtoeaihancoglpaaProg.lean LOADS. Nothing in Lean hashes anything: it is a label: what it is worth is what the hold of that sum in a sandbox is worth. -/
noncomputable def Try.pinned : Pinned := { name := "ytoeaihancoglpaa", sum := "e324f92ee70ff16fc0aed4631c26dcd5256bc8aa3b1ada4f55389a92941fc266", checked := Try.checked }
namespace Rows
def none {H : Type} : Left H := { results := [], args := [] }

/-- 'laws.FnExactToSmall': WHATEVER THE INPUT: true; the input reads as it did. -/
def fnExactToSmallSpec : ChangeSpec := { name := "fnExactToSmall", fn := fun _ => fun
  | [d] => { results := [.lit (.bool true)], args := [d] }
  | _ => none }
def fnExactToSmallRow : OpenClaim := { program := "ytoeaihancoglpaa", sum := "e324f92ee70ff16fc0aed4631c26dcd5256bc8aa3b1ada4f55389a92941fc266", func := "loop.example/g00901/laws.FnExactToSmall", spec := "fnExactToSmall", apart := false }
def FnExactToSmallSaid : Prop := fnExactToSmallRow.holds Try.pinned (OpenSpec.ofChange fnExactToSmallSpec)

/-- ITS FALSE NEIGHBOUR: 'it returns false'. Refute it at one input. -/
def fnExactToSmallWrong : ChangeSpec := { name := "fnExactToSmall", fn := fun _ => fun
  | [d] => { results := [.lit (.bool false)], args := [d] }
  | _ => none }
def FnExactToSmallWrongFalsely : Prop := fnExactToSmallRow.holds Try.pinned (OpenSpec.ofChange fnExactToSmallWrong)

/-- 'laws.FnExactEncodingOk': WHATEVER THE INPUT: true; the input reads as it did. -/
def fnExactEncodingOkSpec : ChangeSpec := { name := "fnExactEncodingOk", fn := fun _ => fun
  | [d] => { results := [.lit (.bool true)], args := [d] }
  | _ => none }
def fnExactEncodingOkRow : OpenClaim := { program := "ytoeaihancoglpaa", sum := "e324f92ee70ff16fc0aed4631c26dcd5256bc8aa3b1ada4f55389a92941fc266", func := "loop.example/g00901/laws.FnExactEncodingOk", spec := "fnExactEncodingOk", apart := false }
def FnExactEncodingOkSaid : Prop := fnExactEncodingOkRow.holds Try.pinned (OpenSpec.ofChange fnExactEncodingOkSpec)

/-- ITS FALSE NEIGHBOUR: 'it returns false'. Refute it at one input. -/
def fnExactEncodingOkWrong : ChangeSpec := { name := "fnExactEncodingOk", fn := fun _ => fun
  | [d] => { results := [.lit (.bool false)], args := [d] }
  | _ => none }
def FnExactEncodingOkWrongFalsely : Prop := fnExactEncodingOkRow.holds Try.pinned (OpenSpec.ofChange fnExactEncodingOkWrong)

/-- 'laws.FnExactUnitSize': WHATEVER THE INPUT: true; the input reads as it did. -/
def fnExactUnitSizeSpec : ChangeSpec := { name := "fnExactUnitSize", fn := fun _ => fun
  | [d] => { results := [.lit (.bool true)], args := [d] }
  | _ => none }
def fnExactUnitSizeRow : OpenClaim := { program := "ytoeaihancoglpaa", sum := "e324f92ee70ff16fc0aed4631c26dcd5256bc8aa3b1ada4f55389a92941fc266", func := "loop.example/g00901/laws.FnExactUnitSize", spec := "fnExactUnitSize", apart := false }
def FnExactUnitSizeSaid : Prop := fnExactUnitSizeRow.holds Try.pinned (OpenSpec.ofChange fnExactUnitSizeSpec)

/-- ITS FALSE NEIGHBOUR: 'it returns false'. Refute it at one input. -/
def fnExactUnitSizeWrong : ChangeSpec := { name := "fnExactUnitSize", fn := fun _ => fun
  | [d] => { results := [.lit (.bool false)], args := [d] }
  | _ => none }
def FnExactUnitSizeWrongFalsely : Prop := fnExactUnitSizeRow.holds Try.pinned (OpenSpec.ofChange fnExactUnitSizeWrong)

/-- 'laws.FnExactNumSize': WHATEVER THE INPUT: true; the input reads as it did. -/
def fnExactNumSizeSpec : ChangeSpec := { name := "fnExactNumSize", fn := fun _ => fun
  | [d] => { results := [.lit (.bool true)], args := [d] }
  | _ => none }
def fnExactNumSizeRow : OpenClaim := { program := "ytoeaihancoglpaa", sum := "e324f92ee70ff16fc0aed4631c26dcd5256bc8aa3b1ada4f55389a92941fc266", func := "loop.example/g00901/laws.FnExactNumSize", spec := "fnExactNumSize", apart := false }
def FnExactNumSizeSaid : Prop := fnExactNumSizeRow.holds Try.pinned (OpenSpec.ofChange fnExactNumSizeSpec)

/-- ITS FALSE NEIGHBOUR: 'it returns false'. Refute it at one input. -/
def fnExactNumSizeWrong : ChangeSpec := { name := "fnExactNumSize", fn := fun _ => fun
  | [d] => { results := [.lit (.bool false)], args := [d] }
  | _ => none }
def FnExactNumSizeWrongFalsely : Prop := fnExactNumSizeRow.holds Try.pinned (OpenSpec.ofChange fnExactNumSizeWrong)

/-- 'laws.FnExactWordOk': WHATEVER THE INPUT: true; the input reads as it did. -/
def fnExactWordOkSpec : ChangeSpec := { name := "fnExactWordOk", fn := fun _ => fun
  | [d] => { results := [.lit (.bool true)], args := [d] }
  | _ => none }
def fnExactWordOkRow : OpenClaim := { program := "ytoeaihancoglpaa", sum := "e324f92ee70ff16fc0aed4631c26dcd5256bc8aa3b1ada4f55389a92941fc266", func := "loop.example/g00901/laws.FnExactWordOk", spec := "fnExactWordOk", inPlace := ["internal/bytealg.IndexByteString"], apart := false }
def FnExactWordOkSaid : Prop := fnExactWordOkRow.holds Try.pinned (OpenSpec.ofChange fnExactWordOkSpec)

/-- ITS FALSE NEIGHBOUR: 'it returns false'. Refute it at one input. -/
def fnExactWordOkWrong : ChangeSpec := { name := "fnExactWordOk", fn := fun _ => fun
  | [d] => { results := [.lit (.bool false)], args := [d] }
  | _ => none }
def FnExactWordOkWrongFalsely : Prop := fnExactWordOkRow.holds Try.pinned (OpenSpec.ofChange fnExactWordOkWrong)

/-- 'laws.FnExactKindsOk': WHATEVER THE INPUT: true; the input reads as it did. -/
def fnExactKindsOkSpec : ChangeSpec := { name := "fnExactKindsOk", fn := fun _ => fun
  | [d] => { results := [.lit (.bool true)], args := [d] }
  | _ => none }
def fnExactKindsOkRow : OpenClaim := { program := "ytoeaihancoglpaa", sum := "e324f92ee70ff16fc0aed4631c26dcd5256bc8aa3b1ada4f55389a92941fc266", func := "loop.example/g00901/laws.FnExactKindsOk", spec := "fnExactKindsOk", unfollowed := true, recurses := true, apart := false }
def FnExactKindsOkSaid : Prop := fnExactKindsOkRow.holds Try.pinned (OpenSpec.ofChange fnExactKindsOkSpec)

/-- ITS FALSE NEIGHBOUR: 'it returns false'. Refute it at one input. -/
def fnExactKindsOkWrong : ChangeSpec := { name := "fnExactKindsOk", fn := fun _ => fun
  | [d] => { results := [.lit (.bool false)], args := [d] }
  | _ => none }
def FnExactKindsOkWrongFalsely : Prop := fnExactKindsOkRow.holds Try.pinned (OpenSpec.ofChange fnExactKindsOkWrong)

/-- 'laws.FnExactFlatOk': WHATEVER THE INPUT: true; the input reads as it did. -/
def fnExactFlatOkSpec : ChangeSpec := { name := "fnExactFlatOk", fn := fun _ => fun
  | [d1, d2] => { results := [.lit (.bool true)], args := [d1, d2] }
  | _ => none }
def fnExactFlatOkRow : OpenClaim := { program := "ytoeaihancoglpaa", sum := "e324f92ee70ff16fc0aed4631c26dcd5256bc8aa3b1ada4f55389a92941fc266", func := "loop.example/g00901/laws.FnExactFlatOk", spec := "fnExactFlatOk", unfollowed := true, recurses := true, apart := false }
def FnExactFlatOkSaid : Prop := fnExactFlatOkRow.holds Try.pinned (OpenSpec.ofChange fnExactFlatOkSpec)

/-- ITS FALSE NEIGHBOUR: 'it returns false'. Refute it at one input. -/
def fnExactFlatOkWrong : ChangeSpec := { name := "fnExactFlatOk", fn := fun _ => fun
  | [d1, d2] => { results := [.lit (.bool false)], args := [d1, d2] }
  | _ => none }
def FnExactFlatOkWrongFalsely : Prop := fnExactFlatOkRow.holds Try.pinned (OpenSpec.ofChange fnExactFlatOkWrong)

/-- 'laws.FnExactInsOk': WHATEVER THE INPUT: true; the input reads as it did. -/
def fnExactInsOkSpec : ChangeSpec := { name := "fnExactInsOk", fn := fun _ => fun
  | [d] => { results := [.lit (.bool true)], args := [d] }
  | _ => none }
def fnExactInsOkRow : OpenClaim := { program := "ytoeaihancoglpaa", sum := "e324f92ee70ff16fc0aed4631c26dcd5256bc8aa3b1ada4f55389a92941fc266", func := "loop.example/g00901/laws.FnExactInsOk", spec := "fnExactInsOk", apart := false }
def FnExactInsOkSaid : Prop := fnExactInsOkRow.holds Try.pinned (OpenSpec.ofChange fnExactInsOkSpec)

/-- ITS FALSE NEIGHBOUR: 'it returns false'. Refute it at one input. -/
def fnExactInsOkWrong : ChangeSpec := { name := "fnExactInsOk", fn := fun _ => fun
  | [d] => { results := [.lit (.bool false)], args := [d] }
  | _ => none }
def FnExactInsOkWrongFalsely : Prop := fnExactInsOkRow.holds Try.pinned (OpenSpec.ofChange fnExactInsOkWrong)

/-- 'laws.FnExactTextOf': WHATEVER THE INPUT: true; the input reads as it did. -/
def fnExactTextOfSpec : ChangeSpec := { name := "fnExactTextOf", fn := fun _ => fun
  | [d] => { results := [.lit (.bool true)], args := [d] }
  | _ => none }
def fnExactTextOfRow : OpenClaim := { program := "ytoeaihancoglpaa", sum := "e324f92ee70ff16fc0aed4631c26dcd5256bc8aa3b1ada4f55389a92941fc266", func := "loop.example/g00901/laws.FnExactTextOf", spec := "fnExactTextOf", apart := false }
def FnExactTextOfSaid : Prop := fnExactTextOfRow.holds Try.pinned (OpenSpec.ofChange fnExactTextOfSpec)

/-- ITS FALSE NEIGHBOUR: 'it returns false'. Refute it at one input. -/
def fnExactTextOfWrong : ChangeSpec := { name := "fnExactTextOf", fn := fun _ => fun
  | [d] => { results := [.lit (.bool false)], args := [d] }
  | _ => none }
def FnExactTextOfWrongFalsely : Prop := fnExactTextOfRow.holds Try.pinned (OpenSpec.ofChange fnExactTextOfWrong)

/-- 'laws.FnExactJoinKinds': WHATEVER THE INPUT: true; the input reads as it did. -/
def fnExactJoinKindsSpec : ChangeSpec := { name := "fnExactJoinKinds", fn := fun _ => fun
  | [d1, d2] => { results := [.lit (.bool true)], args := [d1, d2] }
  | _ => none }
def fnExactJoinKindsRow : OpenClaim := { program := "ytoeaihancoglpaa", sum := "e324f92ee70ff16fc0aed4631c26dcd5256bc8aa3b1ada4f55389a92941fc266", func := "loop.example/g00901/laws.FnExactJoinKinds", spec := "fnExactJoinKinds", unfollowed := true, recurses := true, apart := false }
def FnExactJoinKindsSaid : Prop := fnExactJoinKindsRow.holds Try.pinned (OpenSpec.ofChange fnExactJoinKindsSpec)

/-- ITS FALSE NEIGHBOUR: 'it returns false'. Refute it at one input. -/
def fnExactJoinKindsWrong : ChangeSpec := { name := "fnExactJoinKinds", fn := fun _ => fun
  | [d1, d2] => { results := [.lit (.bool false)], args := [d1, d2] }
  | _ => none }
def FnExactJoinKindsWrongFalsely : Prop := fnExactJoinKindsRow.holds Try.pinned (OpenSpec.ofChange fnExactJoinKindsWrong)

/-- 'laws.FnExactFromSmall': WHATEVER THE INPUT: true; the input reads as it did. -/
def fnExactFromSmallSpec : ChangeSpec := { name := "fnExactFromSmall", fn := fun _ => fun
  | [d1, d2] => { results := [.lit (.bool true)], args := [d1, d2] }
  | _ => none }
def fnExactFromSmallRow : OpenClaim := { program := "ytoeaihancoglpaa", sum := "e324f92ee70ff16fc0aed4631c26dcd5256bc8aa3b1ada4f55389a92941fc266", func := "loop.example/g00901/laws.FnExactFromSmall", spec := "fnExactFromSmall", apart := false }
def FnExactFromSmallSaid : Prop := fnExactFromSmallRow.holds Try.pinned (OpenSpec.ofChange fnExactFromSmallSpec)

/-- ITS FALSE NEIGHBOUR: 'it returns false'. Refute it at one input. -/
def fnExactFromSmallWrong : ChangeSpec := { name := "fnExactFromSmall", fn := fun _ => fun
  | [d1, d2] => { results := [.lit (.bool false)], args := [d1, d2] }
  | _ => none }
def FnExactFromSmallWrongFalsely : Prop := fnExactFromSmallRow.holds Try.pinned (OpenSpec.ofChange fnExactFromSmallWrong)

/-- 'laws.FnExactCopiedBytes': WHATEVER THE INPUT: true; the input reads as it did. -/
def fnExactCopiedBytesSpec : ChangeSpec := { name := "fnExactCopiedBytes", fn := fun _ => fun
  | [d] => { results := [.lit (.bool true)], args := [d] }
  | _ => none }
def fnExactCopiedBytesRow : OpenClaim := { program := "ytoeaihancoglpaa", sum := "e324f92ee70ff16fc0aed4631c26dcd5256bc8aa3b1ada4f55389a92941fc266", func := "loop.example/g00901/laws.FnExactCopiedBytes", spec := "fnExactCopiedBytes", recurses := true, loops := true, apart := false }
def FnExactCopiedBytesSaid : Prop := fnExactCopiedBytesRow.holds Try.pinned (OpenSpec.ofChange fnExactCopiedBytesSpec)

/-- ITS FALSE NEIGHBOUR: 'it returns false'. Refute it at one input. -/
def fnExactCopiedBytesWrong : ChangeSpec := { name := "fnExactCopiedBytes", fn := fun _ => fun
  | [d] => { results := [.lit (.bool false)], args := [d] }
  | _ => none }
def FnExactCopiedBytesWrongFalsely : Prop := fnExactCopiedBytesRow.holds Try.pinned (OpenSpec.ofChange fnExactCopiedBytesWrong)

/- THE SECOND FORM. 'bulk': how many values and letters a reading holds, each counted each time it is reached (what is shared counts as often as it is met; a slice's spare places count too). A statement '..UptoSaid' is the law's where the arguments, and the package variables that the reading takes, are together of bulk at most 1048576: NARROWER than '..Said'. Prove '..Said' where nothing that the law and all that it calls make is longer than what came in: it says more and counts as full. Else prove '..UptoSaid'. A law counts once. -/
mutual
def uptoBulk {H : Type} : DataW H → Nat
  | .lit (.string bytes) => bytes.length + 1
  | .lit _ => 1
  | .nil => 1
  | .ptr d => uptoBulk d + 1
  | .slice elems spare => uptoBulkAll elems + uptoBulkAll spare + 1
  | .agg parts => uptoBulkAll parts + 1
  | .iface _ d => uptoBulk d + 1
  | .map entries => uptoBulkEntries entries + 1
  | .held _ => 1
def uptoBulkAll {H : Type} : List (DataW H) → Nat
  | [] => 0
  | d :: r => uptoBulk d + uptoBulkAll r
def uptoBulkEntries {H : Type} : List (Lit × DataW H) → Nat
  | [] => 0
  | x :: r => uptoBulkEntry x + uptoBulkEntries r
def uptoBulkEntry {H : Type} : Lit × DataW H → Nat
  | (.string bytes, d) => bytes.length + uptoBulk d + 1
  | (_, d) => uptoBulk d + 1
 end
def uptoSmall : (H : Type) → List (DataW H) → Bool := fun _ ds => decide (uptoBulkAll ds ≤ 1048576)
def OpenSpec.upto (s : _root_.Go.ChangeSpec) : _root_.Go.OpenSpec := { _root_.Go.OpenSpec.ofChange s with cond := some uptoSmall }

/-- 'laws.FnExactToSmall', WHERE WHAT IT READS IS OF BULK AT MOST 1048576: true; the input reads as it did. -/
def fnExactToSmallUptoRow : OpenClaim := { program := "ytoeaihancoglpaa", sum := "e324f92ee70ff16fc0aed4631c26dcd5256bc8aa3b1ada4f55389a92941fc266", func := "loop.example/g00901/laws.FnExactToSmall", spec := "fnExactToSmall", apart := false, narrowed := true }
def FnExactToSmallUptoSaid : Prop := fnExactToSmallUptoRow.holds Try.pinned (OpenSpec.upto fnExactToSmallSpec)

/-- 'laws.FnExactEncodingOk', WHERE WHAT IT READS IS OF BULK AT MOST 1048576: true; the input reads as it did. -/
def fnExactEncodingOkUptoRow : OpenClaim := { program := "ytoeaihancoglpaa", sum := "e324f92ee70ff16fc0aed4631c26dcd5256bc8aa3b1ada4f55389a92941fc266", func := "loop.example/g00901/laws.FnExactEncodingOk", spec := "fnExactEncodingOk", apart := false, narrowed := true }
def FnExactEncodingOkUptoSaid : Prop := fnExactEncodingOkUptoRow.holds Try.pinned (OpenSpec.upto fnExactEncodingOkSpec)

/-- 'laws.FnExactUnitSize', WHERE WHAT IT READS IS OF BULK AT MOST 1048576: true; the input reads as it did. -/
def fnExactUnitSizeUptoRow : OpenClaim := { program := "ytoeaihancoglpaa", sum := "e324f92ee70ff16fc0aed4631c26dcd5256bc8aa3b1ada4f55389a92941fc266", func := "loop.example/g00901/laws.FnExactUnitSize", spec := "fnExactUnitSize", apart := false, narrowed := true }
def FnExactUnitSizeUptoSaid : Prop := fnExactUnitSizeUptoRow.holds Try.pinned (OpenSpec.upto fnExactUnitSizeSpec)

/-- 'laws.FnExactNumSize', WHERE WHAT IT READS IS OF BULK AT MOST 1048576: true; the input reads as it did. -/
def fnExactNumSizeUptoRow : OpenClaim := { program := "ytoeaihancoglpaa", sum := "e324f92ee70ff16fc0aed4631c26dcd5256bc8aa3b1ada4f55389a92941fc266", func := "loop.example/g00901/laws.FnExactNumSize", spec := "fnExactNumSize", apart := false, narrowed := true }
def FnExactNumSizeUptoSaid : Prop := fnExactNumSizeUptoRow.holds Try.pinned (OpenSpec.upto fnExactNumSizeSpec)

/-- 'laws.FnExactWordOk', WHERE WHAT IT READS IS OF BULK AT MOST 1048576: true; the input reads as it did. -/
def fnExactWordOkUptoRow : OpenClaim := { program := "ytoeaihancoglpaa", sum := "e324f92ee70ff16fc0aed4631c26dcd5256bc8aa3b1ada4f55389a92941fc266", func := "loop.example/g00901/laws.FnExactWordOk", spec := "fnExactWordOk", inPlace := ["internal/bytealg.IndexByteString"], apart := false, narrowed := true }
def FnExactWordOkUptoSaid : Prop := fnExactWordOkUptoRow.holds Try.pinned (OpenSpec.upto fnExactWordOkSpec)

/-- 'laws.FnExactKindsOk', WHERE WHAT IT READS IS OF BULK AT MOST 1048576: true; the input reads as it did. -/
def fnExactKindsOkUptoRow : OpenClaim := { program := "ytoeaihancoglpaa", sum := "e324f92ee70ff16fc0aed4631c26dcd5256bc8aa3b1ada4f55389a92941fc266", func := "loop.example/g00901/laws.FnExactKindsOk", spec := "fnExactKindsOk", unfollowed := true, recurses := true, apart := false, narrowed := true }
def FnExactKindsOkUptoSaid : Prop := fnExactKindsOkUptoRow.holds Try.pinned (OpenSpec.upto fnExactKindsOkSpec)

/-- 'laws.FnExactFlatOk', WHERE WHAT IT READS IS OF BULK AT MOST 1048576: true; the input reads as it did. -/
def fnExactFlatOkUptoRow : OpenClaim := { program := "ytoeaihancoglpaa", sum := "e324f92ee70ff16fc0aed4631c26dcd5256bc8aa3b1ada4f55389a92941fc266", func := "loop.example/g00901/laws.FnExactFlatOk", spec := "fnExactFlatOk", unfollowed := true, recurses := true, apart := false, narrowed := true }
def FnExactFlatOkUptoSaid : Prop := fnExactFlatOkUptoRow.holds Try.pinned (OpenSpec.upto fnExactFlatOkSpec)

/-- 'laws.FnExactInsOk', WHERE WHAT IT READS IS OF BULK AT MOST 1048576: true; the input reads as it did. -/
def fnExactInsOkUptoRow : OpenClaim := { program := "ytoeaihancoglpaa", sum := "e324f92ee70ff16fc0aed4631c26dcd5256bc8aa3b1ada4f55389a92941fc266", func := "loop.example/g00901/laws.FnExactInsOk", spec := "fnExactInsOk", apart := false, narrowed := true }
def FnExactInsOkUptoSaid : Prop := fnExactInsOkUptoRow.holds Try.pinned (OpenSpec.upto fnExactInsOkSpec)

/-- 'laws.FnExactTextOf', WHERE WHAT IT READS IS OF BULK AT MOST 1048576: true; the input reads as it did. -/
def fnExactTextOfUptoRow : OpenClaim := { program := "ytoeaihancoglpaa", sum := "e324f92ee70ff16fc0aed4631c26dcd5256bc8aa3b1ada4f55389a92941fc266", func := "loop.example/g00901/laws.FnExactTextOf", spec := "fnExactTextOf", apart := false, narrowed := true }
def FnExactTextOfUptoSaid : Prop := fnExactTextOfUptoRow.holds Try.pinned (OpenSpec.upto fnExactTextOfSpec)

/-- 'laws.FnExactJoinKinds', WHERE WHAT IT READS IS OF BULK AT MOST 1048576: true; the input reads as it did. -/
def fnExactJoinKindsUptoRow : OpenClaim := { program := "ytoeaihancoglpaa", sum := "e324f92ee70ff16fc0aed4631c26dcd5256bc8aa3b1ada4f55389a92941fc266", func := "loop.example/g00901/laws.FnExactJoinKinds", spec := "fnExactJoinKinds", unfollowed := true, recurses := true, apart := false, narrowed := true }
def FnExactJoinKindsUptoSaid : Prop := fnExactJoinKindsUptoRow.holds Try.pinned (OpenSpec.upto fnExactJoinKindsSpec)

/-- 'laws.FnExactFromSmall', WHERE WHAT IT READS IS OF BULK AT MOST 1048576: true; the input reads as it did. -/
def fnExactFromSmallUptoRow : OpenClaim := { program := "ytoeaihancoglpaa", sum := "e324f92ee70ff16fc0aed4631c26dcd5256bc8aa3b1ada4f55389a92941fc266", func := "loop.example/g00901/laws.FnExactFromSmall", spec := "fnExactFromSmall", apart := false, narrowed := true }
def FnExactFromSmallUptoSaid : Prop := fnExactFromSmallUptoRow.holds Try.pinned (OpenSpec.upto fnExactFromSmallSpec)

/-- 'laws.FnExactCopiedBytes', WHERE WHAT IT READS IS OF BULK AT MOST 1048576: true; the input reads as it did. -/
def fnExactCopiedBytesUptoRow : OpenClaim := { program := "ytoeaihancoglpaa", sum := "e324f92ee70ff16fc0aed4631c26dcd5256bc8aa3b1ada4f55389a92941fc266", func := "loop.example/g00901/laws.FnExactCopiedBytes", spec := "fnExactCopiedBytes", recurses := true, loops := true, apart := false, narrowed := true }
def FnExactCopiedBytesUptoSaid : Prop := fnExactCopiedBytesUptoRow.holds Try.pinned (OpenSpec.upto fnExactCopiedBytesSpec)

end Rows
end Go.Proofs.Ytoeaihancoglpaa
