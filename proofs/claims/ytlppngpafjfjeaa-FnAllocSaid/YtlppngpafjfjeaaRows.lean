/-
  No cell of these rows narrows 'for every input' (looked for: loops, veiled, ifaces, maps, wideKeys, modest, calm, conditions, laid).
  DERIVED. THE GIVEN ROWS OF THIS SEAT. 9 by the template 'for every input the law returns true; each argument reads behind the call as it read before'; 0 by the template 'total and deterministic' (their statements: YtlppngpafjfjeaaTotals.lean).
  GIVEN WITH THE SEED: the statements are not yours to turn. If you find one false, say at which input.
  Laid BY PROGRAM, IN A SANDBOX (cutbox-rows.mjs): the forced cells as the released guide's own fill.sh prints them over the translation d16ba1914b2f3ae2… (all of the seat's roots in one cut). By AI agents, Wed Nov 11 2026. No macro, syntax, notation, axiom, sorry.
-/
import Derived.Test.YtlppngpafjfjeaaChecked
import GoSem.Claim
import GoSem.ClaimJoined
import GoSem.ClaimMapViews
import Derived.JoinedTies
import Derived.KernelRfl
namespace Go.Proofs.Ytlppngpafjfjeaa
/- THE CELL 'sum', in the pinned program and in every row, IS THE sha256 OF THE DUMP (.gsa) THAT YtlppngpafjfjeaaProg.lean LOADS. Nothing in Lean hashes anything: it is a label: what it is worth is what the hold of that sum in a sandbox is worth. -/
noncomputable def Try.pinned : Pinned := { name := "ytlppngpafjfjeaa", sum := "d16ba1914b2f3ae20dbeb34c9b129243fc633887690d7300d22be7c9402e88ef", checked := Try.checked }
namespace Rows
def none {H : Type} : Left H := { results := [], args := [] }

/-- 'laws.FnExactSameMemory': WHATEVER THE INPUT: true; the input reads as it did. -/
def fnExactSameMemorySpec : ChangeSpec := { name := "fnExactSameMemory", fn := fun _ => fun
  | [d1, d2] => { results := [.lit (.bool true)], args := [d1, d2] }
  | _ => none }
def fnExactSameMemoryRow : OpenClaim := { program := "ytlppngpafjfjeaa", sum := "d16ba1914b2f3ae20dbeb34c9b129243fc633887690d7300d22be7c9402e88ef", func := "loop.example/g00901/laws.FnExactSameMemory", spec := "fnExactSameMemory", apart := false }
def FnExactSameMemorySaid : Prop := fnExactSameMemoryRow.holds Try.pinned (OpenSpec.ofChange fnExactSameMemorySpec)

/-- ITS FALSE NEIGHBOUR: 'it returns false'. Refute it at one input. -/
def fnExactSameMemoryWrong : ChangeSpec := { name := "fnExactSameMemory", fn := fun _ => fun
  | [d1, d2] => { results := [.lit (.bool false)], args := [d1, d2] }
  | _ => none }
def FnExactSameMemoryWrongFalsely : Prop := fnExactSameMemoryRow.holds Try.pinned (OpenSpec.ofChange fnExactSameMemoryWrong)

/-- 'laws.FnExactMemoryOk': WHATEVER THE INPUT: true; the input reads as it did. -/
def fnExactMemoryOkSpec : ChangeSpec := { name := "fnExactMemoryOk", fn := fun _ => fun
  | [d] => { results := [.lit (.bool true)], args := [d] }
  | _ => none }
def fnExactMemoryOkRow : OpenClaim := { program := "ytlppngpafjfjeaa", sum := "d16ba1914b2f3ae20dbeb34c9b129243fc633887690d7300d22be7c9402e88ef", func := "loop.example/g00901/laws.FnExactMemoryOk", spec := "fnExactMemoryOk", apart := false }
def FnExactMemoryOkSaid : Prop := fnExactMemoryOkRow.holds Try.pinned (OpenSpec.ofChange fnExactMemoryOkSpec)

/-- ITS FALSE NEIGHBOUR: 'it returns false'. Refute it at one input. -/
def fnExactMemoryOkWrong : ChangeSpec := { name := "fnExactMemoryOk", fn := fun _ => fun
  | [d] => { results := [.lit (.bool false)], args := [d] }
  | _ => none }
def FnExactMemoryOkWrongFalsely : Prop := fnExactMemoryOkRow.holds Try.pinned (OpenSpec.ofChange fnExactMemoryOkWrong)

/-- 'laws.FnExactFreeBytes': WHATEVER THE INPUT: true; the input reads as it did. -/
def fnExactFreeBytesSpec : ChangeSpec := { name := "fnExactFreeBytes", fn := fun _ => fun
  | [d] => { results := [.lit (.bool true)], args := [d] }
  | _ => none }
def fnExactFreeBytesRow : OpenClaim := { program := "ytlppngpafjfjeaa", sum := "d16ba1914b2f3ae20dbeb34c9b129243fc633887690d7300d22be7c9402e88ef", func := "loop.example/g00901/laws.FnExactFreeBytes", spec := "fnExactFreeBytes", apart := false }
def FnExactFreeBytesSaid : Prop := fnExactFreeBytesRow.holds Try.pinned (OpenSpec.ofChange fnExactFreeBytesSpec)

/-- ITS FALSE NEIGHBOUR: 'it returns false'. Refute it at one input. -/
def fnExactFreeBytesWrong : ChangeSpec := { name := "fnExactFreeBytes", fn := fun _ => fun
  | [d] => { results := [.lit (.bool false)], args := [d] }
  | _ => none }
def FnExactFreeBytesWrongFalsely : Prop := fnExactFreeBytesRow.holds Try.pinned (OpenSpec.ofChange fnExactFreeBytesWrong)

/-- 'laws.FnExactNewMemory': WHATEVER THE INPUT: true; the input reads as it did. -/
def fnExactNewMemorySpec : ChangeSpec := { name := "fnExactNewMemory", fn := fun _ => fun
  | [d] => { results := [.lit (.bool true)], args := [d] }
  | _ => none }
def fnExactNewMemoryRow : OpenClaim := { program := "ytlppngpafjfjeaa", sum := "d16ba1914b2f3ae20dbeb34c9b129243fc633887690d7300d22be7c9402e88ef", func := "loop.example/g00901/laws.FnExactNewMemory", spec := "fnExactNewMemory", apart := false }
def FnExactNewMemorySaid : Prop := fnExactNewMemoryRow.holds Try.pinned (OpenSpec.ofChange fnExactNewMemorySpec)

/-- ITS FALSE NEIGHBOUR: 'it returns false'. Refute it at one input. -/
def fnExactNewMemoryWrong : ChangeSpec := { name := "fnExactNewMemory", fn := fun _ => fun
  | [d] => { results := [.lit (.bool false)], args := [d] }
  | _ => none }
def FnExactNewMemoryWrongFalsely : Prop := fnExactNewMemoryRow.holds Try.pinned (OpenSpec.ofChange fnExactNewMemoryWrong)

/-- 'laws.FnExactAlloc': WHATEVER THE INPUT: true; the input reads as it did. -/
def fnExactAllocSpec : ChangeSpec := { name := "fnExactAlloc", fn := fun _ => fun
  | [d1, d2, d3] => { results := [.lit (.bool true)], args := [d1, d2, d3] }
  | _ => none }
def fnExactAllocRow : OpenClaim := { program := "ytlppngpafjfjeaa", sum := "d16ba1914b2f3ae20dbeb34c9b129243fc633887690d7300d22be7c9402e88ef", func := "loop.example/g00901/laws.FnExactAlloc", spec := "fnExactAlloc", apart := false }
def FnExactAllocSaid : Prop := fnExactAllocRow.holds Try.pinned (OpenSpec.ofChange fnExactAllocSpec)

/-- ITS FALSE NEIGHBOUR: 'it returns false'. Refute it at one input. -/
def fnExactAllocWrong : ChangeSpec := { name := "fnExactAlloc", fn := fun _ => fun
  | [d1, d2, d3] => { results := [.lit (.bool false)], args := [d1, d2, d3] }
  | _ => none }
def FnExactAllocWrongFalsely : Prop := fnExactAllocRow.holds Try.pinned (OpenSpec.ofChange fnExactAllocWrong)

/-- 'laws.FnExactGrowMem': WHATEVER THE INPUT: true; the input reads as it did. -/
def fnExactGrowMemSpec : ChangeSpec := { name := "fnExactGrowMem", fn := fun _ => fun
  | [d1, d2] => { results := [.lit (.bool true)], args := [d1, d2] }
  | _ => none }
def fnExactGrowMemRow : OpenClaim := { program := "ytlppngpafjfjeaa", sum := "d16ba1914b2f3ae20dbeb34c9b129243fc633887690d7300d22be7c9402e88ef", func := "loop.example/g00901/laws.FnExactGrowMem", spec := "fnExactGrowMem", apart := false }
def FnExactGrowMemSaid : Prop := fnExactGrowMemRow.holds Try.pinned (OpenSpec.ofChange fnExactGrowMemSpec)

/-- ITS FALSE NEIGHBOUR: 'it returns false'. Refute it at one input. -/
def fnExactGrowMemWrong : ChangeSpec := { name := "fnExactGrowMem", fn := fun _ => fun
  | [d1, d2] => { results := [.lit (.bool false)], args := [d1, d2] }
  | _ => none }
def FnExactGrowMemWrongFalsely : Prop := fnExactGrowMemRow.holds Try.pinned (OpenSpec.ofChange fnExactGrowMemWrong)

/-- 'laws.FnExactRelease': WHATEVER THE INPUT: true; the input reads as it did. -/
def fnExactReleaseSpec : ChangeSpec := { name := "fnExactRelease", fn := fun _ => fun
  | [d1, d2, d3] => { results := [.lit (.bool true)], args := [d1, d2, d3] }
  | _ => none }
def fnExactReleaseRow : OpenClaim := { program := "ytlppngpafjfjeaa", sum := "d16ba1914b2f3ae20dbeb34c9b129243fc633887690d7300d22be7c9402e88ef", func := "loop.example/g00901/laws.FnExactRelease", spec := "fnExactRelease", unfollowed := true, recurses := true, apart := false }
def FnExactReleaseSaid : Prop := fnExactReleaseRow.holds Try.pinned (OpenSpec.ofChange fnExactReleaseSpec)

/-- ITS FALSE NEIGHBOUR: 'it returns false'. Refute it at one input. -/
def fnExactReleaseWrong : ChangeSpec := { name := "fnExactRelease", fn := fun _ => fun
  | [d1, d2, d3] => { results := [.lit (.bool false)], args := [d1, d2, d3] }
  | _ => none }
def FnExactReleaseWrongFalsely : Prop := fnExactReleaseRow.holds Try.pinned (OpenSpec.ofChange fnExactReleaseWrong)

/-- 'laws.FnFree': WHATEVER THE INPUT: true; the input reads as it did. -/
def fnFreeSpec : ChangeSpec := { name := "fnFree", fn := fun _ => fun
  | [d1, d2] => { results := [.lit (.bool true)], args := [d1, d2] }
  | _ => none }
def fnFreeRow : OpenClaim := { program := "ytlppngpafjfjeaa", sum := "d16ba1914b2f3ae20dbeb34c9b129243fc633887690d7300d22be7c9402e88ef", func := "loop.example/g00901/laws.FnFree", spec := "fnFree", unfollowed := true, recurses := true, apart := false }
def FnFreeSaid : Prop := fnFreeRow.holds Try.pinned (OpenSpec.ofChange fnFreeSpec)

/-- ITS FALSE NEIGHBOUR: 'it returns false'. Refute it at one input. -/
def fnFreeWrong : ChangeSpec := { name := "fnFree", fn := fun _ => fun
  | [d1, d2] => { results := [.lit (.bool false)], args := [d1, d2] }
  | _ => none }
def FnFreeWrongFalsely : Prop := fnFreeRow.holds Try.pinned (OpenSpec.ofChange fnFreeWrong)

/-- 'laws.FnAlloc': WHATEVER THE INPUT: true; the input reads as it did. -/
def fnAllocSpec : ChangeSpec := { name := "fnAlloc", fn := fun _ => fun
  | [d1, d2] => { results := [.lit (.bool true)], args := [d1, d2] }
  | _ => none }
def fnAllocRow : OpenClaim := { program := "ytlppngpafjfjeaa", sum := "d16ba1914b2f3ae20dbeb34c9b129243fc633887690d7300d22be7c9402e88ef", func := "loop.example/g00901/laws.FnAlloc", spec := "fnAlloc", unfollowed := true, recurses := true, apart := false }
def FnAllocSaid : Prop := fnAllocRow.holds Try.pinned (OpenSpec.ofChange fnAllocSpec)

/-- ITS FALSE NEIGHBOUR: 'it returns false'. Refute it at one input. -/
def fnAllocWrong : ChangeSpec := { name := "fnAlloc", fn := fun _ => fun
  | [d1, d2] => { results := [.lit (.bool false)], args := [d1, d2] }
  | _ => none }
def FnAllocWrongFalsely : Prop := fnAllocRow.holds Try.pinned (OpenSpec.ofChange fnAllocWrong)

/- THE SECOND FORM. 'bulk': how many values and letters a reading holds, each counted each time it is reached (what is shared counts as often as it is met; a slice's spare places count too). A statement '..UptoSaid' is the law's where the arguments, and the package variables that the reading takes, are together of bulk at most 1048576: NARROWER than '..Said'. Prove '..Said' where nothing that the law and all that it calls make is longer than what came in: it says more and counts as full. Else prove '..UptoSaid'. A law counts once. -/
mutual
def uptoBulk {H : Type} : DataW H → Nat
  | .lit (.string bytes) => bytes.length + 1
  | .lit _ => 1
  | .nil => 1
  | .ptr d => uptoBulk d + 1
  | .slice elems spare => uptoBulkAll elems + uptoBulkAll spare + 1
  | .agg parts => uptoBulkAll parts + 1
  | .iface _ d => uptoBulk d + 1
  | .map entries => uptoBulkEntries entries + 1
  | .held _ => 1
def uptoBulkAll {H : Type} : List (DataW H) → Nat
  | [] => 0
  | d :: r => uptoBulk d + uptoBulkAll r
def uptoBulkEntries {H : Type} : List (Lit × DataW H) → Nat
  | [] => 0
  | x :: r => uptoBulkEntry x + uptoBulkEntries r
def uptoBulkEntry {H : Type} : Lit × DataW H → Nat
  | (.string bytes, d) => bytes.length + uptoBulk d + 1
  | (_, d) => uptoBulk d + 1
 end
def uptoSmall : (H : Type) → List (DataW H) → Bool := fun _ ds => decide (uptoBulkAll ds ≤ 1048576)
def OpenSpec.upto (s : _root_.Go.ChangeSpec) : _root_.Go.OpenSpec := { _root_.Go.OpenSpec.ofChange s with cond := some uptoSmall }

/-- 'laws.FnExactSameMemory', WHERE WHAT IT READS IS OF BULK AT MOST 1048576: true; the input reads as it did. -/
def fnExactSameMemoryUptoRow : OpenClaim := { program := "ytlppngpafjfjeaa", sum := "d16ba1914b2f3ae20dbeb34c9b129243fc633887690d7300d22be7c9402e88ef", func := "loop.example/g00901/laws.FnExactSameMemory", spec := "fnExactSameMemory", apart := false, narrowed := true }
def FnExactSameMemoryUptoSaid : Prop := fnExactSameMemoryUptoRow.holds Try.pinned (OpenSpec.upto fnExactSameMemorySpec)

/-- 'laws.FnExactMemoryOk', WHERE WHAT IT READS IS OF BULK AT MOST 1048576: true; the input reads as it did. -/
def fnExactMemoryOkUptoRow : OpenClaim := { program := "ytlppngpafjfjeaa", sum := "d16ba1914b2f3ae20dbeb34c9b129243fc633887690d7300d22be7c9402e88ef", func := "loop.example/g00901/laws.FnExactMemoryOk", spec := "fnExactMemoryOk", apart := false, narrowed := true }
def FnExactMemoryOkUptoSaid : Prop := fnExactMemoryOkUptoRow.holds Try.pinned (OpenSpec.upto fnExactMemoryOkSpec)

/-- 'laws.FnExactFreeBytes', WHERE WHAT IT READS IS OF BULK AT MOST 1048576: true; the input reads as it did. -/
def fnExactFreeBytesUptoRow : OpenClaim := { program := "ytlppngpafjfjeaa", sum := "d16ba1914b2f3ae20dbeb34c9b129243fc633887690d7300d22be7c9402e88ef", func := "loop.example/g00901/laws.FnExactFreeBytes", spec := "fnExactFreeBytes", apart := false, narrowed := true }
def FnExactFreeBytesUptoSaid : Prop := fnExactFreeBytesUptoRow.holds Try.pinned (OpenSpec.upto fnExactFreeBytesSpec)

/-- 'laws.FnExactNewMemory', WHERE WHAT IT READS IS OF BULK AT MOST 1048576: true; the input reads as it did. -/
def fnExactNewMemoryUptoRow : OpenClaim := { program := "ytlppngpafjfjeaa", sum := "d16ba1914b2f3ae20dbeb34c9b129243fc633887690d7300d22be7c9402e88ef", func := "loop.example/g00901/laws.FnExactNewMemory", spec := "fnExactNewMemory", apart := false, narrowed := true }
def FnExactNewMemoryUptoSaid : Prop := fnExactNewMemoryUptoRow.holds Try.pinned (OpenSpec.upto fnExactNewMemorySpec)

/-- 'laws.FnExactAlloc', WHERE WHAT IT READS IS OF BULK AT MOST 1048576: true; the input reads as it did. -/
def fnExactAllocUptoRow : OpenClaim := { program := "ytlppngpafjfjeaa", sum := "d16ba1914b2f3ae20dbeb34c9b129243fc633887690d7300d22be7c9402e88ef", func := "loop.example/g00901/laws.FnExactAlloc", spec := "fnExactAlloc", apart := false, narrowed := true }
def FnExactAllocUptoSaid : Prop := fnExactAllocUptoRow.holds Try.pinned (OpenSpec.upto fnExactAllocSpec)

/-- 'laws.FnExactGrowMem', WHERE WHAT IT READS IS OF BULK AT MOST 1048576: true; the input reads as it did. -/
def fnExactGrowMemUptoRow : OpenClaim := { program := "ytlppngpafjfjeaa", sum := "d16ba1914b2f3ae20dbeb34c9b129243fc633887690d7300d22be7c9402e88ef", func := "loop.example/g00901/laws.FnExactGrowMem", spec := "fnExactGrowMem", apart := false, narrowed := true }
def FnExactGrowMemUptoSaid : Prop := fnExactGrowMemUptoRow.holds Try.pinned (OpenSpec.upto fnExactGrowMemSpec)

/-- 'laws.FnExactRelease', WHERE WHAT IT READS IS OF BULK AT MOST 1048576: true; the input reads as it did. -/
def fnExactReleaseUptoRow : OpenClaim := { program := "ytlppngpafjfjeaa", sum := "d16ba1914b2f3ae20dbeb34c9b129243fc633887690d7300d22be7c9402e88ef", func := "loop.example/g00901/laws.FnExactRelease", spec := "fnExactRelease", unfollowed := true, recurses := true, apart := false, narrowed := true }
def FnExactReleaseUptoSaid : Prop := fnExactReleaseUptoRow.holds Try.pinned (OpenSpec.upto fnExactReleaseSpec)

/-- 'laws.FnFree', WHERE WHAT IT READS IS OF BULK AT MOST 1048576: true; the input reads as it did. -/
def fnFreeUptoRow : OpenClaim := { program := "ytlppngpafjfjeaa", sum := "d16ba1914b2f3ae20dbeb34c9b129243fc633887690d7300d22be7c9402e88ef", func := "loop.example/g00901/laws.FnFree", spec := "fnFree", unfollowed := true, recurses := true, apart := false, narrowed := true }
def FnFreeUptoSaid : Prop := fnFreeUptoRow.holds Try.pinned (OpenSpec.upto fnFreeSpec)

/-- 'laws.FnAlloc', WHERE WHAT IT READS IS OF BULK AT MOST 1048576: true; the input reads as it did. -/
def fnAllocUptoRow : OpenClaim := { program := "ytlppngpafjfjeaa", sum := "d16ba1914b2f3ae20dbeb34c9b129243fc633887690d7300d22be7c9402e88ef", func := "loop.example/g00901/laws.FnAlloc", spec := "fnAlloc", unfollowed := true, recurses := true, apart := false, narrowed := true }
def FnAllocUptoSaid : Prop := fnAllocUptoRow.holds Try.pinned (OpenSpec.upto fnAllocSpec)

end Rows
end Go.Proofs.Ytlppngpafjfjeaa
