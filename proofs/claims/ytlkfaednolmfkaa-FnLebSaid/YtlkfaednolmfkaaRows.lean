/-
  No cell of these rows narrows 'for every input' (looked for: loops, veiled, ifaces, maps, wideKeys, modest, calm, conditions, laid).
  DERIVED. THE GIVEN ROWS OF THIS SEAT. 4 by the template 'for every input the law returns true; each argument reads behind the call as it read before'; 0 by the template 'total and deterministic' (their statements: YtlkfaednolmfkaaTotals.lean).
  GIVEN WITH THE SEED: the statements are not yours to turn. If you find one false, say at which input.
  Laid BY PROGRAM, IN A SANDBOX (cutbox-rows.mjs): the forced cells as the released guide's own fill.sh prints them over the translation 2fab8bdcdb5a8206… (all of the seat's roots in one cut). By AI agents, Wed Nov 11 2026. No macro, syntax, notation, axiom, sorry.
-/
import Derived.Test.YtlkfaednolmfkaaChecked
import GoSem.Claim
import GoSem.ClaimJoined
import GoSem.ClaimMapViews
import Derived.JoinedTies
import Derived.KernelRfl
namespace Go.Proofs.Ytlkfaednolmfkaa
/- THE CELL 'sum', in the pinned program and in every row, IS THE sha256 OF THE DUMP (.gsa) THAT YtlkfaednolmfkaaProg.lean LOADS. Nothing in Lean hashes anything: it is a label: what it is worth is what the hold of that sum in a sandbox is worth. -/
noncomputable def Try.pinned : Pinned := { name := "ytlkfaednolmfkaa", sum := "2fab8bdcdb5a8206102a7245cb3496913d374e0a329b93645dd4ba19abc0a395", checked := Try.checked }
namespace Rows
def none {H : Type} : Left H := { results := [], args := [] }

/-- 'laws.FnExactInsOf': WHATEVER THE INPUT: true; the input reads as it did. -/
def fnExactInsOfSpec : ChangeSpec := { name := "fnExactInsOf", fn := fun _ => fun
  | [d] => { results := [.lit (.bool true)], args := [d] }
  | _ => none }
def fnExactInsOfRow : OpenClaim := { program := "ytlkfaednolmfkaa", sum := "2fab8bdcdb5a8206102a7245cb3496913d374e0a329b93645dd4ba19abc0a395", func := "loop.example/g00901/laws.FnExactInsOf", spec := "fnExactInsOf", apart := false }
def FnExactInsOfSaid : Prop := fnExactInsOfRow.holds Try.pinned (OpenSpec.ofChange fnExactInsOfSpec)

/-- ITS FALSE NEIGHBOUR: 'it returns false'. Refute it at one input. -/
def fnExactInsOfWrong : ChangeSpec := { name := "fnExactInsOf", fn := fun _ => fun
  | [d] => { results := [.lit (.bool false)], args := [d] }
  | _ => none }
def FnExactInsOfWrongFalsely : Prop := fnExactInsOfRow.holds Try.pinned (OpenSpec.ofChange fnExactInsOfWrong)

/-- 'laws.FnLeb': WHATEVER THE INPUT: true; the input reads as it did. -/
def fnLebSpec : ChangeSpec := { name := "fnLeb", fn := fun _ => fun
  | [d1, d2] => { results := [.lit (.bool true)], args := [d1, d2] }
  | _ => none }
def fnLebRow : OpenClaim := { program := "ytlkfaednolmfkaa", sum := "2fab8bdcdb5a8206102a7245cb3496913d374e0a329b93645dd4ba19abc0a395", func := "loop.example/g00901/laws.FnLeb", spec := "fnLeb", inPlace := ["internal/bytealg.IndexByteString"], apart := false }
def FnLebSaid : Prop := fnLebRow.holds Try.pinned (OpenSpec.ofChange fnLebSpec)

/-- ITS FALSE NEIGHBOUR: 'it returns false'. Refute it at one input. -/
def fnLebWrong : ChangeSpec := { name := "fnLeb", fn := fun _ => fun
  | [d1, d2] => { results := [.lit (.bool false)], args := [d1, d2] }
  | _ => none }
def FnLebWrongFalsely : Prop := fnLebRow.holds Try.pinned (OpenSpec.ofChange fnLebWrong)

/-- 'laws.FnExactSectionsOf': WHATEVER THE INPUT: true; the input reads as it did. -/
def fnExactSectionsOfSpec : ChangeSpec := { name := "fnExactSectionsOf", fn := fun _ => fun
  | [d] => { results := [.lit (.bool true)], args := [d] }
  | _ => none }
def fnExactSectionsOfRow : OpenClaim := { program := "ytlkfaednolmfkaa", sum := "2fab8bdcdb5a8206102a7245cb3496913d374e0a329b93645dd4ba19abc0a395", func := "loop.example/g00901/laws.FnExactSectionsOf", spec := "fnExactSectionsOf", unfollowed := true, recurses := true, apart := false }
def FnExactSectionsOfSaid : Prop := fnExactSectionsOfRow.holds Try.pinned (OpenSpec.ofChange fnExactSectionsOfSpec)

/-- ITS FALSE NEIGHBOUR: 'it returns false'. Refute it at one input. -/
def fnExactSectionsOfWrong : ChangeSpec := { name := "fnExactSectionsOf", fn := fun _ => fun
  | [d] => { results := [.lit (.bool false)], args := [d] }
  | _ => none }
def FnExactSectionsOfWrongFalsely : Prop := fnExactSectionsOfRow.holds Try.pinned (OpenSpec.ofChange fnExactSectionsOfWrong)

/-- 'laws.FnExactStripOwn': WHATEVER THE INPUT: true; the input reads as it did. -/
def fnExactStripOwnSpec : ChangeSpec := { name := "fnExactStripOwn", fn := fun _ => fun
  | [d] => { results := [.lit (.bool true)], args := [d] }
  | _ => none }
def fnExactStripOwnRow : OpenClaim := { program := "ytlkfaednolmfkaa", sum := "2fab8bdcdb5a8206102a7245cb3496913d374e0a329b93645dd4ba19abc0a395", func := "loop.example/g00901/laws.FnExactStripOwn", spec := "fnExactStripOwn", inPlace := ["internal/abi.NoEscape"], unfollowed := true, recurses := true, apart := false }
def FnExactStripOwnSaid : Prop := fnExactStripOwnRow.holds Try.pinned (OpenSpec.ofChange fnExactStripOwnSpec)

/-- ITS FALSE NEIGHBOUR: 'it returns false'. Refute it at one input. -/
def fnExactStripOwnWrong : ChangeSpec := { name := "fnExactStripOwn", fn := fun _ => fun
  | [d] => { results := [.lit (.bool false)], args := [d] }
  | _ => none }
def FnExactStripOwnWrongFalsely : Prop := fnExactStripOwnRow.holds Try.pinned (OpenSpec.ofChange fnExactStripOwnWrong)

/- THE SECOND FORM. 'bulk': how many values and letters a reading holds, each counted each time it is reached (what is shared counts as often as it is met; a slice's spare places count too). A statement '..UptoSaid' is the law's where the arguments, and the package variables that the reading takes, are together of bulk at most 1048576: NARROWER than '..Said'. Prove '..Said' where nothing that the law and all that it calls make is longer than what came in: it says more and counts as full. Else prove '..UptoSaid'. A law counts once. -/
mutual
def uptoBulk {H : Type} : DataW H → Nat
  | .lit (.string bytes) => bytes.length + 1
  | .lit _ => 1
  | .nil => 1
  | .ptr d => uptoBulk d + 1
  | .slice elems spare => uptoBulkAll elems + uptoBulkAll spare + 1
  | .agg parts => uptoBulkAll parts + 1
  | .iface _ d => uptoBulk d + 1
  | .map entries => uptoBulkEntries entries + 1
  | .held _ => 1
def uptoBulkAll {H : Type} : List (DataW H) → Nat
  | [] => 0
  | d :: r => uptoBulk d + uptoBulkAll r
def uptoBulkEntries {H : Type} : List (Lit × DataW H) → Nat
  | [] => 0
  | x :: r => uptoBulkEntry x + uptoBulkEntries r
def uptoBulkEntry {H : Type} : Lit × DataW H → Nat
  | (.string bytes, d) => bytes.length + uptoBulk d + 1
  | (_, d) => uptoBulk d + 1
 end
def uptoSmall : (H : Type) → List (DataW H) → Bool := fun _ ds => decide (uptoBulkAll ds ≤ 1048576)
def OpenSpec.upto (s : _root_.Go.ChangeSpec) : _root_.Go.OpenSpec := { _root_.Go.OpenSpec.ofChange s with cond := some uptoSmall }

/-- 'laws.FnExactInsOf', WHERE WHAT IT READS IS OF BULK AT MOST 1048576: true; the input reads as it did. -/
def fnExactInsOfUptoRow : OpenClaim := { program := "ytlkfaednolmfkaa", sum := "2fab8bdcdb5a8206102a7245cb3496913d374e0a329b93645dd4ba19abc0a395", func := "loop.example/g00901/laws.FnExactInsOf", spec := "fnExactInsOf", apart := false, narrowed := true }
def FnExactInsOfUptoSaid : Prop := fnExactInsOfUptoRow.holds Try.pinned (OpenSpec.upto fnExactInsOfSpec)

/-- 'laws.FnLeb', WHERE WHAT IT READS IS OF BULK AT MOST 1048576: true; the input reads as it did. -/
def fnLebUptoRow : OpenClaim := { program := "ytlkfaednolmfkaa", sum := "2fab8bdcdb5a8206102a7245cb3496913d374e0a329b93645dd4ba19abc0a395", func := "loop.example/g00901/laws.FnLeb", spec := "fnLeb", inPlace := ["internal/bytealg.IndexByteString"], apart := false, narrowed := true }
def FnLebUptoSaid : Prop := fnLebUptoRow.holds Try.pinned (OpenSpec.upto fnLebSpec)

/-- 'laws.FnExactSectionsOf', WHERE WHAT IT READS IS OF BULK AT MOST 1048576: true; the input reads as it did. -/
def fnExactSectionsOfUptoRow : OpenClaim := { program := "ytlkfaednolmfkaa", sum := "2fab8bdcdb5a8206102a7245cb3496913d374e0a329b93645dd4ba19abc0a395", func := "loop.example/g00901/laws.FnExactSectionsOf", spec := "fnExactSectionsOf", unfollowed := true, recurses := true, apart := false, narrowed := true }
def FnExactSectionsOfUptoSaid : Prop := fnExactSectionsOfUptoRow.holds Try.pinned (OpenSpec.upto fnExactSectionsOfSpec)

/-- 'laws.FnExactStripOwn', WHERE WHAT IT READS IS OF BULK AT MOST 1048576: true; the input reads as it did. -/
def fnExactStripOwnUptoRow : OpenClaim := { program := "ytlkfaednolmfkaa", sum := "2fab8bdcdb5a8206102a7245cb3496913d374e0a329b93645dd4ba19abc0a395", func := "loop.example/g00901/laws.FnExactStripOwn", spec := "fnExactStripOwn", inPlace := ["internal/abi.NoEscape"], unfollowed := true, recurses := true, apart := false, narrowed := true }
def FnExactStripOwnUptoSaid : Prop := fnExactStripOwnUptoRow.holds Try.pinned (OpenSpec.upto fnExactStripOwnSpec)

end Rows
end Go.Proofs.Ytlkfaednolmfkaa
