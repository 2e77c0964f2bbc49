/-
  DERIVED. GIVEN WITH THE SEED: THE CARDS: each row of YtlpcocfadppkhaaGreatDoorRows.lean that lists a variable, with what it lists TIED to the program's text (the seventh form; the later family's looks); each row that meets fmt, with fmt's text TOLD by the authors' own Lean function (tested against real Go, not proved from fmt's source: count such statements apart). THE CARD IS WHAT COUNTS. Prove the row's statement (the work); the ties are given (YtlpcocfadppkhaaGreatDoorTie.lean); close each card by the builder's one call (the guide's Derived/Test/ToyasCard.lean, 'card_holds'). Laid BY PROGRAM, IN A SANDBOX (cutbox-door.mjs). By AI agents, Wed Nov 11 2026. No macro, syntax, notation, axiom, sorry.
-/
import Derived.Test.YtlpcocfadppkhaaGreatDoorRows
import GoSem.ClaimSeven
namespace Go.Proofs.YtlpcocfadppkhaaGreatDoor
namespace Rows

/-- THE TIED CARD OF 'laws.FnExactReadModule'. -/
def fnExactReadModuleCard : Claim7 := { stood := { row := fnExactReadModuleRow, standIns := [], harness := (true, "e29b94e180d78c81f2fc0f5d2b713f9ac458f1e940fb5a5a839c74286ba1c32f"), looks := true }, kinds := [], alts := [], laidByText := true, laidKinds := [.data, .data, .data, .data, .sentinel, .sentinel, .listed, .data, .pinned], laidTests := true, laidLooks := .later }
def FnExactReadModuleCardSaid : Prop := Claim7.holds Tryz.pinned (.plain (OpenSpec.ofChange fnExactReadModuleSpec)) fnExactReadModuleCard

/-- THE SECOND FORM's CARD OF 'laws.FnExactReadModule'. -/
def fnExactReadModuleUptoCard : Claim7 := { stood := { row := fnExactReadModuleUptoRow, standIns := [], harness := (true, "e29b94e180d78c81f2fc0f5d2b713f9ac458f1e940fb5a5a839c74286ba1c32f"), looks := true }, kinds := [], alts := [], laidByText := true, laidKinds := [.data, .data, .data, .data, .sentinel, .sentinel, .listed, .data, .pinned], laidTests := true, laidLooks := .later }
def FnExactReadModuleUptoCardSaid : Prop := Claim7.holds Tryz.pinned (.plain (OpenSpec.upto fnExactReadModuleSpec)) fnExactReadModuleUptoCard
end Rows
end Go.Proofs.YtlpcocfadppkhaaGreatDoor
