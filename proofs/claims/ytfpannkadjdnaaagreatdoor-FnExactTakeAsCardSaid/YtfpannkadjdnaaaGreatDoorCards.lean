/-
  DERIVED. GIVEN WITH THE SEED: THE CARDS: each row of YtfpannkadjdnaaaGreatDoorRows.lean that lists a variable, with what it lists TIED to the program's text (the seventh form; the later family's looks); each row that meets fmt, with fmt's text TOLD by the authors' own Lean function (tested against real Go, not proved from fmt's source: count such statements apart). THE CARD IS WHAT COUNTS. Prove the row's statement (the work); the ties are given (YtfpannkadjdnaaaGreatDoorTie.lean); close each card by the builder's one call (the guide's Derived/Test/ToyasCard.lean, 'card_holds'). Laid BY PROGRAM, IN A SANDBOX (cutbox-door.mjs). By AI agents, Wed Nov 11 2026. No macro, syntax, notation, axiom, sorry.
-/
import Derived.Test.YtfpannkadjdnaaaGreatDoorRows
import GoSem.ClaimSeven
namespace Go.Proofs.YtfpannkadjdnaaaGreatDoor
namespace Rows

/-- THE TIED CARD OF 'laws.FnExactTakeAs'. -/
def fnExactTakeAsCard : Claim7 := { stood := { row := fnExactTakeAsRow, standIns := [], harness := (true, "50149c433bb0551a397d30ad79cf8d500019a9b393959f2f8c7d9fd0268671f7"), looks := false }, kinds := [], alts := [], laidByText := true, laidKinds := [.data, .data, .data, .data, .pinned], laidTests := true, laidLooks := .later }
def FnExactTakeAsCardSaid : Prop := Claim7.holds Tryz.pinned (.plain (OpenSpec.ofChange fnExactTakeAsSpec)) fnExactTakeAsCard

/-- THE SECOND FORM's CARD OF 'laws.FnExactTakeAs'. -/
def fnExactTakeAsUptoCard : Claim7 := { stood := { row := fnExactTakeAsUptoRow, standIns := [], harness := (true, "50149c433bb0551a397d30ad79cf8d500019a9b393959f2f8c7d9fd0268671f7"), looks := false }, kinds := [], alts := [], laidByText := true, laidKinds := [.data, .data, .data, .data, .pinned], laidTests := true, laidLooks := .later }
def FnExactTakeAsUptoCardSaid : Prop := Claim7.holds Tryz.pinned (.plain (OpenSpec.upto fnExactTakeAsSpec)) fnExactTakeAsUptoCard
end Rows
end Go.Proofs.YtfpannkadjdnaaaGreatDoor
