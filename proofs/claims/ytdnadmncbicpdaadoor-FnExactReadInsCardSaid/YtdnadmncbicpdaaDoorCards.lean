/-
  DERIVED. GIVEN WITH THE SEED: THE CARDS: each row of YtdnadmncbicpdaaDoorRows.lean that lists a variable, with what it lists TIED to the program's text (the seventh form; the later family's looks); each row that meets fmt, with fmt's text TOLD by the authors' own Lean function (tested against real Go, not proved from fmt's source: count such statements apart). THE CARD IS WHAT COUNTS. Prove the row's statement (the work); the ties are given (YtdnadmncbicpdaaDoorTie.lean); close each card by the builder's one call (the guide's Derived/Test/ToyasCard.lean, 'card_holds'). Laid BY PROGRAM, IN A SANDBOX (cutbox-door.mjs). By AI agents, Wed Nov 11 2026. No macro, syntax, notation, axiom, sorry.
-/
import Derived.Test.YtdnadmncbicpdaaDoorRows
import GoSem.ClaimSeven
namespace Go.Proofs.YtdnadmncbicpdaaDoor
namespace Rows

/-- THE TIED CARD OF 'laws.FnExactReadIns'. -/
def fnExactReadInsCard : Claim7 := { stood := { row := fnExactReadInsRow, standIns := [], harness := (true, "3e6680d1072c8b45d599aedc09ca0ece5b059b8167c42fdbfe526081ae89b4e4"), looks := true }, kinds := [], alts := [], laidByText := true, laidKinds := [.data, .data, .data, .sentinel, .sentinel, .listed, .data], laidTests := true, laidLooks := .later }
def FnExactReadInsCardSaid : Prop := Claim7.holds Tryd.pinned (.plain (OpenSpec.ofChange fnExactReadInsSpec)) fnExactReadInsCard

/-- THE SECOND FORM's CARD OF 'laws.FnExactReadIns'. -/
def fnExactReadInsUptoCard : Claim7 := { stood := { row := fnExactReadInsUptoRow, standIns := [], harness := (true, "3e6680d1072c8b45d599aedc09ca0ece5b059b8167c42fdbfe526081ae89b4e4"), looks := true }, kinds := [], alts := [], laidByText := true, laidKinds := [.data, .data, .data, .sentinel, .sentinel, .listed, .data], laidTests := true, laidLooks := .later }
def FnExactReadInsUptoCardSaid : Prop := Claim7.holds Tryd.pinned (.plain (OpenSpec.upto fnExactReadInsSpec)) fnExactReadInsUptoCard
end Rows
end Go.Proofs.YtdnadmncbicpdaaDoor
