/-
  DERIVED. GIVEN WITH THE SEED: THE CARDS: each row of YtbafphecjijdmaaGreatDoorRows.lean that lists a variable, with what it lists TIED to the program's text (the seventh form; the later family's looks); each row that meets fmt, with fmt's text TOLD by the authors' own Lean function (tested against real Go, not proved from fmt's source: count such statements apart). THE CARD IS WHAT COUNTS. Prove the row's statement (the work); the ties are given (YtbafphecjijdmaaGreatDoorTie.lean); close each card by the builder's one call (the guide's Derived/Test/ToyasCard.lean, 'card_holds'). Laid BY PROGRAM, IN A SANDBOX (cutbox-door.mjs). By AI agents, Wed Nov 11 2026. No macro, syntax, notation, axiom, sorry.
-/
import Derived.Test.YtbafphecjijdmaaGreatDoorRows
import GoSem.ClaimSeven
namespace Go.Proofs.YtbafphecjijdmaaGreatDoor
namespace Rows

/-- THE TIED CARD OF 'laws.FnExactFaceServes'. -/
def fnExactFaceServesCard : Claim7 := { stood := { row := fnExactFaceServesRow, standIns := [], harness := (true, "2e273835cc3c502e2a57b4a3994a804849a86b47f3c4c624d2a974c10cc99673"), looks := true }, kinds := [], alts := [], laidByText := true, laidKinds := [.data, .data, .data, .data, .sentinel, .sentinel, .pinned], laidTests := true, laidLooks := .later }
def FnExactFaceServesCardSaid : Prop := Claim7.holds Tryz.pinned (.plain (OpenSpec.ofChange fnExactFaceServesSpec)) fnExactFaceServesCard

/-- THE TIED CARD OF 'laws.FnExactWhyNotFace'. -/
def fnExactWhyNotFaceCard : Claim7 := { stood := { row := fnExactWhyNotFaceRow, standIns := [], harness := (true, "2e273835cc3c502e2a57b4a3994a804849a86b47f3c4c624d2a974c10cc99673"), looks := true }, kinds := [], alts := [], laidByText := true, laidKinds := [.data, .data, .data, .data, .sentinel, .sentinel, .pinned], laidTests := true, laidLooks := .later }
def FnExactWhyNotFaceCardSaid : Prop := Claim7.holds Tryz.pinned (.plain (OpenSpec.ofChange fnExactWhyNotFaceSpec)) fnExactWhyNotFaceCard

/-- THE TIED CARD OF 'laws.FnExactWhyNotWorld'. -/
def fnExactWhyNotWorldCard : Claim7 := { stood := { row := fnExactWhyNotWorldRow, standIns := [], harness := (true, "2e273835cc3c502e2a57b4a3994a804849a86b47f3c4c624d2a974c10cc99673"), looks := true }, kinds := [], alts := [], laidByText := true, laidKinds := [.data, .data, .data, .data, .sentinel, .sentinel, .pinned], laidTests := true, laidLooks := .later }
def FnExactWhyNotWorldCardSaid : Prop := Claim7.holds Tryz.pinned (.plain (OpenSpec.ofChange fnExactWhyNotWorldSpec)) fnExactWhyNotWorldCard

/-- THE TIED CARD OF 'laws.FnExactWhyNotFunc'. -/
def fnExactWhyNotFuncCard : Claim7 := { stood := { row := fnExactWhyNotFuncRow, standIns := [], harness := (true, "2e273835cc3c502e2a57b4a3994a804849a86b47f3c4c624d2a974c10cc99673"), looks := true }, kinds := [], alts := [], laidByText := true, laidKinds := [.data, .data, .data], laidTests := true, laidLooks := .later }
def FnExactWhyNotFuncCardSaid : Prop := Claim7.holds Tryz.pinned (.plain (OpenSpec.ofChange fnExactWhyNotFuncSpec)) fnExactWhyNotFuncCard

/-- THE SECOND FORM's CARD OF 'laws.FnExactFaceServes'. -/
def fnExactFaceServesUptoCard : Claim7 := { stood := { row := fnExactFaceServesUptoRow, standIns := [], harness := (true, "2e273835cc3c502e2a57b4a3994a804849a86b47f3c4c624d2a974c10cc99673"), looks := true }, kinds := [], alts := [], laidByText := true, laidKinds := [.data, .data, .data, .data, .sentinel, .sentinel, .pinned], laidTests := true, laidLooks := .later }
def FnExactFaceServesUptoCardSaid : Prop := Claim7.holds Tryz.pinned (.plain (OpenSpec.upto fnExactFaceServesSpec)) fnExactFaceServesUptoCard

/-- THE SECOND FORM's CARD OF 'laws.FnExactWhyNotFace'. -/
def fnExactWhyNotFaceUptoCard : Claim7 := { stood := { row := fnExactWhyNotFaceUptoRow, standIns := [], harness := (true, "2e273835cc3c502e2a57b4a3994a804849a86b47f3c4c624d2a974c10cc99673"), looks := true }, kinds := [], alts := [], laidByText := true, laidKinds := [.data, .data, .data, .data, .sentinel, .sentinel, .pinned], laidTests := true, laidLooks := .later }
def FnExactWhyNotFaceUptoCardSaid : Prop := Claim7.holds Tryz.pinned (.plain (OpenSpec.upto fnExactWhyNotFaceSpec)) fnExactWhyNotFaceUptoCard

/-- THE SECOND FORM's CARD OF 'laws.FnExactWhyNotWorld'. -/
def fnExactWhyNotWorldUptoCard : Claim7 := { stood := { row := fnExactWhyNotWorldUptoRow, standIns := [], harness := (true, "2e273835cc3c502e2a57b4a3994a804849a86b47f3c4c624d2a974c10cc99673"), looks := true }, kinds := [], alts := [], laidByText := true, laidKinds := [.data, .data, .data, .data, .sentinel, .sentinel, .pinned], laidTests := true, laidLooks := .later }
def FnExactWhyNotWorldUptoCardSaid : Prop := Claim7.holds Tryz.pinned (.plain (OpenSpec.upto fnExactWhyNotWorldSpec)) fnExactWhyNotWorldUptoCard

/-- THE SECOND FORM's CARD OF 'laws.FnExactWhyNotFunc'. -/
def fnExactWhyNotFuncUptoCard : Claim7 := { stood := { row := fnExactWhyNotFuncUptoRow, standIns := [], harness := (true, "2e273835cc3c502e2a57b4a3994a804849a86b47f3c4c624d2a974c10cc99673"), looks := true }, kinds := [], alts := [], laidByText := true, laidKinds := [.data, .data, .data], laidTests := true, laidLooks := .later }
def FnExactWhyNotFuncUptoCardSaid : Prop := Claim7.holds Tryz.pinned (.plain (OpenSpec.upto fnExactWhyNotFuncSpec)) fnExactWhyNotFuncUptoCard
end Rows
end Go.Proofs.YtbafphecjijdmaaGreatDoor
