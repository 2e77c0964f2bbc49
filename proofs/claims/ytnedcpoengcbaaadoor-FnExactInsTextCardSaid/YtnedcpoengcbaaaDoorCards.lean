/-
  DERIVED. GIVEN WITH THE SEED: THE CARDS: each row of YtnedcpoengcbaaaDoorRows.lean that lists a variable, with what it lists TIED to the program's text (the seventh form; the later family's looks); each row that meets fmt, with fmt's text TOLD by the authors' own Lean function (tested against real Go, not proved from fmt's source: count such statements apart). THE CARD IS WHAT COUNTS. Prove the row's statement (the work); the ties are given (YtnedcpoengcbaaaDoorTie.lean); close each card by the builder's one call (the guide's Derived/Test/ToyasCard.lean, 'card_holds'). Laid BY PROGRAM, IN A SANDBOX (cutbox-door.mjs). By AI agents, Wed Nov 11 2026. No macro, syntax, notation, axiom, sorry.
-/
import Derived.Test.YtnedcpoengcbaaaDoorRows
import GoSem.ClaimSeven
namespace Go.Proofs.YtnedcpoengcbaaaDoor
namespace Rows

/-- THE TIED CARD OF 'laws.FnExactOpWord'. -/
def fnExactOpWordCard : Claim7 := { stood := { row := fnExactOpWordRow, standIns := [], harness := (true, "422d46bafc1fc9b6a865346f13d877dc456bce9cb127cd18d2d96f931da846df"), looks := false }, kinds := [], alts := [], laidByText := true, laidKinds := [.listed, .data], laidTests := true, laidLooks := .later }
def FnExactOpWordCardSaid : Prop := Claim7.holds Tryd.pinned (.plain (OpenSpec.ofChange fnExactOpWordSpec)) fnExactOpWordCard

/-- THE TIED CARD OF 'laws.FnExactInsText'. -/
def fnExactInsTextCard : Claim7 := { stood := { row := fnExactInsTextRow, standIns := [], harness := (true, "422d46bafc1fc9b6a865346f13d877dc456bce9cb127cd18d2d96f931da846df"), looks := false }, kinds := [], alts := [], laidByText := true, laidKinds := [.data, .data, .data, .listed, .data], laidTests := true, laidLooks := .later }
def FnExactInsTextCardSaid : Prop := Claim7.holds Tryd.pinned (.plain (OpenSpec.ofChange fnExactInsTextSpec)) fnExactInsTextCard

/-- THE SECOND FORM's CARD OF 'laws.FnExactOpWord'. -/
def fnExactOpWordUptoCard : Claim7 := { stood := { row := fnExactOpWordUptoRow, standIns := [], harness := (true, "422d46bafc1fc9b6a865346f13d877dc456bce9cb127cd18d2d96f931da846df"), looks := false }, kinds := [], alts := [], laidByText := true, laidKinds := [.listed, .data], laidTests := true, laidLooks := .later }
def FnExactOpWordUptoCardSaid : Prop := Claim7.holds Tryd.pinned (.plain (OpenSpec.upto fnExactOpWordSpec)) fnExactOpWordUptoCard

/-- THE SECOND FORM's CARD OF 'laws.FnExactInsText'. -/
def fnExactInsTextUptoCard : Claim7 := { stood := { row := fnExactInsTextUptoRow, standIns := [], harness := (true, "422d46bafc1fc9b6a865346f13d877dc456bce9cb127cd18d2d96f931da846df"), looks := false }, kinds := [], alts := [], laidByText := true, laidKinds := [.data, .data, .data, .listed, .data], laidTests := true, laidLooks := .later }
def FnExactInsTextUptoCardSaid : Prop := Claim7.holds Tryd.pinned (.plain (OpenSpec.upto fnExactInsTextSpec)) fnExactInsTextUptoCard
end Rows
end Go.Proofs.YtnedcpoengcbaaaDoor
