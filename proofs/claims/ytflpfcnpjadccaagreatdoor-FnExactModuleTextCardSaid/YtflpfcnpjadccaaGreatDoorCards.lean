/-
  DERIVED. GIVEN WITH THE SEED: THE CARDS: each row of YtflpfcnpjadccaaGreatDoorRows.lean that lists a variable, with what it lists TIED to the program's text (the seventh form; the later family's looks); each row that meets fmt, with fmt's text TOLD by the authors' own Lean function (tested against real Go, not proved from fmt's source: count such statements apart). THE CARD IS WHAT COUNTS. Prove the row's statement (the work); the ties are given (YtflpfcnpjadccaaGreatDoorTie.lean); close each card by the builder's one call (the guide's Derived/Test/ToyasCard.lean, 'card_holds'). Laid BY PROGRAM, IN A SANDBOX (cutbox-door.mjs). By AI agents, Wed Nov 11 2026. No macro, syntax, notation, axiom, sorry.
-/
import Derived.Test.YtflpfcnpjadccaaGreatDoorRows
import GoSem.ClaimSeven
namespace Go.Proofs.YtflpfcnpjadccaaGreatDoor
namespace Rows

/-- THE TIED CARD OF 'laws.FnExactModuleText'. -/
def fnExactModuleTextCard : Claim7 := { stood := { row := fnExactModuleTextRow, standIns := [], harness := (true, "1feb96f3e71022bfa581af73ab4d1d74367593cc52caf29b6a05c220194a13da"), looks := true }, kinds := [], alts := [], laidByText := true, laidKinds := [.data, .data, .data, .listed, .data], laidTests := true, laidLooks := .later }
def FnExactModuleTextCardSaid : Prop := Claim7.holds Tryz.pinned (.plain (OpenSpec.ofChange fnExactModuleTextSpec)) fnExactModuleTextCard

/-- THE TIED CARD OF 'laws.FnExactReadModule'. -/
def fnExactReadModuleCard : Claim7 := { stood := { row := fnExactReadModuleRow, standIns := [], harness := (true, "1feb96f3e71022bfa581af73ab4d1d74367593cc52caf29b6a05c220194a13da"), looks := true }, kinds := [], alts := [], laidByText := true, laidKinds := [.data, .data, .data, .data, .sentinel, .sentinel, .listed, .data, .pinned], laidTests := true, laidLooks := .later }
def FnExactReadModuleCardSaid : Prop := Claim7.holds Tryz.pinned (.plain (OpenSpec.ofChange fnExactReadModuleSpec)) fnExactReadModuleCard

/-- THE SECOND FORM's CARD OF 'laws.FnExactModuleText'. -/
def fnExactModuleTextUptoCard : Claim7 := { stood := { row := fnExactModuleTextUptoRow, standIns := [], harness := (true, "1feb96f3e71022bfa581af73ab4d1d74367593cc52caf29b6a05c220194a13da"), looks := true }, kinds := [], alts := [], laidByText := true, laidKinds := [.data, .data, .data, .listed, .data], laidTests := true, laidLooks := .later }
def FnExactModuleTextUptoCardSaid : Prop := Claim7.holds Tryz.pinned (.plain (OpenSpec.upto fnExactModuleTextSpec)) fnExactModuleTextUptoCard

/-- THE SECOND FORM's CARD OF 'laws.FnExactReadModule'. -/
def fnExactReadModuleUptoCard : Claim7 := { stood := { row := fnExactReadModuleUptoRow, standIns := [], harness := (true, "1feb96f3e71022bfa581af73ab4d1d74367593cc52caf29b6a05c220194a13da"), looks := true }, kinds := [], alts := [], laidByText := true, laidKinds := [.data, .data, .data, .data, .sentinel, .sentinel, .listed, .data, .pinned], laidTests := true, laidLooks := .later }
def FnExactReadModuleUptoCardSaid : Prop := Claim7.holds Tryz.pinned (.plain (OpenSpec.upto fnExactReadModuleSpec)) fnExactReadModuleUptoCard
end Rows
end Go.Proofs.YtflpfcnpjadccaaGreatDoor
