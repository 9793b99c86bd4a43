/-
  DERIVED. GIVEN WITH THE SEED: THE CARDS: each row of YtlebkomgiibknaaGreatDoorRows.lean that lists a variable, with what it lists TIED to the program's text (the seventh form; the later family's looks); each row that meets fmt, with fmt's text TOLD by the authors' own Lean function (tested against real Go, not proved from fmt's source: count such statements apart). THE CARD IS WHAT COUNTS. Prove the row's statement (the work); the ties are given (YtlebkomgiibknaaGreatDoorTie.lean); close each card by the builder's one call (the guide's Derived/Test/ToyasCard.lean, 'card_holds'). Laid BY PROGRAM, IN A SANDBOX (cutbox-door.mjs). By AI agents, Wed Nov 11 2026. No macro, syntax, notation, axiom, sorry.
-/
import Derived.Test.YtlebkomgiibknaaGreatDoorRows
import GoSem.ClaimSeven
namespace Go.Proofs.YtlebkomgiibknaaGreatDoor
namespace Rows

/-- THE TIED CARD OF 'laws.FnExactFirstRow'. -/
def fnExactFirstRowCard : Claim7 := { stood := { row := fnExactFirstRowRow, standIns := [], harness := (true, "0cd330a35dbe82648bbf96d12afdaf32d95b42987630ac2085220a7eb009adbc"), looks := false }, kinds := [], alts := [], laidByText := true, laidKinds := [.data, .data, .data], laidTests := true, laidLooks := .later }
def FnExactFirstRowCardSaid : Prop := Claim7.holds Tryz.pinned (.plain (OpenSpec.ofChange fnExactFirstRowSpec)) fnExactFirstRowCard

/-- THE TIED CARD OF 'laws.FnImproved'. -/
def fnImprovedCard : Claim7 := { stood := { row := fnImprovedRow, standIns := [], harness := (true, "0cd330a35dbe82648bbf96d12afdaf32d95b42987630ac2085220a7eb009adbc"), looks := false }, kinds := [], alts := [], laidByText := true, laidKinds := [.data, .data, .data], laidTests := true, laidLooks := .later }
def FnImprovedCardSaid : Prop := Claim7.holds Tryz.pinned (.plain (OpenSpec.ofChange fnImprovedSpec)) fnImprovedCard

/-- THE SECOND FORM's CARD OF 'laws.FnExactFirstRow'. -/
def fnExactFirstRowUptoCard : Claim7 := { stood := { row := fnExactFirstRowUptoRow, standIns := [], harness := (true, "0cd330a35dbe82648bbf96d12afdaf32d95b42987630ac2085220a7eb009adbc"), looks := false }, kinds := [], alts := [], laidByText := true, laidKinds := [.data, .data, .data], laidTests := true, laidLooks := .later }
def FnExactFirstRowUptoCardSaid : Prop := Claim7.holds Tryz.pinned (.plain (OpenSpec.upto fnExactFirstRowSpec)) fnExactFirstRowUptoCard

/-- THE SECOND FORM's CARD OF 'laws.FnImproved'. -/
def fnImprovedUptoCard : Claim7 := { stood := { row := fnImprovedUptoRow, standIns := [], harness := (true, "0cd330a35dbe82648bbf96d12afdaf32d95b42987630ac2085220a7eb009adbc"), looks := false }, kinds := [], alts := [], laidByText := true, laidKinds := [.data, .data, .data], laidTests := true, laidLooks := .later }
def FnImprovedUptoCardSaid : Prop := Claim7.holds Tryz.pinned (.plain (OpenSpec.upto fnImprovedSpec)) fnImprovedUptoCard
end Rows
end Go.Proofs.YtlebkomgiibknaaGreatDoor
