/-
  DERIVED. GIVEN WITH THE SEED: THE CARDS: each row of YtnclgkplpjpnfaaGreatDoorRows.lean that lists a variable, with what it lists TIED to the program's text (the seventh form; the later family's looks); each row that meets fmt, with fmt's text TOLD by the authors' own Lean function (tested against real Go, not proved from fmt's source: count such statements apart). THE CARD IS WHAT COUNTS. Prove the row's statement (the work); the ties are given (YtnclgkplpjpnfaaGreatDoorTie.lean); close each card by the builder's one call (the guide's Derived/Test/ToyasCard.lean, 'card_holds'). Laid BY PROGRAM, IN A SANDBOX (cutbox-door.mjs). By AI agents, Wed Nov 11 2026. No macro, syntax, notation, axiom, sorry.
-/
import Derived.Test.YtnclgkplpjpnfaaGreatDoorRows
import GoSem.ClaimSeven
namespace Go.Proofs.YtnclgkplpjpnfaaGreatDoor
namespace Rows

/-- THE TIED CARD OF 'laws.FnExactTidyPlan'. -/
def fnExactTidyPlanCard : Claim7 := { stood := { row := fnExactTidyPlanRow, standIns := [], harness := (true, "9283c4803ea823e4ca93bc0bcd01035b98e9b9882f78bd43337183567bb3ca91"), looks := true }, kinds := [], alts := [], laidByText := true, laidKinds := [.data, .data, .data, .sentinel, .sentinel], laidTests := true, laidLooks := .later }
def FnExactTidyPlanCardSaid : Prop := Claim7.holds Tryz.pinned (.plain (OpenSpec.ofChange fnExactTidyPlanSpec)) fnExactTidyPlanCard

/-- THE TIED CARD OF 'laws.FnExactIsPlanText'. -/
def fnExactIsPlanTextCard : Claim7 := { stood := { row := fnExactIsPlanTextRow, standIns := [], harness := (true, "9283c4803ea823e4ca93bc0bcd01035b98e9b9882f78bd43337183567bb3ca91"), looks := true }, kinds := [], alts := [], laidByText := true, laidKinds := [.data, .data, .data, .sentinel, .sentinel], laidTests := true, laidLooks := .later }
def FnExactIsPlanTextCardSaid : Prop := Claim7.holds Tryz.pinned (.plain (OpenSpec.ofChange fnExactIsPlanTextSpec)) fnExactIsPlanTextCard

/-- THE SECOND FORM's CARD OF 'laws.FnExactTidyPlan'. -/
def fnExactTidyPlanUptoCard : Claim7 := { stood := { row := fnExactTidyPlanUptoRow, standIns := [], harness := (true, "9283c4803ea823e4ca93bc0bcd01035b98e9b9882f78bd43337183567bb3ca91"), looks := true }, kinds := [], alts := [], laidByText := true, laidKinds := [.data, .data, .data, .sentinel, .sentinel], laidTests := true, laidLooks := .later }
def FnExactTidyPlanUptoCardSaid : Prop := Claim7.holds Tryz.pinned (.plain (OpenSpec.upto fnExactTidyPlanSpec)) fnExactTidyPlanUptoCard

/-- THE SECOND FORM's CARD OF 'laws.FnExactIsPlanText'. -/
def fnExactIsPlanTextUptoCard : Claim7 := { stood := { row := fnExactIsPlanTextUptoRow, standIns := [], harness := (true, "9283c4803ea823e4ca93bc0bcd01035b98e9b9882f78bd43337183567bb3ca91"), looks := true }, kinds := [], alts := [], laidByText := true, laidKinds := [.data, .data, .data, .sentinel, .sentinel], laidTests := true, laidLooks := .later }
def FnExactIsPlanTextUptoCardSaid : Prop := Claim7.holds Tryz.pinned (.plain (OpenSpec.upto fnExactIsPlanTextSpec)) fnExactIsPlanTextUptoCard
end Rows
end Go.Proofs.YtnclgkplpjpnfaaGreatDoor
