/-
  DERIVED. GIVEN WITH THE SEED: THE CARDS: each row of YtnclgkplpjpnfaaDoorRows.lean that lists a variable, with what it lists TIED to the program's text (the seventh form; the later family's looks); each row that meets fmt, with fmt's text TOLD by the authors' own Lean function (tested against real Go, not proved from fmt's source: count such statements apart). THE CARD IS WHAT COUNTS. Prove the row's statement (the work); the ties are given (YtnclgkplpjpnfaaDoorTie.lean); close each card by the builder's one call (the guide's Derived/Test/ToyasCard.lean, 'card_holds'). Laid BY PROGRAM, IN A SANDBOX (cutbox-door.mjs). By AI agents, Wed Nov 11 2026. No macro, syntax, notation, axiom, sorry.
-/
import Derived.Test.YtnclgkplpjpnfaaDoorRows
import GoSem.ClaimSeven
namespace Go.Proofs.YtnclgkplpjpnfaaDoor
namespace Rows

/-- THE TIED CARD OF 'laws.FnExactParsePlan'. -/
def fnExactParsePlanCard : Claim7 := { stood := { row := fnExactParsePlanRow, standIns := [], harness := (true, "c0f18d94cba61a8aa0646b09b255178f80495131a05d11bb4e9599cdc057a6b6"), looks := true }, kinds := [], alts := [], laidByText := true, laidKinds := [.data, .data, .data, .sentinel, .sentinel], laidTests := true, laidLooks := .later }
def FnExactParsePlanCardSaid : Prop := Claim7.holds Tryd.pinned (.plain (OpenSpec.ofChange fnExactParsePlanSpec)) fnExactParsePlanCard

/-- THE SECOND FORM's CARD OF 'laws.FnExactParsePlan'. -/
def fnExactParsePlanUptoCard : Claim7 := { stood := { row := fnExactParsePlanUptoRow, standIns := [], harness := (true, "c0f18d94cba61a8aa0646b09b255178f80495131a05d11bb4e9599cdc057a6b6"), looks := true }, kinds := [], alts := [], laidByText := true, laidKinds := [.data, .data, .data, .sentinel, .sentinel], laidTests := true, laidLooks := .later }
def FnExactParsePlanUptoCardSaid : Prop := Claim7.holds Tryd.pinned (.plain (OpenSpec.upto fnExactParsePlanSpec)) fnExactParsePlanUptoCard
end Rows
end Go.Proofs.YtnclgkplpjpnfaaDoor
