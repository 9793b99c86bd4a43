/-
  DERIVED. GIVEN WITH THE SEED: THE CARDS: each row of YtkbcahfajbdgnaaGreatDoorRows.lean that lists a variable, with what it lists TIED to the program's text (the seventh form; the later family's looks); each row that meets fmt, with fmt's text TOLD by the authors' own Lean function (tested against real Go, not proved from fmt's source: count such statements apart). THE CARD IS WHAT COUNTS. Prove the row's statement (the work); the ties are given (YtkbcahfajbdgnaaGreatDoorTie.lean); close each card by the builder's one call (the guide's Derived/Test/ToyasCard.lean, 'card_holds'). Laid BY PROGRAM, IN A SANDBOX (cutbox-door.mjs). By AI agents, Wed Nov 11 2026. No macro, syntax, notation, axiom, sorry.
-/
import Derived.Test.YtkbcahfajbdgnaaGreatDoorRows
import GoSem.ClaimSeven
namespace Go.Proofs.YtkbcahfajbdgnaaGreatDoor
namespace Rows

/-- THE TIED CARD OF 'laws.FnTried'. -/
def fnTriedCard : Claim7 := { stood := { row := fnTriedRow, standIns := [], harness := (true, "aed6c4d2fe28e2e76f1fc4a56d010ab63704a5caa9dcb373eca1cba630bad757"), looks := false }, kinds := [], alts := [], laidByText := true, laidKinds := [.data, .data, .data], laidTests := true, laidLooks := .later }
def FnTriedCardSaid : Prop := Claim7.holds Tryz.pinned (.plain (OpenSpec.ofChange fnTriedSpec)) fnTriedCard

/-- THE SECOND FORM's CARD OF 'laws.FnTried'. -/
def fnTriedUptoCard : Claim7 := { stood := { row := fnTriedUptoRow, standIns := [], harness := (true, "aed6c4d2fe28e2e76f1fc4a56d010ab63704a5caa9dcb373eca1cba630bad757"), looks := false }, kinds := [], alts := [], laidByText := true, laidKinds := [.data, .data, .data], laidTests := true, laidLooks := .later }
def FnTriedUptoCardSaid : Prop := Claim7.holds Tryz.pinned (.plain (OpenSpec.upto fnTriedSpec)) fnTriedUptoCard
end Rows
end Go.Proofs.YtkbcahfajbdgnaaGreatDoor
