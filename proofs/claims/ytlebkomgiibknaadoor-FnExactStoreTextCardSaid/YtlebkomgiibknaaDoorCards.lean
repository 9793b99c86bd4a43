/-
  DERIVED. GIVEN WITH THE SEED: THE CARDS: each row of YtlebkomgiibknaaDoorRows.lean that lists a variable, with what it lists TIED to the program's text (the seventh form; the later family's looks); each row that meets fmt, with fmt's text TOLD by the authors' own Lean function (tested against real Go, not proved from fmt's source: count such statements apart). THE CARD IS WHAT COUNTS. Prove the row's statement (the work); the ties are given (YtlebkomgiibknaaDoorTie.lean); close each card by the builder's one call (the guide's Derived/Test/ToyasCard.lean, 'card_holds'). Laid BY PROGRAM, IN A SANDBOX (cutbox-door.mjs). By AI agents, Wed Nov 11 2026. No macro, syntax, notation, axiom, sorry.
-/
import Derived.Test.YtlebkomgiibknaaDoorRows
import GoSem.ClaimSeven
namespace Go.Proofs.YtlebkomgiibknaaDoor
namespace Rows

/-- THE TIED CARD OF 'laws.FnExactStoreText'. -/
def fnExactStoreTextCard : Claim7 := { stood := { row := fnExactStoreTextRow, standIns := [], harness := (true, "6fe856dbd65a397cd3f45b0b9d04ee9e8f1508436da2274a933dfa727851505c"), looks := false }, kinds := [], alts := [], laidByText := true, laidKinds := [.data, .data, .data], laidTests := true, laidLooks := .later }
def FnExactStoreTextCardSaid : Prop := Claim7.holds Tryd.pinned (.plain (OpenSpec.ofChange fnExactStoreTextSpec)) fnExactStoreTextCard

/-- THE SECOND FORM's CARD OF 'laws.FnExactStoreText'. -/
def fnExactStoreTextUptoCard : Claim7 := { stood := { row := fnExactStoreTextUptoRow, standIns := [], harness := (true, "6fe856dbd65a397cd3f45b0b9d04ee9e8f1508436da2274a933dfa727851505c"), looks := false }, kinds := [], alts := [], laidByText := true, laidKinds := [.data, .data, .data], laidTests := true, laidLooks := .later }
def FnExactStoreTextUptoCardSaid : Prop := Claim7.holds Tryd.pinned (.plain (OpenSpec.upto fnExactStoreTextSpec)) fnExactStoreTextUptoCard
end Rows
end Go.Proofs.YtlebkomgiibknaaDoor
