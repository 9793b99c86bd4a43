/-
  No cell of these rows narrows 'for every input' (looked for: loops, veiled, ifaces, maps, wideKeys, modest, calm, conditions, laid).
  DERIVED. THE GIVEN ROWS OF THIS SEAT. 10 by the template 'for every input the law returns true; each argument reads behind the call as it read before'; 0 by the template 'total and deterministic' (their statements: YtglbcdlplbomdaaTotals.lean).
  GIVEN WITH THE SEED: the statements are not yours to turn. If you find one false, say at which input.
  Laid BY PROGRAM, IN A SANDBOX (cutbox-rows.mjs): the forced cells as the released guide's own fill.sh prints them over the translation ea37fd13092c7924… (all of the seat's roots in one cut). By AI agents, Wed Nov 11 2026. No macro, syntax, notation, axiom, sorry.
-/
import Derived.Test.YtglbcdlplbomdaaChecked
import GoSem.Claim
import GoSem.ClaimJoined
import GoSem.ClaimMapViews
import Derived.JoinedTies
import Derived.KernelRfl
namespace Go.Proofs.Ytglbcdlplbomdaa
/- THE CELL 'sum', in the pinned program and in every row, IS THE sha256 OF THE DUMP (.gsa) THAT YtglbcdlplbomdaaProg.lean LOADS. Nothing in Lean hashes anything: it is a label: what it is worth is what the hold of that sum in a sandbox is worth. -/
noncomputable def Try.pinned : Pinned := { name := "ytglbcdlplbomdaa", sum := "ea37fd13092c79241184e27c26b845884b131ac390aa669ff9249217ab0549d5", checked := Try.checked }
namespace Rows
def none {H : Type} : Left H := { results := [], args := [] }

/-- 'laws.FnExactRowsGuess': WHATEVER THE INPUT: true; the input reads as it did. -/
def fnExactRowsGuessSpec : ChangeSpec := { name := "fnExactRowsGuess", fn := fun _ => fun
  | [d1, d2, d3] => { results := [.lit (.bool true)], args := [d1, d2, d3] }
  | _ => none }
def fnExactRowsGuessRow : OpenClaim := { program := "ytglbcdlplbomdaa", sum := "ea37fd13092c79241184e27c26b845884b131ac390aa669ff9249217ab0549d5", func := "loop.example/g00844/laws.FnExactRowsGuess", spec := "fnExactRowsGuess", unfollowed := true, recurses := true, apart := false }
def FnExactRowsGuessSaid : Prop := fnExactRowsGuessRow.holds Try.pinned (OpenSpec.ofChange fnExactRowsGuessSpec)

/-- ITS FALSE NEIGHBOUR: 'it returns false'. Refute it at one input. -/
def fnExactRowsGuessWrong : ChangeSpec := { name := "fnExactRowsGuess", fn := fun _ => fun
  | [d1, d2, d3] => { results := [.lit (.bool false)], args := [d1, d2, d3] }
  | _ => none }
def FnExactRowsGuessWrongFalsely : Prop := fnExactRowsGuessRow.holds Try.pinned (OpenSpec.ofChange fnExactRowsGuessWrong)

/-- 'laws.FnExactCostOf': WHATEVER THE INPUT: true; the input reads as it did. -/
def fnExactCostOfSpec : ChangeSpec := { name := "fnExactCostOf", fn := fun _ => fun
  | [d1, d2, d3] => { results := [.lit (.bool true)], args := [d1, d2, d3] }
  | _ => none }
def fnExactCostOfRow : OpenClaim := { program := "ytglbcdlplbomdaa", sum := "ea37fd13092c79241184e27c26b845884b131ac390aa669ff9249217ab0549d5", func := "loop.example/g00844/laws.FnExactCostOf", spec := "fnExactCostOf", unfollowed := true, recurses := true, apart := false }
def FnExactCostOfSaid : Prop := fnExactCostOfRow.holds Try.pinned (OpenSpec.ofChange fnExactCostOfSpec)

/-- ITS FALSE NEIGHBOUR: 'it returns false'. Refute it at one input. -/
def fnExactCostOfWrong : ChangeSpec := { name := "fnExactCostOf", fn := fun _ => fun
  | [d1, d2, d3] => { results := [.lit (.bool false)], args := [d1, d2, d3] }
  | _ => none }
def FnExactCostOfWrongFalsely : Prop := fnExactCostOfRow.holds Try.pinned (OpenSpec.ofChange fnExactCostOfWrong)

/-- 'laws.FnExactOnlyDirect': WHATEVER THE INPUT: true; the input reads as it did. -/
def fnExactOnlyDirectSpec : ChangeSpec := { name := "fnExactOnlyDirect", fn := fun _ => fun
  | [d1, d2] => { results := [.lit (.bool true)], args := [d1, d2] }
  | _ => none }
def fnExactOnlyDirectRow : OpenClaim := { program := "ytglbcdlplbomdaa", sum := "ea37fd13092c79241184e27c26b845884b131ac390aa669ff9249217ab0549d5", func := "loop.example/g00844/laws.FnExactOnlyDirect", spec := "fnExactOnlyDirect", unfollowed := true, recurses := true, apart := false }
def FnExactOnlyDirectSaid : Prop := fnExactOnlyDirectRow.holds Try.pinned (OpenSpec.ofChange fnExactOnlyDirectSpec)

/-- ITS FALSE NEIGHBOUR: 'it returns false'. Refute it at one input. -/
def fnExactOnlyDirectWrong : ChangeSpec := { name := "fnExactOnlyDirect", fn := fun _ => fun
  | [d1, d2] => { results := [.lit (.bool false)], args := [d1, d2] }
  | _ => none }
def FnExactOnlyDirectWrongFalsely : Prop := fnExactOnlyDirectRow.holds Try.pinned (OpenSpec.ofChange fnExactOnlyDirectWrong)

/-- 'laws.FnExactNodesSaved': WHATEVER THE INPUT: true; the input reads as it did. -/
def fnExactNodesSavedSpec : ChangeSpec := { name := "fnExactNodesSaved", fn := fun _ => fun
  | [d1, d2] => { results := [.lit (.bool true)], args := [d1, d2] }
  | _ => none }
def fnExactNodesSavedRow : OpenClaim := { program := "ytglbcdlplbomdaa", sum := "ea37fd13092c79241184e27c26b845884b131ac390aa669ff9249217ab0549d5", func := "loop.example/g00844/laws.FnExactNodesSaved", spec := "fnExactNodesSaved", unfollowed := true, recurses := true, apart := false }
def FnExactNodesSavedSaid : Prop := fnExactNodesSavedRow.holds Try.pinned (OpenSpec.ofChange fnExactNodesSavedSpec)

/-- ITS FALSE NEIGHBOUR: 'it returns false'. Refute it at one input. -/
def fnExactNodesSavedWrong : ChangeSpec := { name := "fnExactNodesSaved", fn := fun _ => fun
  | [d1, d2] => { results := [.lit (.bool false)], args := [d1, d2] }
  | _ => none }
def FnExactNodesSavedWrongFalsely : Prop := fnExactNodesSavedRow.holds Try.pinned (OpenSpec.ofChange fnExactNodesSavedWrong)

/-- 'laws.FnExactStuckAt': WHATEVER THE INPUT: true; the input reads as it did. -/
def fnExactStuckAtSpec : ChangeSpec := { name := "fnExactStuckAt", fn := fun _ => fun
  | [d1, d2, d3] => { results := [.lit (.bool true)], args := [d1, d2, d3] }
  | _ => none }
def fnExactStuckAtRow : OpenClaim := { program := "ytglbcdlplbomdaa", sum := "ea37fd13092c79241184e27c26b845884b131ac390aa669ff9249217ab0549d5", func := "loop.example/g00844/laws.FnExactStuckAt", spec := "fnExactStuckAt", unfollowed := true, recurses := true, apart := false }
def FnExactStuckAtSaid : Prop := fnExactStuckAtRow.holds Try.pinned (OpenSpec.ofChange fnExactStuckAtSpec)

/-- ITS FALSE NEIGHBOUR: 'it returns false'. Refute it at one input. -/
def fnExactStuckAtWrong : ChangeSpec := { name := "fnExactStuckAt", fn := fun _ => fun
  | [d1, d2, d3] => { results := [.lit (.bool false)], args := [d1, d2, d3] }
  | _ => none }
def FnExactStuckAtWrongFalsely : Prop := fnExactStuckAtRow.holds Try.pinned (OpenSpec.ofChange fnExactStuckAtWrong)

/-- 'laws.FnExactBestStep': WHATEVER THE INPUT: true; the input reads as it did. -/
def fnExactBestStepSpec : ChangeSpec := { name := "fnExactBestStep", fn := fun _ => fun
  | [d1, d2, d3] => { results := [.lit (.bool true)], args := [d1, d2, d3] }
  | _ => none }
def fnExactBestStepRow : OpenClaim := { program := "ytglbcdlplbomdaa", sum := "ea37fd13092c79241184e27c26b845884b131ac390aa669ff9249217ab0549d5", func := "loop.example/g00844/laws.FnExactBestStep", spec := "fnExactBestStep", unfollowed := true, recurses := true, apart := false }
def FnExactBestStepSaid : Prop := fnExactBestStepRow.holds Try.pinned (OpenSpec.ofChange fnExactBestStepSpec)

/-- ITS FALSE NEIGHBOUR: 'it returns false'. Refute it at one input. -/
def fnExactBestStepWrong : ChangeSpec := { name := "fnExactBestStep", fn := fun _ => fun
  | [d1, d2, d3] => { results := [.lit (.bool false)], args := [d1, d2, d3] }
  | _ => none }
def FnExactBestStepWrongFalsely : Prop := fnExactBestStepRow.holds Try.pinned (OpenSpec.ofChange fnExactBestStepWrong)

/-- 'laws.FnExactSavedBy': WHATEVER THE INPUT: true; the input reads as it did. -/
def fnExactSavedBySpec : ChangeSpec := { name := "fnExactSavedBy", fn := fun _ => fun
  | [d1, d2, d3] => { results := [.lit (.bool true)], args := [d1, d2, d3] }
  | _ => none }
def fnExactSavedByRow : OpenClaim := { program := "ytglbcdlplbomdaa", sum := "ea37fd13092c79241184e27c26b845884b131ac390aa669ff9249217ab0549d5", func := "loop.example/g00844/laws.FnExactSavedBy", spec := "fnExactSavedBy", unfollowed := true, recurses := true, apart := false }
def FnExactSavedBySaid : Prop := fnExactSavedByRow.holds Try.pinned (OpenSpec.ofChange fnExactSavedBySpec)

/-- ITS FALSE NEIGHBOUR: 'it returns false'. Refute it at one input. -/
def fnExactSavedByWrong : ChangeSpec := { name := "fnExactSavedBy", fn := fun _ => fun
  | [d1, d2, d3] => { results := [.lit (.bool false)], args := [d1, d2, d3] }
  | _ => none }
def FnExactSavedByWrongFalsely : Prop := fnExactSavedByRow.holds Try.pinned (OpenSpec.ofChange fnExactSavedByWrong)

/-- 'laws.FnExactSettle': WHATEVER THE INPUT: true; the input reads as it did. -/
def fnExactSettleSpec : ChangeSpec := { name := "fnExactSettle", fn := fun _ => fun
  | [d1, d2, d3] => { results := [.lit (.bool true)], args := [d1, d2, d3] }
  | _ => none }
def fnExactSettleRow : OpenClaim := { program := "ytglbcdlplbomdaa", sum := "ea37fd13092c79241184e27c26b845884b131ac390aa669ff9249217ab0549d5", func := "loop.example/g00844/laws.FnExactSettle", spec := "fnExactSettle", unfollowed := true, recurses := true, apart := false }
def FnExactSettleSaid : Prop := fnExactSettleRow.holds Try.pinned (OpenSpec.ofChange fnExactSettleSpec)

/-- ITS FALSE NEIGHBOUR: 'it returns false'. Refute it at one input. -/
def fnExactSettleWrong : ChangeSpec := { name := "fnExactSettle", fn := fun _ => fun
  | [d1, d2, d3] => { results := [.lit (.bool false)], args := [d1, d2, d3] }
  | _ => none }
def FnExactSettleWrongFalsely : Prop := fnExactSettleRow.holds Try.pinned (OpenSpec.ofChange fnExactSettleWrong)

/-- 'laws.FnExactFiltersLow': WHATEVER THE INPUT: true; the input reads as it did. -/
def fnExactFiltersLowSpec : ChangeSpec := { name := "fnExactFiltersLow", fn := fun _ => fun
  | [d1, d2] => { results := [.lit (.bool true)], args := [d1, d2] }
  | _ => none }
def fnExactFiltersLowRow : OpenClaim := { program := "ytglbcdlplbomdaa", sum := "ea37fd13092c79241184e27c26b845884b131ac390aa669ff9249217ab0549d5", func := "loop.example/g00844/laws.FnExactFiltersLow", spec := "fnExactFiltersLow", unfollowed := true, recurses := true, apart := false }
def FnExactFiltersLowSaid : Prop := fnExactFiltersLowRow.holds Try.pinned (OpenSpec.ofChange fnExactFiltersLowSpec)

/-- ITS FALSE NEIGHBOUR: 'it returns false'. Refute it at one input. -/
def fnExactFiltersLowWrong : ChangeSpec := { name := "fnExactFiltersLow", fn := fun _ => fun
  | [d1, d2] => { results := [.lit (.bool false)], args := [d1, d2] }
  | _ => none }
def FnExactFiltersLowWrongFalsely : Prop := fnExactFiltersLowRow.holds Try.pinned (OpenSpec.ofChange fnExactFiltersLowWrong)

/-- 'laws.FnExactImprove': WHATEVER THE INPUT: true; the input reads as it did. -/
def fnExactImproveSpec : ChangeSpec := { name := "fnExactImprove", fn := fun _ => fun
  | [d1, d2, d3] => { results := [.lit (.bool true)], args := [d1, d2, d3] }
  | _ => none }
def fnExactImproveRow : OpenClaim := { program := "ytglbcdlplbomdaa", sum := "ea37fd13092c79241184e27c26b845884b131ac390aa669ff9249217ab0549d5", func := "loop.example/g00844/laws.FnExactImprove", spec := "fnExactImprove", unfollowed := true, recurses := true, apart := false }
def FnExactImproveSaid : Prop := fnExactImproveRow.holds Try.pinned (OpenSpec.ofChange fnExactImproveSpec)

/-- ITS FALSE NEIGHBOUR: 'it returns false'. Refute it at one input. -/
def fnExactImproveWrong : ChangeSpec := { name := "fnExactImprove", fn := fun _ => fun
  | [d1, d2, d3] => { results := [.lit (.bool false)], args := [d1, d2, d3] }
  | _ => none }
def FnExactImproveWrongFalsely : Prop := fnExactImproveRow.holds Try.pinned (OpenSpec.ofChange fnExactImproveWrong)

/- THE SECOND FORM. 'bulk': how many values and letters a reading holds, each counted each time it is reached (what is shared counts as often as it is met; a slice's spare places count too). A statement '..UptoSaid' is the law's where the arguments, and the package variables that the reading takes, are together of bulk at most 1048576: NARROWER than '..Said'. Prove '..Said' where nothing that the law and all that it calls make is longer than what came in: it says more and counts as full. Else prove '..UptoSaid'. A law counts once. -/
mutual
def uptoBulk {H : Type} : DataW H → Nat
  | .lit (.string bytes) => bytes.length + 1
  | .lit _ => 1
  | .nil => 1
  | .ptr d => uptoBulk d + 1
  | .slice elems spare => uptoBulkAll elems + uptoBulkAll spare + 1
  | .agg parts => uptoBulkAll parts + 1
  | .iface _ d => uptoBulk d + 1
  | .map entries => uptoBulkEntries entries + 1
  | .held _ => 1
def uptoBulkAll {H : Type} : List (DataW H) → Nat
  | [] => 0
  | d :: r => uptoBulk d + uptoBulkAll r
def uptoBulkEntries {H : Type} : List (Lit × DataW H) → Nat
  | [] => 0
  | x :: r => uptoBulkEntry x + uptoBulkEntries r
def uptoBulkEntry {H : Type} : Lit × DataW H → Nat
  | (.string bytes, d) => bytes.length + uptoBulk d + 1
  | (_, d) => uptoBulk d + 1
 end
def uptoSmall : (H : Type) → List (DataW H) → Bool := fun _ ds => decide (uptoBulkAll ds ≤ 1048576)
def OpenSpec.upto (s : _root_.Go.ChangeSpec) : _root_.Go.OpenSpec := { _root_.Go.OpenSpec.ofChange s with cond := some uptoSmall }

/-- 'laws.FnExactRowsGuess', WHERE WHAT IT READS IS OF BULK AT MOST 1048576: true; the input reads as it did. -/
def fnExactRowsGuessUptoRow : OpenClaim := { program := "ytglbcdlplbomdaa", sum := "ea37fd13092c79241184e27c26b845884b131ac390aa669ff9249217ab0549d5", func := "loop.example/g00844/laws.FnExactRowsGuess", spec := "fnExactRowsGuess", unfollowed := true, recurses := true, apart := false, narrowed := true }
def FnExactRowsGuessUptoSaid : Prop := fnExactRowsGuessUptoRow.holds Try.pinned (OpenSpec.upto fnExactRowsGuessSpec)

/-- 'laws.FnExactCostOf', WHERE WHAT IT READS IS OF BULK AT MOST 1048576: true; the input reads as it did. -/
def fnExactCostOfUptoRow : OpenClaim := { program := "ytglbcdlplbomdaa", sum := "ea37fd13092c79241184e27c26b845884b131ac390aa669ff9249217ab0549d5", func := "loop.example/g00844/laws.FnExactCostOf", spec := "fnExactCostOf", unfollowed := true, recurses := true, apart := false, narrowed := true }
def FnExactCostOfUptoSaid : Prop := fnExactCostOfUptoRow.holds Try.pinned (OpenSpec.upto fnExactCostOfSpec)

/-- 'laws.FnExactOnlyDirect', WHERE WHAT IT READS IS OF BULK AT MOST 1048576: true; the input reads as it did. -/
def fnExactOnlyDirectUptoRow : OpenClaim := { program := "ytglbcdlplbomdaa", sum := "ea37fd13092c79241184e27c26b845884b131ac390aa669ff9249217ab0549d5", func := "loop.example/g00844/laws.FnExactOnlyDirect", spec := "fnExactOnlyDirect", unfollowed := true, recurses := true, apart := false, narrowed := true }
def FnExactOnlyDirectUptoSaid : Prop := fnExactOnlyDirectUptoRow.holds Try.pinned (OpenSpec.upto fnExactOnlyDirectSpec)

/-- 'laws.FnExactNodesSaved', WHERE WHAT IT READS IS OF BULK AT MOST 1048576: true; the input reads as it did. -/
def fnExactNodesSavedUptoRow : OpenClaim := { program := "ytglbcdlplbomdaa", sum := "ea37fd13092c79241184e27c26b845884b131ac390aa669ff9249217ab0549d5", func := "loop.example/g00844/laws.FnExactNodesSaved", spec := "fnExactNodesSaved", unfollowed := true, recurses := true, apart := false, narrowed := true }
def FnExactNodesSavedUptoSaid : Prop := fnExactNodesSavedUptoRow.holds Try.pinned (OpenSpec.upto fnExactNodesSavedSpec)

/-- 'laws.FnExactStuckAt', WHERE WHAT IT READS IS OF BULK AT MOST 1048576: true; the input reads as it did. -/
def fnExactStuckAtUptoRow : OpenClaim := { program := "ytglbcdlplbomdaa", sum := "ea37fd13092c79241184e27c26b845884b131ac390aa669ff9249217ab0549d5", func := "loop.example/g00844/laws.FnExactStuckAt", spec := "fnExactStuckAt", unfollowed := true, recurses := true, apart := false, narrowed := true }
def FnExactStuckAtUptoSaid : Prop := fnExactStuckAtUptoRow.holds Try.pinned (OpenSpec.upto fnExactStuckAtSpec)

/-- 'laws.FnExactBestStep', WHERE WHAT IT READS IS OF BULK AT MOST 1048576: true; the input reads as it did. -/
def fnExactBestStepUptoRow : OpenClaim := { program := "ytglbcdlplbomdaa", sum := "ea37fd13092c79241184e27c26b845884b131ac390aa669ff9249217ab0549d5", func := "loop.example/g00844/laws.FnExactBestStep", spec := "fnExactBestStep", unfollowed := true, recurses := true, apart := false, narrowed := true }
def FnExactBestStepUptoSaid : Prop := fnExactBestStepUptoRow.holds Try.pinned (OpenSpec.upto fnExactBestStepSpec)

/-- 'laws.FnExactSavedBy', WHERE WHAT IT READS IS OF BULK AT MOST 1048576: true; the input reads as it did. -/
def fnExactSavedByUptoRow : OpenClaim := { program := "ytglbcdlplbomdaa", sum := "ea37fd13092c79241184e27c26b845884b131ac390aa669ff9249217ab0549d5", func := "loop.example/g00844/laws.FnExactSavedBy", spec := "fnExactSavedBy", unfollowed := true, recurses := true, apart := false, narrowed := true }
def FnExactSavedByUptoSaid : Prop := fnExactSavedByUptoRow.holds Try.pinned (OpenSpec.upto fnExactSavedBySpec)

/-- 'laws.FnExactSettle', WHERE WHAT IT READS IS OF BULK AT MOST 1048576: true; the input reads as it did. -/
def fnExactSettleUptoRow : OpenClaim := { program := "ytglbcdlplbomdaa", sum := "ea37fd13092c79241184e27c26b845884b131ac390aa669ff9249217ab0549d5", func := "loop.example/g00844/laws.FnExactSettle", spec := "fnExactSettle", unfollowed := true, recurses := true, apart := false, narrowed := true }
def FnExactSettleUptoSaid : Prop := fnExactSettleUptoRow.holds Try.pinned (OpenSpec.upto fnExactSettleSpec)

/-- 'laws.FnExactFiltersLow', WHERE WHAT IT READS IS OF BULK AT MOST 1048576: true; the input reads as it did. -/
def fnExactFiltersLowUptoRow : OpenClaim := { program := "ytglbcdlplbomdaa", sum := "ea37fd13092c79241184e27c26b845884b131ac390aa669ff9249217ab0549d5", func := "loop.example/g00844/laws.FnExactFiltersLow", spec := "fnExactFiltersLow", unfollowed := true, recurses := true, apart := false, narrowed := true }
def FnExactFiltersLowUptoSaid : Prop := fnExactFiltersLowUptoRow.holds Try.pinned (OpenSpec.upto fnExactFiltersLowSpec)

/-- 'laws.FnExactImprove', WHERE WHAT IT READS IS OF BULK AT MOST 1048576: true; the input reads as it did. -/
def fnExactImproveUptoRow : OpenClaim := { program := "ytglbcdlplbomdaa", sum := "ea37fd13092c79241184e27c26b845884b131ac390aa669ff9249217ab0549d5", func := "loop.example/g00844/laws.FnExactImprove", spec := "fnExactImprove", unfollowed := true, recurses := true, apart := false, narrowed := true }
def FnExactImproveUptoSaid : Prop := fnExactImproveUptoRow.holds Try.pinned (OpenSpec.upto fnExactImproveSpec)

end Rows
end Go.Proofs.Ytglbcdlplbomdaa
