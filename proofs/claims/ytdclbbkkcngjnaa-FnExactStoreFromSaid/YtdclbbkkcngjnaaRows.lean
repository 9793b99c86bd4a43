/-
  No cell of these rows narrows 'for every input' (looked for: loops, veiled, ifaces, maps, wideKeys, modest, calm, conditions, laid).
  DERIVED. THE GIVEN ROWS OF THIS SEAT. 5 by the template 'for every input the law returns true; each argument reads behind the call as it read before'; 0 by the template 'total and deterministic' (their statements: YtdclbbkkcngjnaaTotals.lean).
  GIVEN WITH THE SEED: the statements are not yours to turn. If you find one false, say at which input.
  Laid BY PROGRAM, IN A SANDBOX (cutbox-rows.mjs): the forced cells as the released guide's own fill.sh prints them over the translation bf299c40b7eda8aa… (all of the seat's roots in one cut). By AI agents, Wed Nov 11 2026. No macro, syntax, notation, axiom, sorry.
-/
import Derived.Test.YtdclbbkkcngjnaaChecked
import GoSem.Claim
import GoSem.ClaimJoined
import GoSem.ClaimMapViews
import Derived.JoinedTies
import Derived.KernelRfl
namespace Go.Proofs.Ytdclbbkkcngjnaa
/- THE CELL 'sum', in the pinned program and in every row, IS THE sha256 OF THE DUMP (.gsa) THAT YtdclbbkkcngjnaaProg.lean LOADS. Nothing in Lean hashes anything: it is a label: what it is worth is what the hold of that sum in a sandbox is worth. -/
noncomputable def Try.pinned : Pinned := { name := "ytdclbbkkcngjnaa", sum := "bf299c40b7eda8aa9d3bb0930d2ef96c752e6cb22b00e4fa6d5bbada162be9a0", checked := Try.checked }
namespace Rows
def none {H : Type} : Left H := { results := [], args := [] }

/-- 'laws.FnExactHitRate': WHATEVER THE INPUT: true; the input reads as it did. -/
def fnExactHitRateSpec : ChangeSpec := { name := "fnExactHitRate", fn := fun _ => fun
  | [d] => { results := [.lit (.bool true)], args := [d] }
  | _ => none }
def fnExactHitRateRow : OpenClaim := { program := "ytdclbbkkcngjnaa", sum := "bf299c40b7eda8aa9d3bb0930d2ef96c752e6cb22b00e4fa6d5bbada162be9a0", func := "loop.example/g00844/laws.FnExactHitRate", spec := "fnExactHitRate", apart := false }
def FnExactHitRateSaid : Prop := fnExactHitRateRow.holds Try.pinned (OpenSpec.ofChange fnExactHitRateSpec)

/-- ITS FALSE NEIGHBOUR: 'it returns false'. Refute it at one input. -/
def fnExactHitRateWrong : ChangeSpec := { name := "fnExactHitRate", fn := fun _ => fun
  | [d] => { results := [.lit (.bool false)], args := [d] }
  | _ => none }
def FnExactHitRateWrongFalsely : Prop := fnExactHitRateRow.holds Try.pinned (OpenSpec.ofChange fnExactHitRateWrong)

/-- 'laws.FnExactCountCodes': WHATEVER THE INPUT: true; the input reads as it did. -/
def fnExactCountCodesSpec : ChangeSpec := { name := "fnExactCountCodes", fn := fun _ => fun
  | [d] => { results := [.lit (.bool true)], args := [d] }
  | _ => none }
def fnExactCountCodesRow : OpenClaim := { program := "ytdclbbkkcngjnaa", sum := "bf299c40b7eda8aa9d3bb0930d2ef96c752e6cb22b00e4fa6d5bbada162be9a0", func := "loop.example/g00844/laws.FnExactCountCodes", spec := "fnExactCountCodes", apart := false }
def FnExactCountCodesSaid : Prop := fnExactCountCodesRow.holds Try.pinned (OpenSpec.ofChange fnExactCountCodesSpec)

/-- ITS FALSE NEIGHBOUR: 'it returns false'. Refute it at one input. -/
def fnExactCountCodesWrong : ChangeSpec := { name := "fnExactCountCodes", fn := fun _ => fun
  | [d] => { results := [.lit (.bool false)], args := [d] }
  | _ => none }
def FnExactCountCodesWrongFalsely : Prop := fnExactCountCodesRow.holds Try.pinned (OpenSpec.ofChange fnExactCountCodesWrong)

/-- 'laws.FnExactCountRows': WHATEVER THE INPUT: true; the input reads as it did. -/
def fnExactCountRowsSpec : ChangeSpec := { name := "fnExactCountRows", fn := fun _ => fun
  | [d] => { results := [.lit (.bool true)], args := [d] }
  | _ => none }
def fnExactCountRowsRow : OpenClaim := { program := "ytdclbbkkcngjnaa", sum := "bf299c40b7eda8aa9d3bb0930d2ef96c752e6cb22b00e4fa6d5bbada162be9a0", func := "loop.example/g00844/laws.FnExactCountRows", spec := "fnExactCountRows", apart := false }
def FnExactCountRowsSaid : Prop := fnExactCountRowsRow.holds Try.pinned (OpenSpec.ofChange fnExactCountRowsSpec)

/-- ITS FALSE NEIGHBOUR: 'it returns false'. Refute it at one input. -/
def fnExactCountRowsWrong : ChangeSpec := { name := "fnExactCountRows", fn := fun _ => fun
  | [d] => { results := [.lit (.bool false)], args := [d] }
  | _ => none }
def FnExactCountRowsWrongFalsely : Prop := fnExactCountRowsRow.holds Try.pinned (OpenSpec.ofChange fnExactCountRowsWrong)

/-- 'laws.FnExactAsksOf': WHATEVER THE INPUT: true; the input reads as it did. -/
def fnExactAsksOfSpec : ChangeSpec := { name := "fnExactAsksOf", fn := fun _ => fun
  | [d] => { results := [.lit (.bool true)], args := [d] }
  | _ => none }
def fnExactAsksOfRow : OpenClaim := { program := "ytdclbbkkcngjnaa", sum := "bf299c40b7eda8aa9d3bb0930d2ef96c752e6cb22b00e4fa6d5bbada162be9a0", func := "loop.example/g00844/laws.FnExactAsksOf", spec := "fnExactAsksOf", apart := false }
def FnExactAsksOfSaid : Prop := fnExactAsksOfRow.holds Try.pinned (OpenSpec.ofChange fnExactAsksOfSpec)

/-- ITS FALSE NEIGHBOUR: 'it returns false'. Refute it at one input. -/
def fnExactAsksOfWrong : ChangeSpec := { name := "fnExactAsksOf", fn := fun _ => fun
  | [d] => { results := [.lit (.bool false)], args := [d] }
  | _ => none }
def FnExactAsksOfWrongFalsely : Prop := fnExactAsksOfRow.holds Try.pinned (OpenSpec.ofChange fnExactAsksOfWrong)

/-- 'laws.FnExactStoreFrom': WHATEVER THE INPUT: true; the input reads as it did. -/
def fnExactStoreFromSpec : ChangeSpec := { name := "fnExactStoreFrom", fn := fun _ => fun
  | [d1, d2] => { results := [.lit (.bool true)], args := [d1, d2] }
  | _ => none }
def fnExactStoreFromRow : OpenClaim := { program := "ytdclbbkkcngjnaa", sum := "bf299c40b7eda8aa9d3bb0930d2ef96c752e6cb22b00e4fa6d5bbada162be9a0", func := "loop.example/g00844/laws.FnExactStoreFrom", spec := "fnExactStoreFrom", apart := false }
def FnExactStoreFromSaid : Prop := fnExactStoreFromRow.holds Try.pinned (OpenSpec.ofChange fnExactStoreFromSpec)

/-- ITS FALSE NEIGHBOUR: 'it returns false'. Refute it at one input. -/
def fnExactStoreFromWrong : ChangeSpec := { name := "fnExactStoreFrom", fn := fun _ => fun
  | [d1, d2] => { results := [.lit (.bool false)], args := [d1, d2] }
  | _ => none }
def FnExactStoreFromWrongFalsely : Prop := fnExactStoreFromRow.holds Try.pinned (OpenSpec.ofChange fnExactStoreFromWrong)

/- THE SECOND FORM. 'bulk': how many values and letters a reading holds, each counted each time it is reached (what is shared counts as often as it is met; a slice's spare places count too). A statement '..UptoSaid' is the law's where the arguments, and the package variables that the reading takes, are together of bulk at most 1048576: NARROWER than '..Said'. Prove '..Said' where nothing that the law and all that it calls make is longer than what came in: it says more and counts as full. Else prove '..UptoSaid'. A law counts once. -/
mutual
def uptoBulk {H : Type} : DataW H → Nat
  | .lit (.string bytes) => bytes.length + 1
  | .lit _ => 1
  | .nil => 1
  | .ptr d => uptoBulk d + 1
  | .slice elems spare => uptoBulkAll elems + uptoBulkAll spare + 1
  | .agg parts => uptoBulkAll parts + 1
  | .iface _ d => uptoBulk d + 1
  | .map entries => uptoBulkEntries entries + 1
  | .held _ => 1
def uptoBulkAll {H : Type} : List (DataW H) → Nat
  | [] => 0
  | d :: r => uptoBulk d + uptoBulkAll r
def uptoBulkEntries {H : Type} : List (Lit × DataW H) → Nat
  | [] => 0
  | x :: r => uptoBulkEntry x + uptoBulkEntries r
def uptoBulkEntry {H : Type} : Lit × DataW H → Nat
  | (.string bytes, d) => bytes.length + uptoBulk d + 1
  | (_, d) => uptoBulk d + 1
 end
def uptoSmall : (H : Type) → List (DataW H) → Bool := fun _ ds => decide (uptoBulkAll ds ≤ 1048576)
def OpenSpec.upto (s : _root_.Go.ChangeSpec) : _root_.Go.OpenSpec := { _root_.Go.OpenSpec.ofChange s with cond := some uptoSmall }

/-- 'laws.FnExactHitRate', WHERE WHAT IT READS IS OF BULK AT MOST 1048576: true; the input reads as it did. -/
def fnExactHitRateUptoRow : OpenClaim := { program := "ytdclbbkkcngjnaa", sum := "bf299c40b7eda8aa9d3bb0930d2ef96c752e6cb22b00e4fa6d5bbada162be9a0", func := "loop.example/g00844/laws.FnExactHitRate", spec := "fnExactHitRate", apart := false, narrowed := true }
def FnExactHitRateUptoSaid : Prop := fnExactHitRateUptoRow.holds Try.pinned (OpenSpec.upto fnExactHitRateSpec)

/-- 'laws.FnExactCountCodes', WHERE WHAT IT READS IS OF BULK AT MOST 1048576: true; the input reads as it did. -/
def fnExactCountCodesUptoRow : OpenClaim := { program := "ytdclbbkkcngjnaa", sum := "bf299c40b7eda8aa9d3bb0930d2ef96c752e6cb22b00e4fa6d5bbada162be9a0", func := "loop.example/g00844/laws.FnExactCountCodes", spec := "fnExactCountCodes", apart := false, narrowed := true }
def FnExactCountCodesUptoSaid : Prop := fnExactCountCodesUptoRow.holds Try.pinned (OpenSpec.upto fnExactCountCodesSpec)

/-- 'laws.FnExactCountRows', WHERE WHAT IT READS IS OF BULK AT MOST 1048576: true; the input reads as it did. -/
def fnExactCountRowsUptoRow : OpenClaim := { program := "ytdclbbkkcngjnaa", sum := "bf299c40b7eda8aa9d3bb0930d2ef96c752e6cb22b00e4fa6d5bbada162be9a0", func := "loop.example/g00844/laws.FnExactCountRows", spec := "fnExactCountRows", apart := false, narrowed := true }
def FnExactCountRowsUptoSaid : Prop := fnExactCountRowsUptoRow.holds Try.pinned (OpenSpec.upto fnExactCountRowsSpec)

/-- 'laws.FnExactAsksOf', WHERE WHAT IT READS IS OF BULK AT MOST 1048576: true; the input reads as it did. -/
def fnExactAsksOfUptoRow : OpenClaim := { program := "ytdclbbkkcngjnaa", sum := "bf299c40b7eda8aa9d3bb0930d2ef96c752e6cb22b00e4fa6d5bbada162be9a0", func := "loop.example/g00844/laws.FnExactAsksOf", spec := "fnExactAsksOf", apart := false, narrowed := true }
def FnExactAsksOfUptoSaid : Prop := fnExactAsksOfUptoRow.holds Try.pinned (OpenSpec.upto fnExactAsksOfSpec)

/-- 'laws.FnExactStoreFrom', WHERE WHAT IT READS IS OF BULK AT MOST 1048576: true; the input reads as it did. -/
def fnExactStoreFromUptoRow : OpenClaim := { program := "ytdclbbkkcngjnaa", sum := "bf299c40b7eda8aa9d3bb0930d2ef96c752e6cb22b00e4fa6d5bbada162be9a0", func := "loop.example/g00844/laws.FnExactStoreFrom", spec := "fnExactStoreFrom", apart := false, narrowed := true }
def FnExactStoreFromUptoSaid : Prop := fnExactStoreFromUptoRow.holds Try.pinned (OpenSpec.upto fnExactStoreFromSpec)

end Rows
end Go.Proofs.Ytdclbbkkcngjnaa
