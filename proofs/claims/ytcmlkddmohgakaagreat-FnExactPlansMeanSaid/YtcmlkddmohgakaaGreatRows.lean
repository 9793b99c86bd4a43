/-
  No cell of these rows narrows 'for every input' (looked for: loops, veiled, ifaces, maps, wideKeys, modest, calm, conditions, laid).
  DERIVED. THE GIVEN ROWS OF THIS SEAT. 12 by the template 'for every input the law returns true; each argument reads behind the call as it read before'; 0 by the template 'total and deterministic' (their statements: YtcmlkddmohgakaaGreatTotals.lean).
  GIVEN WITH THE SEED: the statements are not yours to turn. If you find one false, say at which input.
  Laid BY PROGRAM, IN A SANDBOX (cutbox-rows.mjs): the forced cells as the released guide's own fill.sh prints them over the translation 94e909443a047b6e… (all of the seat's roots in one cut). By AI agents, Wed Nov 11 2026. No macro, syntax, notation, axiom, sorry.
-/
import Derived.Test.YtcmlkddmohgakaaGreatChecked
import GoSem.Claim
import GoSem.ClaimJoined
import GoSem.ClaimMapViews
import Derived.JoinedTies
import Derived.KernelRfl
namespace Go.Proofs.YtcmlkddmohgakaaGreat
/- THE CELL 'sum', in the pinned program and in every row, IS THE sha256 OF THE DUMP (.gsa) THAT YtcmlkddmohgakaaGreatProg.lean LOADS. Nothing in Lean hashes anything: it is a label: what it is worth is what the hold of that sum in a sandbox is worth. -/
noncomputable def Tryz.pinned : Pinned := { name := "ytcmlkddmohgakaagreat", sum := "94e909443a047b6ea164337a78c46c37a8d74778de466de0de620c6396ed5305", checked := Tryz.checked }
namespace Rows
def none {H : Type} : Left H := { results := [], args := [] }

/-- 'laws.FnExactRowsAt': WHATEVER THE INPUT: true; the input reads as it did. -/
def fnExactRowsAtSpec : ChangeSpec := { name := "fnExactRowsAt", fn := fun _ => fun
  | [d1, d2, d3] => { results := [.lit (.bool true)], args := [d1, d2, d3] }
  | _ => none }
def fnExactRowsAtRow : OpenClaim := { program := "ytcmlkddmohgakaagreat", sum := "94e909443a047b6ea164337a78c46c37a8d74778de466de0de620c6396ed5305", func := "loop.example/g00844/laws.FnExactRowsAt", spec := "fnExactRowsAt", unfollowed := true, recurses := true, apart := false }
def FnExactRowsAtSaid : Prop := fnExactRowsAtRow.holds Tryz.pinned (OpenSpec.ofChange fnExactRowsAtSpec)

/-- ITS FALSE NEIGHBOUR: 'it returns false'. Refute it at one input. -/
def fnExactRowsAtWrong : ChangeSpec := { name := "fnExactRowsAt", fn := fun _ => fun
  | [d1, d2, d3] => { results := [.lit (.bool false)], args := [d1, d2, d3] }
  | _ => none }
def FnExactRowsAtWrongFalsely : Prop := fnExactRowsAtRow.holds Tryz.pinned (OpenSpec.ofChange fnExactRowsAtWrong)

/-- 'laws.FnExactMostRows': WHATEVER THE INPUT: true; the input reads as it did. -/
def fnExactMostRowsSpec : ChangeSpec := { name := "fnExactMostRows", fn := fun _ => fun
  | [d1, d2, d3] => { results := [.lit (.bool true)], args := [d1, d2, d3] }
  | _ => none }
def fnExactMostRowsRow : OpenClaim := { program := "ytcmlkddmohgakaagreat", sum := "94e909443a047b6ea164337a78c46c37a8d74778de466de0de620c6396ed5305", func := "loop.example/g00844/laws.FnExactMostRows", spec := "fnExactMostRows", unfollowed := true, recurses := true, apart := false }
def FnExactMostRowsSaid : Prop := fnExactMostRowsRow.holds Tryz.pinned (OpenSpec.ofChange fnExactMostRowsSpec)

/-- ITS FALSE NEIGHBOUR: 'it returns false'. Refute it at one input. -/
def fnExactMostRowsWrong : ChangeSpec := { name := "fnExactMostRows", fn := fun _ => fun
  | [d1, d2, d3] => { results := [.lit (.bool false)], args := [d1, d2, d3] }
  | _ => none }
def FnExactMostRowsWrongFalsely : Prop := fnExactMostRowsRow.holds Tryz.pinned (OpenSpec.ofChange fnExactMostRowsWrong)

/-- 'laws.FnExactRowsSum': WHATEVER THE INPUT: true; the input reads as it did. -/
def fnExactRowsSumSpec : ChangeSpec := { name := "fnExactRowsSum", fn := fun _ => fun
  | [d1, d2, d3] => { results := [.lit (.bool true)], args := [d1, d2, d3] }
  | _ => none }
def fnExactRowsSumRow : OpenClaim := { program := "ytcmlkddmohgakaagreat", sum := "94e909443a047b6ea164337a78c46c37a8d74778de466de0de620c6396ed5305", func := "loop.example/g00844/laws.FnExactRowsSum", spec := "fnExactRowsSum", unfollowed := true, recurses := true, apart := false }
def FnExactRowsSumSaid : Prop := fnExactRowsSumRow.holds Tryz.pinned (OpenSpec.ofChange fnExactRowsSumSpec)

/-- ITS FALSE NEIGHBOUR: 'it returns false'. Refute it at one input. -/
def fnExactRowsSumWrong : ChangeSpec := { name := "fnExactRowsSum", fn := fun _ => fun
  | [d1, d2, d3] => { results := [.lit (.bool false)], args := [d1, d2, d3] }
  | _ => none }
def FnExactRowsSumWrongFalsely : Prop := fnExactRowsSumRow.holds Tryz.pinned (OpenSpec.ofChange fnExactRowsSumWrong)

/-- 'laws.FnExactMeansSame': WHATEVER THE INPUT: true; the input reads as it did. -/
def fnExactMeansSameSpec : ChangeSpec := { name := "fnExactMeansSame", fn := fun _ => fun
  | [d1, d2, d3, d4] => { results := [.lit (.bool true)], args := [d1, d2, d3, d4] }
  | _ => none }
def fnExactMeansSameRow : OpenClaim := { program := "ytcmlkddmohgakaagreat", sum := "94e909443a047b6ea164337a78c46c37a8d74778de466de0de620c6396ed5305", func := "loop.example/g00844/laws.FnExactMeansSame", spec := "fnExactMeansSame", unfollowed := true, recurses := true, apart := false }
def FnExactMeansSameSaid : Prop := fnExactMeansSameRow.holds Tryz.pinned (OpenSpec.ofChange fnExactMeansSameSpec)

/-- ITS FALSE NEIGHBOUR: 'it returns false'. Refute it at one input. -/
def fnExactMeansSameWrong : ChangeSpec := { name := "fnExactMeansSame", fn := fun _ => fun
  | [d1, d2, d3, d4] => { results := [.lit (.bool false)], args := [d1, d2, d3, d4] }
  | _ => none }
def FnExactMeansSameWrongFalsely : Prop := fnExactMeansSameRow.holds Tryz.pinned (OpenSpec.ofChange fnExactMeansSameWrong)

/-- 'laws.FnExactDiffersAt': WHATEVER THE INPUT: true; the input reads as it did. -/
def fnExactDiffersAtSpec : ChangeSpec := { name := "fnExactDiffersAt", fn := fun _ => fun
  | [d1, d2, d3, d4] => { results := [.lit (.bool true)], args := [d1, d2, d3, d4] }
  | _ => none }
def fnExactDiffersAtRow : OpenClaim := { program := "ytcmlkddmohgakaagreat", sum := "94e909443a047b6ea164337a78c46c37a8d74778de466de0de620c6396ed5305", func := "loop.example/g00844/laws.FnExactDiffersAt", spec := "fnExactDiffersAt", unfollowed := true, recurses := true, apart := false }
def FnExactDiffersAtSaid : Prop := fnExactDiffersAtRow.holds Tryz.pinned (OpenSpec.ofChange fnExactDiffersAtSpec)

/-- ITS FALSE NEIGHBOUR: 'it returns false'. Refute it at one input. -/
def fnExactDiffersAtWrong : ChangeSpec := { name := "fnExactDiffersAt", fn := fun _ => fun
  | [d1, d2, d3, d4] => { results := [.lit (.bool false)], args := [d1, d2, d3, d4] }
  | _ => none }
def FnExactDiffersAtWrongFalsely : Prop := fnExactDiffersAtRow.holds Tryz.pinned (OpenSpec.ofChange fnExactDiffersAtWrong)

/-- 'laws.FnStep': WHATEVER THE INPUT: true; the input reads as it did. -/
def fnStepSpec : ChangeSpec := { name := "fnStep", fn := fun _ => fun
  | [d] => { results := [.lit (.bool true)], args := [d] }
  | _ => none }
def fnStepRow : OpenClaim := { program := "ytcmlkddmohgakaagreat", sum := "94e909443a047b6ea164337a78c46c37a8d74778de466de0de620c6396ed5305", func := "loop.example/g00844/laws.FnStep", spec := "fnStep", unfollowed := true, recurses := true, apart := false }
def FnStepSaid : Prop := fnStepRow.holds Tryz.pinned (OpenSpec.ofChange fnStepSpec)

/-- ITS FALSE NEIGHBOUR: 'it returns false'. Refute it at one input. -/
def fnStepWrong : ChangeSpec := { name := "fnStep", fn := fun _ => fun
  | [d] => { results := [.lit (.bool false)], args := [d] }
  | _ => none }
def FnStepWrongFalsely : Prop := fnStepRow.holds Tryz.pinned (OpenSpec.ofChange fnStepWrong)

/-- 'laws.FnExactPlansMean': WHATEVER THE INPUT: true; the input reads as it did. -/
def fnExactPlansMeanSpec : ChangeSpec := { name := "fnExactPlansMean", fn := fun _ => fun
  | [d1, d2, d3, d4] => { results := [.lit (.bool true)], args := [d1, d2, d3, d4] }
  | _ => none }
def fnExactPlansMeanRow : OpenClaim := { program := "ytcmlkddmohgakaagreat", sum := "94e909443a047b6ea164337a78c46c37a8d74778de466de0de620c6396ed5305", func := "loop.example/g00844/laws.FnExactPlansMean", spec := "fnExactPlansMean", unfollowed := true, recurses := true, apart := false }
def FnExactPlansMeanSaid : Prop := fnExactPlansMeanRow.holds Tryz.pinned (OpenSpec.ofChange fnExactPlansMeanSpec)

/-- ITS FALSE NEIGHBOUR: 'it returns false'. Refute it at one input. -/
def fnExactPlansMeanWrong : ChangeSpec := { name := "fnExactPlansMean", fn := fun _ => fun
  | [d1, d2, d3, d4] => { results := [.lit (.bool false)], args := [d1, d2, d3, d4] }
  | _ => none }
def FnExactPlansMeanWrongFalsely : Prop := fnExactPlansMeanRow.holds Tryz.pinned (OpenSpec.ofChange fnExactPlansMeanWrong)

/-- 'laws.FnLow': WHATEVER THE INPUT: true; the input reads as it did. -/
def fnLowSpec : ChangeSpec := { name := "fnLow", fn := fun _ => fun
  | [d] => { results := [.lit (.bool true)], args := [d] }
  | _ => none }
def fnLowRow : OpenClaim := { program := "ytcmlkddmohgakaagreat", sum := "94e909443a047b6ea164337a78c46c37a8d74778de466de0de620c6396ed5305", func := "loop.example/g00844/laws.FnLow", spec := "fnLow", unfollowed := true, recurses := true, apart := false }
def FnLowSaid : Prop := fnLowRow.holds Tryz.pinned (OpenSpec.ofChange fnLowSpec)

/-- ITS FALSE NEIGHBOUR: 'it returns false'. Refute it at one input. -/
def fnLowWrong : ChangeSpec := { name := "fnLow", fn := fun _ => fun
  | [d] => { results := [.lit (.bool false)], args := [d] }
  | _ => none }
def FnLowWrongFalsely : Prop := fnLowRow.holds Tryz.pinned (OpenSpec.ofChange fnLowWrong)

/-- 'laws.FnExactStaleIn': WHATEVER THE INPUT: true; the input reads as it did. -/
def fnExactStaleInSpec : ChangeSpec := { name := "fnExactStaleIn", fn := fun _ => fun
  | [d] => { results := [.lit (.bool true)], args := [d] }
  | _ => none }
def fnExactStaleInRow : OpenClaim := { program := "ytcmlkddmohgakaagreat", sum := "94e909443a047b6ea164337a78c46c37a8d74778de466de0de620c6396ed5305", func := "loop.example/g00844/laws.FnExactStaleIn", spec := "fnExactStaleIn", unfollowed := true, recurses := true, apart := false }
def FnExactStaleInSaid : Prop := fnExactStaleInRow.holds Tryz.pinned (OpenSpec.ofChange fnExactStaleInSpec)

/-- ITS FALSE NEIGHBOUR: 'it returns false'. Refute it at one input. -/
def fnExactStaleInWrong : ChangeSpec := { name := "fnExactStaleIn", fn := fun _ => fun
  | [d] => { results := [.lit (.bool false)], args := [d] }
  | _ => none }
def FnExactStaleInWrongFalsely : Prop := fnExactStaleInRow.holds Tryz.pinned (OpenSpec.ofChange fnExactStaleInWrong)

/-- 'laws.FnExactSamePrints': WHATEVER THE INPUT: true; the input reads as it did. -/
def fnExactSamePrintsSpec : ChangeSpec := { name := "fnExactSamePrints", fn := fun _ => fun
  | [d] => { results := [.lit (.bool true)], args := [d] }
  | _ => none }
def fnExactSamePrintsRow : OpenClaim := { program := "ytcmlkddmohgakaagreat", sum := "94e909443a047b6ea164337a78c46c37a8d74778de466de0de620c6396ed5305", func := "loop.example/g00844/laws.FnExactSamePrints", spec := "fnExactSamePrints", unfollowed := true, recurses := true, apart := false }
def FnExactSamePrintsSaid : Prop := fnExactSamePrintsRow.holds Tryz.pinned (OpenSpec.ofChange fnExactSamePrintsSpec)

/-- ITS FALSE NEIGHBOUR: 'it returns false'. Refute it at one input. -/
def fnExactSamePrintsWrong : ChangeSpec := { name := "fnExactSamePrints", fn := fun _ => fun
  | [d] => { results := [.lit (.bool false)], args := [d] }
  | _ => none }
def FnExactSamePrintsWrongFalsely : Prop := fnExactSamePrintsRow.holds Tryz.pinned (OpenSpec.ofChange fnExactSamePrintsWrong)

/-- 'laws.FnExactDiffersAsBag': WHATEVER THE INPUT: true; the input reads as it did. -/
def fnExactDiffersAsBagSpec : ChangeSpec := { name := "fnExactDiffersAsBag", fn := fun _ => fun
  | [d1, d2, d3, d4] => { results := [.lit (.bool true)], args := [d1, d2, d3, d4] }
  | _ => none }
def fnExactDiffersAsBagRow : OpenClaim := { program := "ytcmlkddmohgakaagreat", sum := "94e909443a047b6ea164337a78c46c37a8d74778de466de0de620c6396ed5305", func := "loop.example/g00844/laws.FnExactDiffersAsBag", spec := "fnExactDiffersAsBag", unfollowed := true, recurses := true, apart := false }
def FnExactDiffersAsBagSaid : Prop := fnExactDiffersAsBagRow.holds Tryz.pinned (OpenSpec.ofChange fnExactDiffersAsBagSpec)

/-- ITS FALSE NEIGHBOUR: 'it returns false'. Refute it at one input. -/
def fnExactDiffersAsBagWrong : ChangeSpec := { name := "fnExactDiffersAsBag", fn := fun _ => fun
  | [d1, d2, d3, d4] => { results := [.lit (.bool false)], args := [d1, d2, d3, d4] }
  | _ => none }
def FnExactDiffersAsBagWrongFalsely : Prop := fnExactDiffersAsBagRow.holds Tryz.pinned (OpenSpec.ofChange fnExactDiffersAsBagWrong)

/-- 'laws.FnCertified': WHATEVER THE INPUT: true; the input reads as it did. -/
def fnCertifiedSpec : ChangeSpec := { name := "fnCertified", fn := fun _ => fun
  | [d] => { results := [.lit (.bool true)], args := [d] }
  | _ => none }
def fnCertifiedRow : OpenClaim := { program := "ytcmlkddmohgakaagreat", sum := "94e909443a047b6ea164337a78c46c37a8d74778de466de0de620c6396ed5305", func := "loop.example/g00844/laws.FnCertified", spec := "fnCertified", unfollowed := true, recurses := true, apart := false }
def FnCertifiedSaid : Prop := fnCertifiedRow.holds Tryz.pinned (OpenSpec.ofChange fnCertifiedSpec)

/-- ITS FALSE NEIGHBOUR: 'it returns false'. Refute it at one input. -/
def fnCertifiedWrong : ChangeSpec := { name := "fnCertified", fn := fun _ => fun
  | [d] => { results := [.lit (.bool false)], args := [d] }
  | _ => none }
def FnCertifiedWrongFalsely : Prop := fnCertifiedRow.holds Tryz.pinned (OpenSpec.ofChange fnCertifiedWrong)

/- THE SECOND FORM. 'bulk': how many values and letters a reading holds, each counted each time it is reached (what is shared counts as often as it is met; a slice's spare places count too). A statement '..UptoSaid' is the law's where the arguments, and the package variables that the reading takes, are together of bulk at most 1048576: NARROWER than '..Said'. Prove '..Said' where nothing that the law and all that it calls make is longer than what came in: it says more and counts as full. Else prove '..UptoSaid'. A law counts once. -/
mutual
def uptoBulk {H : Type} : DataW H → Nat
  | .lit (.string bytes) => bytes.length + 1
  | .lit _ => 1
  | .nil => 1
  | .ptr d => uptoBulk d + 1
  | .slice elems spare => uptoBulkAll elems + uptoBulkAll spare + 1
  | .agg parts => uptoBulkAll parts + 1
  | .iface _ d => uptoBulk d + 1
  | .map entries => uptoBulkEntries entries + 1
  | .held _ => 1
def uptoBulkAll {H : Type} : List (DataW H) → Nat
  | [] => 0
  | d :: r => uptoBulk d + uptoBulkAll r
def uptoBulkEntries {H : Type} : List (Lit × DataW H) → Nat
  | [] => 0
  | x :: r => uptoBulkEntry x + uptoBulkEntries r
def uptoBulkEntry {H : Type} : Lit × DataW H → Nat
  | (.string bytes, d) => bytes.length + uptoBulk d + 1
  | (_, d) => uptoBulk d + 1
 end
def uptoSmall : (H : Type) → List (DataW H) → Bool := fun _ ds => decide (uptoBulkAll ds ≤ 1048576)
def OpenSpec.upto (s : _root_.Go.ChangeSpec) : _root_.Go.OpenSpec := { _root_.Go.OpenSpec.ofChange s with cond := some uptoSmall }

/-- 'laws.FnExactRowsAt', WHERE WHAT IT READS IS OF BULK AT MOST 1048576: true; the input reads as it did. -/
def fnExactRowsAtUptoRow : OpenClaim := { program := "ytcmlkddmohgakaagreat", sum := "94e909443a047b6ea164337a78c46c37a8d74778de466de0de620c6396ed5305", func := "loop.example/g00844/laws.FnExactRowsAt", spec := "fnExactRowsAt", unfollowed := true, recurses := true, apart := false, narrowed := true }
def FnExactRowsAtUptoSaid : Prop := fnExactRowsAtUptoRow.holds Tryz.pinned (OpenSpec.upto fnExactRowsAtSpec)

/-- 'laws.FnExactMostRows', WHERE WHAT IT READS IS OF BULK AT MOST 1048576: true; the input reads as it did. -/
def fnExactMostRowsUptoRow : OpenClaim := { program := "ytcmlkddmohgakaagreat", sum := "94e909443a047b6ea164337a78c46c37a8d74778de466de0de620c6396ed5305", func := "loop.example/g00844/laws.FnExactMostRows", spec := "fnExactMostRows", unfollowed := true, recurses := true, apart := false, narrowed := true }
def FnExactMostRowsUptoSaid : Prop := fnExactMostRowsUptoRow.holds Tryz.pinned (OpenSpec.upto fnExactMostRowsSpec)

/-- 'laws.FnExactRowsSum', WHERE WHAT IT READS IS OF BULK AT MOST 1048576: true; the input reads as it did. -/
def fnExactRowsSumUptoRow : OpenClaim := { program := "ytcmlkddmohgakaagreat", sum := "94e909443a047b6ea164337a78c46c37a8d74778de466de0de620c6396ed5305", func := "loop.example/g00844/laws.FnExactRowsSum", spec := "fnExactRowsSum", unfollowed := true, recurses := true, apart := false, narrowed := true }
def FnExactRowsSumUptoSaid : Prop := fnExactRowsSumUptoRow.holds Tryz.pinned (OpenSpec.upto fnExactRowsSumSpec)

/-- 'laws.FnExactMeansSame', WHERE WHAT IT READS IS OF BULK AT MOST 1048576: true; the input reads as it did. -/
def fnExactMeansSameUptoRow : OpenClaim := { program := "ytcmlkddmohgakaagreat", sum := "94e909443a047b6ea164337a78c46c37a8d74778de466de0de620c6396ed5305", func := "loop.example/g00844/laws.FnExactMeansSame", spec := "fnExactMeansSame", unfollowed := true, recurses := true, apart := false, narrowed := true }
def FnExactMeansSameUptoSaid : Prop := fnExactMeansSameUptoRow.holds Tryz.pinned (OpenSpec.upto fnExactMeansSameSpec)

/-- 'laws.FnExactDiffersAt', WHERE WHAT IT READS IS OF BULK AT MOST 1048576: true; the input reads as it did. -/
def fnExactDiffersAtUptoRow : OpenClaim := { program := "ytcmlkddmohgakaagreat", sum := "94e909443a047b6ea164337a78c46c37a8d74778de466de0de620c6396ed5305", func := "loop.example/g00844/laws.FnExactDiffersAt", spec := "fnExactDiffersAt", unfollowed := true, recurses := true, apart := false, narrowed := true }
def FnExactDiffersAtUptoSaid : Prop := fnExactDiffersAtUptoRow.holds Tryz.pinned (OpenSpec.upto fnExactDiffersAtSpec)

/-- 'laws.FnStep', WHERE WHAT IT READS IS OF BULK AT MOST 1048576: true; the input reads as it did. -/
def fnStepUptoRow : OpenClaim := { program := "ytcmlkddmohgakaagreat", sum := "94e909443a047b6ea164337a78c46c37a8d74778de466de0de620c6396ed5305", func := "loop.example/g00844/laws.FnStep", spec := "fnStep", unfollowed := true, recurses := true, apart := false, narrowed := true }
def FnStepUptoSaid : Prop := fnStepUptoRow.holds Tryz.pinned (OpenSpec.upto fnStepSpec)

/-- 'laws.FnExactPlansMean', WHERE WHAT IT READS IS OF BULK AT MOST 1048576: true; the input reads as it did. -/
def fnExactPlansMeanUptoRow : OpenClaim := { program := "ytcmlkddmohgakaagreat", sum := "94e909443a047b6ea164337a78c46c37a8d74778de466de0de620c6396ed5305", func := "loop.example/g00844/laws.FnExactPlansMean", spec := "fnExactPlansMean", unfollowed := true, recurses := true, apart := false, narrowed := true }
def FnExactPlansMeanUptoSaid : Prop := fnExactPlansMeanUptoRow.holds Tryz.pinned (OpenSpec.upto fnExactPlansMeanSpec)

/-- 'laws.FnLow', WHERE WHAT IT READS IS OF BULK AT MOST 1048576: true; the input reads as it did. -/
def fnLowUptoRow : OpenClaim := { program := "ytcmlkddmohgakaagreat", sum := "94e909443a047b6ea164337a78c46c37a8d74778de466de0de620c6396ed5305", func := "loop.example/g00844/laws.FnLow", spec := "fnLow", unfollowed := true, recurses := true, apart := false, narrowed := true }
def FnLowUptoSaid : Prop := fnLowUptoRow.holds Tryz.pinned (OpenSpec.upto fnLowSpec)

/-- 'laws.FnExactStaleIn', WHERE WHAT IT READS IS OF BULK AT MOST 1048576: true; the input reads as it did. -/
def fnExactStaleInUptoRow : OpenClaim := { program := "ytcmlkddmohgakaagreat", sum := "94e909443a047b6ea164337a78c46c37a8d74778de466de0de620c6396ed5305", func := "loop.example/g00844/laws.FnExactStaleIn", spec := "fnExactStaleIn", unfollowed := true, recurses := true, apart := false, narrowed := true }
def FnExactStaleInUptoSaid : Prop := fnExactStaleInUptoRow.holds Tryz.pinned (OpenSpec.upto fnExactStaleInSpec)

/-- 'laws.FnExactSamePrints', WHERE WHAT IT READS IS OF BULK AT MOST 1048576: true; the input reads as it did. -/
def fnExactSamePrintsUptoRow : OpenClaim := { program := "ytcmlkddmohgakaagreat", sum := "94e909443a047b6ea164337a78c46c37a8d74778de466de0de620c6396ed5305", func := "loop.example/g00844/laws.FnExactSamePrints", spec := "fnExactSamePrints", unfollowed := true, recurses := true, apart := false, narrowed := true }
def FnExactSamePrintsUptoSaid : Prop := fnExactSamePrintsUptoRow.holds Tryz.pinned (OpenSpec.upto fnExactSamePrintsSpec)

/-- 'laws.FnExactDiffersAsBag', WHERE WHAT IT READS IS OF BULK AT MOST 1048576: true; the input reads as it did. -/
def fnExactDiffersAsBagUptoRow : OpenClaim := { program := "ytcmlkddmohgakaagreat", sum := "94e909443a047b6ea164337a78c46c37a8d74778de466de0de620c6396ed5305", func := "loop.example/g00844/laws.FnExactDiffersAsBag", spec := "fnExactDiffersAsBag", unfollowed := true, recurses := true, apart := false, narrowed := true }
def FnExactDiffersAsBagUptoSaid : Prop := fnExactDiffersAsBagUptoRow.holds Tryz.pinned (OpenSpec.upto fnExactDiffersAsBagSpec)

/-- 'laws.FnCertified', WHERE WHAT IT READS IS OF BULK AT MOST 1048576: true; the input reads as it did. -/
def fnCertifiedUptoRow : OpenClaim := { program := "ytcmlkddmohgakaagreat", sum := "94e909443a047b6ea164337a78c46c37a8d74778de466de0de620c6396ed5305", func := "loop.example/g00844/laws.FnCertified", spec := "fnCertified", unfollowed := true, recurses := true, apart := false, narrowed := true }
def FnCertifiedUptoSaid : Prop := fnCertifiedUptoRow.holds Tryz.pinned (OpenSpec.upto fnCertifiedSpec)

end Rows
end Go.Proofs.YtcmlkddmohgakaaGreat
