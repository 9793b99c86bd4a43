/-
  No cell of these rows narrows 'for every input' (looked for: loops, veiled, ifaces, maps, wideKeys, modest, calm, conditions, laid).
  DERIVED. THE GIVEN ROWS OF THIS SEAT. 10 by the template 'for every input the law returns true; each argument reads behind the call as it read before'; 0 by the template 'total and deterministic' (their statements: YtpfjldlopeaniaaGreatTotals.lean).
  GIVEN WITH THE SEED: the statements are not yours to turn. If you find one false, say at which input.
  Laid BY PROGRAM, IN A SANDBOX (cutbox-rows.mjs): the forced cells as the released guide's own fill.sh prints them over the translation 4c35212866e526b8… (all of the seat's roots in one cut). By AI agents, Wed Nov 11 2026. No macro, syntax, notation, axiom, sorry.
-/
import Derived.Test.YtpfjldlopeaniaaGreatChecked
import GoSem.Claim
import GoSem.ClaimJoined
import GoSem.ClaimMapViews
import Derived.JoinedTies
import Derived.KernelRfl
namespace Go.Proofs.YtpfjldlopeaniaaGreat
/- THE CELL 'sum', in the pinned program and in every row, IS THE sha256 OF THE DUMP (.gsa) THAT YtpfjldlopeaniaaGreatProg.lean LOADS. Nothing in Lean hashes anything: it is a label: what it is worth is what the hold of that sum in a sandbox is worth. -/
noncomputable def Tryz.pinned : Pinned := { name := "ytpfjldlopeaniaagreat", sum := "4c35212866e526b8c7c82f6a6ffacb9565ce29fed0fcd49eb9b5eef701eefad4", checked := Tryz.checked }
namespace Rows
def none {H : Type} : Left H := { results := [], args := [] }

/-- 'laws.FnExactStaleIn': WHATEVER THE INPUT: true; the input reads as it did. -/
def fnExactStaleInSpec : ChangeSpec := { name := "fnExactStaleIn", fn := fun _ => fun
  | [d] => { results := [.lit (.bool true)], args := [d] }
  | _ => none }
def fnExactStaleInRow : OpenClaim := { program := "ytpfjldlopeaniaagreat", sum := "4c35212866e526b8c7c82f6a6ffacb9565ce29fed0fcd49eb9b5eef701eefad4", func := "loop.example/g00844/laws.FnExactStaleIn", spec := "fnExactStaleIn", unfollowed := true, recurses := true, apart := false }
def FnExactStaleInSaid : Prop := fnExactStaleInRow.holds Tryz.pinned (OpenSpec.ofChange fnExactStaleInSpec)

/-- ITS FALSE NEIGHBOUR: 'it returns false'. Refute it at one input. -/
def fnExactStaleInWrong : ChangeSpec := { name := "fnExactStaleIn", fn := fun _ => fun
  | [d] => { results := [.lit (.bool false)], args := [d] }
  | _ => none }
def FnExactStaleInWrongFalsely : Prop := fnExactStaleInRow.holds Tryz.pinned (OpenSpec.ofChange fnExactStaleInWrong)

/-- 'laws.FnExactSamePrints': WHATEVER THE INPUT: true; the input reads as it did. -/
def fnExactSamePrintsSpec : ChangeSpec := { name := "fnExactSamePrints", fn := fun _ => fun
  | [d] => { results := [.lit (.bool true)], args := [d] }
  | _ => none }
def fnExactSamePrintsRow : OpenClaim := { program := "ytpfjldlopeaniaagreat", sum := "4c35212866e526b8c7c82f6a6ffacb9565ce29fed0fcd49eb9b5eef701eefad4", func := "loop.example/g00844/laws.FnExactSamePrints", spec := "fnExactSamePrints", unfollowed := true, recurses := true, apart := false }
def FnExactSamePrintsSaid : Prop := fnExactSamePrintsRow.holds Tryz.pinned (OpenSpec.ofChange fnExactSamePrintsSpec)

/-- ITS FALSE NEIGHBOUR: 'it returns false'. Refute it at one input. -/
def fnExactSamePrintsWrong : ChangeSpec := { name := "fnExactSamePrints", fn := fun _ => fun
  | [d] => { results := [.lit (.bool false)], args := [d] }
  | _ => none }
def FnExactSamePrintsWrongFalsely : Prop := fnExactSamePrintsRow.holds Tryz.pinned (OpenSpec.ofChange fnExactSamePrintsWrong)

/-- 'laws.FnExactRecentPrints': WHATEVER THE INPUT: true; the input reads as it did. -/
def fnExactRecentPrintsSpec : ChangeSpec := { name := "fnExactRecentPrints", fn := fun _ => fun
  | [d] => { results := [.lit (.bool true)], args := [d] }
  | _ => none }
def fnExactRecentPrintsRow : OpenClaim := { program := "ytpfjldlopeaniaagreat", sum := "4c35212866e526b8c7c82f6a6ffacb9565ce29fed0fcd49eb9b5eef701eefad4", func := "loop.example/g00844/laws.FnExactRecentPrints", spec := "fnExactRecentPrints", unfollowed := true, recurses := true, apart := false }
def FnExactRecentPrintsSaid : Prop := fnExactRecentPrintsRow.holds Tryz.pinned (OpenSpec.ofChange fnExactRecentPrintsSpec)

/-- ITS FALSE NEIGHBOUR: 'it returns false'. Refute it at one input. -/
def fnExactRecentPrintsWrong : ChangeSpec := { name := "fnExactRecentPrints", fn := fun _ => fun
  | [d] => { results := [.lit (.bool false)], args := [d] }
  | _ => none }
def FnExactRecentPrintsWrongFalsely : Prop := fnExactRecentPrintsRow.holds Tryz.pinned (OpenSpec.ofChange fnExactRecentPrintsWrong)

/-- 'laws.FnExactLeastCap': WHATEVER THE INPUT: true; the input reads as it did. -/
def fnExactLeastCapSpec : ChangeSpec := { name := "fnExactLeastCap", fn := fun _ => fun
  | [d1, d2] => { results := [.lit (.bool true)], args := [d1, d2] }
  | _ => none }
def fnExactLeastCapRow : OpenClaim := { program := "ytpfjldlopeaniaagreat", sum := "4c35212866e526b8c7c82f6a6ffacb9565ce29fed0fcd49eb9b5eef701eefad4", func := "loop.example/g00844/laws.FnExactLeastCap", spec := "fnExactLeastCap", inPlace := ["slices.overlaps[loop.example/g00844/impl.Entry]"], unfollowed := true, recurses := true, apart := false }
def FnExactLeastCapSaid : Prop := fnExactLeastCapRow.holds Tryz.pinned (OpenSpec.ofChange fnExactLeastCapSpec)

/-- ITS FALSE NEIGHBOUR: 'it returns false'. Refute it at one input. -/
def fnExactLeastCapWrong : ChangeSpec := { name := "fnExactLeastCap", fn := fun _ => fun
  | [d1, d2] => { results := [.lit (.bool false)], args := [d1, d2] }
  | _ => none }
def FnExactLeastCapWrongFalsely : Prop := fnExactLeastCapRow.holds Tryz.pinned (OpenSpec.ofChange fnExactLeastCapWrong)

/-- 'laws.FnExactAskShelf': WHATEVER THE INPUT: true; the input reads as it did. -/
def fnExactAskShelfSpec : ChangeSpec := { name := "fnExactAskShelf", fn := fun _ => fun
  | [d1, d2, d3, d4] => { results := [.lit (.bool true)], args := [d1, d2, d3, d4] }
  | _ => none }
def fnExactAskShelfRow : OpenClaim := { program := "ytpfjldlopeaniaagreat", sum := "4c35212866e526b8c7c82f6a6ffacb9565ce29fed0fcd49eb9b5eef701eefad4", func := "loop.example/g00844/laws.FnExactAskShelf", spec := "fnExactAskShelf", inPlace := ["slices.overlaps[loop.example/g00844/impl.Entry]"], unfollowed := true, recurses := true, apart := false }
def FnExactAskShelfSaid : Prop := fnExactAskShelfRow.holds Tryz.pinned (OpenSpec.ofChange fnExactAskShelfSpec)

/-- ITS FALSE NEIGHBOUR: 'it returns false'. Refute it at one input. -/
def fnExactAskShelfWrong : ChangeSpec := { name := "fnExactAskShelf", fn := fun _ => fun
  | [d1, d2, d3, d4] => { results := [.lit (.bool false)], args := [d1, d2, d3, d4] }
  | _ => none }
def FnExactAskShelfWrongFalsely : Prop := fnExactAskShelfRow.holds Tryz.pinned (OpenSpec.ofChange fnExactAskShelfWrong)

/-- 'laws.FnExactModelCodes': WHATEVER THE INPUT: true; the input reads as it did. -/
def fnExactModelCodesSpec : ChangeSpec := { name := "fnExactModelCodes", fn := fun _ => fun
  | [d1, d2, d3] => { results := [.lit (.bool true)], args := [d1, d2, d3] }
  | _ => none }
def fnExactModelCodesRow : OpenClaim := { program := "ytpfjldlopeaniaagreat", sum := "4c35212866e526b8c7c82f6a6ffacb9565ce29fed0fcd49eb9b5eef701eefad4", func := "loop.example/g00844/laws.FnExactModelCodes", spec := "fnExactModelCodes", inPlace := ["slices.overlaps[loop.example/g00844/impl.Entry]"], unfollowed := true, recurses := true, apart := false }
def FnExactModelCodesSaid : Prop := fnExactModelCodesRow.holds Tryz.pinned (OpenSpec.ofChange fnExactModelCodesSpec)

/-- ITS FALSE NEIGHBOUR: 'it returns false'. Refute it at one input. -/
def fnExactModelCodesWrong : ChangeSpec := { name := "fnExactModelCodes", fn := fun _ => fun
  | [d1, d2, d3] => { results := [.lit (.bool false)], args := [d1, d2, d3] }
  | _ => none }
def FnExactModelCodesWrongFalsely : Prop := fnExactModelCodesRow.holds Tryz.pinned (OpenSpec.ofChange fnExactModelCodesWrong)

/-- 'laws.FnExactPlayShelf': WHATEVER THE INPUT: true; the input reads as it did. -/
def fnExactPlayShelfSpec : ChangeSpec := { name := "fnExactPlayShelf", fn := fun _ => fun
  | [d1, d2, d3] => { results := [.lit (.bool true)], args := [d1, d2, d3] }
  | _ => none }
def fnExactPlayShelfRow : OpenClaim := { program := "ytpfjldlopeaniaagreat", sum := "4c35212866e526b8c7c82f6a6ffacb9565ce29fed0fcd49eb9b5eef701eefad4", func := "loop.example/g00844/laws.FnExactPlayShelf", spec := "fnExactPlayShelf", inPlace := ["slices.overlaps[loop.example/g00844/impl.Entry]"], unfollowed := true, recurses := true, apart := false }
def FnExactPlayShelfSaid : Prop := fnExactPlayShelfRow.holds Tryz.pinned (OpenSpec.ofChange fnExactPlayShelfSpec)

/-- ITS FALSE NEIGHBOUR: 'it returns false'. Refute it at one input. -/
def fnExactPlayShelfWrong : ChangeSpec := { name := "fnExactPlayShelf", fn := fun _ => fun
  | [d1, d2, d3] => { results := [.lit (.bool false)], args := [d1, d2, d3] }
  | _ => none }
def FnExactPlayShelfWrongFalsely : Prop := fnExactPlayShelfRow.holds Tryz.pinned (OpenSpec.ofChange fnExactPlayShelfWrong)

/-- 'laws.FnTrusted': WHATEVER THE INPUT: true; the input reads as it did. -/
def fnTrustedSpec : ChangeSpec := { name := "fnTrusted", fn := fun _ => fun
  | [d] => { results := [.lit (.bool true)], args := [d] }
  | _ => none }
def fnTrustedRow : OpenClaim := { program := "ytpfjldlopeaniaagreat", sum := "4c35212866e526b8c7c82f6a6ffacb9565ce29fed0fcd49eb9b5eef701eefad4", func := "loop.example/g00844/laws.FnTrusted", spec := "fnTrusted", inPlace := ["slices.overlaps[loop.example/g00844/impl.Entry]"], unfollowed := true, recurses := true, apart := false }
def FnTrustedSaid : Prop := fnTrustedRow.holds Tryz.pinned (OpenSpec.ofChange fnTrustedSpec)

/-- ITS FALSE NEIGHBOUR: 'it returns false'. Refute it at one input. -/
def fnTrustedWrong : ChangeSpec := { name := "fnTrusted", fn := fun _ => fun
  | [d] => { results := [.lit (.bool false)], args := [d] }
  | _ => none }
def FnTrustedWrongFalsely : Prop := fnTrustedRow.holds Tryz.pinned (OpenSpec.ofChange fnTrustedWrong)

/-- 'laws.FnDirect': WHATEVER THE INPUT: true; the input reads as it did. -/
def fnDirectSpec : ChangeSpec := { name := "fnDirect", fn := fun _ => fun
  | [d] => { results := [.lit (.bool true)], args := [d] }
  | _ => none }
def fnDirectRow : OpenClaim := { program := "ytpfjldlopeaniaagreat", sum := "4c35212866e526b8c7c82f6a6ffacb9565ce29fed0fcd49eb9b5eef701eefad4", func := "loop.example/g00844/laws.FnDirect", spec := "fnDirect", inPlace := ["slices.overlaps[loop.example/g00844/impl.Entry]"], unfollowed := true, recurses := true, apart := false }
def FnDirectSaid : Prop := fnDirectRow.holds Tryz.pinned (OpenSpec.ofChange fnDirectSpec)

/-- ITS FALSE NEIGHBOUR: 'it returns false'. Refute it at one input. -/
def fnDirectWrong : ChangeSpec := { name := "fnDirect", fn := fun _ => fun
  | [d] => { results := [.lit (.bool false)], args := [d] }
  | _ => none }
def FnDirectWrongFalsely : Prop := fnDirectRow.holds Tryz.pinned (OpenSpec.ofChange fnDirectWrong)

/-- 'laws.FnDirects': WHATEVER THE INPUT: true; the input reads as it did. -/
def fnDirectsSpec : ChangeSpec := { name := "fnDirects", fn := fun _ => fun
  | [d] => { results := [.lit (.bool true)], args := [d] }
  | _ => none }
def fnDirectsRow : OpenClaim := { program := "ytpfjldlopeaniaagreat", sum := "4c35212866e526b8c7c82f6a6ffacb9565ce29fed0fcd49eb9b5eef701eefad4", func := "loop.example/g00844/laws.FnDirects", spec := "fnDirects", inPlace := ["slices.overlaps[loop.example/g00844/impl.Entry]"], unfollowed := true, recurses := true, apart := false }
def FnDirectsSaid : Prop := fnDirectsRow.holds Tryz.pinned (OpenSpec.ofChange fnDirectsSpec)

/-- ITS FALSE NEIGHBOUR: 'it returns false'. Refute it at one input. -/
def fnDirectsWrong : ChangeSpec := { name := "fnDirects", fn := fun _ => fun
  | [d] => { results := [.lit (.bool false)], args := [d] }
  | _ => none }
def FnDirectsWrongFalsely : Prop := fnDirectsRow.holds Tryz.pinned (OpenSpec.ofChange fnDirectsWrong)

/- THE SECOND FORM. 'bulk': how many values and letters a reading holds, each counted each time it is reached (what is shared counts as often as it is met; a slice's spare places count too). A statement '..UptoSaid' is the law's where the arguments, and the package variables that the reading takes, are together of bulk at most 1048576: NARROWER than '..Said'. Prove '..Said' where nothing that the law and all that it calls make is longer than what came in: it says more and counts as full. Else prove '..UptoSaid'. A law counts once. -/
mutual
def uptoBulk {H : Type} : DataW H → Nat
  | .lit (.string bytes) => bytes.length + 1
  | .lit _ => 1
  | .nil => 1
  | .ptr d => uptoBulk d + 1
  | .slice elems spare => uptoBulkAll elems + uptoBulkAll spare + 1
  | .agg parts => uptoBulkAll parts + 1
  | .iface _ d => uptoBulk d + 1
  | .map entries => uptoBulkEntries entries + 1
  | .held _ => 1
def uptoBulkAll {H : Type} : List (DataW H) → Nat
  | [] => 0
  | d :: r => uptoBulk d + uptoBulkAll r
def uptoBulkEntries {H : Type} : List (Lit × DataW H) → Nat
  | [] => 0
  | x :: r => uptoBulkEntry x + uptoBulkEntries r
def uptoBulkEntry {H : Type} : Lit × DataW H → Nat
  | (.string bytes, d) => bytes.length + uptoBulk d + 1
  | (_, d) => uptoBulk d + 1
 end
def uptoSmall : (H : Type) → List (DataW H) → Bool := fun _ ds => decide (uptoBulkAll ds ≤ 1048576)
def OpenSpec.upto (s : _root_.Go.ChangeSpec) : _root_.Go.OpenSpec := { _root_.Go.OpenSpec.ofChange s with cond := some uptoSmall }

/-- 'laws.FnExactStaleIn', WHERE WHAT IT READS IS OF BULK AT MOST 1048576: true; the input reads as it did. -/
def fnExactStaleInUptoRow : OpenClaim := { program := "ytpfjldlopeaniaagreat", sum := "4c35212866e526b8c7c82f6a6ffacb9565ce29fed0fcd49eb9b5eef701eefad4", func := "loop.example/g00844/laws.FnExactStaleIn", spec := "fnExactStaleIn", unfollowed := true, recurses := true, apart := false, narrowed := true }
def FnExactStaleInUptoSaid : Prop := fnExactStaleInUptoRow.holds Tryz.pinned (OpenSpec.upto fnExactStaleInSpec)

/-- 'laws.FnExactSamePrints', WHERE WHAT IT READS IS OF BULK AT MOST 1048576: true; the input reads as it did. -/
def fnExactSamePrintsUptoRow : OpenClaim := { program := "ytpfjldlopeaniaagreat", sum := "4c35212866e526b8c7c82f6a6ffacb9565ce29fed0fcd49eb9b5eef701eefad4", func := "loop.example/g00844/laws.FnExactSamePrints", spec := "fnExactSamePrints", unfollowed := true, recurses := true, apart := false, narrowed := true }
def FnExactSamePrintsUptoSaid : Prop := fnExactSamePrintsUptoRow.holds Tryz.pinned (OpenSpec.upto fnExactSamePrintsSpec)

/-- 'laws.FnExactRecentPrints', WHERE WHAT IT READS IS OF BULK AT MOST 1048576: true; the input reads as it did. -/
def fnExactRecentPrintsUptoRow : OpenClaim := { program := "ytpfjldlopeaniaagreat", sum := "4c35212866e526b8c7c82f6a6ffacb9565ce29fed0fcd49eb9b5eef701eefad4", func := "loop.example/g00844/laws.FnExactRecentPrints", spec := "fnExactRecentPrints", unfollowed := true, recurses := true, apart := false, narrowed := true }
def FnExactRecentPrintsUptoSaid : Prop := fnExactRecentPrintsUptoRow.holds Tryz.pinned (OpenSpec.upto fnExactRecentPrintsSpec)

/-- 'laws.FnExactLeastCap', WHERE WHAT IT READS IS OF BULK AT MOST 1048576: true; the input reads as it did. -/
def fnExactLeastCapUptoRow : OpenClaim := { program := "ytpfjldlopeaniaagreat", sum := "4c35212866e526b8c7c82f6a6ffacb9565ce29fed0fcd49eb9b5eef701eefad4", func := "loop.example/g00844/laws.FnExactLeastCap", spec := "fnExactLeastCap", inPlace := ["slices.overlaps[loop.example/g00844/impl.Entry]"], unfollowed := true, recurses := true, apart := false, narrowed := true }
def FnExactLeastCapUptoSaid : Prop := fnExactLeastCapUptoRow.holds Tryz.pinned (OpenSpec.upto fnExactLeastCapSpec)

/-- 'laws.FnExactAskShelf', WHERE WHAT IT READS IS OF BULK AT MOST 1048576: true; the input reads as it did. -/
def fnExactAskShelfUptoRow : OpenClaim := { program := "ytpfjldlopeaniaagreat", sum := "4c35212866e526b8c7c82f6a6ffacb9565ce29fed0fcd49eb9b5eef701eefad4", func := "loop.example/g00844/laws.FnExactAskShelf", spec := "fnExactAskShelf", inPlace := ["slices.overlaps[loop.example/g00844/impl.Entry]"], unfollowed := true, recurses := true, apart := false, narrowed := true }
def FnExactAskShelfUptoSaid : Prop := fnExactAskShelfUptoRow.holds Tryz.pinned (OpenSpec.upto fnExactAskShelfSpec)

/-- 'laws.FnExactModelCodes', WHERE WHAT IT READS IS OF BULK AT MOST 1048576: true; the input reads as it did. -/
def fnExactModelCodesUptoRow : OpenClaim := { program := "ytpfjldlopeaniaagreat", sum := "4c35212866e526b8c7c82f6a6ffacb9565ce29fed0fcd49eb9b5eef701eefad4", func := "loop.example/g00844/laws.FnExactModelCodes", spec := "fnExactModelCodes", inPlace := ["slices.overlaps[loop.example/g00844/impl.Entry]"], unfollowed := true, recurses := true, apart := false, narrowed := true }
def FnExactModelCodesUptoSaid : Prop := fnExactModelCodesUptoRow.holds Tryz.pinned (OpenSpec.upto fnExactModelCodesSpec)

/-- 'laws.FnExactPlayShelf', WHERE WHAT IT READS IS OF BULK AT MOST 1048576: true; the input reads as it did. -/
def fnExactPlayShelfUptoRow : OpenClaim := { program := "ytpfjldlopeaniaagreat", sum := "4c35212866e526b8c7c82f6a6ffacb9565ce29fed0fcd49eb9b5eef701eefad4", func := "loop.example/g00844/laws.FnExactPlayShelf", spec := "fnExactPlayShelf", inPlace := ["slices.overlaps[loop.example/g00844/impl.Entry]"], unfollowed := true, recurses := true, apart := false, narrowed := true }
def FnExactPlayShelfUptoSaid : Prop := fnExactPlayShelfUptoRow.holds Tryz.pinned (OpenSpec.upto fnExactPlayShelfSpec)

/-- 'laws.FnTrusted', WHERE WHAT IT READS IS OF BULK AT MOST 1048576: true; the input reads as it did. -/
def fnTrustedUptoRow : OpenClaim := { program := "ytpfjldlopeaniaagreat", sum := "4c35212866e526b8c7c82f6a6ffacb9565ce29fed0fcd49eb9b5eef701eefad4", func := "loop.example/g00844/laws.FnTrusted", spec := "fnTrusted", inPlace := ["slices.overlaps[loop.example/g00844/impl.Entry]"], unfollowed := true, recurses := true, apart := false, narrowed := true }
def FnTrustedUptoSaid : Prop := fnTrustedUptoRow.holds Tryz.pinned (OpenSpec.upto fnTrustedSpec)

/-- 'laws.FnDirect', WHERE WHAT IT READS IS OF BULK AT MOST 1048576: true; the input reads as it did. -/
def fnDirectUptoRow : OpenClaim := { program := "ytpfjldlopeaniaagreat", sum := "4c35212866e526b8c7c82f6a6ffacb9565ce29fed0fcd49eb9b5eef701eefad4", func := "loop.example/g00844/laws.FnDirect", spec := "fnDirect", inPlace := ["slices.overlaps[loop.example/g00844/impl.Entry]"], unfollowed := true, recurses := true, apart := false, narrowed := true }
def FnDirectUptoSaid : Prop := fnDirectUptoRow.holds Tryz.pinned (OpenSpec.upto fnDirectSpec)

/-- 'laws.FnDirects', WHERE WHAT IT READS IS OF BULK AT MOST 1048576: true; the input reads as it did. -/
def fnDirectsUptoRow : OpenClaim := { program := "ytpfjldlopeaniaagreat", sum := "4c35212866e526b8c7c82f6a6ffacb9565ce29fed0fcd49eb9b5eef701eefad4", func := "loop.example/g00844/laws.FnDirects", spec := "fnDirects", inPlace := ["slices.overlaps[loop.example/g00844/impl.Entry]"], unfollowed := true, recurses := true, apart := false, narrowed := true }
def FnDirectsUptoSaid : Prop := fnDirectsUptoRow.holds Tryz.pinned (OpenSpec.upto fnDirectsSpec)

end Rows
end Go.Proofs.YtpfjldlopeaniaaGreat
