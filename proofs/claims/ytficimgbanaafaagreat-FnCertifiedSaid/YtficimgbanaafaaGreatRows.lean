/-
  No cell of these rows narrows 'for every input' (looked for: loops, veiled, ifaces, maps, wideKeys, modest, calm, conditions, laid).
  DERIVED. THE GIVEN ROWS OF THIS SEAT. 3 by the template 'for every input the law returns true; each argument reads behind the call as it read before'; 0 by the template 'total and deterministic' (their statements: YtficimgbanaafaaGreatTotals.lean).
  GIVEN WITH THE SEED: the statements are not yours to turn. If you find one false, say at which input.
  Laid BY PROGRAM, IN A SANDBOX (cutbox-rows.mjs): the forced cells as the released guide's own fill.sh prints them over the translation 165456385fae6016… (all of the seat's roots in one cut). By AI agents, Wed Nov 11 2026. No macro, syntax, notation, axiom, sorry.
-/
import Derived.Test.YtficimgbanaafaaGreatChecked
import GoSem.Claim
import GoSem.ClaimJoined
import GoSem.ClaimMapViews
import Derived.JoinedTies
import Derived.KernelRfl
namespace Go.Proofs.YtficimgbanaafaaGreat
/- THE CELL 'sum', in the pinned program and in every row, IS THE sha256 OF THE DUMP (.gsa) THAT YtficimgbanaafaaGreatProg.lean LOADS. Nothing in Lean hashes anything: it is a label: what it is worth is what the hold of that sum in a sandbox is worth. -/
noncomputable def Tryz.pinned : Pinned := { name := "ytficimgbanaafaagreat", sum := "165456385fae6016d61cbd434e66f58f95ce06313f7d8c1f1af8bc33ad295df1", checked := Tryz.checked }
namespace Rows
def none {H : Type} : Left H := { results := [], args := [] }

/-- 'laws.FnStep': WHATEVER THE INPUT: true; the input reads as it did. -/
def fnStepSpec : ChangeSpec := { name := "fnStep", fn := fun _ => fun
  | [d] => { results := [.lit (.bool true)], args := [d] }
  | _ => none }
def fnStepRow : OpenClaim := { program := "ytficimgbanaafaagreat", sum := "165456385fae6016d61cbd434e66f58f95ce06313f7d8c1f1af8bc33ad295df1", func := "loop.example/g00844/laws.FnStep", spec := "fnStep", unfollowed := true, recurses := true, apart := false }
def FnStepSaid : Prop := fnStepRow.holds Tryz.pinned (OpenSpec.ofChange fnStepSpec)

/-- ITS FALSE NEIGHBOUR: 'it returns false'. Refute it at one input. -/
def fnStepWrong : ChangeSpec := { name := "fnStep", fn := fun _ => fun
  | [d] => { results := [.lit (.bool false)], args := [d] }
  | _ => none }
def FnStepWrongFalsely : Prop := fnStepRow.holds Tryz.pinned (OpenSpec.ofChange fnStepWrong)

/-- 'laws.FnLow': WHATEVER THE INPUT: true; the input reads as it did. -/
def fnLowSpec : ChangeSpec := { name := "fnLow", fn := fun _ => fun
  | [d] => { results := [.lit (.bool true)], args := [d] }
  | _ => none }
def fnLowRow : OpenClaim := { program := "ytficimgbanaafaagreat", sum := "165456385fae6016d61cbd434e66f58f95ce06313f7d8c1f1af8bc33ad295df1", func := "loop.example/g00844/laws.FnLow", spec := "fnLow", unfollowed := true, recurses := true, apart := false }
def FnLowSaid : Prop := fnLowRow.holds Tryz.pinned (OpenSpec.ofChange fnLowSpec)

/-- ITS FALSE NEIGHBOUR: 'it returns false'. Refute it at one input. -/
def fnLowWrong : ChangeSpec := { name := "fnLow", fn := fun _ => fun
  | [d] => { results := [.lit (.bool false)], args := [d] }
  | _ => none }
def FnLowWrongFalsely : Prop := fnLowRow.holds Tryz.pinned (OpenSpec.ofChange fnLowWrong)

/-- 'laws.FnCertified': WHATEVER THE INPUT: true; the input reads as it did. -/
def fnCertifiedSpec : ChangeSpec := { name := "fnCertified", fn := fun _ => fun
  | [d] => { results := [.lit (.bool true)], args := [d] }
  | _ => none }
def fnCertifiedRow : OpenClaim := { program := "ytficimgbanaafaagreat", sum := "165456385fae6016d61cbd434e66f58f95ce06313f7d8c1f1af8bc33ad295df1", func := "loop.example/g00844/laws.FnCertified", spec := "fnCertified", unfollowed := true, recurses := true, apart := false }
def FnCertifiedSaid : Prop := fnCertifiedRow.holds Tryz.pinned (OpenSpec.ofChange fnCertifiedSpec)

/-- ITS FALSE NEIGHBOUR: 'it returns false'. Refute it at one input. -/
def fnCertifiedWrong : ChangeSpec := { name := "fnCertified", fn := fun _ => fun
  | [d] => { results := [.lit (.bool false)], args := [d] }
  | _ => none }
def FnCertifiedWrongFalsely : Prop := fnCertifiedRow.holds Tryz.pinned (OpenSpec.ofChange fnCertifiedWrong)

/- THE SECOND FORM. 'bulk': how many values and letters a reading holds, each counted each time it is reached (what is shared counts as often as it is met; a slice's spare places count too). A statement '..UptoSaid' is the law's where the arguments, and the package variables that the reading takes, are together of bulk at most 1048576: NARROWER than '..Said'. Prove '..Said' where nothing that the law and all that it calls make is longer than what came in: it says more and counts as full. Else prove '..UptoSaid'. A law counts once. -/
mutual
def uptoBulk {H : Type} : DataW H → Nat
  | .lit (.string bytes) => bytes.length + 1
  | .lit _ => 1
  | .nil => 1
  | .ptr d => uptoBulk d + 1
  | .slice elems spare => uptoBulkAll elems + uptoBulkAll spare + 1
  | .agg parts => uptoBulkAll parts + 1
  | .iface _ d => uptoBulk d + 1
  | .map entries => uptoBulkEntries entries + 1
  | .held _ => 1
def uptoBulkAll {H : Type} : List (DataW H) → Nat
  | [] => 0
  | d :: r => uptoBulk d + uptoBulkAll r
def uptoBulkEntries {H : Type} : List (Lit × DataW H) → Nat
  | [] => 0
  | x :: r => uptoBulkEntry x + uptoBulkEntries r
def uptoBulkEntry {H : Type} : Lit × DataW H → Nat
  | (.string bytes, d) => bytes.length + uptoBulk d + 1
  | (_, d) => uptoBulk d + 1
 end
def uptoSmall : (H : Type) → List (DataW H) → Bool := fun _ ds => decide (uptoBulkAll ds ≤ 1048576)
def OpenSpec.upto (s : _root_.Go.ChangeSpec) : _root_.Go.OpenSpec := { _root_.Go.OpenSpec.ofChange s with cond := some uptoSmall }

/-- 'laws.FnStep', WHERE WHAT IT READS IS OF BULK AT MOST 1048576: true; the input reads as it did. -/
def fnStepUptoRow : OpenClaim := { program := "ytficimgbanaafaagreat", sum := "165456385fae6016d61cbd434e66f58f95ce06313f7d8c1f1af8bc33ad295df1", func := "loop.example/g00844/laws.FnStep", spec := "fnStep", unfollowed := true, recurses := true, apart := false, narrowed := true }
def FnStepUptoSaid : Prop := fnStepUptoRow.holds Tryz.pinned (OpenSpec.upto fnStepSpec)

/-- 'laws.FnLow', WHERE WHAT IT READS IS OF BULK AT MOST 1048576: true; the input reads as it did. -/
def fnLowUptoRow : OpenClaim := { program := "ytficimgbanaafaagreat", sum := "165456385fae6016d61cbd434e66f58f95ce06313f7d8c1f1af8bc33ad295df1", func := "loop.example/g00844/laws.FnLow", spec := "fnLow", unfollowed := true, recurses := true, apart := false, narrowed := true }
def FnLowUptoSaid : Prop := fnLowUptoRow.holds Tryz.pinned (OpenSpec.upto fnLowSpec)

/-- 'laws.FnCertified', WHERE WHAT IT READS IS OF BULK AT MOST 1048576: true; the input reads as it did. -/
def fnCertifiedUptoRow : OpenClaim := { program := "ytficimgbanaafaagreat", sum := "165456385fae6016d61cbd434e66f58f95ce06313f7d8c1f1af8bc33ad295df1", func := "loop.example/g00844/laws.FnCertified", spec := "fnCertified", unfollowed := true, recurses := true, apart := false, narrowed := true }
def FnCertifiedUptoSaid : Prop := fnCertifiedUptoRow.holds Tryz.pinned (OpenSpec.upto fnCertifiedSpec)

end Rows
end Go.Proofs.YtficimgbanaafaaGreat
