/- The row's facts, second part. -/
import Derived.Test.YtnlgigmgogndcaaGreatRows
import Derived.WalkKit
import Derived.ProofKit
import Derived.OpenShut
import Derived.ShutString
import Derived.ChangeOld
import Derived.Below
import Derived.SizedLaws
set_option linter.all false
namespace Go.Proofs.YtnlgigmgogndcaaGreat.mf
open Go.ChangeShapes Go.WideShapes Go.ChangeAt Go.RowKit
theorem p_recurses : (Rows.fnExactDiffersAsBagRow.recurses == Tryz.pinned.checked.prog.recurses 3) = true := by kernel_rfl
theorem p_named : (Rows.fnExactDiffersAsBagRow.named == Tryz.pinned.checked.prog.varsNamed 3) = true := by kernel_rfl
end Go.Proofs.YtnlgigmgogndcaaGreat.mf
