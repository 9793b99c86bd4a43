/- The row's facts. -/
import Derived.Test.YtnlgigmgogndcaaGreatKa
import Derived.Test.YtnlgigmgogndcaaGreatLa
import Derived.Test.YtnlgigmgogndcaaGreatRows
import Derived.WalkKit
import Derived.ProofKit
import Derived.OpenShut
import Derived.ShutString
import Derived.ChangeOld
import Derived.Below
import Derived.SizedLaws
set_option linter.all false
namespace Go.Proofs.YtnlgigmgogndcaaGreat.mf
open Go.ChangeShapes Go.WideShapes Go.ChangeAt Go.RowKit
theorem facts : joinedFacts Tryz.pinned.checked.prog 3 Tryz.f3 Rows.fnExactDiffersAsBagSpec Rows.fnExactDiffersAsBagRow = true := by
  unfold joinedFacts
  rw [p_inPlace, p_unfollowed, p_recurses, p_named]
  kernel_rfl
end Go.Proofs.YtnlgigmgogndcaaGreat.mf
