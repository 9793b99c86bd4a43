/- The row's facts. -/
import Derived.Test.YtficimgbanaafaaGreatKst
import Derived.Test.YtficimgbanaafaaGreatLst
import Derived.Test.YtficimgbanaafaaGreatRows
import Derived.WalkKit
import Derived.ProofKit
import Derived.OpenShut
import Derived.ShutString
import Derived.ChangeOld
import Derived.Below
import Derived.SizedLaws
set_option linter.all false
namespace Go.Proofs.YtficimgbanaafaaGreat.mf
open Go.ChangeShapes Go.WideShapes Go.ChangeAt Go.RowKit
theorem facts : joinedFacts Tryz.pinned.checked.prog 3 Tryz.f3 Rows.fnStepSpec Rows.fnStepRow = true := by
 unfold joinedFacts
 rw [p_inPlace, p_unfollowed, p_recurses, p_named]
 kernel_rfl
end Go.Proofs.YtficimgbanaafaaGreat.mf
