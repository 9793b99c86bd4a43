/- The row's facts. -/
import Derived.Test.YtpfjldlopeaniaaGreatKb
import Derived.Test.YtpfjldlopeaniaaGreatLb
import Derived.Test.YtpfjldlopeaniaaGreatRows
import Derived.WalkKit
import Derived.ProofKit
import Derived.OpenShut
import Derived.ShutString
import Derived.ChangeOld
import Derived.Below
import Derived.SizedLaws
set_option linter.all false
namespace Go.Proofs.YtpfjldlopeaniaaGreat.mf
open Go.ChangeShapes Go.WideShapes Go.ChangeAt Go.RowKit
theorem facts : joinedFacts Tryz.pinned.checked.prog 4 Tryz.f4 Rows.fnExactSamePrintsSpec Rows.fnExactSamePrintsRow = true := by
  unfold joinedFacts
  rw [p_inPlace, p_unfollowed, p_recurses, p_named]
  kernel_rfl
end Go.Proofs.YtpfjldlopeaniaaGreat.mf
