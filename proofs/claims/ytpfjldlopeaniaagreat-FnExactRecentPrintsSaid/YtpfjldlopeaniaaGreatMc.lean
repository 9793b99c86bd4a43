/- The row's facts. -/
import Derived.Test.YtpfjldlopeaniaaGreatKc
import Derived.Test.YtpfjldlopeaniaaGreatLc
import Derived.Test.YtpfjldlopeaniaaGreatRows
import Derived.WalkKit
import Derived.ProofKit
import Derived.OpenShut
import Derived.ShutString
import Derived.ChangeOld
import Derived.Below
import Derived.SizedLaws
set_option linter.all false
namespace Go.Proofs.YtpfjldlopeaniaaGreat.mf
open Go.ChangeShapes Go.WideShapes Go.ChangeAt Go.RowKit
theorem facts : joinedFacts Tryz.pinned.checked.prog 5 Tryz.f5 Rows.fnExactRecentPrintsSpec Rows.fnExactRecentPrintsRow = true := by
  unfold joinedFacts
  rw [p_inPlace, p_unfollowed, p_recurses, p_named]
  kernel_rfl
end Go.Proofs.YtpfjldlopeaniaaGreat.mf
