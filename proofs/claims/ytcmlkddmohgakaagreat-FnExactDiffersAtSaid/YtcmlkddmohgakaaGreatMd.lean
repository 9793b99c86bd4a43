/- The row's facts. -/
import Derived.Test.YtcmlkddmohgakaaGreatKd
import Derived.Test.YtcmlkddmohgakaaGreatLd
import Derived.Test.YtcmlkddmohgakaaGreatRows
import Derived.WalkKit
import Derived.ProofKit
import Derived.OpenShut
import Derived.ShutString
import Derived.ChangeOld
import Derived.Below
import Derived.SizedLaws
set_option linter.all false
namespace Go.Proofs.YtcmlkddmohgakaaGreat.mf
open Go.ChangeShapes Go.WideShapes Go.ChangeAt Go.RowKit
theorem facts : joinedFacts Tryz.pinned.checked.prog 7 Tryz.f7 Rows.fnExactDiffersAtSpec Rows.fnExactDiffersAtRow = true := by
  unfold joinedFacts
  rw [p_inPlace, p_unfollowed, p_recurses, p_named]
  kernel_rfl
end Go.Proofs.YtcmlkddmohgakaaGreat.mf
