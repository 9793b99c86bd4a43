/- The row's facts. -/
import Derived.Test.YtcmlkddmohgakaaGreatKm
import Derived.Test.YtcmlkddmohgakaaGreatLm
import Derived.Test.YtcmlkddmohgakaaGreatRows
import Derived.WalkKit
import Derived.ProofKit
import Derived.OpenShut
import Derived.ShutString
import Derived.ChangeOld
import Derived.Below
import Derived.SizedLaws
set_option linter.all false
namespace Go.Proofs.YtcmlkddmohgakaaGreat.mf
open Go.ChangeShapes Go.WideShapes Go.ChangeAt Go.RowKit
theorem facts : joinedFacts Tryz.pinned.checked.prog 9 Tryz.f9 Rows.fnExactPlansMeanSpec Rows.fnExactPlansMeanRow = true := by
  unfold joinedFacts
  rw [p_inPlace, p_unfollowed, p_recurses, p_named]
  kernel_rfl
end Go.Proofs.YtcmlkddmohgakaaGreat.mf
