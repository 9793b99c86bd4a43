/- The row's facts. -/
import Derived.Test.YtcmlkddmohgakaaGreatRows
import Derived.WalkKit
import Derived.ProofKit
import Derived.OpenShut
import Derived.ShutString
import Derived.ChangeOld
import Derived.Below
import Derived.SizedLaws
set_option linter.all false
namespace Go.Proofs.YtcmlkddmohgakaaGreat.mf
open Go.ChangeShapes Go.WideShapes Go.ChangeAt Go.RowKit
theorem facts : joinedFacts Tryz.pinned.checked.prog 6 Tryz.f6 Rows.fnExactMeansSameSpec Rows.fnExactMeansSameRow = true := by kernel_rfl
end Go.Proofs.YtcmlkddmohgakaaGreat.mf
