/- The row's facts. -/
import Derived.Test.YtnclgkplpjpnfaaGreatDoorKti
import Derived.Test.YtnclgkplpjpnfaaGreatDoorLti
import Derived.Test.YtnclgkplpjpnfaaGreatDoorRows
import Derived.WalkKit
import Derived.ProofKit
import Derived.OpenShut
import Derived.ShutString
import Derived.ChangeOld
import Derived.Below
import Derived.Handed
import Derived.LaidLaws
import Derived.Stop.LaidErr
import Derived.SevenTiedAt
set_option linter.all false
namespace Go.Proofs.YtnclgkplpjpnfaaGreatDoor.mf
open Go.ChangeShapes Go.WideShapes Go.ChangeAt Go.RowKit
theorem facts : joinedFacts Tryz.pinned.checked.prog 3 Tryz.f3 Rows.fnExactTidyPlanSpec Rows.fnExactTidyPlanRow = true := by
 unfold joinedFacts
 rw [p_inPlace, p_unfollowed, p_recurses, p_named]
 kernel_rfl
end Go.Proofs.YtnclgkplpjpnfaaGreatDoor.mf
