/- The row's facts. -/
import Derived.Test.YtlebkomgiibknaaGreatDoorKim
import Derived.Test.YtlebkomgiibknaaGreatDoorLim
import Derived.Test.YtlebkomgiibknaaGreatDoorRows
import Derived.WalkKit
import Derived.ProofKit
import Derived.OpenShut
import Derived.ShutString
import Derived.ChangeOld
import Derived.Below
import Derived.Handed
import Derived.LaidLaws
import Derived.Stop.LaidErr
import Derived.SevenTiedAt
set_option linter.all false
namespace Go.Proofs.YtlebkomgiibknaaGreatDoor.mf
open Go.ChangeShapes Go.WideShapes Go.ChangeAt Go.RowKit
theorem facts : joinedFacts Tryz.pinned.checked.prog 4 Tryz.f4 Rows.fnImprovedSpec Rows.fnImprovedRow = true := by
 unfold joinedFacts
 rw [p_inPlace, p_unfollowed, p_recurses, p_named]
 kernel_rfl
end Go.Proofs.YtlebkomgiibknaaGreatDoor.mf
