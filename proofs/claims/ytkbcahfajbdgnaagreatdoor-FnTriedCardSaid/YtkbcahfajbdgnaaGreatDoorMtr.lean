/- The row's facts. -/
import Derived.Test.YtkbcahfajbdgnaaGreatDoorKtr
import Derived.Test.YtkbcahfajbdgnaaGreatDoorLtr
import Derived.Test.YtkbcahfajbdgnaaGreatDoorRows
import Derived.WalkKit
import Derived.ProofKit
import Derived.OpenShut
import Derived.ShutString
import Derived.ChangeOld
import Derived.Below
import Derived.Handed
import Derived.LaidLaws
import Derived.Stop.LaidErr
import Derived.SevenTiedAt
set_option linter.all false
namespace Go.Proofs.YtkbcahfajbdgnaaGreatDoor.mf
open Go.ChangeShapes Go.WideShapes Go.ChangeAt Go.RowKit
theorem facts:joinedFacts Tryz.pinned.checked.prog 3 Tryz.f3 Rows.fnTriedSpec Rows.fnTriedRow=true:=by
 unfold joinedFacts
 rw[p_inPlace,p_unfollowed,p_recurses,p_named]
 kernel_rfl
end Go.Proofs.YtkbcahfajbdgnaaGreatDoor.mf
