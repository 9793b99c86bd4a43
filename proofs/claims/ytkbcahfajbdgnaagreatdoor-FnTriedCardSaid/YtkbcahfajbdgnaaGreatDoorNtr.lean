/- The function is found by its name. -/
import Derived.Test.YtkbcahfajbdgnaaGreatDoorRows
import Derived.WalkKit
import Derived.ProofKit
import Derived.OpenShut
import Derived.ShutString
import Derived.ChangeOld
import Derived.Below
import Derived.Handed
import Derived.LaidLaws
import Derived.Stop.LaidErr
import Derived.SevenTiedAt
set_option linter.all false
namespace Go.Proofs.YtkbcahfajbdgnaaGreatDoorX
theorem named:Go.Proofs.YtkbcahfajbdgnaaGreatDoor.Tryz.pinned.checked.prog.funcNamed Go.Proofs.YtkbcahfajbdgnaaGreatDoor.Rows.fnTriedRow.func=some 3:=by kernel_rfl
end Go.Proofs.YtkbcahfajbdgnaaGreatDoorX
