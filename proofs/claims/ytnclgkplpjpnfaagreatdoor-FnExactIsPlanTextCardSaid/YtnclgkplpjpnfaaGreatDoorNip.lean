/- The function is found by its name. -/
import Derived.Test.YtnclgkplpjpnfaaGreatDoorRows
import Derived.WalkKit
import Derived.ProofKit
import Derived.OpenShut
import Derived.ShutString
import Derived.ChangeOld
import Derived.Below
import Derived.Handed
import Derived.LaidLaws
import Derived.Stop.LaidErr
import Derived.SevenTiedAt
set_option linter.all false
namespace Go.Proofs.YtnclgkplpjpnfaaGreatDoorX
theorem named : Go.Proofs.YtnclgkplpjpnfaaGreatDoor.Tryz.pinned.checked.prog.funcNamed Go.Proofs.YtnclgkplpjpnfaaGreatDoor.Rows.fnExactIsPlanTextRow.func = some 4 := by kernel_rfl
end Go.Proofs.YtnclgkplpjpnfaaGreatDoorX
