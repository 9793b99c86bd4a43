/- The function is found by its name. -/
import Derived.Test.YtnljlpckjkafgaaGreatDoorRows
import Derived.WalkKit
import Derived.ProofKit
import Derived.OpenShut
import Derived.ShutString
import Derived.ChangeOld
import Derived.Below
import Derived.Handed
import Derived.LaidLaws
import Derived.Stop.LaidErr
import Derived.SevenTiedAt
set_option linter.all false
namespace Go.Proofs.YtnljlpckjkafgaaGreatDoorX
theorem named:Go.Proofs.YtnljlpckjkafgaaGreatDoor.Tryz.pinned.checked.prog.funcNamed Go.Proofs.YtnljlpckjkafgaaGreatDoor.Rows.fnTextsRow.func=some 5:=by kernel_rfl
end Go.Proofs.YtnljlpckjkafgaaGreatDoorX
