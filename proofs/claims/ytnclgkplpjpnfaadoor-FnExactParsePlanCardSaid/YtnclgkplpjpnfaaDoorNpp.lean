/- The function is found by its name. -/
import Derived.Test.YtnclgkplpjpnfaaDoorRows
import Derived.WalkKit
import Derived.ProofKit
import Derived.OpenShut
import Derived.ShutString
import Derived.ChangeOld
import Derived.Below
import Derived.Handed
import Derived.LaidLaws
import Derived.Stop.LaidErr
import Derived.SevenTiedAt
set_option linter.all false
namespace Go.Proofs.YtnclgkplpjpnfaaDoorX
theorem named:Go.Proofs.YtnclgkplpjpnfaaDoor.Tryd.pinned.checked.prog.funcNamed Go.Proofs.YtnclgkplpjpnfaaDoor.Rows.fnExactParsePlanRow.func=some 3:=by kernel_rfl
end Go.Proofs.YtnclgkplpjpnfaaDoorX
