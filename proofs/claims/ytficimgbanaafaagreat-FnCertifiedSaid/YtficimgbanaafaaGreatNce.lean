/- The function is found by its name. -/
import Derived.Test.YtficimgbanaafaaGreatRows
import Derived.WalkKit
import Derived.ProofKit
import Derived.OpenShut
import Derived.ShutString
import Derived.ChangeOld
import Derived.Below
import Derived.SizedLaws
set_option linter.all false
namespace Go.Proofs.YtficimgbanaafaaGreatX
theorem named : Go.Proofs.YtficimgbanaafaaGreat.Tryz.pinned.checked.prog.funcNamed Go.Proofs.YtficimgbanaafaaGreat.Rows.fnCertifiedRow.func = some 5 := by kernel_rfl
end Go.Proofs.YtficimgbanaafaaGreatX
