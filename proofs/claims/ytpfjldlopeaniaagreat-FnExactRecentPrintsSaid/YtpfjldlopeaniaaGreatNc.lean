/- The function is found by its name. -/
import Derived.Test.YtpfjldlopeaniaaGreatRows
import Derived.WalkKit
import Derived.ProofKit
import Derived.OpenShut
import Derived.ShutString
import Derived.ChangeOld
import Derived.Below
import Derived.SizedLaws
set_option linter.all false
namespace Go.Proofs.YtpfjldlopeaniaaGreatX
theorem named : Go.Proofs.YtpfjldlopeaniaaGreat.Tryz.pinned.checked.prog.funcNamed Go.Proofs.YtpfjldlopeaniaaGreat.Rows.fnExactRecentPrintsRow.func = some 5 := by kernel_rfl
end Go.Proofs.YtpfjldlopeaniaaGreatX
