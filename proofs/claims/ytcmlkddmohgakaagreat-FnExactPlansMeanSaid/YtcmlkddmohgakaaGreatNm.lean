/- The function is found by its name. -/
import Derived.Test.YtcmlkddmohgakaaGreatRows
import Derived.WalkKit
import Derived.ProofKit
import Derived.OpenShut
import Derived.ShutString
import Derived.ChangeOld
import Derived.Below
import Derived.SizedLaws
set_option linter.all false
namespace Go.Proofs.YtcmlkddmohgakaaGreatX
theorem named : Go.Proofs.YtcmlkddmohgakaaGreat.Tryz.pinned.checked.prog.funcNamed Go.Proofs.YtcmlkddmohgakaaGreat.Rows.fnExactPlansMeanRow.func = some 9 := by kernel_rfl
end Go.Proofs.YtcmlkddmohgakaaGreatX
