/- The function is found by its name. -/
import Derived.Test.YtnlgigmgogndcaaGreatRows
import Derived.WalkKit
import Derived.ProofKit
import Derived.OpenShut
import Derived.ShutString
import Derived.ChangeOld
import Derived.Below
import Derived.SizedLaws
set_option linter.all false
namespace Go.Proofs.YtnlgigmgogndcaaGreatX
theorem named : Go.Proofs.YtnlgigmgogndcaaGreat.Tryz.pinned.checked.prog.funcNamed Go.Proofs.YtnlgigmgogndcaaGreat.Rows.fnExactDiffersAsBagRow.func = some 3 := by kernel_rfl
end Go.Proofs.YtnlgigmgogndcaaGreatX
