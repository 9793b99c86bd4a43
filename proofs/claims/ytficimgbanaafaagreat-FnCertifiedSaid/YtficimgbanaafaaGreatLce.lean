/- The row's facts, second part. -/
import Derived.Test.YtficimgbanaafaaGreatRows
import Derived.WalkKit
import Derived.ProofKit
import Derived.OpenShut
import Derived.ShutString
import Derived.ChangeOld
import Derived.Below
import Derived.SizedLaws
set_option linter.all false
namespace Go.Proofs.YtficimgbanaafaaGreat.mf
open Go.ChangeShapes Go.WideShapes Go.ChangeAt Go.RowKit
theorem p_recurses : (Rows.fnCertifiedRow.recurses == Tryz.pinned.checked.prog.recurses 5) = true := by kernel_rfl
theorem p_named : (Rows.fnCertifiedRow.named == Tryz.pinned.checked.prog.varsNamed 5) = true := by kernel_rfl
end Go.Proofs.YtficimgbanaafaaGreat.mf
