/- The row's facts, second part. -/
import Derived.Test.YtpfjldlopeaniaaGreatRows
import Derived.WalkKit
import Derived.ProofKit
import Derived.OpenShut
import Derived.ShutString
import Derived.ChangeOld
import Derived.Below
import Derived.SizedLaws
set_option linter.all false
namespace Go.Proofs.YtpfjldlopeaniaaGreat.mf
open Go.ChangeShapes Go.WideShapes Go.ChangeAt Go.RowKit
theorem p_recurses : (Rows.fnExactRecentPrintsRow.recurses == Tryz.pinned.checked.prog.recurses 5) = true := by kernel_rfl
theorem p_named : (Rows.fnExactRecentPrintsRow.named == Tryz.pinned.checked.prog.varsNamed 5) = true := by kernel_rfl
end Go.Proofs.YtpfjldlopeaniaaGreat.mf
