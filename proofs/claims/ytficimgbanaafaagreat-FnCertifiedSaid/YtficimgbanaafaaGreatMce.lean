/- The row's facts. -/
import Derived.Test.YtficimgbanaafaaGreatKce
import Derived.Test.YtficimgbanaafaaGreatLce
import Derived.Test.YtficimgbanaafaaGreatRows
import Derived.WalkKit
import Derived.ProofKit
import Derived.OpenShut
import Derived.ShutString
import Derived.ChangeOld
import Derived.Below
import Derived.SizedLaws
set_option linter.all false
namespace Go.Proofs.YtficimgbanaafaaGreat.mf
open Go.ChangeShapes Go.WideShapes Go.ChangeAt Go.RowKit
theorem facts : joinedFacts Tryz.pinned.checked.prog 5 Tryz.f5 Rows.fnCertifiedSpec Rows.fnCertifiedRow = true := by
 unfold joinedFacts
 rw [p_inPlace, p_unfollowed, p_recurses, p_named]
 kernel_rfl
end Go.Proofs.YtficimgbanaafaaGreat.mf
