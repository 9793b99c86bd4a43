/- The row's facts. -/
import Derived.Test.YtficimgbanaafaaGreatKlw
import Derived.Test.YtficimgbanaafaaGreatLlw
import Derived.Test.YtficimgbanaafaaGreatRows
import Derived.WalkKit
import Derived.ProofKit
import Derived.OpenShut
import Derived.ShutString
import Derived.ChangeOld
import Derived.Below
import Derived.SizedLaws
set_option linter.all false
namespace Go.Proofs.YtficimgbanaafaaGreat.mf
open Go.ChangeShapes Go.WideShapes Go.ChangeAt Go.RowKit
theorem facts : joinedFacts Tryz.pinned.checked.prog 4 Tryz.f4 Rows.fnLowSpec Rows.fnLowRow = true := by
 unfold joinedFacts
 rw [p_inPlace, p_unfollowed, p_recurses, p_named]
 kernel_rfl
end Go.Proofs.YtficimgbanaafaaGreat.mf
