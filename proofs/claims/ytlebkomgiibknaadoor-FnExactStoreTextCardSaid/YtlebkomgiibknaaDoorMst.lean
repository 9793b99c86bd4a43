/- The row's facts. -/
import Derived.Test.YtlebkomgiibknaaDoorKst
import Derived.Test.YtlebkomgiibknaaDoorLst
import Derived.Test.YtlebkomgiibknaaDoorRows
import Derived.WalkKit
import Derived.ProofKit
import Derived.OpenShut
import Derived.ShutString
import Derived.ChangeOld
import Derived.Below
import Derived.Handed
import Derived.LaidLaws
import Derived.Stop.LaidErr
import Derived.SevenTiedAt
set_option linter.all false
namespace Go.Proofs.YtlebkomgiibknaaDoor.mf
open Go.ChangeShapes Go.WideShapes Go.ChangeAt Go.RowKit
theorem facts : joinedFacts Tryd.pinned.checked.prog 3 Tryd.f3 Rows.fnExactStoreTextSpec Rows.fnExactStoreTextRow = true := by
 unfold joinedFacts
 rw [p_inPlace, p_unfollowed, p_recurses, p_named]
 kernel_rfl
end Go.Proofs.YtlebkomgiibknaaDoor.mf
