/- The row's facts. -/
import Derived.Test.YtnclgkplpjpnfaaDoorKpp
import Derived.Test.YtnclgkplpjpnfaaDoorLpp
import Derived.Test.YtnclgkplpjpnfaaDoorRows
import Derived.WalkKit
import Derived.ProofKit
import Derived.OpenShut
import Derived.ShutString
import Derived.ChangeOld
import Derived.Below
import Derived.Handed
import Derived.LaidLaws
import Derived.Stop.LaidErr
import Derived.SevenTiedAt
set_option linter.all false
namespace Go.Proofs.YtnclgkplpjpnfaaDoor.mf
open Go.ChangeShapes Go.WideShapes Go.ChangeAt Go.RowKit
theorem facts:joinedFacts Tryd.pinned.checked.prog 3 Tryd.f3 Rows.fnExactParsePlanSpec Rows.fnExactParsePlanRow=true:=by
 unfold joinedFacts
 rw[p_inPlace,p_unfollowed,p_recurses,p_named]
 kernel_rfl
end Go.Proofs.YtnclgkplpjpnfaaDoor.mf
