/- The row's facts, second part. -/
import Derived.Test.YtnclgkplpjpnfaaDoorRows
import Derived.WalkKit
import Derived.ProofKit
import Derived.OpenShut
import Derived.ShutString
import Derived.ChangeOld
import Derived.Below
import Derived.Handed
import Derived.LaidLaws
import Derived.Stop.LaidErr
import Derived.SevenTiedAt
set_option linter.all false
namespace Go.Proofs.YtnclgkplpjpnfaaDoor.mf
open Go.ChangeShapes Go.WideShapes Go.ChangeAt Go.RowKit
theorem p_recurses:(Rows.fnExactParsePlanRow.recurses==Tryd.pinned.checked.prog.recurses 3)=true:=by kernel_rfl
theorem p_named:(Rows.fnExactParsePlanRow.named==Tryd.pinned.checked.prog.varsNamed 3)=true:=by kernel_rfl
end Go.Proofs.YtnclgkplpjpnfaaDoor.mf
