/- The row's facts, second part. -/
import Derived.Test.YtcmlkddmohgakaaGreatRows
import Derived.WalkKit
import Derived.ProofKit
import Derived.OpenShut
import Derived.ShutString
import Derived.ChangeOld
import Derived.Below
import Derived.SizedLaws
set_option linter.all false
namespace Go.Proofs.YtcmlkddmohgakaaGreat.mf
open Go.ChangeShapes Go.WideShapes Go.ChangeAt Go.RowKit
theorem p_recurses : (Rows.fnExactPlansMeanRow.recurses == Tryz.pinned.checked.prog.recurses 9) = true := by kernel_rfl
theorem p_named : (Rows.fnExactPlansMeanRow.named == Tryz.pinned.checked.prog.varsNamed 9) = true := by kernel_rfl
end Go.Proofs.YtcmlkddmohgakaaGreat.mf
