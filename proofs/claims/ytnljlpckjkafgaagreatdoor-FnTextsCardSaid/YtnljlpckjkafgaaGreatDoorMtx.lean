/- The row's facts. -/
import Derived.Test.YtnljlpckjkafgaaGreatDoorKtx
import Derived.Test.YtnljlpckjkafgaaGreatDoorLtx
import Derived.Test.YtnljlpckjkafgaaGreatDoorRows
import Derived.WalkKit
import Derived.ProofKit
import Derived.OpenShut
import Derived.ShutString
import Derived.ChangeOld
import Derived.Below
import Derived.Handed
import Derived.LaidLaws
import Derived.Stop.LaidErr
import Derived.SevenTiedAt
set_option linter.all false
namespace Go.Proofs.YtnljlpckjkafgaaGreatDoor.mf
open Go.ChangeShapes Go.WideShapes Go.ChangeAt Go.RowKit
theorem facts:joinedFacts Tryz.pinned.checked.prog 5 Tryz.f5 Rows.fnTextsSpec Rows.fnTextsRow=true:=by
 unfold joinedFacts
 rw[p_inPlace,p_unfollowed,p_recurses,p_named]
 kernel_rfl
end Go.Proofs.YtnljlpckjkafgaaGreatDoor.mf
