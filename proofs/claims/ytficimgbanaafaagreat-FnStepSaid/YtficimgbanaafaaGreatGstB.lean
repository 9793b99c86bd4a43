/- Printed: for each function that the statement reaches, a plain function, and that it is what the program's function answers. -/
import Derived.Test.YtficimgbanaafaaGreatGstA
set_option linter.all false
namespace Go.Proofs.YtficimgbanaafaaGreatX
open Go Go.Proofs Go.Proofs.YtficimgbanaafaaGreatT
set_option maxRecDepth 100000
set_option linter.all false
theorem U_laws_at (a0 : List Int) (a1 : Int) : Le ((bif (decide (a1 < (a0.length : Int))) then
 (ix a0 a1).bind (fun z1 => some (IntKind.i64.wrap z1))
 else (remx (IntKind.i64.wrap ((IntKind.i64.wrap (a1 * 13)) + (IntKind.i64.wrap ((a0.length : Int) * 5)))) 256).bind (fun z2 => some z2))) (F_laws_at a0 a1) := callL_le (tt := tt) (FT := FT) (SP := SP) (j := 116) rfl (by kernel_rfl)
@[simp] noncomputable def J_spec_StoreFromx6 (v13 : List Int) (v14 : Int) (y16 : (Int × Int)) (f2 : (Int × (List Int) × Int) → Option (Ex (Ex (Ex (Ex (Ex (List (List (List Int))) (List (List (List Int)))) ((List (List (List Int))) × Int)) (Int × (List (List Int)))) (Int × (List (List Int)))) (Int × (List Int)))) (v18 : Int) : Option (Ex (Ex (Ex (Ex (Ex (List (List (List Int))) (List (List (List Int)))) ((List (List (List Int))) × Int)) (Int × (List (List Int)))) (Int × (List (List Int)))) (Int × (List Int))) :=
 (apx v13 ([v18])).bind (fun z19 => f2 (y16.2, z19, (IntKind.i64.wrap (v14 + 1))))
noncomputable def L_spec_StoreFromx2 (a0 : List STable) (v6 : Int) (f2 : (Int × (List Int) × Int) → Option (Ex (Ex (Ex (Ex (Ex (List (List (List Int))) (List (List (List Int)))) ((List (List (List Int))) × Int)) (Int × (List (List Int)))) (Int × (List (List Int)))) (Int × (List Int)))) (v12 : Int) (v13 : List Int) (v14 : Int) : Option (Ex (Ex (Ex (Ex (Ex (List (List (List Int))) (List (List (List Int)))) ((List (List (List Int))) × Int)) (Int × (List (List Int)))) (Int × (List (List Int)))) (Int × (List Int))) :=
 (ix a0 v6).bind (fun z15 => (bif (decide (v14 < z15.2.1)) then
 (F_spec_l13Next v12).bind (fun y16 => (remx y16.1 6).bind (fun z17 => joinK ((bif (z17 == 5) then
 some (.go (-2000000))
 else some (.go z17)))
 (fun s => J_spec_StoreFromx6 v13 v14 y16 f2 s)))
 else some (.go (v12, v13))))
@[simp] noncomputable def J_spec_StoreFromx5 (v10 : List (List Int)) (v20 : Int) (v21 : List Int) : Option (Ex (Ex (Ex (Ex (List (List (List Int))) (List (List (List Int)))) ((List (List (List Int))) × Int)) (Int × (List (List Int)))) (Int × (List (List Int)))) :=
 (apx v10 ([v21])).bind (fun z22 => some (.go (v20, z22)))
@[simp] noncomputable def J_spec_StoreFromx4 (v11 : Int) (f1 : (Int × (List (List Int)) × Int) → Option (Ex (Ex (Ex (List (List (List Int))) (List (List (List Int)))) ((List (List (List Int))) × Int)) (Int × (List (List Int))))) (v23 : Int) (v24 : List (List Int)) : Option (Ex (Ex (Ex (List (List (List Int))) (List (List (List Int)))) ((List (List (List Int))) × Int)) (Int × (List (List Int)))) :=
 f1 (v23, v24, (IntKind.i64.wrap (v11 - 1)))
noncomputable def L_spec_StoreFromx1 (a0 : List STable) (v6 : Int) (f1 : (Int × (List (List Int)) × Int) → Option (Ex (Ex (Ex (List (List (List Int))) (List (List (List Int)))) ((List (List (List Int))) × Int)) (Int × (List (List Int))))) (v9 : Int) (v10 : List (List Int)) (v11 : Int) : Option (Ex (Ex (Ex (List (List (List Int))) (List (List (List Int)))) ((List (List (List Int))) × Int)) (Int × (List (List Int)))) :=
 (bif (decide (v11 > 0)) then
 joinK (joinK (loopF (fun f s => L_spec_StoreFromx2 a0 v6 f s.1 s.2.1 s.2.2) (v9, [], 0))
 (fun s => J_spec_StoreFromx5 v10 s.1 s.2))
 (fun s => J_spec_StoreFromx4 v11 f1 s.1 s.2)
 else some (.go (v9, v10)))
@[simp] noncomputable def J_spec_StoreFromx3 (v4 : List (List (List Int))) (v25 : Int) (v26 : List (List Int)) : Option (Ex (Ex (List (List (List Int))) (List (List (List Int)))) ((List (List (List Int))) × Int)) :=
 (apx v4 ([v26])).bind (fun z27 => some (.go (z27, v25)))
@[simp] noncomputable def J_spec_StoreFromx2 (v6 : Int) (f0 : ((List (List (List Int))) × Int × Int) → Option (Ex (List (List (List Int))) (List (List (List Int))))) (v28 : List (List (List Int))) (v29 : Int) : Option (Ex (List (List (List Int))) (List (List (List Int)))) :=
 f0 (v28, v29, (IntKind.i64.wrap (v6 + 1)))
noncomputable def L_spec_StoreFromx0 (a0 : List STable) (f0 : ((List (List (List Int))) × Int × Int) → Option (Ex (List (List (List Int))) (List (List (List Int))))) (v4 : List (List (List Int))) (v5 : Int) (v6 : Int) : Option (Ex (List (List (List Int))) (List (List (List Int)))) :=
 (bif (decide (v6 < (a0.length : Int))) then
 joinK (joinK ((F_spec_l13Next v5).bind (fun y7 => (remx y7.1 5).bind (fun z8 => loopF (fun f s => L_spec_StoreFromx1 a0 v6 f s.1 s.2.1 s.2.2) (y7.2, [], z8))))
 (fun s => J_spec_StoreFromx3 v4 s.1 s.2))
 (fun s => J_spec_StoreFromx2 v6 f0 s.1 s.2)
 else some (.go v4))
@[simp] noncomputable def J_spec_StoreFromx1 (v30 : List (List (List Int))) : Option (List (List (List Int))) :=
 some v30
@[simp] noncomputable def J_spec_StoreFromx0 (a0 : List STable) (a1 : Int) (v3 : Bool) : Option (List (List (List Int))) :=
 (bif v3 then
 some ([])
 else joinK (loopF (fun f s => L_spec_StoreFromx0 a0 f s.1 s.2.1 s.2.2) ([], a1, 0))
 (fun s => J_spec_StoreFromx1 s))
theorem U_spec_StoreFrom (a0 : List STable) (a1 : Int) : Le (joinK ((F_spec_SchemaOk a0).bind (fun y1 => (bif (!y1) then
 some (.go true)
 else (F_spec_l01In a1 0 65536).bind (fun y2 => some (.go (!y2))))))
 (fun s => J_spec_StoreFromx0 a0 a1 s)) (F_spec_StoreFrom a0 a1) := callL_le (tt := tt) (FT := FT) (SP := SP) (j := 117) rfl (by kernel_rfl)
theorem U_spec_l13Next (a0x0 : Int) : Le ((remx (IntKind.i64.wrap ((IntKind.i64.wrap (a0x0 * 75)) + 74)) 65537).bind (fun z1 => some (z1, z1))) (F_spec_l13Next a0x0) := callL_le (tt := tt) (FT := FT) (SP := SP) (j := 118) rfl (by kernel_rfl)
end Go.Proofs.YtficimgbanaafaaGreatX
