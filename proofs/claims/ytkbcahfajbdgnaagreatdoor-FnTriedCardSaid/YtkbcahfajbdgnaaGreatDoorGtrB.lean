/- Printed: for each function that the statement reaches, a plain function, and that it is what the program's function answers. -/
import Derived.Test.YtkbcahfajbdgnaaGreatDoorGtrA
set_option linter.all false
namespace Go.Proofs.YtkbcahfajbdgnaaGreatDoorX
open Go Go.Proofs Go.Proofs.YtkbcahfajbdgnaaGreatDoorT
set_option maxRecDepth 100000
set_option linter.all false
@[simp] noncomputable def J_3e (a0:List Yt11) (v2:Int) (v3:List Yt11) (v4:Bool) (v10:Bool):Option (Ex (Ex Yt22 Yt20) Yt20):=
 (bif v10 then
 (ix a0 v2).bind (fun z11=>(apx v3 ([z11])).bind (fun z12=>some (.go (z12,true))))
 else some (.go (v3,v4)))
@[simp] noncomputable def J_3d (v1:List Yt11) (v5:Int) (f1:(Yt9×Bool×Int)→Option (Ex Yt22 Yt20)) (v13:List Yt11) (v14:Bool):Option (Ex Yt22 Yt20):=
 (ix v1 v5).bind (fun z15=>(ix v1 v5).bind (fun z16=>(apx v13 ([z16])).bind (fun z17=>f1 (z17,v14,(IntKind.i64.wrap (v5+1))))))
noncomputable def L_h (a0:List Yt11) (v1:List Yt11) (v2:Int) (f1:(Yt9×Bool×Int)→Option (Ex Yt22 Yt20)) (v3:List Yt11) (v4:Bool) (v5:Int):Option (Ex Yt22 Yt20):=
 (bif (decide (v5<(v1.length:Int))) then
 joinK (joinK ((bif (!v4) then
 (ix a0 v2).bind (fun z6=>(ix v1 v5).bind (fun z7=>(ix v1 v5).bind (fun z8=>(F_3k z6 z8).bind (fun y9=>some (.go y9)))))
 else some (.go false)))
 (fun s=>J_3e a0 v2 v3 v4 s))
 (fun s=>J_3d v1 v5 f1 s.1 s.2)
 else some (.go (v3,v4)))
@[simp] noncomputable def J_62 (v22:List Yt11):Option Yt22:=
 some (.go v22)
@[simp] noncomputable def J_3c (a0:List Yt11) (v2:Int) (v18:List Yt11) (v19:Bool):Option Yt22:=
 joinK ((bif (!v19) then
 (ix a0 v2).bind (fun z20=>(apx v18 ([z20])).bind (fun z21=>some (.go z21)))
 else some (.go v18)))
 (fun s=>J_62 s)
@[simp] noncomputable def J_61 (v2:Int) (f0:Yt21→Option Yt31) (v23:List Yt11):Option Yt31:=
 f0 (v23,(IntKind.i64.wrap (v2+1)))
noncomputable def L_1m (a0:List Yt11) (f0:Yt21→Option Yt31) (v1:List Yt11) (v2:Int):Option Yt31:=
 (bif (decide (v2<(a0.length:Int))) then
 joinK (joinK (loopF (fun f s=>L_h a0 v1 v2 f s.1 s.2.1 s.2.2) ([],false,0))
 (fun s=>J_3c a0 v2 s.1 s.2))
 (fun s=>J_61 v2 f0 s)
 else some (.go v1))
@[simp] noncomputable def J_3b (v24:List Yt11):Option Yt9:=
 (F_1w v24).bind (fun y25=>some y25)
theorem U_2z (a0:List Yt11):Le ((bif (decide ((a0.length:Int)>200)) then
 some ([])
 else joinK (loopF (fun f s=>L_1m a0 f s.1 s.2) ([],0))
 (fun s=>J_3b s))) (F_1n a0):=callL_le (tt:=tt) (FT:=FT) (SP:=SP) (j:=133) rfl (by kernel_rfl)
@[simp] noncomputable def J_34 (a0:List Int) (a1:List Int) (v1:Bool) (v2:Int) (f0:Yt29→Option Yt16) (v3:Bool):Option Yt16:=
 (bif v3 then
 (ix a0 v2).bind (fun z4=>(ix a1 v2).bind (fun z5=>(bif (z4 != z5) then
 (ix a0 v2).bind (fun z6=>(ix a1 v2).bind (fun z7=>some (.ret (decide (z6<z7)))))
 else f0 (v1,(IntKind.i64.wrap (v2+1))))))
 else some (.go v1))
noncomputable def L_f (a0:List Int) (a1:List Int) (f0:Yt29→Option Yt16) (v1:Bool) (v2:Int):Option Yt16:=
 joinK ((bif (decide (v2<(a0.length:Int))) then
 some (.go (decide (v2<(a1.length:Int))))
 else some (.go false)))
 (fun s=>J_34 a0 a1 v1 v2 f0 s)
@[simp] noncomputable def J_5u (a0:List Int) (a1:List Int) (v8:Bool):Option Bool:=
 some (decide ((a0.length:Int)<(a1.length:Int)))
theorem U_2r (a0:List Int) (a1:List Int):Le (joinK (loopF (fun f s=>L_f a0 a1 f s.1 s.2) (false,0))
 (fun s=>J_5u a0 a1 s)) (F_3k a0 a1):=callL_le (tt:=tt) (FT:=FT) (SP:=SP) (j:=134) rfl (by kernel_rfl)
noncomputable def L_1j (a0:List Yt11) (a1:List Yt11) (f0:Yt29→Option Yt16) (v1:Bool) (v2:Int):Option Yt16:=
 (bif (decide (v2<(a0.length:Int))) then
 (ix a0 v2).bind (fun z3=>(ix a1 v2).bind (fun z4=>(F_1s z3 z4).bind (fun y5=>(bif (!y5) then
 some (.ret false)
 else f0 (v1,(IntKind.i64.wrap (v2+1)))))))
 else some (.go v1))
@[simp] noncomputable def J_39 (v6:Bool):Option Bool:=
 some true
theorem U_2w (a0:List Yt11) (a1:List Yt11):Le ((bif ((a0.length:Int) != (a1.length:Int)) then
 some false
 else joinK (loopF (fun f s=>L_1j a0 a1 f s.1 s.2) (false,0))
 (fun s=>J_39 s))) (F_y a0 a1):=callL_le (tt:=tt) (FT:=FT) (SP:=SP) (j:=135) rfl (by kernel_rfl)
theorem U_2g (a0:List STable) (a1:List SNode) (a2:List SNode) (a3:Int):Le ((F_13 a0 a1 a2 a3 true).bind (fun y1=>some y1)) (F_3c a0 a1 a2 a3):=callL_le (tt:=tt) (FT:=FT) (SP:=SP) (j:=136) rfl (by kernel_rfl)
@[simp] noncomputable def J_20 (a0:List Int) (v1:List Int) (v2:Int) (f0:Yt45→Option Yt33) (v3:Bool):Option Yt33:=
 (bif v3 then
 (ix a0 v2).bind (fun z4=>(apx v1 ([z4])).bind (fun z5=>f0 (z5,(IntKind.i64.wrap (v2+1)))))
 else some (.go v1))
noncomputable def L_2w (a0:List Int) (f0:Yt45→Option Yt33) (v1:List Int) (v2:Int):Option Yt33:=
 joinK ((bif (decide (v2<(a0.length:Int))) then
 some (.go (decide (v2<3000)))
 else some (.go false)))
 (fun s=>J_20 a0 v1 v2 f0 s)
@[simp] noncomputable def J_58 (v6:List Int):Option Yt11:=
 some v6
theorem U_1k (a0:List Int) (a1:Int):Le (joinK (loopF (fun f s=>L_2w a0 f s.1 s.2) ([(IntKind.u8.wrap a1)],0))
 (fun s=>J_58 s)) (F_2n a0 a1):=callL_le (tt:=tt) (FT:=FT) (SP:=SP) (j:=137) rfl (by kernel_rfl)
theorem U_2j (a0:List Int):Le ((F_1q a0).bind (fun y1=>(F_1t y1.1 y1.2.1 y1.2.2).bind (fun y2=>(F_49 y2.2.1 y2.2.2.1 y2.2.2.2).bind (fun y3=>some (y2.1,y3.1))))) (F_3f a0):=callL_le (tt:=tt) (FT:=FT) (SP:=SP) (j:=138) rfl (by kernel_rfl)
theorem U_48 (a0x0:List Int) (a0x1:Int) (a0x2:Int):Le ((F_0 a0x0 a0x1 a0x2 200).bind (fun y1=>(F_0 y1.2.1 y1.2.2.1 y1.2.2.2 200).bind (fun y2=>(F_5 y2.2.1 y2.2.2.1 y2.2.2.2 ([y1.1,y2.1,65536,65537,(-1)])).bind (fun y3=>some (y3.1,y3.2.1,y3.2.2.1,y3.2.2.2))))) (F_49 a0x0 a0x1 a0x2):=callL_le (tt:=tt) (FT:=FT) (SP:=SP) (j:=139) rfl (by kernel_rfl)
noncomputable def L_2i (z7:List Yt11) (f1:Yt51→Option (Ex (Ex Yt18 ByteArray) ByteArray)) (v8:ByteArray) (v9:Int):Option (Ex (Ex Yt18 ByteArray) ByteArray):=
 (bif (decide (v9<(z7.length:Int))) then
 (ix z7 v9).bind (fun z10=>(F_18 z10).bind (fun y11=>(addx (⟨#[32]⟩:ByteArray) y11).bind (fun z12=>(addx v8 z12).bind (fun z13=>f1 (z13,(IntKind.i64.wrap (v9+1)))))))
 else some (.go v8))
@[simp] noncomputable def J_1h (v14:ByteArray):Option (Ex Yt18 ByteArray):=
 (addx v14 (⟨#[10]⟩:ByteArray)).bind (fun z15=>some (.go z15))
@[simp] noncomputable def J_1g (v3:Int) (f0:Yt51→Option Yt18) (v16:ByteArray):Option Yt18:=
 f0 (v16,(IntKind.i64.wrap (v3+1)))
noncomputable def L_2h (a0:List STable) (a1:List Yt9) (f0:Yt51→Option Yt18) (v2:ByteArray) (v3:Int):Option Yt18:=
 (bif (decide (v3<(a0.length:Int))) then
 joinK ((ix a0 v3).bind (fun z4=>(addx z4.1 (⟨#[58]⟩:ByteArray)).bind (fun z5=>(addx v2 z5).bind (fun z6=>joinK ((ix a1 v3).bind (fun z7=>loopF (fun f s=>L_2i z7 f s.1 s.2) (z6,0)))
 (fun s=>J_1h s)))))
 (fun s=>J_1g v3 f0 s)
 else some (.go v2))
@[simp] noncomputable def J_4z (v17:ByteArray):Option ByteArray:=
 some v17
theorem U_y (a0:List STable) (a1:List Yt9):Le ((F_j a0 a1).bind (fun y1=>(bif (!y1) then
 some ByteArray.empty
 else joinK (loopF (fun f s=>L_2h a0 a1 f s.1 s.2) (ByteArray.empty,0))
 (fun s=>J_4z s)))) (F_2b a0 a1):=callL_le (tt:=tt) (FT:=FT) (SP:=SP) (j:=140) rfl (by kernel_rfl)
@[simp] noncomputable def J_a (v2:Int) (f0:((List ByteArray)×Int)→Option (Ex ByteArray (List ByteArray))) (v7:List ByteArray):Option (Ex ByteArray (List ByteArray)):=
 f0 (v7,(IntKind.i64.wrap (v2+1)))
noncomputable def L_m (a0:List Int) (f0:((List ByteArray)×Int)→Option (Ex ByteArray (List ByteArray))) (v1:List ByteArray) (v2:Int):Option (Ex ByteArray (List ByteArray)):=
 (bif (decide (v2<(a0.length:Int))) then
 joinK ((ix a0 v2).bind (fun z3=>(bif (z3==(-2000000)) then
 (apx v1 ([(⟨#[45]⟩:ByteArray)])).bind (fun z4=>some (.go z4))
 else(F_2j z3).bind (fun y5=>(apx v1 ([y5])).bind (fun z6=>some (.go z6))))))
 (fun s=>J_a v2 f0 s)
 else some (.go v1))
@[simp] noncomputable def J_12 (v8:List ByteArray):Option ByteArray:=
 (F_4b v8 (⟨#[44]⟩:ByteArray)).bind (fun y9=>some y9.1)
theorem U_o (a0:List Int):Le ((bif ((a0.length:Int)==0) then
 some (⟨#[40,41]⟩:ByteArray)
 else joinK (loopF (fun f s=>L_m a0 f s.1 s.2) ([],0))
 (fun s=>J_12 s))) (F_18 a0):=callL_le (tt:=tt) (FT:=FT) (SP:=SP) (j:=141) rfl (by kernel_rfl)
theorem U_1d (a0:Int):Le ((F_4a a0).bind (fun y1=>some y1)) (F_2j a0):=callL_le (tt:=tt) (FT:=FT) (SP:=SP) (j:=142) rfl (by kernel_rfl)
theorem U_4a (a0:Int):Le (itoaF a0) (F_4a a0):=callL_sp (tt:=tt) (FT:=FT) (SP:=SP) (j:=143) (v:=(show InVals (FT 143) from((a0,()),(())))) (f:=fun v=>itoaF v.1.1) rfl
theorem U_4b (a0:List ByteArray) (a1:ByteArray):Le (joinF a0 a1) (F_4b a0 a1):=callL_sp (tt:=tt) (FT:=FT) (SP:=SP) (j:=144) (v:=(show InVals (FT 144) from((a0,a1,()),(())))) (f:=fun v=>joinF v.1.1 v.1.2.1) rfl
noncomputable def L_2u (a1:List Yt9) (v3:Int) (f1:Yt51→Option (Ex (Ex Yt18 ByteArray) ByteArray)) (v7:ByteArray) (v8:Int):Option (Ex (Ex Yt18 ByteArray) ByteArray):=
 (ix a1 v3).bind (fun z9=>(bif (decide (v8<(z9.length:Int))) then
 (addx v7 (⟨#[32]⟩:ByteArray)).bind (fun z10=>(ix a1 v3).bind (fun z11=>(ix z11 v8).bind (fun z12=>(F_1m z12).bind (fun y13=>(addx z10 y13).bind (fun z14=>f1 (z14,(IntKind.i64.wrap (v8+1))))))))
 else some (.go v7)))
@[simp] noncomputable def J_3s (v15:ByteArray):Option (Ex Yt18 ByteArray):=
 (addx v15 (⟨#[10]⟩:ByteArray)).bind (fun z16=>some (.go z16))
@[simp] noncomputable def J_3r (v3:Int) (f0:Yt51→Option Yt18) (v17:ByteArray):Option Yt18:=
 f0 (v17,(IntKind.i64.wrap (v3+1)))
noncomputable def L_2t (a0:List STable) (a1:List Yt9) (f0:Yt51→Option Yt18) (v2:ByteArray) (v3:Int):Option Yt18:=
 (bif (decide (v3<(a0.length:Int))) then
 joinK ((ix a0 v3).bind (fun z4=>(addx v2 z4.1).bind (fun z5=>(addx z5 (⟨#[58]⟩:ByteArray)).bind (fun z6=>joinK (loopF (fun f s=>L_2u a1 v3 f s.1 s.2) (z6,0))
 (fun s=>J_3s s)))))
 (fun s=>J_3r v3 f0 s)
 else some (.go v2))
@[simp] noncomputable def J_65 (v18:ByteArray):Option ByteArray:=
 some v18
theorem U_33 (a0:List STable) (a1:List Yt9):Le ((F_1o a0 a1).bind (fun y1=>(bif (!y1) then
 some ByteArray.empty
 else joinK (loopF (fun f s=>L_2t a0 a1 f s.1 s.2) (ByteArray.empty,0))
 (fun s=>J_65 s)))) (F_3p a0 a1):=callL_le (tt:=tt) (FT:=FT) (SP:=SP) (j:=145) rfl (by kernel_rfl)
@[simp] noncomputable def J_1 (a0:List Int) (v2:Int) (v4:ByteArray):Option (Ex Yt18 ByteArray):=
 (ix a0 v2).bind (fun z5=>(bif (z5==(-2000000)) then
 (addx v4 (⟨#[45]⟩:ByteArray)).bind (fun z6=>some (.go z6))
 else(ix a0 v2).bind (fun z7=>(F_10 z7).bind (fun y8=>(addx v4 y8).bind (fun z9=>some (.go z9))))))
@[simp] noncomputable def J_35 (v2:Int) (f0:Yt51→Option Yt18) (v10:ByteArray):Option Yt18:=
 f0 (v10,(IntKind.i64.wrap (v2+1)))
noncomputable def L_2r (a0:List Int) (f0:Yt51→Option Yt18) (v1:ByteArray) (v2:Int):Option Yt18:=
 (bif (decide (v2<(a0.length:Int))) then
 joinK (joinK ((bif (decide (v2>0)) then
 (addx v1 (⟨#[44]⟩:ByteArray)).bind (fun z3=>some (.go z3))
 else some (.go v1)))
 (fun s=>J_1 a0 v2 s))
 (fun s=>J_35 v2 f0 s)
 else some (.go v1))
@[simp] noncomputable def J_5v (v11:ByteArray):Option ByteArray:=
 some v11
theorem U_2s (a0:List Int):Le ((bif ((a0.length:Int)==0) then
 some (⟨#[40,41]⟩:ByteArray)
 else joinK (loopF (fun f s=>L_2r a0 f s.1 s.2) (ByteArray.empty,0))
 (fun s=>J_5v s))) (F_1m a0):=callL_le (tt:=tt) (FT:=FT) (SP:=SP) (j:=146) rfl (by kernel_rfl)
noncomputable def L_2f (a0:List Yt9) (f0:Yt26→Option Yt23) (v1:Int) (v2:Int):Option Yt23:=
 (bif (decide (v2<(a0.length:Int))) then
 (ix a0 v2).bind (fun z3=>f0 ((IntKind.i64.wrap (v1+(z3.length:Int))),(IntKind.i64.wrap (v2+1))))
 else some (.go v1))
@[simp] noncomputable def J_4v (v4:Int):Option Int:=
 some v4
theorem U_c (a0:List Yt9):Le (joinK (loopF (fun f s=>L_2f a0 f s.1 s.2) (0,0))
 (fun s=>J_4v s)) (F_16 a0):=callL_le (tt:=tt) (FT:=FT) (SP:=SP) (j:=147) rfl (by kernel_rfl)
noncomputable def L_n (a0:List STable) (a1:List SNode) (a2:Int) (f0:Yt26→Option Yt23) (v2:Int) (v3:Int):Option Yt23:=
 (bif (decide (v3<a2)) then
 (F_8 a0 a1 v3).bind (fun y4=>f0 ((IntKind.i64.wrap (v2+(mmx true 0 y4))),(IntKind.i64.wrap (v3+1))))
 else some (.go v2))
@[simp] noncomputable def J_13 (v5:Int):Option Int:=
 some v5
theorem U_q (a0:List STable) (a1:List SNode) (a2:Int):Le ((F_3 a2 0 50).bind (fun y1=>(bif (!y1) then
 some (-1)
 else joinK (loopF (fun f s=>L_n a0 a1 a2 f s.1 s.2) (0,0))
 (fun s=>J_13 s)))) (F_28 a0 a1 a2):=callL_le (tt:=tt) (FT:=FT) (SP:=SP) (j:=148) rfl (by kernel_rfl)
theorem U_p (a0:List STable) (a1:List SNode) (a2:Int):Le ((F_d a0 a2).bind (fun y1=>(F_7 a0 y1 a1).bind (fun y2=>(bif (y2.2 != 0) then
 some (-1)
 else some (y2.1.length:Int))))) (F_8 a0 a1 a2):=callL_le (tt:=tt) (FT:=FT) (SP:=SP) (j:=149) rfl (by kernel_rfl)
noncomputable def L_l (a0:List STable) (a1:List SNode) (a2:Int) (f0:Yt26→Option Yt23) (v2:Int) (v3:Int):Option Yt23:=
 (bif (decide (v3<a2)) then
 (F_8 a0 a1 v3).bind (fun y4=>f0 ((mmx true v2 y4),(IntKind.i64.wrap (v3+1))))
 else some (.go v2))
@[simp] noncomputable def J_s (v5:Int):Option Int:=
 some v5
theorem U_i (a0:List STable) (a1:List SNode) (a2:Int):Le ((F_3 a2 0 50).bind (fun y1=>(bif (!y1) then
 some (-1)
 else joinK (loopF (fun f s=>L_l a0 a1 a2 f s.1 s.2) ((-1),0))
 (fun s=>J_s s)))) (F_22 a0 a1 a2):=callL_le (tt:=tt) (FT:=FT) (SP:=SP) (j:=150) rfl (by kernel_rfl)
@[simp] noncomputable def J_37 (v3:Int) (f0:Yt26→Option Yt23) (v5:Int):Option Yt23:=
 f0 (v5,(IntKind.i64.wrap (v3+1)))
noncomputable def L_1i (a0:List STable) (a1:List SNode) (a2:Int) (f0:Yt26→Option Yt23) (v2:Int) (v3:Int):Option Yt23:=
 (bif (decide (v3<a2)) then
 joinK ((F_a a0 a1 v3).bind (fun y4=>(bif (decide (y4>0)) then
 some (.go (IntKind.i64.wrap (v2+y4)))
 else some (.go v2))))
 (fun s=>J_37 v3 f0 s)
 else some (.go v2))
@[simp] noncomputable def J_36 (v6:Int):Option Int:=
 some v6
theorem U_2u (a0:List STable) (a1:List SNode) (a2:Int):Le ((F_2 a2 0 50).bind (fun y1=>(bif (!y1) then
 some (-1)
 else joinK (loopF (fun f s=>L_1i a0 a1 a2 f s.1 s.2) (0,0))
 (fun s=>J_36 s)))) (F_3l a0 a1 a2):=callL_le (tt:=tt) (FT:=FT) (SP:=SP) (j:=151) rfl (by kernel_rfl)
theorem U_2t (a0:List STable) (a1:List SNode) (a2:Int):Le ((F_r a0 a2).bind (fun y1=>(F_o a0 y1 a1).bind (fun y2=>(bif (y2.2 != 0) then
 some (-1)
 else some (y2.1.length:Int))))) (F_a a0 a1 a2):=callL_le (tt:=tt) (FT:=FT) (SP:=SP) (j:=152) rfl (by kernel_rfl)
@[simp] noncomputable def J_30 (v3:Int) (f0:Yt26→Option Yt23) (v5:Int):Option Yt23:=
 f0 (v5,(IntKind.i64.wrap (v3+1)))
noncomputable def L_1e (a0:List STable) (a1:List SNode) (a2:Int) (f0:Yt26→Option Yt23) (v2:Int) (v3:Int):Option Yt23:=
 (bif (decide (v3<a2)) then
 joinK ((F_a a0 a1 v3).bind (fun y4=>(bif (decide (y4>v2)) then
 some (.go y4)
 else some (.go v2))))
 (fun s=>J_30 v3 f0 s)
 else some (.go v2))
@[simp] noncomputable def J_2z (v6:Int):Option Int:=
 some v6
theorem U_2n (a0:List STable) (a1:List SNode) (a2:Int):Le ((F_2 a2 0 50).bind (fun y1=>(bif (!y1) then
 some (-1)
 else joinK (loopF (fun f s=>L_1e a0 a1 a2 f s.1 s.2) ((-1),0))
 (fun s=>J_2z s)))) (F_3h a0 a1 a2):=callL_le (tt:=tt) (FT:=FT) (SP:=SP) (j:=153) rfl (by kernel_rfl)
theorem U_h (a0:List STable) (a1:List SNode) (a2:Int):Le ((F_d a0 a2).bind (fun y1=>(F_7 a0 y1 a1).bind (fun y2=>(bif ((y2.1.length:Int)==0) then
 some ByteArray.empty
 else(ix y2.1 0).bind (fun z3=>(F_18 z3).bind (fun y4=>some y4)))))) (F_i a0 a1 a2):=callL_le (tt:=tt) (FT:=FT) (SP:=SP) (j:=154) rfl (by kernel_rfl)
@[simp] noncomputable def J_2x (y2:Yt21) (v3:Bool):Option ByteArray:=
 (bif v3 then
 some ByteArray.empty
 else(ix y2.1 0).bind (fun z4=>(F_1m z4).bind (fun y5=>some y5)))
theorem U_2l (a0:List STable) (a1:List SNode) (a2:Int):Le ((F_r a0 a2).bind (fun y1=>(F_o a0 y1 a1).bind (fun y2=>joinK ((bif (y2.2 != 0) then
 some (.go true)
 else some (.go ((y2.1.length:Int)==0))))
 (fun s=>J_2x y2 s)))) (F_p a0 a1 a2):=callL_le (tt:=tt) (FT:=FT) (SP:=SP) (j:=155) rfl (by kernel_rfl)
end Go.Proofs.YtkbcahfajbdgnaaGreatDoorX
