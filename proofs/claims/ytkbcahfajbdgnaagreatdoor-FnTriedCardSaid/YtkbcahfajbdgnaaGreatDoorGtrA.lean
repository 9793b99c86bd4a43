/- Printed: for each function that the statement reaches, a plain function, and that it is what the program's function answers. -/
import Derived.Test.YtkbcahfajbdgnaaGreatDoorProg
import Derived.Test.YtkbcahfajbdgnaaGreatDoorTrtrD
set_option linter.all false
namespace Go.Proofs.YtkbcahfajbdgnaaGreatDoorX
open Go Go.Proofs Go.Proofs.YtkbcahfajbdgnaaGreatDoorT
set_option maxRecDepth 100000
set_option linter.all false
abbrev STable:=ByteArray×Int×Unit
abbrev SNode:=Int×ByteArray×Int×Int×Int×Bool×(List Int)×Unit
abbrev Sl01Cur:=(List Int)×Int×Int×Unit
abbrev SStep:=Int×Int×Unit
abbrev Sstream:=Int×Unit
abbrev Yv1:Ty:=.int .i64
abbrev Yv3:Ty:=.sl 64 (.pr .str (.pr Yv1 .un))
abbrev Yv4:Ty:=.sl 3 Yv1
abbrev Yv0:Ty:=.pr Yv1 (.pr .str (.pr Yv1 (.pr Yv1 (.pr Yv1 (.pr .bool (.pr Yv4 .un))))))
abbrev Yv2:Ty:=.sl 49 Yv4
abbrev Yv5:Ty:=.sl 51 Yv0
abbrev Yv6:Ty:=.sl 5 (.int .u8)
abbrev Yv7:Ty:=.pr Yv1 (.pr Yv1 .un)
abbrev Yv8:Ty:=.sl 65 Yv2
abbrev Yt11:Type:=List Int
abbrev Yt9:Type:=List Yt11
abbrev Yt10:Type:=Yt9×Int×ByteArray×Int×Int×Int×Bool×Yt11
abbrev Yt14:Type:=Int×Yt9×Int×ByteArray×Int×Int×Int×Bool×Yt11
abbrev Yt15:Type:=(List SNode)×Yt11×Int×Int
abbrev Yt16:Type:=Ex Bool Bool
abbrev Yt17:Type:=(List SNode)×Int×Yt11×Int×Int
abbrev Yt18:Type:=Ex ByteArray ByteArray
abbrev Yt19:Type:=Int×Int×ByteArray×Int×Int×Int×Bool×Yt11×Yt11×Int×Int
abbrev Yt20:Type:=Yt9×Bool
abbrev Yt21:Type:=Yt9×Int
abbrev Yt23:Type:=Ex Int Int
abbrev Yt24:Type:=Int×Int×ByteArray×Int×Int×Int×Bool×Yt11
abbrev Yt25:Type:=Ex Bool (Int×ByteArray×Int×Int×Int×Bool×Yt11×Bool)
abbrev Yt26:Type:=Int×Int
abbrev Yt27:Type:=(List STable)×(List SNode)×(List SNode)×Int
abbrev Yt28:Type:=List SStep
abbrev Yt29:Type:=Bool×Int
abbrev Yt30:Type:=Int×ByteArray×Int×Int×Int×Bool×Yt11×Yt11×Int×Int
abbrev Yt31:Type:=Ex Yt9 Yt9
abbrev Yt22:Type:=Ex Yt31 Yt9
abbrev Yt32:Type:=(List STable)×Yt11×Int×Int
abbrev Yt33:Type:=Ex Yt11 Yt11
abbrev Yt34:Type:=(List SNode)×Bool
abbrev Yt12:Type:=Ex Yt34 ((List SNode)×Bool×Int×ByteArray×Int×Int×Int×Bool×Yt11×Int×ByteArray×Int×Int×Int×Bool×Yt11)
abbrev Yt36:Type:=Ex ((List SNode)×Yt11×Bool) ((List SNode)×Yt11)
abbrev Yt37:Type:=List Yt9
abbrev Yt13:Type:=Ex (Ex Yt37 Yt37) (Yt37×Int)
abbrev Yt35:Type:=Ex (Ex (Ex Yt13 (Int×Yt9)) (Int×Yt9)) (Int×Yt11)
abbrev Yt38:Type:=Ex Yt10 Yt10
abbrev Yt39:Type:=Int×Int×Yt9×Int×ByteArray×Int×Int×Int×Bool×Yt11
abbrev Yt40:Type:=Yt11×Int×Int
abbrev Yt41:Type:=Int×Yt11×Int×Int
abbrev Yt42:Type:=(List SNode)×Int
abbrev Yt43:Type:=Int×Int×Int×ByteArray×Int×Int×Int×Bool×Yt11
abbrev Yt44:Type:=Ex (List SNode) (List SNode)
abbrev Yt45:Type:=Yt11×Int
abbrev Yt46:Type:=Yt28×Yt11×Int×Int
abbrev Yt47:Type:=Ex Yt16 Bool
abbrev Yt48:Type:=Yt11×Int×Int×(List STable)×(List SNode)
abbrev Yt49:Type:=Ex Yt26 (Int×Int×Int×Int)
abbrev Yt50:Type:=Int×ByteArray
abbrev Yt51:Type:=ByteArray×Int
abbrev Yl0:LT:=⟨false,false,Yv1⟩
abbrev Yl1:LT:=⟨false,false,.bool⟩
abbrev Yl2:LT:=⟨false,false,.str⟩
abbrev Yl3:LT:=⟨true,false,Yv2⟩
abbrev Yl4:LT:=⟨true,true,Yv4⟩
abbrev Yl5:LT:=⟨false,false,Yv6⟩
abbrev Yl6:LT:=⟨false,false,Yv4⟩
abbrev Yl7:LT:=⟨true,true,Yv2⟩
abbrev Yl8:LT:=⟨true,true,Yv5⟩
abbrev Yl9:LT:=⟨true,true,Yv1⟩
abbrev Yl10:LT:=⟨true,true,Yv8⟩
abbrev Yl11:LT:=⟨true,true,.bool⟩
abbrev Yl12:LT:=⟨true,true,.str⟩
abbrev Yl13:LT:=⟨true,true,Yv3⟩
def ttL:List (Nat×Ty):=[(3,Yv1),
 (4,.bool),
 (5,(.int .u8)),
 (9,.str),
 (22,Yv6),
 (24,Yv3),
 (25,Yv5),
 (32,Yv8),
 (45,(.sl 83 Yv7)),
 (49,Yv4),
 (51,Yv0),
 (62,(.pr Yv1 .un)),
 (64,(.pr .str (.pr Yv1 .un))),
 (65,Yv2),
 (83,Yv7),
 (89,(.pr Yv6 Yv7)),
 (91,(.sl 9 .str)),
 (104,(.sl 25 Yv5)),
 (111,(.int .u64))]
def tt (T:TypeId):Option Ty:=lkT ttL T
theorem tt_ok:TTok Tryz.prog tt:=lkT_ok (by kernel_rfl)
noncomputable def i_0:Inst:={f:=3,fn:=Tryz.f3,n:=171,pds:=[.rd Yv6],caps:=[],res:=[Yl1],h:={al:=[76,79,80,82,83,88,99,100,104,106],ca:=[(15,1),(18,2),(27,49),(32,110),(38,115),(46,136),(54,49),(72,137),(73,138),(78,52),(81,140),(85,117),(86,145),(89,39),(101,57),(105,147),(115,148),(119,150),(124,151),(131,153),(156,154),(159,155),(165,149),(168,152)],code:=(.two .nil (.two .nil (.two .nil (.two .nil (.two .nil (.two (.join ⟨[],[(69,.v Yl1)]⟩ .nil .nil) (.two .nil (.two .nil (.two .nil (.two (.join ⟨[],[(111,.v Yl1)]⟩ .nil .nil) (.two .nil (.two .nil (.join ⟨[2],[(2,.v Yl1)]⟩ .nil .nil)))))))))))))}}
noncomputable def i_1f:Inst:={f:=4,fn:=Tryz.f4,n:=6,pds:=[.rd Yv6],caps:=[],res:=[Yl1],h:={code:=.nil}}
noncomputable def i_2c:Inst:={f:=5,fn:=Tryz.f5,n:=71,pds:=[.rd Yv6],caps:=[],res:=[⟨false,false,Yv3⟩,⟨false,false,Yv5⟩,⟨false,false,Yv5⟩,Yl0],h:={al:=[19,20,33,38,41,48,55,57],el:=[63],hs:=[22,23],ca:=[(14,3),(25,7),(26,34),(27,48),(31,6),(40,7),(70,10)],code:=(.two .nil (.two .nil (.two .nil (.join ⟨[6,9,15,21,24],[(6,.fix (.eq 15)),(9,.v Yl8),(15,.bx 89 [Yl5,Yl0,Yl0])]⟩ (.join ⟨[6,15,21,24],[(6,.fix (.eq 15)),(15,.bx 89 [Yl5,Yl0,Yl0]),(36,.v Yl1)]⟩ .nil (.two (.two .nil (.join ⟨[],[(54,.v Yl1)]⟩ .nil .nil)) .nil)) .nil))))}}
noncomputable def i_40:Inst:={f:=27,fn:=Tryz.f27,n:=28,pds:=[.rd Yv6],caps:=[],res:=[Yl5,Yl0,Yl0,⟨true,false,Yv3⟩,⟨true,false,Yv5⟩],h:={al:=[23],ca:=[(9,4),(10,5),(12,6),(14,9),(18,13),(19,19),(21,6),(24,33)],code:=(.two .nil (.two .nil (.two .nil (.join ⟨[5,6,9],[(5,.fix (.eq 9)),(6,.v Yl13),(9,.bx 89 [Yl5,Yl0,Yl0])]⟩ .nil .nil))))},rb:=some (89,3)}
noncomputable def i_37:Inst:={f:=37,fn:=Tryz.f37,n:=32,pds:=[.rd Yv6],caps:=[],res:=[Yl5,Yl0,Yl0],h:={code:=(.two .nil (.two .nil (.join ⟨[3],[(3,.v Yl0)]⟩ (.two .nil (.loop ⟨[3,4],[(3,.v Yl0),(4,.v Yl0)]⟩ (.two (.join ⟨[],[(15,.v Yl1)]⟩ .nil .nil) .nil))) .nil)))},rb:=some (89,3)}
noncomputable def i_3o:Inst:={f:=55,fn:=Tryz.f55,n:=5,pds:=[],caps:=[],res:=[Yl13],h:={code:=.nil}}
noncomputable def i_3a:Inst:={f:=31,fn:=Tryz.f31,n:=9,pds:=[.pt true 89 [Yl5,Yl0,Yl0],.rd Yv1],caps:=[],res:=[Yl1],h:={ca:=[(7,7)],code:=.nil}}
noncomputable def i_31:Inst:={f:=30,fn:=Tryz.f30,n:=31,pds:=[.pt true 89 [Yl5,Yl0,Yl0],.rd Yv1],caps:=[],res:=[Yl0],h:={ca:=[(13,8),(17,8),(19,8),(21,8)],code:=.nil}}
noncomputable def i_32:Inst:={f:=62,fn:=Tryz.f62,n:=58,pds:=[.pt true 89 [Yl5,Yl0,Yl0]],caps:=[],res:=[Yl0],h:={code:=(.two .nil (.two .nil (.two .nil (.join ⟨[0,3,4,5,6,7,11,12,13,14,15,18,19,20,58],[(3,.v Yl0),(58,.bx 89 [Yl5,Yl0,Yl0])]⟩ .nil .nil))))}}
noncomputable def i_3m:Inst:={f:=38,fn:=Tryz.f38,n:=52,pds:=[.pt true 89 [Yl5,Yl0,Yl0]],caps:=[],res:=[Yl13],h:={al:=[14,23,37],el:=[19,28],tk:=[34],sw:=[43],ca:=[(5,5),(7,6),(9,7),(11,7),(18,10),(27,11),(40,7),(46,12)],code:=(.two .nil (.two .nil (.join ⟨[0,3,52],[(3,.v Yl13),(52,.bx 89 [Yl5,Yl0,Yl0])]⟩ (.two .nil (.two (.two .nil (.two .nil (.two .nil (.two .nil (.two .nil (.two .nil (.two .nil (.two .nil (.two .nil (.two (.loop ⟨[0,3,6,8,10,52],[(0,.fix (.eq 52)),(3,.v Yl13),(52,.bx 89 [Yl5,Yl0,Yl0])]⟩ .nil) .nil)))))))))) .nil)) .nil)))}}
noncomputable def i_3b:Inst:={f:=32,fn:=Tryz.f32,n:=12,pds:=[.pt true 89 [Yl5,Yl0,Yl0],.rd Yv4],caps:=[],res:=[Yl0],h:={ca:=[(9,7)],code:=.nil}}
noncomputable def i_3c:Inst:={f:=68,fn:=Tryz.f68,n:=12,pds:=[.pt true 89 [Yl5,Yl0,Yl0],.rd (.sl 9 .str)],caps:=[],res:=[Yl2],h:={ca:=[(9,7)],code:=.nil}}
noncomputable def i_38:Inst:={f:=69,fn:=Tryz.f69,n:=31,pds:=[.rd Yv1],caps:=[],res:=[Yl2],h:={code:=(.two .nil (.two .nil (.two .nil (.two .nil (.join ⟨[0,3],[(3,.v Yl2)]⟩ (.loop ⟨[0,3],[(0,.v Yl0),(3,.v Yl2)]⟩ (.two .nil (.two .nil (.join ⟨[5],[(5,.v Yl0)]⟩ .nil .nil)))) .nil)))))}}
noncomputable def i_41:Inst:={f:=57,fn:=Tryz.f57,n:=85,pds:=[.pt true 89 [Yl5,Yl0,Yl0],.rd Yv6],caps:=[],res:=[Yl8],h:={tk:=[58,79],ca:=[(14,14),(15,7),(17,15),(21,7),(29,10),(37,7),(40,7),(46,7),(51,7),(61,7),(72,7),(77,7),(83,16)],code:=(.two .nil (.two .nil (.join ⟨[0,5,6,11,12,85],[(5,.v Yl8),(85,.bx 89 [Yl5,Yl0,Yl0])]⟩ (.two .nil (.loop ⟨[0,5,6,7,11,12,20,85],[(0,.fix (.eq 85)),(5,.v Yl8),(6,.v Yl0),(7,.v Yl0),(85,.bx 89 [Yl5,Yl0,Yl0])]⟩ (.two .nil (.join ⟨[0,5,6,85],[(0,.fix (.eq 85)),(5,.v Yl8),(6,.v Yl0),(85,.bx 89 [Yl5,Yl0,Yl0])]⟩ (.two .nil (.join ⟨[0,6,8,27,85],[(0,.fix (.eq 85)),(6,.v Yl0),(8,.bx 51 [Yl9,Yl12,Yl0,Yl0,Yl0,Yl11,Yl4]),(85,.bx 89 [Yl5,Yl0,Yl0])]⟩ (.two .nil (.two .nil (.two .nil (.two .nil (.two (.join ⟨[0,8,27,31,85],[(0,.fix (.eq 85)),(8,.bx 51 [Yl9,Yl12,Yl9,Yl9,Yl9,Yl11,Yl4]),(85,.bx 89 [Yl5,Yl0,Yl0])]⟩ (.two .nil (.loop ⟨[0,8,9,27,31,50,85],[(0,.fix (.eq 85)),(8,.bx 51 [Yl9,Yl12,Yl9,Yl9,Yl9,Yl11,Yl4]),(9,.v Yl0),(85,.bx 89 [Yl5,Yl0,Yl0])]⟩ .nil)) .nil) .nil))))) .nil)) .nil)))) .nil)))}}
noncomputable def i_3d:Inst:={f:=85,fn:=Tryz.f85,n:=15,pds:=[.rd Yv6,.rd Yv1],caps:=[],res:=[Yl0],h:={code:=.nil}}
noncomputable def i_3h:Inst:={f:=84,fn:=Tryz.f84,n:=178,pds:=[.pt true 89 [Yl5,Yl0,Yl0],.rd Yv1],caps:=[],res:=[Yl8,Yl0],h:={al:=[35,41],tk:=[68,151,172],ca:=[(25,10),(32,7),(51,15),(58,15),(63,7),(66,7),(73,16),(83,15),(90,15),(101,16),(107,16),(113,16),(119,15),(129,7),(132,7),(138,7),(144,7),(154,7),(165,7),(170,7),(176,16)],code:=(.two .nil (.two .nil (.join ⟨[6],[(6,.v Yl0)]⟩ .nil (.two (.two .nil (.two .nil (.two .nil (.two .nil (.two .nil (.two .nil (.two (.two .nil (.two .nil (.join ⟨[15,16,17],[(15,.v Yl8),(16,.v Yl0),(17,.v Yl8)]⟩ .nil .nil))) .nil))))))) (.two .nil (.two .nil (.join ⟨[0,20,21,23,116,178],[(20,.v Yl0),(21,.bx 51 [Yl9,Yl12,Yl0,Yl0,Yl0,Yl11,Yl4]),(178,.bx 89 [Yl5,Yl0,Yl0])]⟩ (.two .nil (.two .nil (.two .nil (.two .nil (.two (.join ⟨[0,21,23,116,178],[(21,.bx 51 [Yl9,Yl12,Yl9,Yl9,Yl9,Yl11,Yl4]),(178,.bx 89 [Yl5,Yl0,Yl0])]⟩ (.two .nil (.loop ⟨[0,21,22,23,116,143,178],[(0,.fix (.eq 178)),(21,.bx 51 [Yl9,Yl12,Yl9,Yl9,Yl9,Yl11,Yl4]),(22,.v Yl0),(178,.bx 89 [Yl5,Yl0,Yl0])]⟩ .nil)) .nil) .nil))))) .nil)))))))}}
noncomputable def i_3j:Inst:={f:=86,fn:=Tryz.f86,n:=20,pds:=[.rd (.sl 25 Yv5)],caps:=[],res:=[Yl8],h:={ca:=[(17,17)],code:=(.two .nil (.two .nil (.join ⟨[3],[(3,.v Yl8)]⟩ (.two .nil (.loop ⟨[3,4],[(3,.v Yl8),(4,.v Yl0)]⟩ .nil)) .nil)))}}
noncomputable def i_3g:Inst:={f:=59,fn:=Tryz.f59,n:=37,pds:=[.rd Yv5],caps:=[],res:=[Yl8],h:={tk:=[33],no:=true,ca:=[(30,18)],code:=(.two .nil (.two .nil (.join ⟨[3],[(3,.v Yl8)]⟩ (.two .nil (.loop ⟨[3,4],[(3,.v Yl8),(4,.v Yl0)]⟩ (.two .nil (.two (.two .nil (.two .nil (.join ⟨[5,17],[(5,.bx 51 [Yl0,Yl2,Yl0,Yl0,Yl0,Yl1,Yl4])]⟩ .nil .nil))) .nil)))) .nil)))}}
noncomputable def i_33:Inst:={f:=87,fn:=Tryz.f87,n:=20,pds:=[.rd Yv4],caps:=[],res:=[Yl4],h:={code:=(.two .nil (.two .nil (.join ⟨[3],[(3,.v Yl4)]⟩ (.two .nil (.loop ⟨[3,4],[(3,.v Yl4),(4,.v Yl0)]⟩ .nil)) .nil)))}}
noncomputable def i_42:Inst:={f:=56,fn:=Tryz.f56,n:=19,pds:=[.pt true 89 [Yl5,Yl0,Yl0],.hv true 51 Yv0],caps:=[],res:=[Yl8],h:={al:=[11],ca:=[(9,6),(12,20)],code:=(.two .nil (.join ⟨[0,4,19],[(4,.v Yl8),(19,.bx 89 [Yl5,Yl0,Yl0])]⟩ .nil .nil))}}
noncomputable def i_2g:Inst:={f:=83,fn:=Tryz.f83,n:=47,pds:=[.rd Yv5],caps:=[],res:=[Yl8,Yl4,Yl1],h:={al:=[15,20,27,34,38,40],el:=[36,43],ca:=[(9,21),(12,17),(24,32)],code:=(.two .nil (.two .nil (.two .nil (.two .nil (.join ⟨[5,6],[(5,.v Yl8),(6,.v Yl4)]⟩ (.two .nil (.loop ⟨[5,6,7],[(5,.v Yl8),(6,.v Yl4),(7,.v Yl0)]⟩ (.two .nil (.join ⟨[5,6,15],[(5,.v Yl8),(6,.v Yl4)]⟩ .nil .nil)))) .nil)))))}}
noncomputable def i_28:Inst:={f:=124,fn:=Tryz.f124,n:=11,pds:=[.rd Yv5],caps:=[],res:=[Yl1],h:={ca:=[(4,22),(7,30)],code:=(.two .nil (.join ⟨[2],[(2,.v Yl1)]⟩ .nil .nil))}}
noncomputable def i_2j:Inst:={f:=91,fn:=Tryz.f91,n:=31,pds:=[.rd Yv5],caps:=[],res:=[Yl1],h:={ca:=[(8,23),(20,24),(24,28)],code:=(.two .nil (.two .nil (.join ⟨[2],[(2,.v Yl1)]⟩ (.two .nil (.loop ⟨[2,3],[(2,.v Yl1),(3,.v Yl0)]⟩ .nil)) .nil)))}}
noncomputable def i_35:Inst:={f:=46,fn:=Tryz.f46,n:=15,pds:=[.rd Yv1,.rd Yv1,.rd Yv1],caps:=[],res:=[Yl1],h:={code:=(.two .nil (.join ⟨[6],[(6,.v Yl1)]⟩ .nil .nil))}}
noncomputable def i_2i:Inst:={f:=128,fn:=Tryz.f128,n:=186,pds:=[.rd Yv0],caps:=[],res:=[Yl1],h:={ca:=[(39,23),(49,25),(69,26),(73,23),(78,27),(109,26),(114,23),(134,26),(138,26),(149,26),(168,23)],code:=(.two .nil (.two (.join ⟨[],[(42,.v Yl1)]⟩ .nil .nil) (.join ⟨[2],[(2,.v Yl1)]⟩ (.two .nil (.two .nil (.two (.join ⟨[2],[(2,.v Yl1)]⟩ .nil .nil) (.two .nil (.two (.join ⟨[2],[(2,.v Yl1)]⟩ .nil .nil) (.two .nil (.two (.join ⟨[2],[(2,.v Yl1)]⟩ (.two .nil (.loop ⟨[2,3],[(2,.v Yl1),(3,.v Yl0)]⟩ .nil)) (.join ⟨[2],[(2,.v Yl1)]⟩ .nil .nil)) (.two .nil (.two (.join ⟨[2],[(2,.v Yl1)]⟩ .nil .nil) (.two .nil (.two (.join ⟨[2],[(2,.v Yl1)]⟩ .nil .nil) (.two .nil (.two (.join ⟨[2],[(2,.v Yl1)]⟩ .nil .nil) (.join ⟨[],[(170,.v Yl1)]⟩ .nil (.two (.join ⟨[2],[(2,.v Yl1)]⟩ .nil .nil) .nil))))))))))))))) .nil)))}}
noncomputable def i_30:Inst:={f:=48,fn:=Tryz.f48,n:=41,pds:=[.rd .str],caps:=[],res:=[Yl1],h:={ca:=[(6,23)],code:=(.two .nil (.two (.join ⟨[],[(12,.v Yl1)]⟩ .nil .nil) (.join ⟨[2],[(2,.v Yl1)]⟩ (.two .nil (.loop ⟨[2,3],[(2,.v Yl1),(3,.v Yl0)]⟩ (.two .nil (.two (.join ⟨[],[(40,.v Yl1)]⟩ .nil .nil) .nil)))) .nil)))}}
noncomputable def i_3f:Inst:={f:=149,fn:=Tryz.f149,n:=5,pds:=[.rd Yv1],caps:=[],res:=[Yl1],h:={ca:=[(4,23)],code:=.nil}}
noncomputable def i_39:Inst:={f:=101,fn:=Tryz.f101,n:=5,pds:=[.rd Yv1],caps:=[],res:=[Yl1],h:={ca:=[(4,23)],code:=.nil}}
noncomputable def i_3i:Inst:={f:=90,fn:=Tryz.f90,n:=51,pds:=[.rd Yv5,.rd Yv1,.rd Yv1],caps:=[],res:=[Yl0,Yl0],h:={ca:=[(29,29),(38,28)],code:=(.two .nil (.two (.join ⟨[],[(20,.v Yl1)]⟩ .nil .nil) (.two .nil (.two .nil (.join ⟨[6,7,8,9],[(6,.v Yl0),(7,.v Yl0),(8,.v Yl0),(9,.v Yl0)]⟩ (.two .nil (.loop ⟨[6,7,8,9,10],[(6,.v Yl0),(7,.v Yl0),(8,.v Yl0),(9,.v Yl0),(10,.v Yl0)]⟩ (.two .nil (.join ⟨[6,7,8,9],[(6,.v Yl0),(7,.v Yl0),(8,.v Yl0),(9,.v Yl0)]⟩ .nil .nil)))) .nil)))))}}
noncomputable def i_27:Inst:={f:=127,fn:=Tryz.f127,n:=15,pds:=[.rd Yv1],caps:=[],res:=[Yl0],h:={code:=(.two .nil (.two (.two .nil (.two .nil (.two .nil (.join ⟨[],[(6,.v Yl1)]⟩ .nil (.two .nil (.join ⟨[],[(9,.v Yl1)]⟩ .nil .nil)))))) .nil))}}
noncomputable def i_2s:Inst:={f:=148,fn:=Tryz.f148,n:=45,pds:=[.rd Yv5],caps:=[],res:=[Yl4],h:={al:=[35],ca:=[(8,22),(37,31)],code:=(.two .nil (.two .nil (.two .nil (.join ⟨[3],[(3,.v Yl4)]⟩ (.two .nil (.loop ⟨[3,4],[(3,.v Yl4),(4,.v Yl0)]⟩ (.two .nil (.join ⟨[3],[(3,.v Yl4)]⟩ (.two .nil (.loop ⟨[3,5],[(3,.v Yl4),(5,.v Yl0)]⟩ (.two .nil (.join ⟨[3],[(3,.v Yl4)]⟩ (.join ⟨[],[(39,.v Yl1)]⟩ .nil .nil) .nil)))) .nil)))) .nil))))}}
noncomputable def i_34:Inst:={f:=167,fn:=Tryz.f167,n:=18,pds:=[.rd Yv4,.rd Yv1],caps:=[],res:=[Yl1],h:={code:=(.two .nil (.join ⟨[4],[(4,.v Yl1)]⟩ (.two .nil (.loop ⟨[4,5],[(4,.v Yl1),(5,.v Yl0)]⟩ .nil)) .nil))}}
noncomputable def i_3z:Inst:={f:=125,fn:=Tryz.f125,n:=16,pds:=[.rd Yv0],caps:=[],res:=[Yl1],h:={code:=(.two .nil (.join ⟨[2],[(2,.v Yl1)]⟩ .nil .nil))}}
noncomputable def i_3e:Inst:={f:=58,fn:=Tryz.f58,n:=82,pds:=[.pt true 89 [Yl5,Yl0,Yl0],.hv true 51 Yv0],caps:=[],res:=[⟨true,false,Yv5⟩],h:={al:=[10,16,23,32,41,50,70,72],el:=[28,37,46,52,59,74],tk:=[67],nn:=[76],sw:=[56],ca:=[(7,6),(18,7),(20,7),(26,7),(36,10),(45,10)],code:=(.two .nil (.two (.join ⟨[0,82],[(0,.fix (.eq 82)),(13,.v Yl1),(82,.bx 89 [Yl5,Yl0,Yl0])]⟩ .nil .nil) .nil))}}
noncomputable def i_44:Inst:={f:=29,fn:=Tryz.f29,n:=37,pds:=[.pt true 89 [Yl5,Yl0,Yl0],.rd Yv3,.rd Yv5,.rd Yv1],caps:=[],res:=[⟨true,true,(.sl 83 Yv7)⟩],h:={hs:=[28],ca:=[(23,35),(28,47)],code:=(.two .nil (.two .nil (.join ⟨[0,2,9,37],[(9,.v ⟨true,true,(.sl 83 Yv7)⟩),(37,.bx 89 [Yl5,Yl0,Yl0])]⟩ (.two .nil (.loop ⟨[0,2,9,10,37],[(0,.fix (.eq 37)),(2,.v ⟨false,false,Yv5⟩),(9,.v ⟨true,true,(.sl 83 Yv7)⟩),(10,.v Yl0),(37,.bx 89 [Yl5,Yl0,Yl0])]⟩ .nil)) .nil)))}}
noncomputable def i_43:Inst:={f:=61,fn:=Tryz.f61,n:=36,pds:=[.pt true 89 [Yl5,Yl0,Yl0],.rd Yv3,.rd Yv5],caps:=[],res:=[⟨false,false,Yv7⟩],h:={al:=[11,19,21],ca:=[(10,36),(16,7),(23,7),(27,7),(33,7)],code:=(.two .nil (.two .nil (.two (.join ⟨[0,36],[(0,.fix (.eq 36)),(18,.v Yl1),(36,.bx 89 [Yl5,Yl0,Yl0])]⟩ .nil .nil) .nil)))}}
noncomputable def i_2u:Inst:={f:=92,fn:=Tryz.f92,n:=42,pds:=[.rd Yv3,.rd Yv5],caps:=[],res:=[⟨true,true,(.sl 83 Yv7)⟩],h:={ca:=[(14,37),(33,44)],code:=(.two .nil (.two .nil (.two .nil (.join ⟨[5],[(5,.v ⟨true,true,(.sl 83 Yv7)⟩)]⟩ (.two .nil (.loop ⟨[5,6],[(5,.v ⟨true,true,(.sl 83 Yv7)⟩),(6,.v Yl0)]⟩ (.two .nil (.join ⟨[5],[(5,.v ⟨true,true,(.sl 83 Yv7)⟩)]⟩ (.two .nil (.loop ⟨[5,7],[(5,.v ⟨true,true,(.sl 83 Yv7)⟩),(7,.v Yl0)]⟩ (.two .nil (.join ⟨[5],[(5,.v ⟨true,true,(.sl 83 Yv7)⟩)]⟩ .nil .nil)))) .nil)))) .nil))))}}
noncomputable def i_2y:Inst:={f:=80,fn:=Tryz.f80,n:=9,pds:=[.rd Yv3,.rd Yv5],caps:=[],res:=[Yl1],h:={ca:=[(7,38)],code:=.nil}}
noncomputable def i_2z:Inst:={f:=116,fn:=Tryz.f116,n:=16,pds:=[.rd Yv3,.rd Yv5],caps:=[],res:=[Yl0],h:={ca:=[(6,39),(10,22),(15,41)],code:=(.two .nil (.two (.join ⟨[],[(12,.v Yl1)]⟩ .nil .nil) .nil))}}
noncomputable def i_2r:Inst:={f:=16,fn:=Tryz.f16,n:=48,pds:=[.rd Yv3],caps:=[],res:=[Yl1],h:={ca:=[(18,25),(26,23),(44,40)],code:=(.two .nil (.two .nil (.join ⟨[2],[(2,.v Yl1)]⟩ (.two .nil (.loop ⟨[2,3],[(2,.v Yl1),(3,.v Yl0)]⟩ (.two .nil (.two (.join ⟨[],[(47,.v Yl1)]⟩ .nil .nil) .nil)))) .nil)))}}
noncomputable def i_36:Inst:={f:=49,fn:=Tryz.f49,n:=37,pds:=[.rd .str,.rd .str],caps:=[],res:=[Yl1],h:={code:=(.two .nil (.join ⟨[4],[(4,.v Yl1)]⟩ (.two .nil (.loop ⟨[4,5],[(4,.v Yl1),(5,.v Yl0)]⟩ (.two (.join ⟨[],[(15,.v Yl1)]⟩ .nil .nil) .nil))) .nil))}}
noncomputable def i_3p:Inst:={f:=126,fn:=Tryz.f126,n:=131,pds:=[.rd Yv3,.rd Yv5,.rd Yv1],caps:=[],res:=[Yl0],h:={al:=[23,30,61,79,90,97,103,106,112,115,121,124,128],ca:=[(21,42),(34,41),(48,43)],code:=(.two .nil (.two .nil (.two .nil (.two .nil (.join ⟨[6,8],[(6,.v Yl0),(8,.v Yl4)]⟩ (.two .nil (.loop ⟨[6,8,10],[(6,.v Yl0),(8,.v Yl4),(10,.v Yl0)]⟩ .nil)) (.join ⟨[6],[(6,.v Yl0)]⟩ (.two .nil (.two .nil (.two .nil (.join ⟨[],[(56,.v Yl1)]⟩ .nil (.two .nil (.two .nil (.two (.join ⟨[6],[(6,.v Yl0)]⟩ (.two .nil (.loop ⟨[6,13],[(6,.v Yl0),(13,.v Yl0)]⟩ .nil)) .nil) (.two .nil (.two (.two (.join ⟨[],[(111,.v Yl1)]⟩ .nil .nil) .nil) .nil))))))))) .nil))))))}}
noncomputable def i_3k:Inst:={f:=117,fn:=Tryz.f117,n:=32,pds:=[.rd Yv5,.rd Yv1],caps:=[],res:=[Yl4],h:={ca:=[(17,29),(28,28)],code:=(.two .nil (.two .nil (.two .nil (.join ⟨[5,6],[(5,.v Yl4)]⟩ (.two .nil (.loop ⟨[5,6,7],[(5,.v Yl4),(6,.v Yl0),(7,.v Yl0)]⟩ .nil)) .nil))))}}
noncomputable def i_3n:Inst:={f:=118,fn:=Tryz.f118,n:=20,pds:=[.rd Yv3,.rd .str],caps:=[],res:=[Yl0],h:={code:=(.two .nil (.join ⟨[4],[(4,.v Yl0)]⟩ (.two .nil (.loop ⟨[4,5],[(4,.v Yl0),(5,.v Yl0)]⟩ .nil)) .nil))}}
noncomputable def i_25:Inst:={f:=60,fn:=Tryz.f60,n:=99,pds:=[.rd Yv3,.rd Yv5,.rd Yv7],caps:=[],res:=[Yl8,Yl1],h:={al:=[94],ca:=[(17,17),(20,37),(25,23),(34,23),(41,45),(71,46),(81,28),(93,16),(95,22)],code:=(.two .nil (.two .nil (.two (.join ⟨[],[(36,.v Yl1)]⟩ .nil .nil) (.two .nil (.two (.join ⟨[],[(62,.v Yl1)]⟩ .nil .nil) .nil)))))}}
noncomputable def i_46:Inst:={f:=88,fn:=Tryz.f88,n:=16,pds:=[.rd Yv1],caps:=[],res:=[Yl0,Yl0],h:={al:=[8,12],code:=.nil}}
noncomputable def i_45:Inst:={f:=89,fn:=Tryz.f89,n:=230,pds:=[.rd Yv3,.rd Yv5,.rd Yv1,.rd Yv1],caps:=[],res:=[Yl8,Yl1],h:={al:=[35,42,51,69,92,101,117,122,132,142,145,161,166,178,209,225],el:=[70,93,102,118,123,143,146,162,167,179,210,226],tk:=[207],hi:=[33],ca:=[(32,42),(46,28),(73,16),(96,16),(105,16),(126,16),(135,41),(149,16),(170,16),(182,16),(213,16),(229,16)],code:=(.two .nil (.two .nil (.two .nil (.two .nil (.two .nil (.join ⟨[13],[(13,.v ⟨true,false,(.sl 25 Yv5)⟩)]⟩ (.two .nil (.loop ⟨[13,14],[(13,.v ⟨true,false,(.sl 25 Yv5)⟩),(14,.v Yl0)]⟩ .nil)) (.join ⟨[8,9,10,11],[(8,.v Yl8),(9,.v Yl1),(10,.bx 51 [Yl0,Yl2,Yl0,Yl0,Yl0,Yl1,Yl6]),(11,.bx 51 [Yl0,Yl2,Yl0,Yl0,Yl0,Yl1,Yl6])]⟩ (.two .nil (.join ⟨[],[(60,.v Yl1)]⟩ .nil (.two .nil (.two .nil (.two (.two (.join ⟨[],[(81,.v Yl1)]⟩ .nil .nil) (.join ⟨[11],[(11,.bx 51 [Yl0,Yl2,Yl0,Yl0,Yl0,Yl1,Yl6])]⟩ .nil .nil)) (.two .nil (.two .nil (.two .nil (.two .nil (.join ⟨[],[(127,.v Yl1)]⟩ .nil (.two .nil (.two .nil (.two .nil (.two .nil (.two (.two .nil (.join ⟨[18],[(18,.v Yl4)]⟩ (.two .nil (.loop ⟨[18,19],[(18,.v Yl4),(19,.v Yl0)]⟩ .nil)) .nil)) .nil))))))))))))))) .nil)))))))}}
noncomputable def i_26:Inst:={f:=60,fn:=Tryz.f60,n:=99,pds:=[.rd Yv3,.rd Yv5,.rd Yv7],caps:=[],res:=[⟨false,false,Yv5⟩,Yl1],h:={al:=[94],ca:=[(17,17),(20,37),(25,23),(34,23),(41,45),(71,46),(81,28),(93,16),(95,22)],code:=(.two .nil (.two .nil (.two (.join ⟨[],[(36,.v Yl1)]⟩ .nil .nil) (.two .nil (.two (.join ⟨[],[(62,.v Yl1)]⟩ .nil .nil) .nil)))))}}
noncomputable def i_2k:Inst:={f:=28,fn:=Tryz.f28,n:=42,pds:=[.rd Yv3,.rd Yv5,.rd (.sl 83 Yv7)],caps:=[],res:=[Yl8,Yl0],h:={al:=[26],ca:=[(13,17),(31,44)],code:=(.two .nil (.two .nil (.two .nil (.join ⟨[6,7,8],[(6,.v Yl8),(7,.v Yl0),(8,.v Yl8)]⟩ (.two .nil (.loop ⟨[6,7,8,9],[(6,.v Yl8),(7,.v Yl0),(8,.v Yl8),(9,.v Yl0)]⟩ .nil)) .nil))))}}
noncomputable def i_7:Inst:={f:=6,fn:=Tryz.f6,n:=14,pds:=[.rd Yv3,.rd Yv5,.rd Yv5,.rd Yv1],caps:=[],res:=[Yl0],h:={ca:=[(13,50)],code:=.nil}}
noncomputable def i_w:Inst:={f:=33,fn:=Tryz.f33,n:=56,pds:=[.rd Yv3,.rd Yv5,.rd Yv5,.rd Yv1,.fn 34 []],caps:=[],res:=[Yl0],h:={al:=[29,36,49,50],ca:=[(18,51),(26,52),(31,56),(38,56),(51,108)],code:=(.two .nil (.two .nil (.join ⟨[10],[(10,.v Yl0)]⟩ (.two .nil (.loop ⟨[10,21],[(10,.v Yl0),(21,.v Yl0)]⟩ (.two .nil (.two .nil (.two (.two .nil (.two .nil (.two .nil (.two .nil (.join ⟨[],[(53,.v Yl1)]⟩ .nil .nil))))) .nil))))) .nil)))}}
noncomputable def i_12:Inst:={f:=41,fn:=Tryz.f41,n:=15,pds:=[.rd Yv1,.rd Yv1,.rd Yv1],caps:=[],res:=[Yl1],h:={code:=(.two .nil (.join ⟨[6],[(6,.v Yl1)]⟩ .nil .nil))}}
noncomputable def i_n:Inst:={f:=12,fn:=Tryz.f12,n:=59,pds:=[.rd Yv3,.rd Yv1],caps:=[],res:=[Yl10],h:={ca:=[(13,53),(17,51),(30,55),(39,55)],code:=(.two .nil (.two (.join ⟨[],[(19,.v Yl1)]⟩ .nil .nil) (.two .nil (.two .nil (.join ⟨[5,6,22],[(6,.v Yl10)]⟩ (.two .nil (.loop ⟨[5,6,22,25],[(5,.fix (.eq 22)),(6,.v Yl10),(22,.bx 62 [Yl9]),(25,.v Yl0)]⟩ (.two .nil (.two .nil (.join ⟨[5,6,22],[(5,.fix (.eq 22)),(6,.v Yl10),(22,.bx 62 [Yl9])]⟩ (.two .nil (.two .nil (.join ⟨[5,9,22],[(5,.fix (.eq 22)),(9,.v Yl7),(22,.bx 62 [Yl9])]⟩ (.two .nil (.loop ⟨[5,9,22,29,32],[(5,.fix (.eq 22)),(9,.v Yl7),(22,.bx 62 [Yl9]),(32,.v Yl0)]⟩ (.two .nil (.two .nil (.join ⟨[5,9,22],[(5,.fix (.eq 22)),(9,.v Yl7),(22,.bx 62 [Yl9])]⟩ (.two .nil (.join ⟨[5,10,22],[(5,.fix (.eq 22)),(10,.v Yl4),(22,.bx 62 [Yl9])]⟩ (.two .nil (.loop ⟨[5,10,22,36],[(5,.fix (.eq 22)),(10,.v Yl4),(22,.bx 62 [Yl9]),(36,.v Yl0)]⟩ (.two .nil (.two .nil (.two (.two .nil (.join ⟨[11],[(11,.v Yl0)]⟩ .nil .nil)) .nil))))) .nil)) .nil))))) .nil))) .nil))))) .nil)))))}}
noncomputable def i_l:Inst:={f:=40,fn:=Tryz.f40,n:=41,pds:=[.rd Yv3],caps:=[],res:=[Yl1],h:={ca:=[(14,54),(19,51)],code:=(.two .nil (.join ⟨[2],[(2,.v Yl1)]⟩ (.two .nil (.loop ⟨[2,7],[(2,.v Yl1),(7,.v Yl0)]⟩ (.two .nil (.two .nil (.two (.two .nil (.join ⟨[],[(36,.v Yl1)]⟩ .nil .nil)) .nil))))) .nil))}}
noncomputable def i_t:Inst:={f:=70,fn:=Tryz.f70,n:=38,pds:=[.rd .str],caps:=[],res:=[Yl1],h:={ca:=[(37,51)],code:=(.two .nil (.join ⟨[2],[(2,.v Yl1)]⟩ (.two .nil (.loop ⟨[2,8],[(2,.v Yl1),(8,.v Yl0)]⟩ (.two .nil (.two .nil (.two (.two .nil (.two .nil (.join ⟨[],[(5,.v Yl1)]⟩ .nil (.join ⟨[],[(33,.v Yl1)]⟩ .nil .nil)))) .nil))))) .nil))}}
noncomputable def i_1a:Inst:={f:=42,fn:=Tryz.f42,n:=17,pds:=[.pt true 62 [Yl9]],caps:=[],res:=[Yl0],h:={code:=.nil}}
noncomputable def i_8:Inst:={f:=53,fn:=Tryz.f53,n:=35,pds:=[.rd Yv3,.rd Yv8,.rd Yv5],caps:=[],res:=[Yl7,Yl0],h:={ca:=[(12,57),(17,63),(22,85),(28,89),(34,106)],code:=(.two .nil (.two (.join ⟨[],[(23,.v Yl1)]⟩ .nil .nil) .nil))}}
noncomputable def i_o:Inst:={f:=17,fn:=Tryz.f17,n:=49,pds:=[.rd Yv3,.rd Yv8],caps:=[],res:=[Yl1],h:={ca:=[(10,53),(45,58)],code:=(.two .nil (.two (.join ⟨[],[(18,.v Yl1)]⟩ .nil .nil) (.join ⟨[4],[(4,.v Yl1)]⟩ (.two .nil (.loop ⟨[4,21],[(4,.v Yl1),(21,.v Yl0)]⟩ (.two .nil (.two .nil (.join ⟨[4],[(4,.v Yl1)]⟩ (.two .nil (.two .nil (.two .nil (.loop ⟨[4,31],[(4,.v Yl1),(31,.v Yl0)]⟩ (.two .nil (.two .nil (.two (.two .nil (.join ⟨[],[(46,.v Yl1)]⟩ .nil .nil)) .nil))))))) .nil))))) .nil)))}}
noncomputable def i_1n:Inst:={f:=50,fn:=Tryz.f50,n:=9,pds:=[.rd Yv4,.fn 51 []],caps:=[],res:=[Yl1],h:={ca:=[(7,59)],code:=.nil}}
noncomputable def i_1w:Inst:={f:=74,fn:=Tryz.f74,n:=19,pds:=[.rd Yv4,.fn 51 []],caps:=[],res:=[Yl0],h:={ca:=[(16,60)],code:=(.two .nil (.join ⟨[4],[(4,.v Yl0)]⟩ (.two .nil (.loop ⟨[4,8],[(4,.v Yl0),(8,.v Yl0)]⟩ .nil)) .nil))}}
noncomputable def i_p:Inst:={f:=51,fn:=Tryz.f51,n:=6,pds:=[.rd Yv1],caps:=[],res:=[Yl1],h:={ca:=[(4,61)],code:=.nil}}
noncomputable def i_16:Inst:={f:=52,fn:=Tryz.f52,n:=9,pds:=[.rd Yv1],caps:=[],res:=[Yl1],h:={ca:=[(4,62)],code:=(.two .nil (.join ⟨[2],[(2,.v Yl1)]⟩ .nil .nil))}}
noncomputable def i_14:Inst:={f:=75,fn:=Tryz.f75,n:=5,pds:=[.rd Yv1],caps:=[],res:=[Yl1],h:={ca:=[(4,51)],code:=.nil}}
noncomputable def i_r:Inst:={f:=76,fn:=Tryz.f76,n:=9,pds:=[.rd Yv3,.rd Yv5],caps:=[],res:=[Yl1],h:={ca:=[(7,64)],code:=.nil}}
noncomputable def i_s:Inst:={f:=102,fn:=Tryz.f102,n:=16,pds:=[.rd Yv3,.rd Yv5],caps:=[],res:=[Yl0],h:={ca:=[(6,53),(10,65),(15,79)],code:=(.two .nil (.two (.join ⟨[],[(12,.v Yl1)]⟩ .nil .nil) .nil))}}
noncomputable def i_e:Inst:={f:=135,fn:=Tryz.f135,n:=16,pds:=[.rd Yv5],caps:=[],res:=[Yl1],h:={ca:=[(5,51),(9,66),(12,77)],code:=(.two .nil (.two (.join ⟨[],[(10,.v Yl1)]⟩ .nil .nil) .nil))}}
noncomputable def i_1k:Inst:={f:=103,fn:=Tryz.f103,n:=9,pds:=[.rd Yv5,.fn 163 []],caps:=[],res:=[Yl1],h:={ca:=[(7,67)],code:=.nil}}
noncomputable def i_1s:Inst:={f:=137,fn:=Tryz.f137,n:=19,pds:=[.rd Yv5,.fn 163 []],caps:=[],res:=[Yl0],h:={ca:=[(16,68)],code:=(.two .nil (.join ⟨[4],[(4,.v Yl0)]⟩ (.two .nil (.loop ⟨[4,8],[(4,.v Yl0),(8,.v Yl0)]⟩ .nil)) .nil))}}
noncomputable def i_f:Inst:={f:=163,fn:=Tryz.f163,n:=6,pds:=[.rd Yv0],caps:=[],res:=[Yl1],h:={ca:=[(4,69)],code:=.nil}}
noncomputable def i_b:Inst:={f:=164,fn:=Tryz.f164,n:=116,pds:=[.rd Yv0],caps:=[],res:=[Yl1],h:={ca:=[(13,54),(19,70),(23,51),(29,62),(53,71),(64,51),(68,72),(76,70),(80,70),(88,70),(94,51),(102,71),(114,75)],code:=(.two .nil (.two .nil (.two .nil (.two .nil (.join ⟨[3,4,6],[(3,.bx 51 [Yl0,Yl2,Yl0,Yl0,Yl0,Yl1,Yl6]),(4,.v Yl1)]⟩ (.two .nil (.two .nil (.two .nil (.two .nil (.two (.join ⟨[4],[(4,.v Yl1)]⟩ .nil (.join ⟨[4],[(4,.v Yl1)]⟩ .nil .nil)) (.two .nil (.two (.join ⟨[4],[(4,.v Yl1)]⟩ .nil .nil) (.two .nil (.two (.join ⟨[4],[(4,.v Yl1)]⟩ .nil .nil) (.two .nil (.two .nil (.two .nil (.two (.join ⟨[4],[(4,.v Yl1)]⟩ .nil .nil) (.join ⟨[],[(107,.v Yl1)]⟩ .nil .nil)))))))))))))) (.join ⟨[2],[(2,.v Yl1)]⟩ .nil .nil))))))}}
noncomputable def i_13:Inst:={f:=177,fn:=Tryz.f177,n:=5,pds:=[.rd Yv1],caps:=[],res:=[Yl1],h:={ca:=[(4,51)],code:=.nil}}
noncomputable def i_15:Inst:={f:=178,fn:=Tryz.f178,n:=5,pds:=[.rd Yv1],caps:=[],res:=[Yl1],h:={ca:=[(4,51)],code:=.nil}}
noncomputable def i_1m:Inst:={f:=50,fn:=Tryz.f50,n:=9,pds:=[.rd Yv4,.fn 179 []],caps:=[],res:=[Yl1],h:={ca:=[(7,73)],code:=.nil}}
noncomputable def i_1v:Inst:={f:=74,fn:=Tryz.f74,n:=19,pds:=[.rd Yv4,.fn 179 []],caps:=[],res:=[Yl0],h:={ca:=[(16,74)],code:=(.two .nil (.join ⟨[4],[(4,.v Yl0)]⟩ (.two .nil (.loop ⟨[4,8],[(4,.v Yl0),(8,.v Yl0)]⟩ .nil)) .nil))}}
noncomputable def i_c:Inst:={f:=179,fn:=Tryz.f179,n:=6,pds:=[.rd Yv1],caps:=[],res:=[Yl1],h:={ca:=[(4,70)],code:=.nil}}
noncomputable def i_19:Inst:={f:=180,fn:=Tryz.f180,n:=52,pds:=[.rd Yv0,.rd Yv0],caps:=[],res:=[Yl1],h:={ca:=[(50,76)],code:=(.two .nil (.join ⟨[4],[(4,.v Yl1)]⟩ .nil .nil))}}
noncomputable def i_1p:Inst:={f:=64,fn:=Tryz.f64,n:=26,pds:=[.rd Yv4,.rd Yv4],caps:=[],res:=[Yl1],h:={code:=(.two .nil (.two .nil (.join ⟨[4],[(4,.v Yl1)]⟩ (.two .nil (.loop ⟨[4,13],[(4,.v Yl1),(13,.v Yl0)]⟩ .nil)) .nil)))}}
noncomputable def i_x:Inst:={f:=139,fn:=Tryz.f139,n:=35,pds:=[.rd Yv5,.rd Yv1,.rd Yv1],caps:=[],res:=[Yl0],h:={ca:=[(23,78),(30,77)],code:=(.two .nil (.two (.join ⟨[],[(15,.v Yl1)]⟩ .nil .nil) (.two .nil (.join ⟨[6,7],[(6,.v Yl0),(7,.v Yl0)]⟩ (.two .nil (.loop ⟨[6,7,24],[(6,.v Yl0),(7,.v Yl0),(24,.v Yl0)]⟩ .nil)) .nil))))}}
noncomputable def i_3:Inst:={f:=138,fn:=Tryz.f138,n:=15,pds:=[.rd Yv1],caps:=[],res:=[Yl0],h:={code:=(.two .nil (.two (.two .nil (.two .nil (.two .nil (.join ⟨[],[(6,.v Yl1)]⟩ .nil (.two .nil (.join ⟨[],[(9,.v Yl1)]⟩ .nil .nil)))))) .nil))}}
noncomputable def i_1d:Inst:={f:=136,fn:=Tryz.f136,n:=117,pds:=[.rd Yv3,.rd Yv5,.rd Yv1],caps:=[],res:=[Yl0],h:={al:=[56,65,76,83,89,92,98,101,107,110,114],ca:=[(15,80),(24,79),(43,81),(64,84)],code:=(.two .nil (.two .nil (.join ⟨[6,7],[(6,.v Yl0),(7,.v Yl4)]⟩ (.two .nil (.loop ⟨[6,7,17],[(6,.v Yl0),(7,.v Yl4),(17,.v Yl0)]⟩ .nil)) (.two .nil (.join ⟨[6],[(6,.v Yl0)]⟩ (.two .nil (.two .nil (.two .nil (.join ⟨[],[(51,.v Yl1)]⟩ .nil (.two .nil (.two .nil (.two .nil (.two .nil (.two (.two (.join ⟨[],[(97,.v Yl1)]⟩ .nil .nil) .nil) .nil))))))))) .nil)))))}}
noncomputable def i_u:Inst:={f:=105,fn:=Tryz.f105,n:=26,pds:=[.rd Yv5,.rd Yv1],caps:=[],res:=[Yl4],h:={ca:=[(14,78),(23,77)],code:=(.two .nil (.two .nil (.two .nil (.join ⟨[5,6],[(5,.v Yl4)]⟩ (.two .nil (.loop ⟨[5,6,15],[(5,.v Yl4),(6,.v Yl0),(15,.v Yl0)]⟩ .nil)) .nil))))}}
noncomputable def i_1b:Inst:={f:=106,fn:=Tryz.f106,n:=8,pds:=[.rd Yv3,.rd .str],caps:=[],res:=[Yl0],h:={ca:=[(7,82)],code:=.nil}}
noncomputable def i_1u:Inst:={f:=140,fn:=Tryz.f140,n:=19,pds:=[.rd Yv3,.fn 141 [(true,9,[Yl2])]],caps:=[],res:=[Yl0],h:={ca:=[(16,83)],code:=(.two .nil (.join ⟨[1,4,19],[(4,.v Yl0),(19,.bx 9 [Yl2])]⟩ (.two .nil (.loop ⟨[1,4,8,19],[(1,.fix (.fn 141 [19])),(4,.v Yl0),(8,.v Yl0),(19,.bx 9 [Yl2])]⟩ .nil)) .nil))}}
noncomputable def i_1c:Inst:={f:=141,fn:=Tryz.f141,n:=8,pds:=[.rd (.pr .str (.pr Yv1 .un))],caps:=[(true,9,[Yl2])],res:=[Yl1],h:={code:=.nil}}
noncomputable def i_1x:Inst:={f:=165,fn:=Tryz.f165,n:=25,pds:=[.rd Yv4],caps:=[],res:=[Yl0],h:={code:=(.two .nil (.join ⟨[],[]⟩ .nil (.two .nil (.join ⟨[3],[(3,.v Yl0)]⟩ (.two .nil (.loop ⟨[3,4],[(3,.v Yl0),(4,.v Yl0)]⟩ .nil)) .nil))))}}
noncomputable def i_10:Inst:={f:=77,fn:=Tryz.f77,n:=5,pds:=[.rd Yv5],caps:=[],res:=[Yl1],h:={ca:=[(4,86)],code:=.nil}}
noncomputable def i_1l:Inst:={f:=103,fn:=Tryz.f103,n:=9,pds:=[.rd Yv5,.fn 104 []],caps:=[],res:=[Yl1],h:={ca:=[(7,87)],code:=.nil}}
noncomputable def i_1t:Inst:={f:=137,fn:=Tryz.f137,n:=19,pds:=[.rd Yv5,.fn 104 []],caps:=[],res:=[Yl0],h:={ca:=[(16,88)],code:=(.two .nil (.join ⟨[4],[(4,.v Yl0)]⟩ (.two .nil (.loop ⟨[4,8],[(4,.v Yl0),(8,.v Yl0)]⟩ .nil)) .nil))}}
noncomputable def i_11:Inst:={f:=104,fn:=Tryz.f104,n:=5,pds:=[.rd Yv0],caps:=[],res:=[Yl1],h:={code:=.nil}}
noncomputable def i_y:Inst:={f:=78,fn:=Tryz.f78,n:=221,pds:=[.rd Yv3,.rd Yv8,.rd Yv5,.rd Yv1],caps:=[],res:=[⟨false,false,Yv2⟩,Yl1],h:={al:=[70,92,122,130,168,171,178,182,187,192,200,208],el:=[71,93,123,131,169,172,179,188,193,201],hi:=[10,16,117,162],hs:=[217],ca:=[(32,80),(43,89),(65,81),(84,90),(161,91),(175,93),(181,95),(184,96),(210,105)],code:=(.two .nil (.two .nil (.join ⟨[8,9,10],[(8,.v Yl7),(9,.v Yl1),(10,.v ⟨true,false,Yv8⟩)]⟩ (.two .nil (.loop ⟨[8,9,10,34],[(8,.v Yl7),(9,.v Yl1),(10,.v ⟨true,false,Yv8⟩),(34,.v Yl0)]⟩ .nil)) (.two .nil (.two .nil (.two (.two .nil (.two .nil (.two .nil (.two .nil (.two (.two .nil (.loop ⟨[16,74],[(16,.v Yl3),(74,.v Yl0)]⟩ (.two .nil (.two .nil (.join ⟨[16],[(16,.v Yl3)]⟩ .nil .nil))))) (.two .nil (.two (.two .nil (.loop ⟨[16,96],[(16,.v Yl3),(96,.v Yl0)]⟩ (.two .nil (.two .nil (.join ⟨[16],[(16,.v Yl3)]⟩ (.two .nil (.two .nil (.join ⟨[21],[(21,.v Yl4)]⟩ (.two .nil (.loop ⟨[21,103],[(21,.v Yl4),(103,.v Yl0)]⟩ .nil)) .nil))) .nil))))) (.two .nil (.two (.two .nil (.loop ⟨[16,126],[(16,.v Yl3),(126,.v Yl0)]⟩ (.two .nil (.two .nil (.join ⟨[16],[(16,.v Yl3)]⟩ (.two .nil (.two .nil (.loop ⟨[16,134],[(16,.v Yl3),(134,.v Yl0)]⟩ (.two .nil (.two .nil (.join ⟨[16],[(16,.v Yl3)]⟩ (.two .nil (.join ⟨[],[(156,.v Yl1)]⟩ .nil .nil)) .nil)))))) .nil))))) (.two .nil (.two .nil (.two .nil (.two .nil (.two .nil (.two .nil (.two .nil (.two (.two .nil (.loop ⟨[16,204],[(16,.v Yl3),(204,.v Yl0)]⟩ (.two .nil (.two .nil (.join ⟨[16],[(16,.v Yl3)]⟩ .nil .nil))))) .nil))))))))))))))))) .nil))))))}}
noncomputable def i_d:Inst:={f:=107,fn:=Tryz.f107,n:=35,pds:=[.rd Yv0,.rd Yv1],caps:=[],res:=[Yl1],h:={code:=(.two .nil (.two (.two .nil (.two .nil (.two .nil (.two .nil (.two .nil (.two .nil (.two (.join ⟨[4],[(4,.v Yl1)]⟩ .nil .nil) .nil))))))) (.join ⟨[4],[(4,.v Yl1)]⟩ .nil .nil)))}}
noncomputable def i_1j:Inst:={f:=108,fn:=Tryz.f108,n:=36,pds:=[.rd Yv2],caps:=[],res:=[Yl4],h:={ca:=[(24,92)],code:=(.two .nil (.two .nil (.join ⟨[3],[(3,.v Yl0)]⟩ (.two .nil (.loop ⟨[3,11],[(3,.v Yl0),(11,.v Yl0)]⟩ (.two .nil (.two .nil (.join ⟨[3],[(3,.v Yl0)]⟩ .nil .nil))))) (.two .nil (.join ⟨[6],[(6,.v Yl4)]⟩ (.two .nil (.loop ⟨[6,27],[(6,.v Yl4),(27,.v Yl0)]⟩ .nil)) .nil)))))}}
noncomputable def i_1r:Inst:={f:=142,fn:=Tryz.f142,n:=27,pds:=[.ow true 3 Yv1,.rd Yv1],caps:=[],res:=[Yl4],h:={tk:=[25],code:=.nil}}
noncomputable def i_1i:Inst:={f:=109,fn:=Tryz.f109,n:=36,pds:=[.rd Yv8],caps:=[],res:=[Yl3],h:={hi:=[24],ca:=[(24,94)],code:=(.two .nil (.two .nil (.join ⟨[3],[(3,.v Yl0)]⟩ (.two .nil (.loop ⟨[3,11],[(3,.v Yl0),(11,.v Yl0)]⟩ (.two .nil (.two .nil (.join ⟨[3],[(3,.v Yl0)]⟩ .nil .nil))))) (.two .nil (.join ⟨[6],[(6,.v Yl3)]⟩ (.two .nil (.loop ⟨[6,27],[(6,.v Yl3),(27,.v Yl0)]⟩ .nil)) .nil)))))}}
noncomputable def i_1q:Inst:={f:=143,fn:=Tryz.f143,n:=27,pds:=[.ow true 49 Yv4,.rd Yv1],caps:=[],res:=[Yl3],h:={tk:=[25],code:=.nil}}
noncomputable def i_1g:Inst:={f:=110,fn:=Tryz.f110,n:=8,pds:=[.rd Yv2],caps:=[],res:=[Yl3],h:={hi:=[5],code:=.nil}}
noncomputable def i_1z:Inst:={f:=111,fn:=Tryz.f111,n:=9,pds:=[.mu true false 49 Yv4,.fn 112 [(true,51,[Yl0,Yl2,Yl0,Yl0,Yl0,Yl1,Yl6])]],caps:=[],res:=[],h:={ca:=[(8,97)],code:=.nil}}
noncomputable def i_22:Inst:={f:=144,fn:=Tryz.f144,n:=63,pds:=[.mu true false 49 Yv4,.rd Yv1,.fn 112 [(true,51,[Yl0,Yl2,Yl0,Yl0,Yl0,Yl1,Yl6])]],caps:=[],res:=[],h:={ca:=[(18,98),(27,98),(43,102),(60,102)],code:=(.two .nil (.two .nil (.join ⟨[0,2,7,8,63,64],[(0,.fix (.eq 63)),(2,.fix (.fn 112 [64])),(7,.v Yl0),(63,.v Yl3),(64,.bx 51 [Yl0,Yl2,Yl0,Yl0,Yl0,Yl1,Yl6])]⟩ (.loop ⟨[0,2,7,8,63,64],[(0,.fix (.eq 63)),(2,.fix (.fn 112 [64])),(7,.v Yl0),(8,.v Yl0),(63,.v Yl3),(64,.bx 51 [Yl0,Yl2,Yl0,Yl0,Yl0,Yl1,Yl6])]⟩ .nil) (.two .nil (.loop ⟨[0,2,6,7,23,26,63,64],[(0,.fix (.eq 63)),(2,.fix (.fn 112 [64])),(6,.v Yl0),(63,.v Yl3),(64,.bx 51 [Yl0,Yl2,Yl0,Yl0,Yl0,Yl1,Yl6])]⟩ (.two .nil (.two .nil (.join ⟨[0,2,7,8,63,64],[(0,.fix (.eq 63)),(2,.fix (.fn 112 [64])),(7,.v Yl0),(63,.v Yl3),(64,.bx 51 [Yl0,Yl2,Yl0,Yl0,Yl0,Yl1,Yl6])]⟩ (.loop ⟨[0,2,7,8,63,64],[(0,.fix (.eq 63)),(2,.fix (.fn 112 [64])),(7,.v Yl0),(8,.v Yl0),(63,.v Yl3),(64,.bx 51 [Yl0,Yl2,Yl0,Yl0,Yl0,Yl1,Yl6])]⟩ .nil) (.join ⟨[0,2,63,64],[(0,.fix (.eq 63)),(2,.fix (.fn 112 [64])),(63,.v Yl3),(64,.bx 51 [Yl0,Yl2,Yl0,Yl0,Yl0,Yl1,Yl6])]⟩ .nil .nil)))))))))}}
noncomputable def i_20:Inst:={f:=150,fn:=Tryz.f150,n:=53,pds:=[.mu true false 49 Yv4,.rd Yv1,.rd Yv1,.fn 112 [(true,51,[Yl0,Yl2,Yl0,Yl0,Yl0,Yl1,Yl6])]],caps:=[],res:=[],h:={el:=[25,30],ca:=[(32,99)],code:=(.two .nil (.loop ⟨[0,3,8,53,54],[(0,.fix (.eq 53)),(3,.fix (.fn 112 [54])),(8,.v Yl0),(53,.v Yl3),(54,.bx 51 [Yl0,Yl2,Yl0,Yl0,Yl0,Yl1,Yl6])]⟩ (.two .nil (.join ⟨[0,3,53,54],[(0,.fix (.eq 53)),(3,.fix (.fn 112 [54])),(53,.v Yl3),(54,.bx 51 [Yl0,Yl2,Yl0,Yl0,Yl0,Yl1,Yl6])]⟩ (.two .nil (.loop ⟨[0,3,9,53,54],[(0,.fix (.eq 53)),(3,.fix (.fn 112 [54])),(9,.v Yl0),(53,.v Yl3),(54,.bx 51 [Yl0,Yl2,Yl0,Yl0,Yl0,Yl1,Yl6])]⟩ (.two (.join ⟨[3,54],[(3,.fix (.fn 112 [54])),(34,.v Yl1),(54,.bx 51 [Yl0,Yl2,Yl0,Yl0,Yl0,Yl1,Yl6])]⟩ .nil .nil) .nil))) .nil))))}}
noncomputable def i_z:Inst:={f:=112,fn:=Tryz.f112,n:=17,pds:=[.rd Yv4,.rd Yv4],caps:=[(true,51,[Yl0,Yl2,Yl0,Yl0,Yl0,Yl1,Yl6])],res:=[Yl0],h:={ca:=[(16,100)],code:=.nil}}
noncomputable def i_1:Inst:={f:=113,fn:=Tryz.f113,n:=20,pds:=[.rd Yv1,.rd Yv1],caps:=[],res:=[Yl0],h:={ca:=[(8,101),(10,101)],code:=.nil}}
noncomputable def i_2:Inst:={f:=145,fn:=Tryz.f145,n:=6,pds:=[.rd Yv1],caps:=[],res:=[Yl1],h:={code:=.nil}}
noncomputable def i_24:Inst:={f:=166,fn:=Tryz.f166,n:=220,pds:=[.mu true false 49 Yv4,.rd Yv1,.rd Yv1,.rd Yv1,.fn 112 [(true,51,[Yl0,Yl2,Yl0,Yl0,Yl0,Yl1,Yl6])]],caps:=[],res:=[],h:={el:=[43,47,95,99,163,167],ca:=[(49,99),(101,99),(169,99),(191,103),(205,102),(219,102)],code:=(.join ⟨[0,4,220,221],[(0,.fix (.eq 220)),(4,.fix (.fn 112 [221])),(220,.v Yl3),(221,.bx 51 [Yl0,Yl2,Yl0,Yl0,Yl0,Yl1,Yl6])]⟩ (.two .nil (.two (.two .nil (.two .nil (.join ⟨[4,10,11,221],[(10,.v Yl0),(221,.bx 51 [Yl0,Yl2,Yl0,Yl0,Yl0,Yl1,Yl6])]⟩ (.loop ⟨[4,10,11,221],[(4,.fix (.fn 112 [221])),(10,.v Yl0),(11,.v Yl0),(221,.bx 51 [Yl0,Yl2,Yl0,Yl0,Yl0,Yl1,Yl6])]⟩ .nil) (.join ⟨[0,220],[(220,.v Yl3)]⟩ (.two .nil (.loop ⟨[0,13,220],[(0,.fix (.eq 220)),(13,.v Yl0),(220,.v Yl3)]⟩ .nil)) .nil)))) .nil)) (.join ⟨[0,4,220,221],[(0,.fix (.eq 220)),(4,.fix (.fn 112 [221])),(220,.v Yl3),(221,.bx 51 [Yl0,Yl2,Yl0,Yl0,Yl0,Yl1,Yl6])]⟩ (.two .nil (.two (.two .nil (.two .nil (.join ⟨[4,14,15,221],[(14,.v Yl0),(221,.bx 51 [Yl0,Yl2,Yl0,Yl0,Yl0,Yl1,Yl6])]⟩ (.loop ⟨[4,14,15,221],[(4,.fix (.fn 112 [221])),(14,.v Yl0),(15,.v Yl0),(221,.bx 51 [Yl0,Yl2,Yl0,Yl0,Yl0,Yl1,Yl6])]⟩ .nil) (.join ⟨[0,220],[(220,.v Yl3)]⟩ (.two .nil (.loop ⟨[0,17,220],[(0,.fix (.eq 220)),(17,.v Yl0),(220,.v Yl3)]⟩ .nil)) .nil)))) .nil)) (.two .nil (.two .nil (.two .nil (.join ⟨[20,21],[(20,.v Yl0),(21,.v Yl0)]⟩ .nil (.two .nil (.join ⟨[4,20,21,221],[(4,.fix (.fn 112 [221])),(20,.v Yl0),(221,.bx 51 [Yl0,Yl2,Yl0,Yl0,Yl0,Yl1,Yl6])]⟩ (.loop ⟨[4,20,21,221],[(4,.fix (.fn 112 [221])),(20,.v Yl0),(21,.v Yl0),(221,.bx 51 [Yl0,Yl2,Yl0,Yl0,Yl0,Yl1,Yl6])]⟩ .nil) (.two .nil (.join ⟨[0,4,220,221],[(0,.fix (.eq 220)),(4,.fix (.fn 112 [221])),(220,.v Yl3),(221,.bx 51 [Yl0,Yl2,Yl0,Yl0,Yl0,Yl1,Yl6])]⟩ (.join ⟨[],[(185,.v Yl1)]⟩ .nil .nil) (.join ⟨[0,4,220,221],[(0,.fix (.eq 220)),(4,.fix (.fn 112 [221])),(220,.v Yl3),(221,.bx 51 [Yl0,Yl2,Yl0,Yl0,Yl0,Yl1,Yl6])]⟩ (.join ⟨[],[(199,.v Yl1)]⟩ .nil .nil) (.join ⟨[],[(213,.v Yl1)]⟩ .nil .nil))))))))))))}}
noncomputable def i_21:Inst:={f:=181,fn:=Tryz.f181,n:=58,pds:=[.mu true false 49 Yv4,.rd Yv1,.rd Yv1,.rd Yv1,.fn 112 [(true,51,[Yl0,Yl2,Yl0,Yl0,Yl0,Yl1,Yl6])]],caps:=[],res:=[],h:={ca:=[(31,104),(46,104),(57,104)],code:=(.two .nil (.two .nil (.join ⟨[0,4,10,11,58,59],[(0,.fix (.eq 58)),(4,.fix (.fn 112 [59])),(10,.v Yl0),(58,.v Yl3),(59,.bx 51 [Yl0,Yl2,Yl0,Yl0,Yl0,Yl1,Yl6])]⟩ (.loop ⟨[0,4,10,11,58,59],[(0,.fix (.eq 58)),(4,.fix (.fn 112 [59])),(10,.v Yl0),(11,.v Yl0),(58,.v Yl3),(59,.bx 51 [Yl0,Yl2,Yl0,Yl0,Yl0,Yl1,Yl6])]⟩ .nil) .nil)))}}
noncomputable def i_23:Inst:={f:=187,fn:=Tryz.f187,n:=38,pds:=[.mu true false 49 Yv4,.rd Yv1,.rd Yv1,.rd Yv1,.fn 112 [(true,51,[Yl0,Yl2,Yl0,Yl0,Yl0,Yl1,Yl6])]],caps:=[],res:=[],h:={code:=(.two .nil (.loop ⟨[0,10,38],[(0,.fix (.eq 38)),(10,.v Yl0),(38,.v Yl3)]⟩ .nil))}}
noncomputable def i_5:Inst:={f:=114,fn:=Tryz.f114,n:=21,pds:=[.rd Yv2,.rd Yv4],caps:=[],res:=[Yl0],h:={ca:=[(16,76)],code:=(.two .nil (.two .nil (.join ⟨[5],[(5,.v Yl0)]⟩ (.two .nil (.loop ⟨[5,10],[(5,.v Yl0),(10,.v Yl0)]⟩ (.two .nil (.two .nil (.join ⟨[5],[(5,.v Yl0)]⟩ .nil .nil))))) .nil)))}}
noncomputable def i_18:Inst:={f:=79,fn:=Tryz.f79,n:=19,pds:=[.rd Yv2],caps:=[],res:=[Yl7],h:={ca:=[(14,107)],code:=(.two .nil (.two .nil (.join ⟨[3],[(3,.v Yl7)]⟩ (.two .nil (.loop ⟨[3,8],[(3,.v Yl7),(8,.v Yl0)]⟩ .nil)) .nil)))}}
noncomputable def i_1h:Inst:={f:=115,fn:=Tryz.f115,n:=8,pds:=[.rd Yv4],caps:=[],res:=[Yl4],h:={code:=.nil}}
noncomputable def i_k:Inst:={f:=34,fn:=Tryz.f34,n:=8,pds:=[.rd Yv2,.rd Yv2],caps:=[],res:=[Yl1],h:={ca:=[(7,109)],code:=.nil}}
noncomputable def i_1o:Inst:={f:=63,fn:=Tryz.f63,n:=32,pds:=[.rd Yv2,.rd Yv2,.fn 64 []],caps:=[],res:=[Yl1],h:={ca:=[(29,76)],code:=(.two .nil (.two .nil (.join ⟨[6],[(6,.v Yl1)]⟩ (.two .nil (.loop ⟨[6,17],[(6,.v Yl1),(17,.v Yl0)]⟩ .nil)) .nil)))}}
noncomputable def i_6:Inst:={f:=7,fn:=Tryz.f7,n:=14,pds:=[.rd Yv3,.rd Yv5,.rd Yv5,.rd Yv1],caps:=[],res:=[Yl0],h:={ca:=[(13,111)],code:=.nil}}
noncomputable def i_v:Inst:={f:=33,fn:=Tryz.f33,n:=56,pds:=[.rd Yv3,.rd Yv5,.rd Yv5,.rd Yv1,.fn 35 []],caps:=[],res:=[Yl0],h:={al:=[29,36,49,50],ca:=[(18,51),(26,52),(31,56),(38,56),(51,112)],code:=(.two .nil (.two .nil (.join ⟨[10],[(10,.v Yl0)]⟩ (.two .nil (.loop ⟨[10,21],[(10,.v Yl0),(21,.v Yl0)]⟩ (.two .nil (.two .nil (.two (.two .nil (.two .nil (.two .nil (.two .nil (.join ⟨[],[(53,.v Yl1)]⟩ .nil .nil))))) .nil))))) .nil)))}}
noncomputable def i_j:Inst:={f:=35,fn:=Tryz.f35,n:=20,pds:=[.rd Yv2,.rd Yv2],caps:=[],res:=[Yl1],h:={ca:=[(15,113),(17,113),(18,108)],code:=(.two .nil (.join ⟨[4],[(4,.v Yl1)]⟩ .nil .nil))}}
noncomputable def i_m:Inst:={f:=65,fn:=Tryz.f65,n:=12,pds:=[.rd Yv2],caps:=[],res:=[Yl7],h:={al:=[9],ca:=[(8,106),(10,114)],code:=.nil}}
noncomputable def i_1y:Inst:={f:=93,fn:=Tryz.f93,n:=14,pds:=[.mu true true 49 Yv4,.fn 94 []],caps:=[],res:=[],h:={}}
noncomputable def i_2b:Inst:={f:=8,fn:=Tryz.f8,n:=14,pds:=[.rd Yv3,.rd Yv5,.rd Yv5,.rd Yv1],caps:=[],res:=[Yl0],h:={ca:=[(13,116)],code:=.nil}}
noncomputable def i_47:Inst:={f:=36,fn:=Tryz.f36,n:=66,pds:=[.rd Yv3,.rd Yv5,.rd Yv5,.rd Yv1,.rd .bool],caps:=[],res:=[Yl0],h:={al:=[30,37,50,51,59,60],ca:=[(18,23),(27,117),(32,119),(39,119),(52,132),(61,135)],code:=(.two .nil (.two .nil (.join ⟨[10],[(10,.v Yl0)]⟩ (.two .nil (.loop ⟨[10,11],[(10,.v Yl0),(11,.v Yl0)]⟩ (.two .nil (.join ⟨[10],[(10,.v Yl0)]⟩ (.two .nil (.two .nil (.two .nil (.two (.join ⟨[],[(47,.v Yl1)]⟩ .nil .nil) (.join ⟨[],[(64,.v Yl1)]⟩ .nil .nil))))) .nil)))) .nil)))}}
noncomputable def i_2v:Inst:={f:=15,fn:=Tryz.f15,n:=63,pds:=[.rd Yv3,.rd Yv1],caps:=[],res:=[Yl10],h:={ca:=[(14,39),(18,23),(30,118),(46,118)],code:=(.two .nil (.two (.join ⟨[],[(20,.v Yl1)]⟩ .nil .nil) (.two .nil (.two .nil (.join ⟨[5,6],[(5,.v Yl10)]⟩ (.two .nil (.loop ⟨[5,6,7],[(5,.v Yl10),(6,.bx 3 [Yl0]),(7,.v Yl0)]⟩ (.two .nil (.join ⟨[5,6],[(5,.v Yl10),(6,.bx 3 [Yl0])]⟩ (.two .nil (.join ⟨[6,8],[(6,.bx 3 [Yl0]),(8,.v Yl7)]⟩ (.two .nil (.loop ⟨[6,8,9],[(6,.bx 3 [Yl0]),(8,.v Yl7),(9,.v Yl0)]⟩ (.two .nil (.join ⟨[6,8],[(6,.bx 3 [Yl0]),(8,.v Yl7)]⟩ (.two .nil (.join ⟨[6,10],[(6,.bx 3 [Yl0]),(10,.v Yl4)]⟩ (.two .nil (.loop ⟨[6,10,11],[(6,.bx 3 [Yl0]),(10,.v Yl4),(11,.v Yl0)]⟩ (.two .nil (.two (.two .nil (.join ⟨[12],[(12,.v Yl0)]⟩ .nil .nil)) .nil)))) .nil)) .nil)))) .nil)) .nil)))) .nil)))))}}
noncomputable def i_49:Inst:={f:=47,fn:=Tryz.f47,n:=14,pds:=[.pt true 3 [Yl0]],caps:=[],res:=[Yl0],h:={code:=.nil}}
noncomputable def i_2e:Inst:={f:=54,fn:=Tryz.f54,n:=43,pds:=[.rd Yv3,.rd Yv8,.rd Yv5],caps:=[],res:=[Yl7,Yl0],h:={ca:=[(13,120),(18,37),(36,122),(42,131)],code:=(.two .nil (.two (.join ⟨[],[(20,.v Yl1)]⟩ .nil .nil) (.join ⟨[6,7],[(6,.v Yl7),(7,.v Yl0)]⟩ (.two .nil (.loop ⟨[6,7,8],[(6,.v Yl7),(7,.v Yl0),(8,.v Yl0)]⟩ .nil)) .nil)))}}
noncomputable def i_2w:Inst:={f:=44,fn:=Tryz.f44,n:=77,pds:=[.rd Yv3,.rd Yv8],caps:=[],res:=[Yl1],h:={ca:=[(9,39),(75,121)],code:=(.two .nil (.two (.join ⟨[],[(17,.v Yl1)]⟩ .nil .nil) (.join ⟨[4],[(4,.v Yl1)]⟩ (.two .nil (.loop ⟨[4,5],[(4,.v Yl1),(5,.v Yl0)]⟩ (.two .nil (.join ⟨[4],[(4,.v Yl1)]⟩ (.two .nil (.two .nil (.loop ⟨[4,6],[(4,.v Yl1),(6,.v Yl0)]⟩ (.two .nil (.join ⟨[4],[(4,.v Yl1)]⟩ (.two .nil (.two .nil (.loop ⟨[4,7],[(4,.v Yl1),(7,.v Yl0)]⟩ .nil))) .nil))))) .nil)))) .nil)))}}
noncomputable def i_3y:Inst:={f:=73,fn:=Tryz.f73,n:=9,pds:=[.rd Yv1],caps:=[],res:=[Yl1],h:={ca:=[(4,27)],code:=(.two .nil (.join ⟨[2],[(2,.v Yl1)]⟩ .nil .nil))}}
noncomputable def i_3r:Inst:={f:=81,fn:=Tryz.f81,n:=142,pds:=[.rd Yv3,.rd Yv8,.rd Yv5,.rd Yv1],caps:=[],res:=[⟨false,false,Yv2⟩,Yl1],h:={al:=[28,37,65,72,79,82,93,102,114,120,134],el:=[66,73,80,83,95,104,115,121,135],hi:=[23,50],hs:=[138],ca:=[(26,42),(41,122),(59,43),(68,123),(75,125),(85,126),(117,127),(137,128)],code:=(.two .nil (.two .nil (.two .nil (.two .nil (.join ⟨[8,9,11],[(8,.v Yl7),(9,.v Yl1),(11,.v ⟨true,false,Yv8⟩)]⟩ (.two .nil (.loop ⟨[8,9,11,13],[(8,.v Yl7),(9,.v Yl1),(11,.v ⟨true,false,Yv8⟩),(13,.v Yl0)]⟩ .nil)) (.two .nil (.two (.two .nil (.two .nil (.two .nil (.two .nil (.two .nil (.two .nil (.two .nil (.two .nil (.two .nil (.two .nil (.two (.two .nil (.loop ⟨[16,17],[(16,.v Yl3),(17,.v Yl0)]⟩ (.two .nil (.join ⟨[16],[(16,.v Yl3)]⟩ (.two .nil (.loop ⟨[16,18],[(16,.v Yl3),(18,.v Yl0)]⟩ .nil)) .nil)))) .nil))))))))))) .nil)))))))}}
noncomputable def i_3s:Inst:={f:=119,fn:=Tryz.f119,n:=32,pds:=[.rd Yv0,.rd Yv2],caps:=[],res:=[Yl3],h:={hi:=[7],ca:=[(23,124)],code:=(.two .nil (.two .nil (.join ⟨[5],[(5,.v Yl3)]⟩ (.two .nil (.loop ⟨[5,6],[(5,.v Yl3),(6,.v Yl0)]⟩ (.two .nil (.join ⟨[5],[(5,.v Yl3)]⟩ .nil .nil)))) .nil)))}}
noncomputable def i_3t:Inst:={f:=146,fn:=Tryz.f146,n:=30,pds:=[.rd Yv0,.rd Yv1],caps:=[],res:=[Yl1],h:={code:=.nil}}
noncomputable def i_3v:Inst:={f:=120,fn:=Tryz.f120,n:=43,pds:=[.rd Yv0,.rd Yv2],caps:=[],res:=[Yl7],h:={code:=(.two .nil (.two .nil (.join ⟨[5],[(5,.v Yl7)]⟩ (.two .nil (.loop ⟨[5,6],[(5,.v Yl7),(6,.v Yl0)]⟩ (.two .nil (.join ⟨[5],[(5,.v Yl7)]⟩ (.two .nil (.join ⟨[7],[(7,.v Yl4)]⟩ (.two .nil (.loop ⟨[7,8],[(7,.v Yl4),(8,.v Yl0)]⟩ .nil)) .nil)) .nil)))) .nil)))}}
noncomputable def i_3u:Inst:={f:=121,fn:=Tryz.f121,n:=77,pds:=[.rd Yv0,.rd Yv2,.rd Yv2],caps:=[],res:=[Yl7],h:={ca:=[(52,18)],code:=(.two .nil (.two .nil (.join ⟨[7],[(7,.v Yl7)]⟩ (.two .nil (.loop ⟨[7,8],[(7,.v Yl7),(8,.v Yl0)]⟩ (.two .nil (.join ⟨[7],[(7,.v Yl7)]⟩ (.two .nil (.loop ⟨[7,9],[(7,.v Yl7),(9,.v Yl0)]⟩ (.two .nil (.join ⟨[7],[(7,.v Yl7)]⟩ (.two .nil (.two (.join ⟨[],[(47,.v Yl1)]⟩ .nil .nil) (.two .nil (.join ⟨[11],[(11,.v Yl4)]⟩ (.two .nil (.loop ⟨[11,12],[(11,.v Yl4),(12,.v Yl0)]⟩ .nil)) .nil)))) .nil)))) .nil)))) .nil)))}}
noncomputable def i_3x:Inst:={f:=122,fn:=Tryz.f122,n:=70,pds:=[.rd Yv0,.rd Yv2],caps:=[],res:=[Yl3],h:={al:=[19,35,53],el:=[37,55],hi:=[10,17],code:=(.two .nil (.two .nil (.join ⟨[5],[(5,.v Yl3)]⟩ (.two .nil (.loop ⟨[5,6],[(5,.v Yl3),(6,.v Yl0)]⟩ (.two .nil (.join ⟨[5],[(5,.v Yl3)]⟩ (.two .nil (.two .nil (.join ⟨[7,8],[(7,.v Yl3),(8,.v Yl1)]⟩ (.two .nil (.loop ⟨[7,8,9],[(7,.v Yl3),(8,.v Yl1),(9,.v Yl0)]⟩ (.two .nil (.two (.join ⟨[7,8],[(7,.v Yl3),(8,.v Yl1)]⟩ (.join ⟨[],[(44,.v Yl1)]⟩ .nil .nil) .nil) .nil)))) (.join ⟨[7],[(7,.v Yl3)]⟩ .nil .nil)))) .nil)))) .nil)))}}
noncomputable def i_3w:Inst:={f:=123,fn:=Tryz.f123,n:=27,pds:=[.rd Yv2],caps:=[],res:=[Yl3],h:={al:=[12],hi:=[5],ca:=[(17,129)],code:=(.two .nil (.two .nil (.join ⟨[3],[(3,.v Yl3)]⟩ (.two .nil (.loop ⟨[3,4],[(3,.v Yl3),(4,.v Yl0)]⟩ (.two .nil (.join ⟨[3],[(3,.v Yl3)]⟩ .nil .nil)))) .nil)))}}
noncomputable def i_29:Inst:={f:=147,fn:=Tryz.f147,n:=22,pds:=[.rd Yv2,.rd Yv4],caps:=[],res:=[Yl0],h:={ca:=[(18,130)],code:=(.two .nil (.two .nil (.join ⟨[5],[(5,.v Yl0)]⟩ (.two .nil (.loop ⟨[5,6],[(5,.v Yl0),(6,.v Yl0)]⟩ (.two .nil (.join ⟨[5],[(5,.v Yl0)]⟩ .nil .nil)))) .nil)))}}
noncomputable def i_3l:Inst:={f:=96,fn:=Tryz.f96,n:=26,pds:=[.rd Yv4,.rd Yv4],caps:=[],res:=[Yl1],h:={code:=(.two .nil (.two .nil (.join ⟨[4],[(4,.v Yl1)]⟩ (.two .nil (.loop ⟨[4,5],[(4,.v Yl1),(5,.v Yl0)]⟩ .nil)) .nil)))}}
noncomputable def i_3q:Inst:={f:=82,fn:=Tryz.f82,n:=21,pds:=[.rd Yv2],caps:=[],res:=[Yl7],h:={ca:=[(17,18)],code:=(.two .nil (.two .nil (.join ⟨[3],[(3,.v Yl7)]⟩ (.two .nil (.loop ⟨[3,4],[(3,.v Yl7),(4,.v Yl0)]⟩ .nil)) .nil)))}}
noncomputable def i_2p:Inst:={f:=66,fn:=Tryz.f66,n:=20,pds:=[.rd Yv2,.rd Yv2],caps:=[],res:=[Yl1],h:={ca:=[(15,133),(17,133),(18,135)],code:=(.two .nil (.join ⟨[4],[(4,.v Yl1)]⟩ .nil .nil))}}
noncomputable def i_2t:Inst:={f:=95,fn:=Tryz.f95,n:=64,pds:=[.rd Yv2],caps:=[],res:=[Yl7],h:={al:=[20,32,46,62],el:=[34,48],hi:=[8,18],ca:=[(36,134),(63,131)],code:=(.two .nil (.two .nil (.two .nil (.join ⟨[3],[(3,.v Yl3)]⟩ (.two .nil (.loop ⟨[3,4],[(3,.v Yl3),(4,.v Yl0)]⟩ (.two .nil (.join ⟨[3],[(3,.v Yl3)]⟩ (.two .nil (.two .nil (.join ⟨[5,6],[(5,.v Yl3),(6,.v Yl1)]⟩ (.two .nil (.loop ⟨[5,6,7],[(5,.v Yl3),(6,.v Yl1),(7,.v Yl0)]⟩ (.two .nil (.two (.join ⟨[5,6],[(5,.v Yl3),(6,.v Yl1)]⟩ (.join ⟨[],[(37,.v Yl1)]⟩ .nil .nil) .nil) .nil)))) (.join ⟨[5],[(5,.v Yl3)]⟩ .nil .nil)))) .nil)))) .nil))))}}
noncomputable def i_2l:Inst:={f:=131,fn:=Tryz.f131,n:=41,pds:=[.rd Yv4,.rd Yv4],caps:=[],res:=[Yl1],h:={code:=(.two .nil (.join ⟨[4],[(4,.v Yl1)]⟩ (.two .nil (.loop ⟨[4,5],[(4,.v Yl1),(5,.v Yl0)]⟩ (.two (.join ⟨[],[(15,.v Yl1)]⟩ .nil .nil) .nil))) .nil))}}
noncomputable def i_2q:Inst:={f:=67,fn:=Tryz.f67,n:=27,pds:=[.rd Yv2,.rd Yv2],caps:=[],res:=[Yl1],h:={ca:=[(25,130)],code:=(.two .nil (.two .nil (.join ⟨[4],[(4,.v Yl1)]⟩ (.two .nil (.loop ⟨[4,5],[(4,.v Yl1),(5,.v Yl0)]⟩ .nil)) .nil)))}}
noncomputable def i_2a:Inst:={f:=9,fn:=Tryz.f9,n:=14,pds:=[.rd Yv3,.rd Yv5,.rd Yv5,.rd Yv1],caps:=[],res:=[Yl0],h:={ca:=[(13,116)],code:=.nil}}
noncomputable def i_1e:Inst:={f:=11,fn:=Tryz.f11,n:=28,pds:=[.rd Yv6,.rd Yv1],caps:=[],res:=[⟨true,true,Yv6⟩],h:={code:=(.two .nil (.two .nil (.join ⟨[5],[(5,.v ⟨true,true,Yv6⟩)]⟩ (.two .nil (.loop ⟨[5,6],[(5,.v ⟨true,true,Yv6⟩),(6,.v Yl0)]⟩ (.two (.join ⟨[],[(17,.v Yl1)]⟩ .nil .nil) .nil))) .nil)))}}
noncomputable def i_2d:Inst:={f:=10,fn:=Tryz.f10,n:=11,pds:=[.rd Yv6],caps:=[],res:=[Yl13,Yl0],h:={ca:=[(6,4),(8,9),(10,139)],code:=.nil}}
noncomputable def i_48:Inst:={f:=39,fn:=Tryz.f39,n:=10,pds:=[.pt true 89 [Yl5,Yl0,Yl0]],caps:=[],res:=[Yl0],h:={ca:=[(5,7),(7,7),(9,10)],code:=.nil}}
noncomputable def i_q:Inst:={f:=13,fn:=Tryz.f13,n:=45,pds:=[.rd Yv3,.rd Yv8],caps:=[],res:=[Yl2],h:={ca:=[(12,57),(37,141)],code:=(.two .nil (.two .nil (.two .nil (.join ⟨[5],[(5,.v Yl2)]⟩ (.two .nil (.loop ⟨[5,16],[(5,.v Yl2),(16,.v Yl0)]⟩ (.two .nil (.two .nil (.join ⟨[5],[(5,.v Yl2)]⟩ (.two .nil (.two .nil (.join ⟨[5],[(5,.v Yl2)]⟩ (.two .nil (.loop ⟨[5,31],[(5,.v Yl2),(31,.v Yl0)]⟩ .nil)) .nil))) .nil))))) .nil))))}}
noncomputable def i_g:Inst:={f:=43,fn:=Tryz.f43,n:=28,pds:=[.rd Yv4],caps:=[],res:=[Yl2],h:={al:=[26],ca:=[(22,142),(27,144)],code:=(.two .nil (.two .nil (.two .nil (.join ⟨[3],[(3,.v ⟨true,true,(.sl 9 .str)⟩)]⟩ (.two .nil (.loop ⟨[3,11],[(3,.v ⟨true,true,(.sl 9 .str)⟩),(11,.v Yl0)]⟩ (.two .nil (.two .nil (.join ⟨[3],[(3,.v ⟨true,true,(.sl 9 .str)⟩)]⟩ .nil .nil))))) .nil))))}}
noncomputable def i_17:Inst:={f:=71,fn:=Tryz.f71,n:=5,pds:=[.rd Yv1],caps:=[],res:=[Yl2],h:={ca:=[(4,143)],code:=.nil}}
noncomputable def i_4a:Inst:={f:=97,fn:=Tryz.f97,n:=5,pds:=[.rd Yv1],caps:=[],res:=[Yl2],h:={}}
noncomputable def i_4b:Inst:={f:=72,fn:=Tryz.f72,n:=75,pds:=[.mu true true 9 .str,.rd .str],caps:=[],res:=[Yl2],h:={}}
noncomputable def i_2x:Inst:={f:=14,fn:=Tryz.f14,n:=49,pds:=[.rd Yv3,.rd Yv8],caps:=[],res:=[Yl2],h:={ca:=[(10,120),(44,146)],code:=(.two .nil (.two .nil (.two .nil (.join ⟨[5],[(5,.v Yl2)]⟩ (.two .nil (.loop ⟨[5,6],[(5,.v Yl2),(6,.v Yl0)]⟩ (.two .nil (.join ⟨[5],[(5,.v Yl2)]⟩ (.two .nil (.join ⟨[5],[(5,.v Yl2)]⟩ (.two .nil (.loop ⟨[5,7],[(5,.v Yl2),(7,.v Yl0)]⟩ .nil)) .nil)) .nil)))) .nil))))}}
noncomputable def i_2m:Inst:={f:=45,fn:=Tryz.f45,n:=33,pds:=[.rd Yv4],caps:=[],res:=[Yl2],h:={ca:=[(30,12)],code:=(.two .nil (.two .nil (.two .nil (.join ⟨[3],[(3,.v Yl2)]⟩ (.two .nil (.loop ⟨[3,4],[(3,.v Yl2),(4,.v Yl0)]⟩ (.two .nil (.join ⟨[3],[(3,.v Yl2)]⟩ (.join ⟨[3],[(3,.v Yl2)]⟩ .nil .nil) .nil)))) .nil))))}}
noncomputable def i_4:Inst:={f:=18,fn:=Tryz.f18,n:=18,pds:=[.rd Yv8],caps:=[],res:=[Yl0],h:={code:=(.two .nil (.two .nil (.join ⟨[3],[(3,.v Yl0)]⟩ (.two .nil (.loop ⟨[3,8],[(3,.v Yl0),(8,.v Yl0)]⟩ .nil)) .nil)))}}
noncomputable def i_i:Inst:={f:=19,fn:=Tryz.f19,n:=25,pds:=[.rd Yv3,.rd Yv5,.rd Yv1],caps:=[],res:=[Yl0],h:={ca:=[(10,51),(20,149)],code:=(.two .nil (.two .nil (.two .nil (.join ⟨[7],[(7,.v Yl0)]⟩ (.two .nil (.loop ⟨[7,13],[(7,.v Yl0),(13,.v Yl0)]⟩ .nil)) .nil))))}}
noncomputable def i_h:Inst:={f:=25,fn:=Tryz.f25,n:=22,pds:=[.rd Yv3,.rd Yv5,.rd Yv1],caps:=[],res:=[Yl0],h:={al:=[20],ca:=[(13,52),(15,56)],code:=.nil}}
noncomputable def i_a:Inst:={f:=20,fn:=Tryz.f20,n:=24,pds:=[.rd Yv3,.rd Yv5,.rd Yv1],caps:=[],res:=[Yl0],h:={ca:=[(10,51),(20,149)],code:=(.two .nil (.two .nil (.two .nil (.join ⟨[7],[(7,.v Yl0)]⟩ (.two .nil (.loop ⟨[7,13],[(7,.v Yl0),(13,.v Yl0)]⟩ .nil)) .nil))))}}
noncomputable def i_2o:Inst:={f:=21,fn:=Tryz.f21,n:=28,pds:=[.rd Yv3,.rd Yv5,.rd Yv1],caps:=[],res:=[Yl0],h:={ca:=[(11,23),(21,152)],code:=(.two .nil (.two .nil (.two .nil (.join ⟨[7],[(7,.v Yl0)]⟩ (.two .nil (.loop ⟨[7,8],[(7,.v Yl0),(8,.v Yl0)]⟩ (.two .nil (.join ⟨[7],[(7,.v Yl0)]⟩ .nil .nil)))) .nil))))}}
noncomputable def i_2n:Inst:={f:=26,fn:=Tryz.f26,n:=22,pds:=[.rd Yv3,.rd Yv5,.rd Yv1],caps:=[],res:=[Yl0],h:={al:=[20],ca:=[(13,117),(15,119)],code:=.nil}}
noncomputable def i_2h:Inst:={f:=22,fn:=Tryz.f22,n:=27,pds:=[.rd Yv3,.rd Yv5,.rd Yv1],caps:=[],res:=[Yl0],h:={ca:=[(11,23),(21,152)],code:=(.two .nil (.two .nil (.two .nil (.join ⟨[7],[(7,.v Yl0)]⟩ (.two .nil (.loop ⟨[7,8],[(7,.v Yl0),(8,.v Yl0)]⟩ (.two .nil (.join ⟨[7],[(7,.v Yl0)]⟩ .nil .nil)))) .nil))))}}
noncomputable def i_9:Inst:={f:=23,fn:=Tryz.f23,n:=25,pds:=[.rd Yv3,.rd Yv5,.rd Yv1],caps:=[],res:=[Yl2],h:={al:=[18,21],ca:=[(13,52),(15,56),(24,141)],code:=.nil}}
noncomputable def i_2f:Inst:={f:=24,fn:=Tryz.f24,n:=29,pds:=[.rd Yv3,.rd Yv5,.rd Yv1],caps:=[],res:=[Yl2],h:={al:=[21,25],ca:=[(13,117),(15,119),(28,146)],code:=(.two .nil (.two .nil (.two (.join ⟨[],[(24,.v Yl1)]⟩ .nil .nil) .nil)))}}
noncomputable def FTL:List Inst:=[i_0,i_1f,i_2c,i_40,i_37,i_3o,i_3a,i_31,i_32,i_3m,i_3b,i_3c,i_38,i_41,i_3d,i_3h,i_3j,i_3g,i_33,i_42,i_2g,i_28,i_2j,i_35,i_2i,i_30,i_3f,i_39,i_3i,i_27,i_2s,i_34,i_3z,i_3e,i_44,i_43,i_2u,i_2y,i_2z,i_2r,i_36,i_3p,i_3k,i_3n,i_25,i_46,i_45,i_26,i_2k,i_7,i_w,i_12,i_n,i_l,i_t,i_1a,i_8,i_o,i_1n,i_1w,i_p,i_16,i_14,i_r,i_s,i_e,i_1k,i_1s,i_f,i_b,i_13,i_15,i_1m,i_1v,i_c,i_19,i_1p,i_x,i_3,i_1d,i_u,i_1b,i_1u,i_1c,i_1x,i_10,i_1l,i_1t,i_11,i_y,i_d,i_1j,i_1r,i_1i,i_1q,i_1g,i_1z,i_22,i_20,i_z,i_1,i_2,i_24,i_21,i_23,i_5,i_18,i_1h,i_k,i_1o,i_6,i_v,i_j,i_m,i_1y,i_2b,i_47,i_2v,i_49,i_2e,i_2w,i_3y,i_3r,i_3s,i_3t,i_3v,i_3u,i_3x,i_3w,i_29,i_3l,i_3q,i_2p,i_2t,i_2l,i_2q,i_2a,i_1e,i_2d,i_48,i_q,i_g,i_17,i_4a,i_4b,i_2x,i_2m,i_4,i_i,i_h,i_a,i_2o,i_2n,i_2h,i_9,i_2f]
noncomputable def FT (j:Nat):Inst:=FTL.getD j i_0
noncomputable def SP (j:Nat):Option (InVals (FT j)→Option (Tup (outTys (FT j)))):=if h114:j=114 then some (h114▸(show InVals (FT 114)→Option (Tup (outTys (FT 114))) from fun v=>sortRF v.1.1)) else if h143:j=143 then some (h143▸(show InVals (FT 143)→Option (Tup (outTys (FT 143))) from fun v=>itoaF v.1.1)) else if h144:j=144 then some (h144▸(show InVals (FT 144)→Option (Tup (outTys (FT 144))) from fun v=>joinF v.1.1 v.1.2.1)) else none
def lays122_ren:Go.Shelf.Ren:=⟨fun|122=>113|215=>145|n=>n,fun|3=>3|4=>4|n=>n,fun n=>n⟩
theorem lays122:Go.Proofs.Lays.n122 Tryz.prog lays122_ren:={
 mixed:=by kernel_rfl,
 f122:=Tryz.func113.trans (congrArg some (by kernel_rfl)),
 f215:=Tryz.func145.trans (congrArg some (by kernel_rfl)),
 t3:=Tryz.underlying3,
 a3:=Tryz.isAgg3,
 z3:=Tryz.sizeOf3,
 v3:=Tryz.zeroValue3,
 t4:=Tryz.underlying4,
 a4:=Tryz.isAgg4,
 z4:=Tryz.sizeOf4,
 v4:=Tryz.zeroValue4}
def lays156_ren:Go.Shelf.Ren:=⟨fun|156=>72|165=>98|166=>99|169=>100|240=>133|241=>134|276=>161|277=>162|n=>n,fun|0=>0|3=>3|4=>4|5=>5|9=>9|20=>20|31=>91|37=>22|70=>114|72=>116|75=>119|76=>120|80=>122|127=>137|164=>160|n=>n,fun n=>n⟩
theorem lays156:Go.Proofs.Lays.n156 Tryz.prog lays156_ren:={
 mixed:=by kernel_rfl,
 f156:=Tryz.func72.trans (congrArg some (by kernel_rfl)),
 f165:=Tryz.func98.trans (congrArg some (by kernel_rfl)),
 f166:=Tryz.func99.trans (congrArg some (by kernel_rfl)),
 f169:=Tryz.func100.trans (congrArg some (by kernel_rfl)),
 f240:=Tryz.func133.trans (congrArg some (by kernel_rfl)),
 f241:=Tryz.func134.trans (congrArg some (by kernel_rfl)),
 f276:=Tryz.func161.trans (congrArg some (by kernel_rfl)),
 f277:=Tryz.func162.trans (congrArg some (by kernel_rfl)),
 t0:=Tryz.underlying0,
 a0:=Tryz.isAgg0,
 z0:=Tryz.sizeOf0,
 v0:=Tryz.zeroValue0,
 t3:=Tryz.underlying3,
 a3:=Tryz.isAgg3,
 z3:=Tryz.sizeOf3,
 v3:=Tryz.zeroValue3,
 t4:=Tryz.underlying4,
 a4:=Tryz.isAgg4,
 z4:=Tryz.sizeOf4,
 v4:=Tryz.zeroValue4,
 t9:=Tryz.underlying9,
 a9:=Tryz.isAgg9,
 z9:=Tryz.sizeOf9,
 v9:=Tryz.zeroValue9,
 t20:=Tryz.underlying20,
 a20:=Tryz.isAgg20,
 z20:=Tryz.sizeOf20,
 v20:=Tryz.zeroValue20,
 t31:=Tryz.underlying91,
 a31:=Tryz.isAgg91,
 z31:=Tryz.sizeOf91,
 v31:=Tryz.zeroValue91,
 t37:=Tryz.underlying22,
 a37:=Tryz.isAgg22,
 z37:=Tryz.sizeOf22,
 v37:=Tryz.zeroValue22,
 t70:=Tryz.underlying114,
 a70:=Tryz.isAgg114,
 z70:=Tryz.sizeOf114,
 v70:=Tryz.zeroValue114,
 t72:=Tryz.underlying116,
 a72:=Tryz.isAgg116,
 z72:=Tryz.sizeOf116,
 v72:=Tryz.zeroValue116,
 t75:=Tryz.underlying119,
 a75:=Tryz.isAgg119,
 z75:=Tryz.sizeOf119,
 v75:=Tryz.zeroValue119,
 t76:=Tryz.underlying120,
 a76:=Tryz.isAgg120,
 z76:=Tryz.sizeOf120,
 v76:=Tryz.zeroValue120,
 t127:=Tryz.underlying137,
 a127:=Tryz.isAgg137,
 z127:=Tryz.sizeOf137,
 v127:=Tryz.zeroValue137,
 t164:=Tryz.underlying160,
 a164:=Tryz.isAgg160,
 z164:=Tryz.sizeOf160,
 v164:=Tryz.zeroValue160}
theorem lays156X:Go.Proofs.Builder.Extra Tryz.prog lays156_ren:={
 sizeBuilder:=by kernel_rfl,
 liesBuilder:=by kernel_rfl,
 t5:=Tryz.underlying5,
 a5:=Tryz.isAgg5,
 z5:=Tryz.sizeOf5,
 v5:=Tryz.zeroValue5,
 infoByte:=by kernel_rfl,
 cellsByte:=by kernel_rfl,
 sizeByte:=by kernel_rfl,
 neB5:=by decide}
def lays171_ren:Go.Shelf.Ren:=⟨fun|129=>159|171=>97|243=>132|246=>160|283=>173|284=>174|285=>175|286=>176|317=>183|318=>184|319=>185|320=>186|337=>188|338=>189|n=>n,fun|0=>0|2=>2|3=>3|4=>4|5=>5|9=>9|20=>20|37=>22|46=>111|51=>156|53=>158|171=>170|173=>172|212=>178|213=>179|232=>180|233=>181|n=>n,fun|17=>1|18=>2|19=>3|n=>n⟩
theorem lays171:Go.Proofs.LaysM.n171 Tryz.prog lays171_ren:={
 mixed:=by kernel_rfl,
 f129:=Tryz.func159.trans (congrArg some (by kernel_rfl)),
 f171:=Tryz.func97.trans (congrArg some (by kernel_rfl)),
 f243:=Tryz.func132.trans (congrArg some (by kernel_rfl)),
 f246:=Tryz.func160.trans (congrArg some (by kernel_rfl)),
 f283:=Tryz.func173.trans (congrArg some (by kernel_rfl)),
 f284:=Tryz.func174.trans (congrArg some (by kernel_rfl)),
 f285:=Tryz.func175.trans (congrArg some (by kernel_rfl)),
 f286:=Tryz.func176.trans (congrArg some (by kernel_rfl)),
 f317:=Tryz.func183.trans (congrArg some (by kernel_rfl)),
 f318:=Tryz.func184.trans (congrArg some (by kernel_rfl)),
 f319:=Tryz.func185.trans (congrArg some (by kernel_rfl)),
 f320:=Tryz.func186.trans (congrArg some (by kernel_rfl)),
 f337:=Tryz.func188.trans (congrArg some (by kernel_rfl)),
 f338:=Tryz.func189.trans (congrArg some (by kernel_rfl)),
 t0:=Tryz.underlying0,
 a0:=Tryz.isAgg0,
 z0:=Tryz.sizeOf0,
 v0:=Tryz.zeroValue0,
 t2:=Tryz.underlying2,
 a2:=Tryz.isAgg2,
 z2:=Tryz.sizeOf2,
 v2:=Tryz.zeroValue2,
 t3:=Tryz.underlying3,
 a3:=Tryz.isAgg3,
 z3:=Tryz.sizeOf3,
 v3:=Tryz.zeroValue3,
 t4:=Tryz.underlying4,
 a4:=Tryz.isAgg4,
 z4:=Tryz.sizeOf4,
 v4:=Tryz.zeroValue4,
 t5:=Tryz.underlying5,
 a5:=Tryz.isAgg5,
 z5:=Tryz.sizeOf5,
 v5:=Tryz.zeroValue5,
 t9:=Tryz.underlying9,
 a9:=Tryz.isAgg9,
 z9:=Tryz.sizeOf9,
 v9:=Tryz.zeroValue9,
 t20:=Tryz.underlying20,
 a20:=Tryz.isAgg20,
 z20:=Tryz.sizeOf20,
 v20:=Tryz.zeroValue20,
 t37:=Tryz.underlying22,
 a37:=Tryz.isAgg22,
 z37:=Tryz.sizeOf22,
 v37:=Tryz.zeroValue22,
 t46:=Tryz.underlying111,
 a46:=Tryz.isAgg111,
 z46:=Tryz.sizeOf111,
 v46:=Tryz.zeroValue111,
 t51:=Tryz.underlying156,
 a51:=Tryz.isAgg156,
 z51:=Tryz.sizeOf156,
 v51:=Tryz.zeroValue156,
 t53:=Tryz.underlying158,
 a53:=Tryz.isAgg158,
 z53:=Tryz.sizeOf158,
 v53:=Tryz.zeroValue158,
 t171:=Tryz.underlying170,
 a171:=Tryz.isAgg170,
 z171:=Tryz.sizeOf170,
 v171:=Tryz.zeroValue170,
 t173:=Tryz.underlying172,
 a173:=Tryz.isAgg172,
 z173:=Tryz.sizeOf172,
 v173:=Tryz.zeroValue172,
 t212:=Tryz.underlying178,
 a212:=Tryz.isAgg178,
 z212:=Tryz.sizeOf178,
 v212:=Tryz.zeroValue178,
 t213:=Tryz.underlying179,
 a213:=Tryz.isAgg179,
 z213:=Tryz.sizeOf179,
 t232:=Tryz.underlying180,
 a232:=Tryz.isAgg180,
 z232:=Tryz.sizeOf180,
 v232:=Tryz.zeroValue180,
 t233:=Tryz.underlying181,
 a233:=Tryz.isAgg181,
 z233:=Tryz.sizeOf181,
 v233:=Tryz.zeroValue181,
 g17:=by kernel_rfl,
 g18:=by kernel_rfl,
 g19:=by kernel_rfl,
 i0:=by kernel_rfl,
 i2:=by kernel_rfl,
 i3:=by kernel_rfl,
 i4:=by kernel_rfl,
 i5:=by kernel_rfl,
 i9:=by kernel_rfl,
 i20:=by kernel_rfl,
 i37:=by kernel_rfl,
 i46:=by kernel_rfl,
 i51:=by kernel_rfl,
 i53:=by kernel_rfl,
 i171:=by kernel_rfl,
 i173:=by kernel_rfl,
 i212:=by kernel_rfl,
 i232:=by kernel_rfl,
 i233:=by kernel_rfl,
 m17:=by kernel_rfl,
 m18:=by kernel_rfl,
 m19:=by kernel_rfl}
def lays6_ren:Go.Shelf.Ren:=⟨fun|6=>93|14=>129|15=>130|20=>150|21=>151|22=>152|23=>153|24=>154|25=>155|26=>156|27=>157|28=>158|29=>159|46=>168|47=>169|48=>170|49=>171|50=>172|57=>182|n=>n,fun|0=>0|3=>3|4=>4|5=>5|9=>9|22=>65|24=>49|25=>113|39=>111|45=>148|46=>149|50=>153|53=>156|55=>158|66=>165|70=>69|76=>175|77=>106|n=>n,fun n=>n⟩
theorem lays6:Go.Proofs.SlLaysF.n6 Tryz.prog lays6_ren:={
 mixed:=by kernel_rfl,
 f6:=⟨Tryz.f93.name,by decide,Tryz.func93.trans (congrArg some (by kernel_rfl))⟩,
 f14:=⟨Tryz.f129.name,by decide,Tryz.func129.trans (congrArg some (by kernel_rfl))⟩,
 f15:=Tryz.func130.trans (congrArg some (by kernel_rfl)),
 f20:=⟨Tryz.f150.name,by decide,Tryz.func150.trans (congrArg some (by kernel_rfl))⟩,
 f21:=⟨Tryz.f151.name,by decide,Tryz.func151.trans (congrArg some (by kernel_rfl))⟩,
 f22:=⟨Tryz.f152.name,by decide,Tryz.func152.trans (congrArg some (by kernel_rfl))⟩,
 f23:=⟨Tryz.f153.name,by decide,Tryz.func153.trans (congrArg some (by kernel_rfl))⟩,
 f24:=⟨Tryz.f154.name,by decide,Tryz.func154.trans (congrArg some (by kernel_rfl))⟩,
 f25:=⟨Tryz.f155.name,by decide,Tryz.func155.trans (congrArg some (by kernel_rfl))⟩,
 f26:=⟨Tryz.f156.name,by decide,Tryz.func156.trans (congrArg some (by kernel_rfl))⟩,
 f27:=⟨Tryz.f157.name,by decide,Tryz.func157.trans (congrArg some (by kernel_rfl))⟩,
 f28:=Tryz.func158.trans (congrArg some (by kernel_rfl)),
 f29:=Tryz.func159.trans (congrArg some (by kernel_rfl)),
 f46:=⟨Tryz.f168.name,by decide,Tryz.func168.trans (congrArg some (by kernel_rfl))⟩,
 f47:=Tryz.func169.trans (congrArg some (by kernel_rfl)),
 f48:=Tryz.func170.trans (congrArg some (by kernel_rfl)),
 f49:=⟨Tryz.f171.name,by decide,Tryz.func171.trans (congrArg some (by kernel_rfl))⟩,
 f50:=⟨Tryz.f172.name,by decide,Tryz.func172.trans (congrArg some (by kernel_rfl))⟩,
 f57:=⟨Tryz.f182.name,by decide,Tryz.func182.trans (congrArg some (by kernel_rfl))⟩,
 t0:=Tryz.underlying0,
 a0:=Tryz.isAgg0,
 z0:=Tryz.sizeOf0,
 v0:=Tryz.zeroValue0,
 t3:=Tryz.underlying3,
 a3:=Tryz.isAgg3,
 z3:=Tryz.sizeOf3,
 v3:=Tryz.zeroValue3,
 t4:=Tryz.underlying4,
 a4:=Tryz.isAgg4,
 z4:=Tryz.sizeOf4,
 v4:=Tryz.zeroValue4,
 t5:=Tryz.underlying5,
 a5:=Tryz.isAgg5,
 z5:=Tryz.sizeOf5,
 v5:=Tryz.zeroValue5,
 t9:=Tryz.underlying9,
 a9:=Tryz.isAgg9,
 z9:=Tryz.sizeOf9,
 v9:=Tryz.zeroValue9,
 t22:=Tryz.underlying65,
 a22:=Tryz.isAgg65,
 z22:=Tryz.sizeOf65,
 v22:=Tryz.zeroValue65,
 a24:=Tryz.isAgg49,
 z24:=Tryz.sizeOf49,
 t25:=Tryz.underlying113,
 a25:=Tryz.isAgg113,
 z25:=Tryz.sizeOf113,
 v25:=Tryz.zeroValue113,
 t39:=Tryz.underlying111,
 a39:=Tryz.isAgg111,
 z39:=Tryz.sizeOf111,
 v39:=Tryz.zeroValue111,
 t45:=Tryz.underlying148,
 a45:=Tryz.isAgg148,
 z45:=Tryz.sizeOf148,
 v45:=Tryz.zeroValue148,
 t46:=Tryz.underlying149,
 a46:=Tryz.isAgg149,
 z46:=Tryz.sizeOf149,
 v46:=Tryz.zeroValue149,
 t50:=Tryz.underlying153,
 a50:=Tryz.isAgg153,
 z50:=Tryz.sizeOf153,
 v50:=Tryz.zeroValue153,
 t53:=Tryz.underlying156,
 a53:=Tryz.isAgg156,
 z53:=Tryz.sizeOf156,
 v53:=Tryz.zeroValue156,
 t55:=Tryz.underlying158,
 a55:=Tryz.isAgg158,
 z55:=Tryz.sizeOf158,
 v55:=Tryz.zeroValue158,
 t66:=Tryz.underlying165,
 a66:=Tryz.isAgg165,
 z66:=Tryz.sizeOf165,
 v66:=Tryz.zeroValue165,
 t70:=Tryz.underlying69,
 a70:=Tryz.isAgg69,
 z70:=Tryz.sizeOf69,
 v70:=Tryz.zeroValue69,
 t76:=Tryz.underlying175,
 a76:=Tryz.isAgg175,
 z76:=Tryz.sizeOf175,
 v76:=Tryz.zeroValue175,
 t77:=Tryz.underlying106,
 a77:=Tryz.isAgg106,
 z77:=Tryz.sizeOf106,
 v77:=Tryz.zeroValue106}
open Go.RowKit Go.Shelf in
set_option maxHeartbeats 2000000 in
set_option maxRecDepth 100000 in
theorem cmp_calls:CmpRow Tryz.prog 94 3 1073741824:=by
 intro a b u v w Z ha hb hu hv
 obtain⟨p1,c1,rfl,h1⟩:=row_cells hu
 obtain⟨p2,c2,rfl,h2⟩:=row_cells hv
 clear hu hv
 have key:∀(x:Int) (a' b':List Int) (y:Int),cmpL (x::a') (y::b')=if Lib.compareInt x y=0 then cmpL a' b' else Lib.compareInt x y:=by
  intro x a' b' y
  unfold Lib.compareInt
  simp only[cmpL]
  by_cases h:x<y
  ·simp[h]
  ·by_cases h':y<x
   ·simp[h,h']
   ·simp[h,h']
 have dr:∀(l:List Int) (k:Nat),k<l.length→l.drop k=l.getD k 0::l.drop (k+1):=by
  intro l k hk
  rw[List.drop_eq_getElem_cons hk,List.getD_eq_getElem?_getD,List.getElem?_eq_getElem hk]
  rfl
 have K:Aside ((∀(x:Int) (a' b':List Int) (y:Int),cmpL (x::a') (y::b')=if Lib.compareInt x y=0 then cmpL a' b' else Lib.compareInt x y)∧∀(l:List Int) (k:Nat),k<l.length→l.drop k=l.getD k 0::l.drop (k+1)):=⟨key,dr⟩
 clear key dr
 have H1:Aside (∀k,k<a.length→∃bb oo,p1=some ⟨bb,oo,none⟩∧w.cell? ⟨bb,oo+k,none⟩=some (.int .i64 (a.getD k 0))):=by
  intro k hk
  rcases h1 with h0|⟨bb,oo,hp,hc⟩
  ·omega
  ·exact⟨bb,oo,hp,hc k hk⟩
 have H2:Aside (∀k,k<b.length→∃bb oo,p2=some ⟨bb,oo,none⟩∧w.cell? ⟨bb,oo+k,none⟩=some (.int .i64 (b.getD k 0))):=by
  intro k hk
  rcases h2 with h0|⟨bb,oo,hp,hc⟩
  ·omega
  ·exact⟨bb,oo,hp,hc k hk⟩
 clear h1 h2
 go_enter Tryz.func94,Tryz.ntmps94
 go_wp2
 go_loopg [11] a.length (fun g s1 wr=>∃k:Nat,k≤a.length∧a.length-k≤g∧s1=.int .i64 k∧wr=w∧k≤b.length∧cmpL a b=cmpL (a.drop k) (b.drop k))
 case atStart=>exact⟨0,Nat.zero_le _,by omega,rfl,rfl,Nat.zero_le _,by simp⟩
 case round=>
  obtain⟨k,hk,hg,rfl,rfl,hkb,heq⟩:=hrel
  have Q:Aside (cmpL a b=cmpL (a.drop k) (b.drop k)):=heq
  clear heq
  by_cases hlt:k<a.length
  ·obtain⟨bb1,oo1,rfl,g1⟩:=H1.out k hlt
   have ea:=K.out.2 a k hlt
   generalize hxk:a.getD k 0=x at g1 ea
   have EA:Aside (a.drop k=x::a.drop (k+1)):=ea
   clear hxk ea
   by_cases hlb:k<b.length
   ·obtain⟨bb2,oo2,rfl,g2⟩:=H2.out k hlb
    have eb:=K.out.2 b k hlb
    generalize hyk:b.getD k 0=y at g2 eb
    have EB:Aside (b.drop k=y::b.drop (k+1)):=eb
    clear hyk eb
    by_cases hc0:Lib.compareInt x y=0
    ·go_wp2_with (go_at_call 113;refine(Any.cmp_Compare_int lays122 x y _).mono ?_;rintro e w' ⟨rfl,rfl⟩;rw[hc0])
     go_roundg (a.length-(k+1))
     case measure=>omega
     case rel=>
      refine⟨k+1,by omega,by omega,by go_num,rfl,by omega,?_⟩
      rw[Q.out,EA.out,EB.out,K.out.1,if_pos hc0]
    ·go_wp2_with (go_at_call 113;refine(Any.cmp_Compare_int lays122 x y _).mono ?_;rintro e w' ⟨rfl,rfl⟩)
     go_ret
     refine⟨?_,0,rfl⟩
     rw[Q.out,EA.out,EB.out,K.out.1,if_neg hc0]
     rfl
   ·go_wp2
    go_ret
    refine⟨?_,0,rfl⟩
    have e0:b.drop k=[]:=List.drop_eq_nil_of_le (by omega)
    rw[Q.out,EA.out,e0]
    rfl
  ·have hk':k=a.length:=by omega
   subst hk'
   by_cases hlb:a.length<b.length
   ·go_wp2
    go_ret
    refine⟨?_,0,rfl⟩
    rw[Q.out,List.drop_length,K.out.2 b _ hlb]
    rfl
   ·go_wp2
    go_ret
    refine⟨?_,0,rfl⟩
    have e0:b.drop a.length=[]:=List.drop_eq_nil_of_le (by omega)
    rw[Q.out,List.drop_length,e0]
    rfl
theorem sp_ok:∀j f,SP j=some f→∀v r,f v=some r→RetI Tryz.prog (FT j) v r:=by
 intro j f hf v r hv
 by_cases h114:j=114
 ·subst h114
  have hf2:some (show InVals (FT 114)→Option (Tup (outTys (FT 114))) from fun v=>sortRF v.1.1)=some f:=hf
  have hf3:=Option.some.inj hf2
  subst hf3
  exact retI_sortR lays6 (by kernel_rfl) (by kernel_rfl) cmp_calls (by decide) hv
 by_cases h143:j=143
 ·subst h143
  have hf2:some (show InVals (FT 143)→Option (Tup (outTys (FT 143))) from fun v=>itoaF v.1.1)=some f:=hf
  have hf3:=Option.some.inj hf2
  subst hf3
  exact retI_itoa lays171 (by kernel_rfl) (by decide) (by kernel_rfl) hv
 by_cases h144:j=144
 ·subst h144
  have hf2:some (show InVals (FT 144)→Option (Tup (outTys (FT 144))) from fun v=>joinF v.1.1 v.1.2.1)=some f:=hf
  have hf3:=Option.some.inj hf2
  subst hf3
  exact retI_join lays156 lays156X (by kernel_rfl) (by decide) hv
 unfold SP at hf
 rw[dif_neg h114,dif_neg h143,dif_neg h144] at hf
 cases hf
theorem ft_ok:FTok Tryz.prog tt FT SP:=FTok.of tt_ok (by kernel_rfl) ⟨Tryz.func3,Tryz.func3,Tryz.func4,Tryz.func5,Tryz.func27,Tryz.func37,Tryz.func55,Tryz.func31,Tryz.func30,Tryz.func62,Tryz.func38,Tryz.func32,Tryz.func68,Tryz.func69,Tryz.func57,Tryz.func85,Tryz.func84,Tryz.func86,Tryz.func59,Tryz.func87,Tryz.func56,Tryz.func83,Tryz.func124,Tryz.func91,Tryz.func46,Tryz.func128,Tryz.func48,Tryz.func149,Tryz.func101,Tryz.func90,Tryz.func127,Tryz.func148,Tryz.func167,Tryz.func125,Tryz.func58,Tryz.func29,Tryz.func61,Tryz.func92,Tryz.func80,Tryz.func116,Tryz.func16,Tryz.func49,Tryz.func126,Tryz.func117,Tryz.func118,Tryz.func60,Tryz.func88,Tryz.func89,Tryz.func60,Tryz.func28,Tryz.func6,Tryz.func33,Tryz.func41,Tryz.func12,Tryz.func40,Tryz.func70,Tryz.func42,Tryz.func53,Tryz.func17,Tryz.func50,Tryz.func74,Tryz.func51,Tryz.func52,Tryz.func75,Tryz.func76,Tryz.func102,Tryz.func135,Tryz.func103,Tryz.func137,Tryz.func163,Tryz.func164,Tryz.func177,Tryz.func178,Tryz.func50,Tryz.func74,Tryz.func179,Tryz.func180,Tryz.func64,Tryz.func139,Tryz.func138,Tryz.func136,Tryz.func105,Tryz.func106,Tryz.func140,Tryz.func141,Tryz.func165,Tryz.func77,Tryz.func103,Tryz.func137,Tryz.func104,Tryz.func78,Tryz.func107,Tryz.func108,Tryz.func142,Tryz.func109,Tryz.func143,Tryz.func110,Tryz.func111,Tryz.func144,Tryz.func150,Tryz.func112,Tryz.func113,Tryz.func145,Tryz.func166,Tryz.func181,Tryz.func187,Tryz.func114,Tryz.func79,Tryz.func115,Tryz.func34,Tryz.func63,Tryz.func7,Tryz.func33,Tryz.func35,Tryz.func65,Tryz.func93,Tryz.func8,Tryz.func36,Tryz.func15,Tryz.func47,Tryz.func54,Tryz.func44,Tryz.func73,Tryz.func81,Tryz.func119,Tryz.func146,Tryz.func120,Tryz.func121,Tryz.func122,Tryz.func123,Tryz.func147,Tryz.func96,Tryz.func82,Tryz.func66,Tryz.func95,Tryz.func131,Tryz.func67,Tryz.func9,Tryz.func11,Tryz.func10,Tryz.func39,Tryz.func13,Tryz.func43,Tryz.func71,Tryz.func97,Tryz.func72,Tryz.func14,Tryz.func45,Tryz.func18,Tryz.func19,Tryz.func25,Tryz.func20,Tryz.func21,Tryz.func26,Tryz.func22,Tryz.func23,Tryz.func24,trivial⟩ (by kernel_rfl) (sp_ok)
noncomputable def F_2m (a0:List Int):Option Bool:=callL tt FT SP 0 (show InVals (FT 0) from((a0,()),(())))
noncomputable def F_2o (a0:List Int):Option Bool:=callL tt FT SP 1 (show InVals (FT 1) from((a0,()),(())))
noncomputable def F_3e (a0:List Int):Option Yt27:=callL tt FT SP 2 (show InVals (FT 2) from((a0,()),(())))
noncomputable def F_44 (a0:List Int):Option Yt48:=callL tt FT SP 3 (show InVals (FT 3) from((a0,()),(())))
noncomputable def F_1q (a0:List Int):Option Yt40:=callL tt FT SP 4 (show InVals (FT 4) from((a0,()),(())))
noncomputable def F_1v:Option (List STable):=callL tt FT SP 5 (show InVals (FT 5) from((()),(())))
noncomputable def F_b (a0x0:List Int) (a0x1:Int) (a0x2:Int) (a1:Int):Option (Bool×Yt11×Int×Int):=callL tt FT SP 6 (show InVals (FT 6) from(((a0x0,a0x1,a0x2,()),a1,()),(())))
noncomputable def F_0 (a0x0:List Int) (a0x1:Int) (a0x2:Int) (a1:Int):Option Yt41:=callL tt FT SP 7 (show InVals (FT 7) from(((a0x0,a0x1,a0x2,()),a1,()),(())))
noncomputable def F_t (a0x0:List Int) (a0x1:Int) (a0x2:Int):Option Yt41:=callL tt FT SP 8 (show InVals (FT 8) from(((a0x0,a0x1,a0x2,()),()),(())))
noncomputable def F_1t (a0x0:List Int) (a0x1:Int) (a0x2:Int):Option Yt32:=callL tt FT SP 9 (show InVals (FT 9) from(((a0x0,a0x1,a0x2,()),()),(())))
noncomputable def F_5 (a0x0:List Int) (a0x1:Int) (a0x2:Int) (a1:List Int):Option Yt41:=callL tt FT SP 10 (show InVals (FT 10) from(((a0x0,a0x1,a0x2,()),a1,()),(())))
noncomputable def F_3t (a0x0:List Int) (a0x1:Int) (a0x2:Int) (a1:List ByteArray):Option (ByteArray×Yt11×Int×Int):=callL tt FT SP 11 (show InVals (FT 11) from(((a0x0,a0x1,a0x2,()),a1,()),(())))
noncomputable def F_10 (a0:Int):Option ByteArray:=callL tt FT SP 12 (show InVals (FT 12) from((a0,()),(())))
noncomputable def F_45 (a0x0:List Int) (a0x1:Int) (a0x2:Int) (a1:List Int):Option Yt15:=callL tt FT SP 13 (show InVals (FT 13) from(((a0x0,a0x1,a0x2,()),a1,()),(())))
noncomputable def F_3u (a0:List Int) (a1:Int):Option Int:=callL tt FT SP 14 (show InVals (FT 14) from((a0,a1,()),(())))
noncomputable def F_4 (a0x0:List Int) (a0x1:Int) (a0x2:Int) (a1:Int):Option Yt17:=callL tt FT SP 15 (show InVals (FT 15) from(((a0x0,a0x1,a0x2,()),a1,()),(())))
noncomputable def F_1 (a0:List (List SNode)):Option (List SNode):=callL tt FT SP 16 (show InVals (FT 16) from((a0,()),(())))
noncomputable def F_h (a0:List SNode):Option (List SNode):=callL tt FT SP 17 (show InVals (FT 17) from((a0,()),(())))
noncomputable def F_z (a0:List Int):Option Yt11:=callL tt FT SP 18 (show InVals (FT 18) from((a0,()),(())))
noncomputable def F_46 (a0x0:List Int) (a0x1:Int) (a0x2:Int) (a1:List SNode):Option Yt15:=callL tt FT SP 19 (show InVals (FT 19) from(((a0x0,a0x1,a0x2,()),a1,()),(())))
noncomputable def F_3g (a0:List SNode):Option ((List SNode)×Yt11×Bool):=callL tt FT SP 20 (show InVals (FT 20) from((a0,()),(())))
noncomputable def F_3a (a0:List SNode):Option Bool:=callL tt FT SP 21 (show InVals (FT 21) from((a0,()),(())))
noncomputable def F_f (a0:List SNode):Option Bool:=callL tt FT SP 22 (show InVals (FT 22) from((a0,()),(())))
noncomputable def F_2 (a0:Int) (a1:Int) (a2:Int):Option Bool:=callL tt FT SP 23 (show InVals (FT 23) from((a0,a1,a2,()),(())))
noncomputable def F_3i (a0:SNode):Option Bool:=callL tt FT SP 24 (show InVals (FT 24) from((a0,()),(())))
noncomputable def F_1p (a0:ByteArray):Option Bool:=callL tt FT SP 25 (show InVals (FT 25) from((a0,()),(())))
noncomputable def F_g (a0:Int):Option Bool:=callL tt FT SP 26 (show InVals (FT 26) from((a0,()),(())))
noncomputable def F_1r (a0:Int):Option Bool:=callL tt FT SP 27 (show InVals (FT 27) from((a0,()),(())))
noncomputable def F_6 (a0:List SNode) (a1:Int) (a2:Int):Option Yt26:=callL tt FT SP 28 (show InVals (FT 28) from((a0,a1,a2,()),(())))
noncomputable def F_1l (a0:Int):Option Int:=callL tt FT SP 29 (show InVals (FT 29) from((a0,()),(())))
noncomputable def F_3n (a0:List SNode):Option Yt11:=callL tt FT SP 30 (show InVals (FT 30) from((a0,()),(())))
noncomputable def F_3r (a0:List Int) (a1:Int):Option Bool:=callL tt FT SP 31 (show InVals (FT 31) from((a0,a1,()),(())))
noncomputable def F_43 (a0:SNode):Option Bool:=callL tt FT SP 32 (show InVals (FT 32) from((a0,()),(())))
noncomputable def F_3v (a0x0:List Int) (a0x1:Int) (a0x2:Int) (a1:List SNode):Option Yt15:=callL tt FT SP 33 (show InVals (FT 33) from(((a0x0,a0x1,a0x2,()),a1,()),(())))
noncomputable def F_48 (a0x0:List Int) (a0x1:Int) (a0x2:Int) (a1:List STable) (a2:List SNode) (a3:Int):Option Yt46:=callL tt FT SP 34 (show InVals (FT 34) from(((a0x0,a0x1,a0x2,()),a1,a2,a3,()),(())))
noncomputable def F_47 (a0x0:List Int) (a0x1:Int) (a0x2:Int) (a1:List STable) (a2:List SNode):Option (SStep×Yt11×Int×Int):=callL tt FT SP 35 (show InVals (FT 35) from(((a0x0,a0x1,a0x2,()),a1,a2,()),(())))
noncomputable def F_3o (a0:List STable) (a1:List SNode):Option Yt28:=callL tt FT SP 36 (show InVals (FT 36) from((a0,a1,()),(())))
noncomputable def F_s (a0:List STable) (a1:List SNode):Option Bool:=callL tt FT SP 37 (show InVals (FT 37) from((a0,a1,()),(())))
noncomputable def F_3q (a0:List STable) (a1:List SNode):Option Int:=callL tt FT SP 38 (show InVals (FT 38) from((a0,a1,()),(())))
noncomputable def F_q (a0:List STable):Option Bool:=callL tt FT SP 39 (show InVals (FT 39) from((a0,()),(())))
noncomputable def F_3s (a0:ByteArray) (a1:ByteArray):Option Bool:=callL tt FT SP 40 (show InVals (FT 40) from((a0,a1,()),(())))
noncomputable def F_12 (a0:List STable) (a1:List SNode) (a2:Int):Option Int:=callL tt FT SP 41 (show InVals (FT 41) from((a0,a1,a2,()),(())))
noncomputable def F_11 (a0:List SNode) (a1:Int):Option Yt11:=callL tt FT SP 42 (show InVals (FT 42) from((a0,a1,()),(())))
noncomputable def F_1u (a0:List STable) (a1:ByteArray):Option Int:=callL tt FT SP 43 (show InVals (FT 43) from((a0,a1,()),(())))
noncomputable def F_n (a0:List STable) (a1:List SNode) (a2:SStep):Option Yt34:=callL tt FT SP 44 (show InVals (FT 44) from((a0,a1,a2,()),(())))
noncomputable def F_1x (a0:Int):Option Yt26:=callL tt FT SP 45 (show InVals (FT 45) from((a0,()),(())))
noncomputable def F_u (a0:List STable) (a1:List SNode) (a2:Int) (a3:Int):Option Yt34:=callL tt FT SP 46 (show InVals (FT 46) from((a0,a1,a2,a3,()),(())))
noncomputable def F_39 (a0:List STable) (a1:List SNode) (a2:SStep):Option Yt34:=callL tt FT SP 47 (show InVals (FT 47) from((a0,a1,a2,()),(())))
noncomputable def F_3j (a0:List STable) (a1:List SNode) (a2:List SStep):Option Yt42:=callL tt FT SP 48 (show InVals (FT 48) from((a0,a1,a2,()),(())))
noncomputable def F_17 (a0:List STable) (a1:List SNode) (a2:List SNode) (a3:Int):Option Int:=callL tt FT SP 49 (show InVals (FT 49) from((a0,a1,a2,a3,()),(())))
noncomputable def F_2f (a0:List STable) (a1:List SNode) (a2:List SNode) (a3:Int):Option Int:=callL tt FT SP 50 (show InVals (FT 50) from((a0,a1,a2,a3,(()),()),(())))
noncomputable def F_3 (a0:Int) (a1:Int) (a2:Int):Option Bool:=callL tt FT SP 51 (show InVals (FT 51) from((a0,a1,a2,()),(())))
noncomputable def F_d (a0:List STable) (a1:Int):Option Yt37:=callL tt FT SP 52 (show InVals (FT 52) from((a0,a1,()),(())))
noncomputable def F_v (a0:List STable):Option Bool:=callL tt FT SP 53 (show InVals (FT 53) from((a0,()),(())))
noncomputable def F_1b (a0:ByteArray):Option Bool:=callL tt FT SP 54 (show InVals (FT 54) from((a0,()),(())))
noncomputable def F_1g (a0x0:Int):Option Yt26:=callL tt FT SP 55 (show InVals (FT 55) from(((a0x0,()),()),(())))
noncomputable def F_7 (a0:List STable) (a1:List Yt9) (a2:List SNode):Option Yt21:=callL tt FT SP 56 (show InVals (FT 56) from((a0,a1,a2,()),(())))
noncomputable def F_j (a0:List STable) (a1:List Yt9):Option Bool:=callL tt FT SP 57 (show InVals (FT 57) from((a0,a1,()),(())))
noncomputable def F_2w (a0:List Int):Option Bool:=callL tt FT SP 58 (show InVals (FT 58) from((a0,(()),()),(())))
noncomputable def F_34 (a0:List Int):Option Int:=callL tt FT SP 59 (show InVals (FT 59) from((a0,(()),()),(())))
noncomputable def F_2a (a0:Int):Option Bool:=callL tt FT SP 60 (show InVals (FT 60) from((a0,()),(())))
noncomputable def F_2i (a0:Int):Option Bool:=callL tt FT SP 61 (show InVals (FT 61) from((a0,()),(())))
noncomputable def F_1d (a0:Int):Option Bool:=callL tt FT SP 62 (show InVals (FT 62) from((a0,()),(())))
noncomputable def F_2c (a0:List STable) (a1:List SNode):Option Bool:=callL tt FT SP 63 (show InVals (FT 63) from((a0,a1,()),(())))
noncomputable def F_2d (a0:List STable) (a1:List SNode):Option Int:=callL tt FT SP 64 (show InVals (FT 64) from((a0,a1,()),(())))
noncomputable def F_26 (a0:List SNode):Option Bool:=callL tt FT SP 65 (show InVals (FT 65) from((a0,()),(())))
noncomputable def F_2t (a0:List SNode):Option Bool:=callL tt FT SP 66 (show InVals (FT 66) from((a0,(()),()),(())))
noncomputable def F_30 (a0:List SNode):Option Int:=callL tt FT SP 67 (show InVals (FT 67) from((a0,(()),()),(())))
noncomputable def F_27 (a0:SNode):Option Bool:=callL tt FT SP 68 (show InVals (FT 68) from((a0,()),(())))
noncomputable def F_23 (a0:SNode):Option Bool:=callL tt FT SP 69 (show InVals (FT 69) from((a0,()),(())))
noncomputable def F_e (a0:Int):Option Bool:=callL tt FT SP 70 (show InVals (FT 70) from((a0,()),(())))
noncomputable def F_1e (a0:Int):Option Bool:=callL tt FT SP 71 (show InVals (FT 71) from((a0,()),(())))
noncomputable def F_2v (a0:List Int):Option Bool:=callL tt FT SP 72 (show InVals (FT 72) from((a0,(()),()),(())))
noncomputable def F_33 (a0:List Int):Option Int:=callL tt FT SP 73 (show InVals (FT 73) from((a0,(()),()),(())))
noncomputable def F_24 (a0:Int):Option Bool:=callL tt FT SP 74 (show InVals (FT 74) from((a0,()),(())))
noncomputable def F_2k (a0:SNode) (a1:SNode):Option Bool:=callL tt FT SP 75 (show InVals (FT 75) from((a0,a1,()),(())))
noncomputable def F_w (a0:List Int) (a1:List Int):Option Bool:=callL tt FT SP 76 (show InVals (FT 76) from((a0,a1,()),(())))
noncomputable def F_k (a0:List SNode) (a1:Int) (a2:Int):Option Int:=callL tt FT SP 77 (show InVals (FT 77) from((a0,a1,a2,()),(())))
noncomputable def F_15 (a0:Int):Option Int:=callL tt FT SP 78 (show InVals (FT 78) from((a0,()),(())))
noncomputable def F_1i (a0:List STable) (a1:List SNode) (a2:Int):Option Int:=callL tt FT SP 79 (show InVals (FT 79) from((a0,a1,a2,()),(())))
noncomputable def F_1c (a0:List SNode) (a1:Int):Option Yt11:=callL tt FT SP 80 (show InVals (FT 80) from((a0,a1,()),(())))
noncomputable def F_1h (a0:List STable) (a1:ByteArray):Option Int:=callL tt FT SP 81 (show InVals (FT 81) from((a0,a1,()),(())))
noncomputable def F_32 (a0:List STable) (a1x0x0:ByteArray):Option Yt50:=callL tt FT SP 82 (show InVals (FT 82) from((a0,((a1x0x0,()),()),()),(())))
noncomputable def F_2l (a0:STable) (c0x0:ByteArray):Option (Bool×ByteArray):=callL tt FT SP 83 (show InVals (FT 83) from((a0,()),((c0x0,()),())))
noncomputable def F_1j (a0:List Int):Option Int:=callL tt FT SP 84 (show InVals (FT 84) from((a0,()),(())))
noncomputable def F_2g (a0:List SNode):Option Bool:=callL tt FT SP 85 (show InVals (FT 85) from((a0,()),(())))
noncomputable def F_2u (a0:List SNode):Option Bool:=callL tt FT SP 86 (show InVals (FT 86) from((a0,(()),()),(())))
noncomputable def F_31 (a0:List SNode):Option Int:=callL tt FT SP 87 (show InVals (FT 87) from((a0,(()),()),(())))
noncomputable def F_2h (a0:SNode):Option Bool:=callL tt FT SP 88 (show InVals (FT 88) from((a0,()),(())))
noncomputable def F_9 (a0:List STable) (a1:List Yt9) (a2:List SNode) (a3:Int):Option Yt20:=callL tt FT SP 89 (show InVals (FT 89) from((a0,a1,a2,a3,()),(())))
noncomputable def F_25 (a0:SNode) (a1:Int):Option Bool:=callL tt FT SP 90 (show InVals (FT 90) from((a0,a1,()),(())))
noncomputable def F_2s (a0:List Yt11):Option Yt11:=callL tt FT SP 91 (show InVals (FT 91) from((a0,()),(())))
noncomputable def F_2z (a1:Int):Option Yt11:=callL tt FT SP 92 (show InVals (FT 92) from(([],a1,()),(())))
noncomputable def F_2r (a0:List Yt9):Option Yt9:=callL tt FT SP 93 (show InVals (FT 93) from((a0,()),(())))
noncomputable def F_2y (a1:Int):Option Yt9:=callL tt FT SP 94 (show InVals (FT 94) from(([],a1,()),(())))
noncomputable def F_2p (a0:List Yt11):Option Yt9:=callL tt FT SP 95 (show InVals (FT 95) from((a0,()),(())))
noncomputable def F_36 (a0:List Yt11) (a1x0x0:Int) (a1x0x1:ByteArray) (a1x0x2:Int) (a1x0x3:Int) (a1x0x4:Int) (a1x0x5:Bool) (a1x0x6:List Int):Option Yt10:=callL tt FT SP 96 (show InVals (FT 96) from((a0,((a1x0x0,a1x0x1,a1x0x2,a1x0x3,a1x0x4,a1x0x5,a1x0x6,()),()),()),(())))
noncomputable def F_38 (a0:List Yt11) (a1:Int) (a2x0x0:Int) (a2x0x1:ByteArray) (a2x0x2:Int) (a2x0x3:Int) (a2x0x4:Int) (a2x0x5:Bool) (a2x0x6:List Int):Option Yt10:=callL tt FT SP 97 (show InVals (FT 97) from((a0,a1,((a2x0x0,a2x0x1,a2x0x2,a2x0x3,a2x0x4,a2x0x5,a2x0x6,()),()),()),(())))
noncomputable def F_1k (a0:List Yt11) (a1:Int) (a2:Int) (a3x0x0:Int) (a3x0x1:ByteArray) (a3x0x2:Int) (a3x0x3:Int) (a3x0x4:Int) (a3x0x5:Bool) (a3x0x6:List Int):Option Yt10:=callL tt FT SP 98 (show InVals (FT 98) from((a0,a1,a2,((a3x0x0,a3x0x1,a3x0x2,a3x0x3,a3x0x4,a3x0x5,a3x0x6,()),()),()),(())))
noncomputable def F_l (a0:List Int) (a1:List Int) (c0x0:Int) (c0x1:ByteArray) (c0x2:Int) (c0x3:Int) (c0x4:Int) (c0x5:Bool) (c0x6:List Int):Option Yt24:=callL tt FT SP 99 (show InVals (FT 99) from((a0,a1,()),((c0x0,c0x1,c0x2,c0x3,c0x4,c0x5,c0x6,()),())))
noncomputable def F_1z (a0:Int) (a1:Int):Option Int:=callL tt FT SP 100 (show InVals (FT 100) from((a0,a1,()),(())))
noncomputable def F_14 (a0:Int):Option Bool:=callL tt FT SP 101 (show InVals (FT 101) from((a0,()),(())))
noncomputable def F_m (a0:List Yt11) (a1:Int) (a2:Int) (a3:Int) (a4x0x0:Int) (a4x0x1:ByteArray) (a4x0x2:Int) (a4x0x3:Int) (a4x0x4:Int) (a4x0x5:Bool) (a4x0x6:List Int):Option Yt10:=callL tt FT SP 102 (show InVals (FT 102) from((a0,a1,a2,a3,((a4x0x0,a4x0x1,a4x0x2,a4x0x3,a4x0x4,a4x0x5,a4x0x6,()),()),()),(())))
noncomputable def F_37 (a0:List Yt11) (a1:Int) (a2:Int) (a3:Int) (a4x0x0:Int) (a4x0x1:ByteArray) (a4x0x2:Int) (a4x0x3:Int) (a4x0x4:Int) (a4x0x5:Bool) (a4x0x6:List Int):Option Yt10:=callL tt FT SP 103 (show InVals (FT 103) from((a0,a1,a2,a3,((a4x0x0,a4x0x1,a4x0x2,a4x0x3,a4x0x4,a4x0x5,a4x0x6,()),()),()),(())))
noncomputable def F_x (a0:List Yt11) (a1:Int) (a2:Int) (a3:Int) (a4x0x0:Int) (a4x0x1:ByteArray) (a4x0x2:Int) (a4x0x3:Int) (a4x0x4:Int) (a4x0x5:Bool) (a4x0x6:List Int):Option Yt10:=callL tt FT SP 104 (show InVals (FT 104) from((a0,a1,a2,a3,((a4x0x0,a4x0x1,a4x0x2,a4x0x3,a4x0x4,a4x0x5,a4x0x6,()),()),()),(())))
noncomputable def F_20 (a0:List Yt11) (a1:List Int):Option Int:=callL tt FT SP 105 (show InVals (FT 105) from((a0,a1,()),(())))
noncomputable def F_1f (a0:List Yt11):Option Yt9:=callL tt FT SP 106 (show InVals (FT 106) from((a0,()),(())))
noncomputable def F_2q (a0:List Int):Option Yt11:=callL tt FT SP 107 (show InVals (FT 107) from((a0,()),(())))
noncomputable def F_19 (a0:List Yt11) (a1:List Yt11):Option Bool:=callL tt FT SP 108 (show InVals (FT 108) from((a0,a1,()),(())))
noncomputable def F_2x (a0:List Yt11) (a1:List Yt11):Option Bool:=callL tt FT SP 109 (show InVals (FT 109) from((a0,a1,(()),()),(())))
noncomputable def F_21 (a0:List STable) (a1:List SNode) (a2:List SNode) (a3:Int):Option Int:=callL tt FT SP 110 (show InVals (FT 110) from((a0,a1,a2,a3,()),(())))
noncomputable def F_2e (a0:List STable) (a1:List SNode) (a2:List SNode) (a3:Int):Option Int:=callL tt FT SP 111 (show InVals (FT 111) from((a0,a1,a2,a3,(()),()),(())))
noncomputable def F_29 (a0:List Yt11) (a1:List Yt11):Option Bool:=callL tt FT SP 112 (show InVals (FT 112) from((a0,a1,()),(())))
noncomputable def F_1a (a0:List Yt11):Option Yt9:=callL tt FT SP 113 (show InVals (FT 113) from((a0,()),(())))
noncomputable def F_35 (a0:List Yt11):Option Yt9:=callL tt FT SP 114 (show InVals (FT 114) from((a0,(()),()),(())))
noncomputable def F_3d (a0:List STable) (a1:List SNode) (a2:List SNode) (a3:Int):Option Int:=callL tt FT SP 115 (show InVals (FT 115) from((a0,a1,a2,a3,()),(())))
noncomputable def F_13 (a0:List STable) (a1:List SNode) (a2:List SNode) (a3:Int) (a4:Bool):Option Int:=callL tt FT SP 116 (show InVals (FT 116) from((a0,a1,a2,a3,a4,()),(())))
noncomputable def F_r (a0:List STable) (a1:Int):Option Yt37:=callL tt FT SP 117 (show InVals (FT 117) from((a0,a1,()),(())))
noncomputable def F_1y (a0x0:Int):Option Yt26:=callL tt FT SP 118 (show InVals (FT 118) from(((a0x0,()),()),(())))
noncomputable def F_o (a0:List STable) (a1:List Yt9) (a2:List SNode):Option Yt21:=callL tt FT SP 119 (show InVals (FT 119) from((a0,a1,a2,()),(())))
noncomputable def F_1o (a0:List STable) (a1:List Yt9):Option Bool:=callL tt FT SP 120 (show InVals (FT 120) from((a0,a1,()),(())))
noncomputable def F_42 (a0:Int):Option Bool:=callL tt FT SP 121 (show InVals (FT 121) from((a0,()),(())))
noncomputable def F_c (a0:List STable) (a1:List Yt9) (a2:List SNode) (a3:Int):Option Yt20:=callL tt FT SP 122 (show InVals (FT 122) from((a0,a1,a2,a3,()),(())))
noncomputable def F_3w (a0:SNode) (a1:List Yt11):Option Yt9:=callL tt FT SP 123 (show InVals (FT 123) from((a0,a1,()),(())))
noncomputable def F_3x (a0:SNode) (a1:Int):Option Bool:=callL tt FT SP 124 (show InVals (FT 124) from((a0,a1,()),(())))
noncomputable def F_3z (a0:SNode) (a1:List Yt11):Option Yt9:=callL tt FT SP 125 (show InVals (FT 125) from((a0,a1,()),(())))
noncomputable def F_3y (a0:SNode) (a1:List Yt11) (a2:List Yt11):Option Yt9:=callL tt FT SP 126 (show InVals (FT 126) from((a0,a1,a2,()),(())))
noncomputable def F_41 (a0:SNode) (a1:List Yt11):Option Yt9:=callL tt FT SP 127 (show InVals (FT 127) from((a0,a1,()),(())))
noncomputable def F_40 (a0:List Yt11):Option Yt9:=callL tt FT SP 128 (show InVals (FT 128) from((a0,()),(())))
noncomputable def F_3b (a0:List Yt11) (a1:List Int):Option Int:=callL tt FT SP 129 (show InVals (FT 129) from((a0,a1,()),(())))
noncomputable def F_1s (a0:List Int) (a1:List Int):Option Bool:=callL tt FT SP 130 (show InVals (FT 130) from((a0,a1,()),(())))
noncomputable def F_1w (a0:List Yt11):Option Yt9:=callL tt FT SP 131 (show InVals (FT 131) from((a0,()),(())))
noncomputable def F_3m (a0:List Yt11) (a1:List Yt11):Option Bool:=callL tt FT SP 132 (show InVals (FT 132) from((a0,a1,()),(())))
noncomputable def F_1n (a0:List Yt11):Option Yt9:=callL tt FT SP 133 (show InVals (FT 133) from((a0,()),(())))
noncomputable def F_3k (a0:List Int) (a1:List Int):Option Bool:=callL tt FT SP 134 (show InVals (FT 134) from((a0,a1,()),(())))
noncomputable def F_y (a0:List Yt11) (a1:List Yt11):Option Bool:=callL tt FT SP 135 (show InVals (FT 135) from((a0,a1,()),(())))
noncomputable def F_3c (a0:List STable) (a1:List SNode) (a2:List SNode) (a3:Int):Option Int:=callL tt FT SP 136 (show InVals (FT 136) from((a0,a1,a2,a3,()),(())))
noncomputable def F_2n (a0:List Int) (a1:Int):Option Yt11:=callL tt FT SP 137 (show InVals (FT 137) from((a0,a1,()),(())))
noncomputable def F_3f (a0:List Int):Option ((List STable)×Int):=callL tt FT SP 138 (show InVals (FT 138) from((a0,()),(())))
noncomputable def F_49 (a0x0:List Int) (a0x1:Int) (a0x2:Int):Option Yt41:=callL tt FT SP 139 (show InVals (FT 139) from(((a0x0,a0x1,a0x2,()),()),(())))
noncomputable def F_2b (a0:List STable) (a1:List Yt9):Option ByteArray:=callL tt FT SP 140 (show InVals (FT 140) from((a0,a1,()),(())))
noncomputable def F_18 (a0:List Int):Option ByteArray:=callL tt FT SP 141 (show InVals (FT 141) from((a0,()),(())))
noncomputable def F_2j (a0:Int):Option ByteArray:=callL tt FT SP 142 (show InVals (FT 142) from((a0,()),(())))
noncomputable def F_4a (a0:Int):Option ByteArray:=callL tt FT SP 143 (show InVals (FT 143) from((a0,()),(())))
noncomputable def F_4b (a0:List ByteArray) (a1:ByteArray):Option (ByteArray×(List ByteArray)):=callL tt FT SP 144 (show InVals (FT 144) from((a0,a1,()),(())))
noncomputable def F_3p (a0:List STable) (a1:List Yt9):Option ByteArray:=callL tt FT SP 145 (show InVals (FT 145) from((a0,a1,()),(())))
noncomputable def F_1m (a0:List Int):Option ByteArray:=callL tt FT SP 146 (show InVals (FT 146) from((a0,()),(())))
noncomputable def F_16 (a0:List Yt9):Option Int:=callL tt FT SP 147 (show InVals (FT 147) from((a0,()),(())))
noncomputable def F_28 (a0:List STable) (a1:List SNode) (a2:Int):Option Int:=callL tt FT SP 148 (show InVals (FT 148) from((a0,a1,a2,()),(())))
noncomputable def F_8 (a0:List STable) (a1:List SNode) (a2:Int):Option Int:=callL tt FT SP 149 (show InVals (FT 149) from((a0,a1,a2,()),(())))
noncomputable def F_22 (a0:List STable) (a1:List SNode) (a2:Int):Option Int:=callL tt FT SP 150 (show InVals (FT 150) from((a0,a1,a2,()),(())))
noncomputable def F_3l (a0:List STable) (a1:List SNode) (a2:Int):Option Int:=callL tt FT SP 151 (show InVals (FT 151) from((a0,a1,a2,()),(())))
noncomputable def F_a (a0:List STable) (a1:List SNode) (a2:Int):Option Int:=callL tt FT SP 152 (show InVals (FT 152) from((a0,a1,a2,()),(())))
noncomputable def F_3h (a0:List STable) (a1:List SNode) (a2:Int):Option Int:=callL tt FT SP 153 (show InVals (FT 153) from((a0,a1,a2,()),(())))
noncomputable def F_i (a0:List STable) (a1:List SNode) (a2:Int):Option ByteArray:=callL tt FT SP 154 (show InVals (FT 154) from((a0,a1,a2,()),(())))
noncomputable def F_p (a0:List STable) (a1:List SNode) (a2:Int):Option ByteArray:=callL tt FT SP 155 (show InVals (FT 155) from((a0,a1,a2,()),(())))
@[simp] noncomputable def J_57 (v39:Bool):Option Bool:=
 some v39
@[simp] noncomputable def J_1z (y2:Yt27) (v18:Bool):Option Bool:=
 (bif v18 then
 some false
 else(F_28 y2.1 y2.2.1 y2.2.2.2).bind (fun y19=>(F_22 y2.1 y2.2.1 y2.2.2.2).bind (fun y20=>joinK ((F_3l y2.1 y2.2.1 y2.2.2.2).bind (fun y21=>(bif (y19==y21) then
 (F_3h y2.1 y2.2.1 y2.2.2.2).bind (fun y22=>(bif (y20==y22) then
 (bif (decide (y2.2.2.2<0)) then
 (F_i y2.1 y2.2.1 5).bind (fun y23=>(F_p y2.1 y2.2.1 5).bind (fun y24=>(bif (y23.toList==y24.toList) then
 (F_8 y2.1 y2.2.1 5).bind (fun y25=>(F_a y2.1 y2.2.1 5).bind (fun y26=>some (.go (y25==y26))))
 else some (.go false))))
 else(bif (decide (y2.2.2.2>50)) then
 (F_i y2.1 y2.2.1 5).bind (fun y27=>(F_p y2.1 y2.2.1 5).bind (fun y28=>(bif (y27.toList==y28.toList) then
 (F_8 y2.1 y2.2.1 5).bind (fun y29=>(F_a y2.1 y2.2.1 5).bind (fun y30=>some (.go (y29==y30))))
 else some (.go false))))
 else(bif (decide ((IntKind.i64.wrap (y20*y2.2.2.2))≥y19)) then
 (F_i y2.1 y2.2.1 5).bind (fun y31=>(F_p y2.1 y2.2.1 5).bind (fun y32=>(bif (y31.toList==y32.toList) then
 (F_8 y2.1 y2.2.1 5).bind (fun y33=>(F_a y2.1 y2.2.1 5).bind (fun y34=>some (.go (y33==y34))))
 else some (.go false))))
 else(bif (decide (y20<0)) then
 (F_i y2.1 y2.2.1 5).bind (fun y35=>(F_p y2.1 y2.2.1 5).bind (fun y36=>(bif (y35.toList==y36.toList) then
 (F_8 y2.1 y2.2.1 5).bind (fun y37=>(F_a y2.1 y2.2.1 5).bind (fun y38=>some (.go (y37==y38))))
 else some (.go false))))
 else some (.go false)))))
 else some (.go false)))
 else some (.go false))))
 (fun s=>J_57 s))))
@[simp] noncomputable def J_1y (a0:List Int) (y2:Yt27) (v8:Bool):Option Bool:=
 (bif v8 then
 some false
 else(F_2n a0 1).bind (fun y9=>(F_3f y9).bind (fun y10=>(F_d y10.1 y10.2).bind (fun y11=>(F_2b y10.1 y11).bind (fun y12=>(F_r y10.1 y10.2).bind (fun y13=>(F_3p y10.1 y13).bind (fun y14=>(bif (!(y12.toList==y14.toList)) then
 some false
 else joinK ((F_q y10.1).bind (fun y15=>(bif y15 then
 (bif (decide (y10.2≥0)) then
 (bif (decide (y10.2≤65536)) then
 (F_j y10.1 y11).bind (fun y16=>(bif (!y16) then
 some (.go true)
 else(F_16 y11).bind (fun y17=>some (.go (decide (y17>(IntKind.i64.wrap (4*(y10.1.length:Int)))))))))
 else some (.go false))
 else some (.go false))
 else some (.go false))))
 (fun s=>J_1z y2 s)))))))))
theorem U_1j (a0:List Int):Le ((F_2o a0).bind (fun y1=>(bif y1 then
 some true
 else(F_3e a0).bind (fun y2=>(F_17 y2.1 y2.2.1 y2.2.2.1 y2.2.2.2).bind (fun y3=>(F_21 y2.1 y2.2.1 y2.2.2.1 y2.2.2.2).bind (fun y4=>joinK ((F_3d y2.1 y2.2.1 y2.2.2.1 y2.2.2.2).bind (fun y5=>(bif (y3 != y5) then
 some (.go true)
 else(F_3c y2.1 y2.2.1 y2.2.2.1 y2.2.2.2).bind (fun y6=>(bif (y4 != y6) then
 some (.go true)
 else(F_17 y2.1 y2.2.1 y2.2.1 y2.2.2.2).bind (fun y7=>(bif (y7 != (-1)) then
 some (.go true)
 else(bif (decide (y4≥0)) then
 (bif (decide (y3<0)) then
 some (.go true)
 else some (.go (decide (y3>y4))))
 else some (.go false)))))))))
 (fun s=>J_1y a0 y2 s))))))) (F_2m a0):=callL_le (tt:=tt) (FT:=FT) (SP:=SP) (j:=0) rfl (by kernel_rfl)
theorem U_1l (a0:List Int):Le (some (decide ((a0.length:Int)>1048576))) (F_2o a0):=callL_le (tt:=tt) (FT:=FT) (SP:=SP) (j:=1) rfl (by kernel_rfl)
@[simp] noncomputable def J_2u (y4:Yt42) (y10:Yt41) (v13:Bool):Option (Ex Yt27 Yt15):=
 (bif v13 then
 (ix y4.1 y10.1).bind (fun z14=>(ix y4.1 y10.1).bind (fun z15=>(ix y4.1 y10.1).bind (fun z16=>some (.go ((y4.1.set (y10.1).toNat (z16.1,(z16.2.1,(z16.2.2.1,(z16.2.2.2.1,((IntKind.i64.wrap (z14.2.2.2.2.1+1)),z16.2.2.2.2.2)))))),y10.2.1,y10.2.2.1,y10.2.2.2)))))
 else some (.go (y4.1,y10.2.1,y10.2.2.1,y10.2.2.2)))
@[simp] noncomputable def J_2t (y4:Yt42) (v6:List Int) (v7:Int) (v8:Int) (v9:Bool):Option (Ex Yt27 Yt15):=
 (bif v9 then
 (F_0 v6 v7 v8 (y4.1.length:Int)).bind (fun y10=>joinK ((ix y4.1 y10.1).bind (fun z11=>(bif (z11.1==1) then
 (ix y4.1 y10.1).bind (fun z12=>some (.go (z12.2.2.2.1 != 3)))
 else some (.go false))))
 (fun s=>J_2u y4 y10 s))
 else some (.go (y4.1,v6,v7,v8)))
@[simp] noncomputable def J_2s (y1:Yt48) (v17:List SNode) (v18:List Int) (v19:Int) (v20:Int):Option Yt27:=
 (F_5 v18 v19 v20 ([3,5,8,0,51,(-1)])).bind (fun y21=>some (y1.2.2.2.1,y1.2.2.2.2,v17,y21.1))
theorem U_2i (a0:List Int):Le ((F_44 a0).bind (fun y1=>(F_0 y1.1 y1.2.1 y1.2.2.1 3).bind (fun y2=>(F_48 y2.2.1 y2.2.2.1 y2.2.2.2 y1.2.2.2.1 y1.2.2.2.2 y2.1).bind (fun y3=>(F_3j y1.2.2.2.1 y1.2.2.2.2 y3.1).bind (fun y4=>joinK (joinK ((F_b y3.2.1 y3.2.2.1 y3.2.2.2 2).bind (fun y5=>(bif y5.1 then
 some (.go (y5.2.1,y5.2.2.1,y5.2.2.2,(decide ((y4.1.length:Int)>0))))
 else some (.go (y5.2.1,y5.2.2.1,y5.2.2.2,false)))))
 (fun s=>J_2t y4 s.1 s.2.1 s.2.2.1 s.2.2.2))
 (fun s=>J_2s y1 s.1 s.2.1 s.2.2.1 s.2.2.2)))))) (F_3e a0):=callL_le (tt:=tt) (FT:=FT) (SP:=SP) (j:=2) rfl (by kernel_rfl)
@[simp] noncomputable def J_4s (a0:List Int) (v5:List STable) (v6:List Int) (v7:Int) (v8:Int):Option Yt48:=
 (F_45 v6 v7 v8 a0).bind (fun y9=>(F_46 y9.2.1 y9.2.2.1 y9.2.2.2 y9.1).bind (fun y10=>(F_b y10.2.1 y10.2.2.1 y10.2.2.2 15).bind (fun y11=>(bif y11.1 then
 (F_3v y11.2.1 y11.2.2.1 y11.2.2.2 y10.1).bind (fun y12=>some (y12.2.1,y12.2.2.1,y12.2.2.2,v5,y12.1))
 else some (y11.2.1,y11.2.2.1,y11.2.2.2,v5,y10.1)))))
theorem U_42 (a0:List Int):Le ((F_1q a0).bind (fun y1=>(F_1v).bind (fun y2=>joinK ((F_b y1.1 y1.2.1 y1.2.2 15).bind (fun y3=>(bif y3.1 then
 (F_1t y3.2.1 y3.2.2.1 y3.2.2.2).bind (fun y4=>some (.go (y4.1,y4.2.1,y4.2.2.1,y4.2.2.2)))
 else some (.go (y2,y3.2.1,y3.2.2.1,y3.2.2.2)))))
 (fun s=>J_4s a0 s.1 s.2.1 s.2.2.1 s.2.2.2)))) (F_44 a0):=callL_le (tt:=tt) (FT:=FT) (SP:=SP) (j:=3) rfl (by kernel_rfl)
@[simp] noncomputable def J_6d (a0:List Int) (v1:Int) (v2:Int) (f0:Yt26→Option (Ex Yt40 Int)) (v3:Bool):Option (Ex Yt40 Int):=
 (bif v3 then
 (ix a0 v2).bind (fun z4=>f0 ((andV .i64 (IntKind.i64.wrap ((IntKind.i64.wrap ((IntKind.i64.wrap (v1*149))+(IntKind.i64.wrap z4)))+11)) 1073741823),(IntKind.i64.wrap (v2+1))))
 else some (.go v1))
noncomputable def L_2y (a0:List Int) (f0:Yt26→Option (Ex Yt40 Int)) (v1:Int) (v2:Int):Option (Ex Yt40 Int):=
 joinK ((bif (decide (v2<(a0.length:Int))) then
 some (.go (decide (v2<4000)))
 else some (.go false)))
 (fun s=>J_6d a0 v1 v2 f0 s)
@[simp] noncomputable def J_6c (a0:List Int) (v5:Int):Option Yt40:=
 some (a0,0,v5)
theorem U_3d (a0:List Int):Le (joinK (loopF (fun f s=>L_2y a0 f s.1 s.2) ((IntKind.i64.wrap (844844+(a0.length:Int))),0))
 (fun s=>J_6c a0 s)) (F_1q a0):=callL_le (tt:=tt) (FT:=FT) (SP:=SP) (j:=4) rfl (by kernel_rfl)
theorem U_3s:Le (some ([((⟨#[116,49]⟩:ByteArray),(2,())),((⟨#[116,50]⟩:ByteArray),(3,())),((⟨#[116,51]⟩:ByteArray),(1,()))])) (F_1v):=callL_le (tt:=tt) (FT:=FT) (SP:=SP) (j:=5) rfl (by kernel_rfl)
theorem U_3f (a0x0:List Int) (a0x1:Int) (a0x2:Int) (a1:Int):Le ((F_0 a0x0 a0x1 a0x2 a1).bind (fun y1=>some ((y1.1==0),y1.2.1,y1.2.2.1,y1.2.2.2))) (F_b a0x0 a0x1 a0x2 a1):=callL_le (tt:=tt) (FT:=FT) (SP:=SP) (j:=6) rfl (by kernel_rfl)
theorem U_37 (a0x0:List Int) (a0x1:Int) (a0x2:Int) (a1:Int):Le ((bif (decide (a1≤0)) then
 some (0,a0x0,a0x1,a0x2)
 else(bif (decide (a1≤256)) then
 (F_t a0x0 a0x1 a0x2).bind (fun y1=>(remx y1.1 a1).bind (fun z2=>some (z2,y1.2.1,y1.2.2.1,y1.2.2.2)))
 else(F_t a0x0 a0x1 a0x2).bind (fun y3=>(F_t y3.2.1 y3.2.2.1 y3.2.2.2).bind (fun y4=>(F_t y4.2.1 y4.2.2.1 y4.2.2.2).bind (fun y5=>(remx (IntKind.i64.wrap ((IntKind.i64.wrap ((IntKind.i64.wrap (y3.1*65536))+(IntKind.i64.wrap (y4.1*256))))+y5.1)) a1).bind (fun z6=>some (z6,y5.2.1,y5.2.2.1,y5.2.2.2)))))))) (F_0 a0x0 a0x1 a0x2 a1):=callL_le (tt:=tt) (FT:=FT) (SP:=SP) (j:=7) rfl (by kernel_rfl)
@[simp] noncomputable def J_3v (v4:Int) (v5:List Int) (v6:Int) (v7:Int):Option Yt41:=
 some (v4,v5,v6,v7)
theorem U_38 (a0x0:List Int) (a0x1:Int) (a0x2:Int):Le ((shrV .i64 (IntKind.i64.wrap ((IntKind.i64.wrap (a0x2*6364136223846793005))+1442695040888963407)) 33).bind (fun z1=>(shrV .i64 (IntKind.i64.wrap ((IntKind.i64.wrap (a0x2*6364136223846793005))+1442695040888963407)) 45).bind (fun z2=>joinK ((bif (decide (a0x1<(a0x0.length:Int))) then
 (ix a0x0 a0x1).bind (fun z3=>some (.go ((andV .i64 (IntKind.i64.wrap ((andV .i64 (xorV .i64 z1 z2) 255)+(IntKind.i64.wrap z3))) 255),a0x0,(IntKind.i64.wrap (a0x1+1)),(IntKind.i64.wrap ((IntKind.i64.wrap (a0x2*6364136223846793005))+1442695040888963407)))))
 else some (.go ((andV .i64 (xorV .i64 z1 z2) 255),a0x0,a0x1,(IntKind.i64.wrap ((IntKind.i64.wrap (a0x2*6364136223846793005))+1442695040888963407))))))
 (fun s=>J_3v s.1 s.2.1 s.2.2.1 s.2.2.2)))) (F_t a0x0 a0x1 a0x2):=callL_le (tt:=tt) (FT:=FT) (SP:=SP) (j:=8) rfl (by kernel_rfl)
noncomputable def L_30 (f0:Yt32→Option (Ex Yt32 Yt32)) (v12:List STable) (v13:List Int) (v14:Int) (v15:Int):Option (Ex Yt32 Yt32):=
 (F_0 v13 v14 v15 2).bind (fun y16=>(bif (decide ((v12.length:Int)<(IntKind.i64.wrap (8+y16.1)))) then
 (F_10 (v12.length:Int)).bind (fun y17=>(addx (⟨#[122]⟩:ByteArray) y17).bind (fun z18=>(apx v12 ([(z18,(1,()))])).bind (fun z19=>f0 (z19,y16.2.1,y16.2.2.1,y16.2.2.2))))
 else some (.go (v12,y16.2.1,y16.2.2.1,y16.2.2.2))))
@[simp] noncomputable def J_6i (v20:List STable) (v21:List Int) (v22:Int) (v23:Int):Option Yt32:=
 some (v20,v21,v22,v23)
theorem U_3q (a0x0:List Int) (a0x1:Int) (a0x2:Int):Le ((F_1v).bind (fun y1=>joinK ((F_b a0x0 a0x1 a0x2 6).bind (fun y2=>(bif y2.1 then
 (F_0 y2.2.1 y2.2.2.1 y2.2.2.2 3).bind (fun y3=>(F_0 y3.2.1 y3.2.2.1 y3.2.2.2 4).bind (fun y4=>(bif (y4.1==0) then
 (F_5 y4.2.1 y4.2.2.1 y4.2.2.2 ([0,1,6,7])).bind (fun y5=>(ix y1 y3.1).bind (fun z6=>(ix y1 y3.1).bind (fun z7=>some (.go ((y1.set (y3.1).toNat (z7.1,(y5.1,z7.2.2))),y5.2.1,y5.2.2.1,y5.2.2.2)))))
 else(bif (y4.1==1) then
 (F_3t y4.2.1 y4.2.2.1 y4.2.2.2 ([ByteArray.empty,(⟨#[116,49]⟩:ByteArray),(⟨#[116,57]⟩:ByteArray),(⟨#[65]⟩:ByteArray)])).bind (fun y8=>(ix y1 y3.1).bind (fun z9=>(ix y1 y3.1).bind (fun z10=>some (.go ((y1.set (y3.1).toNat (y8.1,z10.2)),y8.2.1,y8.2.2.1,y8.2.2.2)))))
 else(bif (y4.1==2) then
 (tkx y1 y3.1).bind (fun z11=>some (.go (z11,y4.2.1,y4.2.2.1,y4.2.2.2)))
 else(bif (y4.1==3) then
 loopF (fun f s=>L_30 f s.1 s.2.1 s.2.2.1 s.2.2.2) (y1,y4.2.1,y4.2.2.1,y4.2.2.2)
 else some (.go (y1,y4.2.1,y4.2.2.1,y4.2.2.2))))))))
 else some (.go (y1,y2.2.1,y2.2.2.1,y2.2.2.2)))))
 (fun s=>J_6i s.1 s.2.1 s.2.2.1 s.2.2.2))) (F_1t a0x0 a0x1 a0x2):=callL_le (tt:=tt) (FT:=FT) (SP:=SP) (j:=9) rfl (by kernel_rfl)
theorem U_3g (a0x0:List Int) (a0x1:Int) (a0x2:Int) (a1:List Int):Le ((F_0 a0x0 a0x1 a0x2 (a1.length:Int)).bind (fun y1=>(ix a1 y1.1).bind (fun z2=>some (z2,y1.2.1,y1.2.2.1,y1.2.2.2)))) (F_5 a0x0 a0x1 a0x2 a1):=callL_le (tt:=tt) (FT:=FT) (SP:=SP) (j:=10) rfl (by kernel_rfl)
theorem U_3h (a0x0:List Int) (a0x1:Int) (a0x2:Int) (a1:List ByteArray):Le ((F_0 a0x0 a0x1 a0x2 (a1.length:Int)).bind (fun y1=>(ix a1 y1.1).bind (fun z2=>some (z2,y1.2.1,y1.2.2.1,y1.2.2.2)))) (F_3t a0x0 a0x1 a0x2 a1):=callL_le (tt:=tt) (FT:=FT) (SP:=SP) (j:=11) rfl (by kernel_rfl)
@[simp] noncomputable def J_2 (v1:Int) (v2:ByteArray) (f0:Yt50→Option Yt18) (v4:Int):Option Yt18:=
 (addx (bsOf ([(IntKind.u8.wrap (IntKind.i64.wrap (48+v4)))])) v2).bind (fun z5=>(quox v1 10).bind (fun z6=>f0 (z6,z5)))
noncomputable def L_1x (f0:Yt50→Option Yt18) (v1:Int) (v2:ByteArray):Option Yt18:=
 (bif (v1 != 0) then
 (remx v1 10).bind (fun z3=>joinK ((bif (decide (z3<0)) then
 some (.go (IntKind.i64.wrap (0-z3)))
 else some (.go z3)))
 (fun s=>J_2 v1 v2 f0 s))
 else some (.go v2))
@[simp] noncomputable def J_i (a0:Int) (v7:ByteArray):Option ByteArray:=
 (bif (decide (a0<0)) then
 (addx (⟨#[45]⟩:ByteArray) v7).bind (fun z8=>some z8)
 else some v7)
theorem U_5 (a0:Int):Le ((bif (a0==0) then
 some (⟨#[48]⟩:ByteArray)
 else joinK (loopF (fun f s=>L_1x f s.1 s.2) (a0,ByteArray.empty))
 (fun s=>J_i a0 s))) (F_10 a0):=callL_le (tt:=tt) (FT:=FT) (SP:=SP) (j:=12) rfl (by kernel_rfl)
noncomputable def L_32 (v6:Int) (f1:(Int×ByteArray×Int×Int×Int×Bool×Yt11×Int×Yt11×Int×Int)→Option (Ex (Ex (Ex (Ex Yt15 Yt15) Yt17) Yt19) Yt30)) (v16:Int) (v17:ByteArray) (v18:Int) (v19:Int) (v20:Int) (v21:Bool) (v22:List Int) (v23:Int) (v24:List Int) (v25:Int) (v26:Int):Option (Ex (Ex (Ex (Ex Yt15 Yt15) Yt17) Yt19) Yt30):=
 (bif (decide (v23>0)) then
 (F_0 v24 v25 v26 v6).bind (fun y27=>(apx v22 ([y27.1])).bind (fun z28=>f1 (v16,v17,v18,v19,v20,v21,z28,(IntKind.i64.wrap (v23-1)),y27.2.1,y27.2.2.1,y27.2.2.2)))
 else some (.go (v16,v17,v18,v19,v20,v21,v22,v24,v25,v26)))
@[simp] noncomputable def J_6p (v29:Int) (v30:ByteArray) (v31:Int) (v32:Int) (v33:Int) (v34:Bool) (v35:List Int) (v36:List Int) (v37:Int) (v38:Int):Option (Ex (Ex (Ex Yt15 Yt15) Yt17) Yt19):=
 some (.go ((v35.length:Int),v29,v30,v31,v32,v33,v34,v35,v36,v37,v38))
@[simp] noncomputable def J_4q (v5:List SNode) (v41:Int) (v42:Int) (v43:ByteArray) (v44:Int) (v45:Int) (v46:Int) (v47:Bool) (v48:List Int) (v49:List Int) (v50:Int) (v51:Int):Option (Ex (Ex Yt15 Yt15) Yt17):=
 (F_1 ([[(v42,(v43,(v44,(v45,(v46,(v47,(v48,())))))))],v5])).bind (fun y52=>some (.go (y52,v41,v49,v50,v51)))
@[simp] noncomputable def J_4p (v7:Int) (f0:((List SNode)×Int×Int×Yt11×Int×Int)→Option (Ex Yt15 Yt15)) (v53:List SNode) (v54:Int) (v55:List Int) (v56:Int) (v57:Int):Option (Ex Yt15 Yt15):=
 f0 (v53,v54,(IntKind.i64.wrap (v7-1)),v55,v56,v57)
noncomputable def L_31 (f0:((List SNode)×Int×Int×Yt11×Int×Int)→Option (Ex Yt15 Yt15)) (v5:List SNode) (v6:Int) (v7:Int) (v8:List Int) (v9:Int) (v10:Int):Option (Ex Yt15 Yt15):=
 (bif (decide (v7>0)) then
 joinK ((F_5 v8 v9 v10 ([1,1,1,2,5,6,7])).bind (fun y11=>joinK ((bif (y11.1==1) then
 (F_0 y11.2.1 y11.2.2.1 y11.2.2.2 v6).bind (fun y12=>(F_0 y12.2.1 y12.2.2.1 y12.2.2.2 4).bind (fun y13=>(bif (y13.1 != 3) then
 (F_0 y13.2.1 y13.2.2.1 y13.2.2.2 6).bind (fun y14=>some (.go (v6,y11.1,ByteArray.empty,y12.1,y13.1,y14.1,false,[],y14.2.1,y14.2.2.1,y14.2.2.2)))
 else some (.go (v6,y11.1,ByteArray.empty,y12.1,y13.1,0,false,[],y13.2.1,y13.2.2.1,y13.2.2.2)))))
 else(bif (y11.1==2) then
 joinK ((F_0 y11.2.1 y11.2.2.1 y11.2.2.2 3).bind (fun y15=>loopF (fun f s=>L_32 v6 f s.1 s.2.1 s.2.2.1 s.2.2.2.1 s.2.2.2.2.1 s.2.2.2.2.2.1 s.2.2.2.2.2.2.1 s.2.2.2.2.2.2.2.1 s.2.2.2.2.2.2.2.2.1 s.2.2.2.2.2.2.2.2.2.1 s.2.2.2.2.2.2.2.2.2.2) (y11.1,ByteArray.empty,0,0,0,false,[],(IntKind.i64.wrap (1+y15.1)),y15.2.1,y15.2.2.1,y15.2.2.2)))
 (fun s=>J_6p s.1 s.2.1 s.2.2.1 s.2.2.2.1 s.2.2.2.2.1 s.2.2.2.2.2.1 s.2.2.2.2.2.2.1 s.2.2.2.2.2.2.2.1 s.2.2.2.2.2.2.2.2.1 s.2.2.2.2.2.2.2.2.2)
 else(bif (y11.1==5) then
 (F_0 y11.2.1 y11.2.2.1 y11.2.2.2 v6).bind (fun y39=>some (.go (v6,y11.1,ByteArray.empty,y39.1,0,0,false,[],y39.2.1,y39.2.2.1,y39.2.2.2)))
 else(bif (y11.1==6) then
 (F_0 y11.2.1 y11.2.2.1 y11.2.2.2 5).bind (fun y40=>some (.go (v6,y11.1,ByteArray.empty,0,0,y40.1,false,[],y40.2.1,y40.2.2.1,y40.2.2.2)))
 else some (.go (v6,y11.1,ByteArray.empty,0,0,0,false,[],y11.2.1,y11.2.2.1,y11.2.2.2)))))))
 (fun s=>J_4q v5 s.1 s.2.1 s.2.2.1 s.2.2.2.1 s.2.2.2.2.1 s.2.2.2.2.2.1 s.2.2.2.2.2.2.1 s.2.2.2.2.2.2.2.1 s.2.2.2.2.2.2.2.2.1 s.2.2.2.2.2.2.2.2.2.1 s.2.2.2.2.2.2.2.2.2.2)))
 (fun s=>J_4p v7 f0 s.1 s.2.1 s.2.2.1 s.2.2.2.1 s.2.2.2.2)
 else some (.go (v5,v8,v9,v10)))
@[simp] noncomputable def J_6o (v58:List SNode) (v59:List Int) (v60:Int) (v61:Int):Option Yt15:=
 some (v58,v59,v60,v61)
theorem U_43 (a0x0:List Int) (a0x1:Int) (a0x2:Int) (a1:List Int):Le ((F_3u a1 5).bind (fun y1=>(F_0 a0x0 a0x1 a0x2 y1).bind (fun y2=>(F_4 y2.2.1 y2.2.2.1 y2.2.2.2 (IntKind.i64.wrap (1+y2.1))).bind (fun y3=>joinK ((F_0 y3.2.2.1 y3.2.2.2.1 y3.2.2.2.2 4).bind (fun y4=>loopF (fun f s=>L_31 f s.1 s.2.1 s.2.2.1 s.2.2.2.1 s.2.2.2.2.1 s.2.2.2.2.2) (y3.1,y3.2.1,(IntKind.i64.wrap (1+y4.1)),y4.2.1,y4.2.2.1,y4.2.2.2)))
 (fun s=>J_6o s.1 s.2.1 s.2.2.1 s.2.2.2))))) (F_45 a0x0 a0x1 a0x2 a1):=callL_le (tt:=tt) (FT:=FT) (SP:=SP) (j:=13) rfl (by kernel_rfl)
theorem U_3i (a0:List Int) (a1:Int):Le ((quox (a0.length:Int) 16).bind (fun z1=>(bif (decide ((IntKind.i64.wrap (2+z1))>a1)) then
 some a1
 else some (IntKind.i64.wrap (2+z1))))) (F_3u a0 a1):=callL_le (tt:=tt) (FT:=FT) (SP:=SP) (j:=14) rfl (by kernel_rfl)
@[simp] noncomputable def J_3z (y12:Yt17) (v15:List SNode) (v16:Int) (v17:List SNode):Option Yt17:=
 (F_1 ([[(4,(ByteArray.empty,(0,(0,(0,(false,([],())))))))],v15,v17])).bind (fun y18=>some (y18,v16,y12.2.2.1,y12.2.2.2.1,y12.2.2.2.2))
noncomputable def L_2z (y19:Yt17) (f0:(Int×ByteArray×Int×Int×Int×Bool×Yt11×Int×Yt11×Int×Int)→Option (Ex (Ex Yt17 Yt19) Yt30)) (v24:Int) (v25:ByteArray) (v26:Int) (v27:Int) (v28:Int) (v29:Bool) (v30:List Int) (v31:Int) (v32:List Int) (v33:Int) (v34:Int):Option (Ex (Ex Yt17 Yt19) Yt30):=
 (bif (decide (v31>0)) then
 (F_0 v32 v33 v34 y19.2.1).bind (fun y35=>(apx v30 ([y35.1])).bind (fun z36=>f0 (v24,v25,v26,v27,v28,v29,z36,(IntKind.i64.wrap (v31-1)),y35.2.1,y35.2.2.1,y35.2.2.2)))
 else some (.go (v24,v25,v26,v27,v28,v29,v30,v32,v33,v34)))
@[simp] noncomputable def J_6f (v37:Int) (v38:ByteArray) (v39:Int) (v40:Int) (v41:Int) (v42:Bool) (v43:List Int) (v44:List Int) (v45:Int) (v46:Int):Option (Ex Yt17 Yt19):=
 some (.go ((v43.length:Int),v37,v38,v39,v40,v41,v42,v43,v44,v45,v46))
@[simp] noncomputable def J_40 (y19:Yt17) (v49:Int) (v50:Int) (v51:ByteArray) (v52:Int) (v53:Int) (v54:Int) (v55:Bool) (v56:List Int) (v57:List Int) (v58:Int) (v59:Int):Option Yt17:=
 (F_1 ([[(v50,(v51,(v52,(v53,(v54,(v55,(v56,())))))))],y19.1])).bind (fun y60=>some (y60,v49,v57,v58,v59))
@[simp] noncomputable def J_3y (a1:Int) (y1:Yt41) (v2:Int):Option Yt17:=
 (bif (v2==0) then
 (F_0 y1.2.1 y1.2.2.1 y1.2.2.2 3).bind (fun y3=>(ix ([(⟨#[116,49]⟩:ByteArray),(⟨#[116,50]⟩:ByteArray),(⟨#[116,51]⟩:ByteArray)]) y3.1).bind (fun z4=>(ix ([2,3,1]) y3.1).bind (fun z5=>some ([(0,(z4,(0,(0,(0,(false,([],())))))))],z5,y3.2.1,y3.2.2.1,y3.2.2.2))))
 else(bif (v2==3) then
 (F_4 y1.2.1 y1.2.2.1 y1.2.2.2 (IntKind.i64.wrap (a1-1))).bind (fun y6=>(F_4 y6.2.2.1 y6.2.2.2.1 y6.2.2.2.2 (IntKind.i64.wrap (a1-2))).bind (fun y7=>(F_0 y7.2.2.1 y7.2.2.2.1 y7.2.2.2.2 y6.2.1).bind (fun y8=>(F_0 y8.2.1 y8.2.2.1 y8.2.2.2 y7.2.1).bind (fun y9=>(F_1 ([[(3,(ByteArray.empty,(y8.1,(0,(y9.1,(false,([],())))))))],y6.1,y7.1])).bind (fun y10=>some (y10,(IntKind.i64.wrap (y6.2.1+y7.2.1)),y9.2.1,y9.2.2.1,y9.2.2.2))))))
 else(bif (v2==4) then
 (F_4 y1.2.1 y1.2.2.1 y1.2.2.2 (IntKind.i64.wrap (a1-1))).bind (fun y11=>(F_4 y11.2.2.1 y11.2.2.2.1 y11.2.2.2.2 (IntKind.i64.wrap (a1-2))).bind (fun y12=>joinK ((bif (y12.2.1 != y11.2.1) then
 (F_1 ([[(2,(ByteArray.empty,(0,(0,(0,(false,([0],())))))))],y11.1])).bind (fun y13=>(F_1 ([[(2,(ByteArray.empty,(0,(0,(0,(false,([0],())))))))],y12.1])).bind (fun y14=>some (.go (y13,1,y14))))
 else some (.go (y11.1,y11.2.1,y12.1))))
 (fun s=>J_3z y12 s.1 s.2.1 s.2.2)))
 else(F_4 y1.2.1 y1.2.2.1 y1.2.2.2 (IntKind.i64.wrap (a1-1))).bind (fun y19=>joinK ((bif (v2==1) then
 (F_0 y19.2.2.1 y19.2.2.2.1 y19.2.2.2.2 y19.2.1).bind (fun y20=>(F_0 y20.2.1 y20.2.2.1 y20.2.2.2 4).bind (fun y21=>(bif (y21.1 != 3) then
 (F_0 y21.2.1 y21.2.2.1 y21.2.2.2 6).bind (fun y22=>some (.go (y19.2.1,v2,ByteArray.empty,y20.1,y21.1,(IntKind.i64.wrap (y22.1-1)),false,[],y22.2.1,y22.2.2.1,y22.2.2.2)))
 else some (.go (y19.2.1,v2,ByteArray.empty,y20.1,y21.1,0,false,[],y21.2.1,y21.2.2.1,y21.2.2.2)))))
 else(bif (v2==2) then
 joinK ((F_0 y19.2.2.1 y19.2.2.2.1 y19.2.2.2.2 3).bind (fun y23=>loopF (fun f s=>L_2z y19 f s.1 s.2.1 s.2.2.1 s.2.2.2.1 s.2.2.2.2.1 s.2.2.2.2.2.1 s.2.2.2.2.2.2.1 s.2.2.2.2.2.2.2.1 s.2.2.2.2.2.2.2.2.1 s.2.2.2.2.2.2.2.2.2.1 s.2.2.2.2.2.2.2.2.2.2) (v2,ByteArray.empty,0,0,0,false,[],(IntKind.i64.wrap (1+y23.1)),y23.2.1,y23.2.2.1,y23.2.2.2)))
 (fun s=>J_6f s.1 s.2.1 s.2.2.1 s.2.2.2.1 s.2.2.2.2.1 s.2.2.2.2.2.1 s.2.2.2.2.2.2.1 s.2.2.2.2.2.2.2.1 s.2.2.2.2.2.2.2.2.1 s.2.2.2.2.2.2.2.2.2)
 else(bif (v2==5) then
 (F_0 y19.2.2.1 y19.2.2.2.1 y19.2.2.2.2 y19.2.1).bind (fun y47=>some (.go (y19.2.1,v2,ByteArray.empty,y47.1,0,0,false,[],y47.2.1,y47.2.2.1,y47.2.2.2)))
 else(bif (v2==6) then
 (F_0 y19.2.2.1 y19.2.2.2.1 y19.2.2.2.2 6).bind (fun y48=>some (.go (y19.2.1,v2,ByteArray.empty,0,0,y48.1,false,[],y48.2.1,y48.2.2.1,y48.2.2.2)))
 else some (.go (y19.2.1,v2,ByteArray.empty,0,0,0,false,[],y19.2.2.1,y19.2.2.2.1,y19.2.2.2.2)))))))
 (fun s=>J_40 y19 s.1 s.2.1 s.2.2.1 s.2.2.2.1 s.2.2.2.2.1 s.2.2.2.2.2.1 s.2.2.2.2.2.2.1 s.2.2.2.2.2.2.2.1 s.2.2.2.2.2.2.2.2.1 s.2.2.2.2.2.2.2.2.2.1 s.2.2.2.2.2.2.2.2.2.2)))))
theorem U_3m (a0x0:List Int) (a0x1:Int) (a0x2:Int) (a1:Int):Le ((F_5 a0x0 a0x1 a0x2 ([0,1,1,1,2,3,4,5,6,7])).bind (fun y1=>joinK ((bif (decide (a1≤1)) then
 some (.go 0)
 else some (.go y1.1)))
 (fun s=>J_3y a1 y1 s))) (F_4 a0x0 a0x1 a0x2 a1):=callL_le (tt:=tt) (FT:=FT) (SP:=SP) (j:=15) rfl (by kernel_rfl)
noncomputable def L_1z (a0:List (List SNode)) (f0:Yt42→Option Yt44) (v1:List SNode) (v2:Int):Option Yt44:=
 (bif (decide (v2<(a0.length:Int))) then
 (ix a0 v2).bind (fun z3=>(F_h z3).bind (fun y4=>(apx v1 y4).bind (fun z5=>f0 (z5,(IntKind.i64.wrap (v2+1))))))
 else some (.go v1))
@[simp] noncomputable def J_6g (v6:List SNode):Option (List SNode):=
 some v6
theorem U_3n (a0:List (List SNode)):Le (joinK (loopF (fun f s=>L_1z a0 f s.1 s.2) ([],0))
 (fun s=>J_6g s)) (F_1 a0):=callL_le (tt:=tt) (FT:=FT) (SP:=SP) (j:=16) rfl (by kernel_rfl)
@[simp] noncomputable def J_3x (v1:List SNode) (v2:Int) (f0:Yt42→Option Yt44) (v7:Int) (v8:ByteArray) (v9:Int) (v10:Int) (v11:Int) (v12:Bool) (v13:List Int):Option Yt44:=
 (apx v1 ([(v7,(v8,(v9,(v10,(v11,(v12,(v13,())))))))])).bind (fun z14=>f0 (z14,(IntKind.i64.wrap (v2+1))))
noncomputable def L_1y (a0:List SNode) (f0:Yt42→Option Yt44) (v1:List SNode) (v2:Int):Option Yt44:=
 (bif (decide (v2<(a0.length:Int))) then
 (ix a0 v2).bind (fun z3=>joinK ((ix a0 v2).bind (fun z4=>(bif (decide ((z4.2.2.2.2.2.2.1.length:Int)>0)) then
 (ix a0 v2).bind (fun z5=>(F_z z5.2.2.2.2.2.2.1).bind (fun y6=>some (.go (z3.1,z3.2.1,z3.2.2.1,z3.2.2.2.1,z3.2.2.2.2.1,z3.2.2.2.2.2.1,y6))))
 else some (.go (z3.1,z3.2.1,z3.2.2.1,z3.2.2.2.1,z3.2.2.2.2.1,z3.2.2.2.2.2.1,[])))))
 (fun s=>J_3x v1 v2 f0 s.1 s.2.1 s.2.2.1 s.2.2.2.1 s.2.2.2.2.1 s.2.2.2.2.2.1 s.2.2.2.2.2.2))
 else some (.go v1))
@[simp] noncomputable def J_6e (v15:List SNode):Option (List SNode):=
 some v15
theorem U_3l (a0:List SNode):Le (joinK (loopF (fun f s=>L_1y a0 f s.1 s.2) ([],0))
 (fun s=>J_6e s)) (F_h a0):=callL_le (tt:=tt) (FT:=FT) (SP:=SP) (j:=17) rfl (by kernel_rfl)
noncomputable def L_1u (a0:List Int) (f0:Yt45→Option Yt33) (v1:List Int) (v2:Int):Option Yt33:=
 (bif (decide (v2<(a0.length:Int))) then
 (ix a0 v2).bind (fun z3=>(apx v1 ([z3])).bind (fun z4=>f0 (z4,(IntKind.i64.wrap (v2+1)))))
 else some (.go v1))
@[simp] noncomputable def J_68 (v5:List Int):Option Yt11:=
 some v5
theorem U_39 (a0:List Int):Le (joinK (loopF (fun f s=>L_1u a0 f s.1 s.2) ([],0))
 (fun s=>J_68 s)) (F_z a0):=callL_le (tt:=tt) (FT:=FT) (SP:=SP) (j:=18) rfl (by kernel_rfl)
@[simp] noncomputable def J_6q (a1:List SNode) (v3:List SNode) (v4:List Int) (v5:Int) (v6:Int):Option Yt15:=
 some (a1,v4,v5,v6)
theorem U_44 (a0x0:List Int) (a0x1:Int) (a0x2:Int) (a1:List SNode):Le (joinK ((F_b a0x0 a0x1 a0x2 3).bind (fun y1=>(bif y1.1 then
 (F_3g a1).bind (fun y2=>(bif y2.2.2 then
 some (.ret (y2.1,y1.2.1,y1.2.2.1,y1.2.2.2))
 else some (.go ([],y1.2.1,y1.2.2.1,y1.2.2.2))))
 else some (.go ([],y1.2.1,y1.2.2.1,y1.2.2.2)))))
 (fun s=>J_6q a1 s.1 s.2.1 s.2.2.1 s.2.2.2)) (F_46 a0x0 a0x1 a0x2 a1):=callL_le (tt:=tt) (FT:=FT) (SP:=SP) (j:=19) rfl (by kernel_rfl)
@[simp] noncomputable def J_h (v5:Int) (f0:((List SNode)×Yt11×Int)→Option Yt36) (v14:List SNode) (v15:List Int):Option Yt36:=
 f0 (v14,v15,(IntKind.i64.wrap (v5+1)))
noncomputable def L_1d (f0:((List SNode)×Yt11×Int)→Option Yt36) (v3:List SNode) (v4:List Int) (v5:Int):Option Yt36:=
 (bif (decide (v5<(v3.length:Int))) then
 joinK ((ix v3 v5).bind (fun z6=>(F_43 z6).bind (fun y7=>(bif (!y7) then
 some (.go (v3,v4))
 else(ix v3 v5).bind (fun z8=>(apx v4 ([z8.2.2.2.2.1])).bind (fun z9=>(ix v3 v5).bind (fun z10=>(ix v3 v5).bind (fun z11=>(ix (v3.set (v5).toNat (z11.1,(z11.2.1,(z11.2.2.1,(z11.2.2.2.1,(z11.2.2.2.2.1,(true,z11.2.2.2.2.2.2))))))) v5).bind (fun z12=>(ix (v3.set (v5).toNat (z11.1,(z11.2.1,(z11.2.2.1,(z11.2.2.2.1,(z11.2.2.2.2.1,(true,z11.2.2.2.2.2.2))))))) v5).bind (fun z13=>some (.go (((v3.set (v5).toNat (z11.1,(z11.2.1,(z11.2.2.1,(z11.2.2.2.1,(z11.2.2.2.2.1,(true,z11.2.2.2.2.2.2))))))).set (v5).toNat (z13.1,(z13.2.1,(z13.2.2.1,(z13.2.2.2.1,((IntKind.i64.wrap ((z9.length:Int)-1)),z13.2.2.2.2.2)))))),z9))))))))))))
 (fun s=>J_h v5 f0 s.1 s.2)
 else some (.go (v3,v4)))
@[simp] noncomputable def J_2y (v16:List SNode) (v17:List Int):Option ((List SNode)×Yt11×Bool):=
 some (v16,v17,true)
theorem U_2m (a0:List SNode):Le ((F_3a a0).bind (fun y1=>(bif (!y1) then
 some ([],[],false)
 else(F_h a0).bind (fun y2=>joinK (loopF (fun f s=>L_1d f s.1 s.2.1 s.2.2) (y2,[],0))
 (fun s=>J_2y s.1 s.2))))) (F_3g a0):=callL_le (tt:=tt) (FT:=FT) (SP:=SP) (j:=20) rfl (by kernel_rfl)
@[simp] noncomputable def J_5j (v3:Bool):Option Bool:=
 some v3
theorem U_2e (a0:List SNode):Le (joinK ((F_f a0).bind (fun y1=>(bif y1 then
 (F_3n a0).bind (fun y2=>some (.go ((y2.length:Int)==0)))
 else some (.go false))))
 (fun s=>J_5j s)) (F_3a a0):=callL_le (tt:=tt) (FT:=FT) (SP:=SP) (j:=21) rfl (by kernel_rfl)
noncomputable def L_1g (a0:List SNode) (f0:Yt29→Option Yt16) (v2:Bool) (v3:Int):Option Yt16:=
 (bif (decide (v3<(a0.length:Int))) then
 (ix a0 v3).bind (fun z4=>(F_3i z4).bind (fun y5=>(bif (!y5) then
 some (.ret false)
 else f0 (v2,(IntKind.i64.wrap (v3+1))))))
 else some (.go v2))
@[simp] noncomputable def J_33 (a0:List SNode) (v6:Bool):Option Bool:=
 (F_6 a0 0 10).bind (fun y7=>some (y7.1==(a0.length:Int)))
theorem U_2p (a0:List SNode):Le ((F_2 (a0.length:Int) 1 40).bind (fun y1=>(bif (!y1) then
 some false
 else joinK (loopF (fun f s=>L_1g a0 f s.1 s.2) (false,0))
 (fun s=>J_33 a0 s)))) (F_f a0):=callL_le (tt:=tt) (FT:=FT) (SP:=SP) (j:=22) rfl (by kernel_rfl)
@[simp] noncomputable def J_6a (v1:Bool):Option Bool:=
 some v1
theorem U_3b (a0:Int) (a1:Int) (a2:Int):Le (joinK ((bif (decide (a1≤a0)) then
 some (.go (decide (a0≤a2)))
 else some (.go false)))
 (fun s=>J_6a s)) (F_2 a0 a1 a2):=callL_le (tt:=tt) (FT:=FT) (SP:=SP) (j:=23) rfl (by kernel_rfl)
@[simp] noncomputable def J_5m (v11:Bool):Option Yt16:=
 some (.ret v11)
@[simp] noncomputable def J_5n (v15:Bool):Option Yt16:=
 some (.ret v15)
noncomputable def L_1f (a0:SNode) (f0:Yt29→Option Yt47) (v16:Bool) (v17:Int):Option Yt47:=
 (bif (decide (v17<(a0.2.2.2.2.2.2.1.length:Int))) then
 (ix a0.2.2.2.2.2.2.1 v17).bind (fun z18=>(F_g z18).bind (fun y19=>(bif (!y19) then
 some (.ret (.ret false))
 else f0 (v16,(IntKind.i64.wrap (v17+1))))))
 else some (.go v16))
@[simp] noncomputable def J_5o (v22:Bool):Option Yt16:=
 some (.ret v22)
@[simp] noncomputable def J_32 (a0:SNode) (v20:Bool):Option Yt16:=
 joinK ((F_2 (a0.2.2.2.2.2.2.1.length:Int) 1 6).bind (fun y21=>(bif y21 then
 (bif (a0.2.2.1==0) then
 (bif (a0.2.2.2.2.1==0) then
 some (.go (!a0.2.2.2.2.2.1))
 else some (.go false))
 else some (.go false))
 else some (.go false))))
 (fun s=>J_5o s)
@[simp] noncomputable def J_5p (v25:Bool):Option Yt16:=
 some (.ret v25)
@[simp] noncomputable def J_5q (v27:Bool):Option Yt16:=
 some (.ret v27)
@[simp] noncomputable def J_5r (v29:Bool):Option Yt16:=
 some (.ret v29)
@[simp] noncomputable def J_5l (v31:Bool):Option Yt16:=
 some (.ret v31)
@[simp] noncomputable def J_5s (a0:SNode) (v30:Bool):Option Yt16:=
 (bif v30 then
 joinK ((bif (a0.2.2.1==0) then
 (bif (a0.2.2.2.2.1==0) then
 some (.go (!a0.2.2.2.2.2.1))
 else some (.go false))
 else some (.go false)))
 (fun s=>J_5l s)
 else some (.go false))
@[simp] noncomputable def J_5k (v32:Bool):Option Bool:=
 some false
@[simp] noncomputable def J_31 (a0:SNode) (v9:Bool):Option Bool:=
 (bif v9 then
 some false
 else joinK ((bif (a0.1==0) then
 joinK ((F_1p a0.2.1).bind (fun y10=>(bif y10 then
 (bif (a0.2.2.1==0) then
 (bif (a0.2.2.2.2.1==0) then
 some (.go (!a0.2.2.2.2.2.1))
 else some (.go false))
 else some (.go false))
 else some (.go false))))
 (fun s=>J_5m s)
 else(bif (a0.1==1) then
 joinK ((F_g a0.2.2.1).bind (fun y12=>(bif y12 then
 (F_2 a0.2.2.2.1 0 3).bind (fun y13=>(bif y13 then
 (F_1r a0.2.2.2.2.1).bind (fun y14=>(bif y14 then
 (bif (a0.2.2.2.1 != 3) then
 some (.go true)
 else(bif (a0.2.2.2.2.1==0) then
 some (.go (!a0.2.2.2.2.2.1))
 else some (.go false)))
 else some (.go false)))
 else some (.go false)))
 else some (.go false))))
 (fun s=>J_5n s)
 else(bif (a0.1==2) then
 joinK (loopF (fun f s=>L_1f a0 f s.1 s.2) (false,0))
 (fun s=>J_32 a0 s)
 else(bif (a0.1==3) then
 joinK ((F_g a0.2.2.1).bind (fun y23=>(bif y23 then
 (F_g a0.2.2.2.2.1).bind (fun y24=>(bif y24 then
 some (.go (!a0.2.2.2.2.2.1))
 else some (.go false)))
 else some (.go false))))
 (fun s=>J_5p s)
 else(bif (a0.1==5) then
 joinK ((F_g a0.2.2.1).bind (fun y26=>(bif y26 then
 (bif (a0.2.2.2.2.1==0) then
 some (.go (!a0.2.2.2.2.2.1))
 else some (.go false))
 else some (.go false))))
 (fun s=>J_5q s)
 else(bif (a0.1==6) then
 joinK ((bif (a0.2.2.1==0) then
 (F_2 a0.2.2.2.2.1 0 1000000).bind (fun y28=>some (.go y28))
 else some (.go false)))
 (fun s=>J_5r s)
 else joinK ((bif (a0.1==4) then
 some (.go true)
 else some (.go (a0.1==7))))
 (fun s=>J_5s a0 s))))))))
 (fun s=>J_5k s))
theorem U_2o (a0:SNode):Le (joinK ((bif (a0.1 != 0) then
 (bif (!(a0.2.1.toList==ByteArray.empty.toList)) then
 some (.go true)
 else(bif (a0.1 != 2) then
 (bif (decide ((a0.2.2.2.2.2.2.1.length:Int)>0)) then
 some (.go true)
 else(bif (a0.1 != 1) then
 (bif (a0.2.2.2.1 != 0) then
 some (.go true)
 else(bif a0.2.2.2.2.2.1 then
 (F_2 a0.2.2.2.2.1 0 39).bind (fun y1=>some (.go (!y1)))
 else some (.go false)))
 else(bif a0.2.2.2.2.2.1 then
 (F_2 a0.2.2.2.2.1 0 39).bind (fun y2=>some (.go (!y2)))
 else some (.go false))))
 else(bif (a0.1 != 1) then
 (bif (a0.2.2.2.1 != 0) then
 some (.go true)
 else(bif a0.2.2.2.2.2.1 then
 (F_2 a0.2.2.2.2.1 0 39).bind (fun y3=>some (.go (!y3)))
 else some (.go false)))
 else(bif a0.2.2.2.2.2.1 then
 (F_2 a0.2.2.2.2.1 0 39).bind (fun y4=>some (.go (!y4)))
 else some (.go false)))))
 else(bif (a0.1 != 2) then
 (bif (decide ((a0.2.2.2.2.2.2.1.length:Int)>0)) then
 some (.go true)
 else(bif (a0.1 != 1) then
 (bif (a0.2.2.2.1 != 0) then
 some (.go true)
 else(bif a0.2.2.2.2.2.1 then
 (F_2 a0.2.2.2.2.1 0 39).bind (fun y5=>some (.go (!y5)))
 else some (.go false)))
 else(bif a0.2.2.2.2.2.1 then
 (F_2 a0.2.2.2.2.1 0 39).bind (fun y6=>some (.go (!y6)))
 else some (.go false))))
 else(bif (a0.1 != 1) then
 (bif (a0.2.2.2.1 != 0) then
 some (.go true)
 else(bif a0.2.2.2.2.2.1 then
 (F_2 a0.2.2.2.2.1 0 39).bind (fun y7=>some (.go (!y7)))
 else some (.go false)))
 else(bif a0.2.2.2.2.2.1 then
 (F_2 a0.2.2.2.2.1 0 39).bind (fun y8=>some (.go (!y8)))
 else some (.go false))))))
 (fun s=>J_31 a0 s)) (F_3i a0):=callL_le (tt:=tt) (FT:=FT) (SP:=SP) (j:=24) rfl (by kernel_rfl)
@[simp] noncomputable def J_3u (v4:Bool) (v5:Int) (f0:Yt29→Option Yt16) (v12:Bool):Option Yt16:=
 (bif v12 then
 some (.ret false)
 else f0 (v4,(IntKind.i64.wrap (v5+1))))
noncomputable def L_1t (a0:ByteArray) (f0:Yt29→Option Yt16) (v4:Bool) (v5:Int):Option Yt16:=
 (bif (decide (v5<(a0.size:Int))) then
 joinK ((bix a0 v5).bind (fun z6=>(bif (decide (z6<97)) then
 (bix a0 v5).bind (fun z7=>(bif (decide (z7<48)) then
 some (.go true)
 else(bix a0 v5).bind (fun z8=>some (.go (decide (z8>57))))))
 else(bix a0 v5).bind (fun z9=>(bif (decide (z9>122)) then
 (bix a0 v5).bind (fun z10=>(bif (decide (z10<48)) then
 some (.go true)
 else(bix a0 v5).bind (fun z11=>some (.go (decide (z11>57))))))
 else some (.go false))))))
 (fun s=>J_3u v4 v5 f0 s)
 else some (.go v4))
@[simp] noncomputable def J_67 (v13:Bool):Option Bool:=
 some true
@[simp] noncomputable def J_3t (a0:ByteArray) (v3:Bool):Option Bool:=
 (bif v3 then
 some false
 else joinK (loopF (fun f s=>L_1t a0 f s.1 s.2) (false,0))
 (fun s=>J_67 s))
theorem U_36 (a0:ByteArray):Le (joinK ((F_2 (a0.size:Int) 1 12).bind (fun y1=>(bif (!y1) then
 some (.go true)
 else(bix a0 0).bind (fun z2=>some (.go (decide (z2<97)))))))
 (fun s=>J_3t a0 s)) (F_1p a0):=callL_le (tt:=tt) (FT:=FT) (SP:=SP) (j:=25) rfl (by kernel_rfl)
theorem U_3k (a0:Int):Le ((F_2 a0 0 63).bind (fun y1=>some y1)) (F_g a0):=callL_le (tt:=tt) (FT:=FT) (SP:=SP) (j:=26) rfl (by kernel_rfl)
theorem U_3e (a0:Int):Le ((F_2 a0 (-1000000) 1000000).bind (fun y1=>some y1)) (F_1r a0):=callL_le (tt:=tt) (FT:=FT) (SP:=SP) (j:=27) rfl (by kernel_rfl)
@[simp] noncomputable def J_41 (v6:Int) (f0:(Int×Int×Int×Int×Int)→Option Yt49) (v10:Int) (v11:Int) (v12:Int) (v13:Int):Option Yt49:=
 f0 (v10,v11,v12,v13,(IntKind.i64.wrap (v6+1)))
noncomputable def L_4 (a0:List SNode) (a1:Int) (a2:Int) (f0:(Int×Int×Int×Int×Int)→Option Yt49) (v2:Int) (v3:Int) (v4:Int) (v5:Int) (v6:Int):Option Yt49:=
 (ix a0 a1).bind (fun z7=>(F_1l z7.1).bind (fun y8=>(bif (decide (v6<y8)) then
 joinK ((F_6 a0 v4 (IntKind.i64.wrap (a2-1))).bind (fun y9=>(bif (decide (y9.1<0)) then
 some (.ret (.ret ((-1),0)))
 else(bif (decide (y9.2>v5)) then
 some (.go (v2,v3,y9.1,y9.2))
 else some (.go (v2,v3,y9.1,v5))))))
 (fun s=>J_41 v6 f0 s.1 s.2.1 s.2.2.1 s.2.2.2)
 else some (.go (v2,v3,v4,v5)))))
@[simp] noncomputable def J_7 (v14:Int) (v15:Int) (v16:Int) (v17:Int):Option Yt26:=
 some (v16,(IntKind.i64.wrap (v17+1)))
@[simp] noncomputable def J_j (a0:List SNode) (a1:Int) (a2:Int) (v1:Bool):Option Yt26:=
 (bif v1 then
 some ((-1),0)
 else joinK (loopF (fun f s=>L_4 a0 a1 a2 f s.1 s.2.1 s.2.2.1 s.2.2.2.1 s.2.2.2.2) (0,0,(IntKind.i64.wrap (a1+1)),0,0))
 (fun s=>J_7 s.1 s.2.1 s.2.2.1 s.2.2.2))
theorem U_6 (a0:List SNode) (a1:Int) (a2:Int):Le (joinK ((bif (decide (a1≥(a0.length:Int))) then
 some (.go true)
 else some (.go (a2==0))))
 (fun s=>J_j a0 a1 a2 s)) (F_6 a0 a1 a2):=callL_le (tt:=tt) (FT:=FT) (SP:=SP) (j:=28) rfl (by kernel_rfl)
@[simp] noncomputable def J_5i (v2:Bool):Option Int:=
 (bif v2 then
 some 1
 else some (-1))
@[simp] noncomputable def J_5h (a0:Int) (v1:Bool):Option Int:=
 (bif v1 then
 some 2
 else joinK ((bif (a0==1) then
 some (.go true)
 else(bif (a0==2) then
 some (.go true)
 else(bif (a0==5) then
 some (.go true)
 else(bif (a0==6) then
 some (.go true)
 else some (.go (a0==7)))))))
 (fun s=>J_5i s))
theorem U_2d (a0:Int):Le ((bif (a0==0) then
 some 0
 else joinK ((bif (a0==3) then
 some (.go true)
 else some (.go (a0==4))))
 (fun s=>J_5h a0 s))) (F_1l a0):=callL_le (tt:=tt) (FT:=FT) (SP:=SP) (j:=29) rfl (by kernel_rfl)
@[simp] noncomputable def J_60 (v3:Int) (v4:List Int) (v9:Bool):Option (Ex (Ex Yt33 Yt11) Yt11):=
 (bif v9 then
 (apx v4 ([v3])).bind (fun z10=>some (.go z10))
 else some (.go v4))
@[simp] noncomputable def J_5z (v5:Int) (f1:Yt45→Option (Ex Yt33 Yt11)) (v11:List Int):Option (Ex Yt33 Yt11):=
 f1 (v11,(IntKind.i64.wrap (v5+1)))
noncomputable def L_g (a0:List SNode) (v3:Int) (f1:Yt45→Option (Ex Yt33 Yt11)) (v4:List Int) (v5:Int):Option (Ex Yt33 Yt11):=
 (bif (decide (v5<(a0.length:Int))) then
 joinK (joinK ((ix a0 v5).bind (fun z6=>(bif z6.2.2.2.2.2.1 then
 (ix a0 v5).bind (fun z7=>(bif (z7.2.2.2.2.1==v3) then
 (F_3r v4 v3).bind (fun y8=>some (.go (!y8)))
 else some (.go false)))
 else some (.go false))))
 (fun s=>J_60 v3 v4 s))
 (fun s=>J_5z v5 f1 s)
 else some (.go v4))
@[simp] noncomputable def J_3a (v3:Int) (f0:Yt45→Option Yt33) (v12:List Int):Option Yt33:=
 f0 (v12,(IntKind.i64.wrap (v3+1)))
noncomputable def L_1l (a0:List SNode) (f0:Yt45→Option Yt33) (v2:List Int) (v3:Int):Option Yt33:=
 (bif (decide (v3<40)) then
 joinK (loopF (fun f s=>L_g a0 v3 f s.1 s.2) (v2,0))
 (fun s=>J_3a v3 f0 s)
 else some (.go v2))
@[simp] noncomputable def J_5y (v13:List Int):Option Yt11:=
 some v13
theorem U_2y (a0:List SNode):Le ((F_f a0).bind (fun y1=>(bif (!y1) then
 some ([])
 else joinK (loopF (fun f s=>L_1l a0 f s.1 s.2) ([],0))
 (fun s=>J_5y s)))) (F_3n a0):=callL_le (tt:=tt) (FT:=FT) (SP:=SP) (j:=30) rfl (by kernel_rfl)
noncomputable def L_1v (a0:List Int) (a1:Int) (f0:Yt29→Option Yt16) (v1:Bool) (v2:Int):Option Yt16:=
 (bif (decide (v2<(a0.length:Int))) then
 (ix a0 v2).bind (fun z3=>(bif (z3==a1) then
 some (.ret true)
 else f0 (v1,(IntKind.i64.wrap (v2+1)))))
 else some (.go v1))
@[simp] noncomputable def J_69 (v4:Bool):Option Bool:=
 some false
theorem U_3a (a0:List Int) (a1:Int):Le (joinK (loopF (fun f s=>L_1v a0 a1 f s.1 s.2) (false,0))
 (fun s=>J_69 s)) (F_3r a0 a1):=callL_le (tt:=tt) (FT:=FT) (SP:=SP) (j:=31) rfl (by kernel_rfl)
@[simp] noncomputable def J_6n (v1:Bool):Option Bool:=
 some v1
theorem U_41 (a0:SNode):Le (joinK ((bif (a0.1==1) then
 (bif (a0.2.2.2.1 != 3) then
 some (.go true)
 else some (.go (a0.1==6)))
 else some (.go (a0.1==6))))
 (fun s=>J_6n s)) (F_43 a0):=callL_le (tt:=tt) (FT:=FT) (SP:=SP) (j:=32) rfl (by kernel_rfl)
@[simp] noncomputable def J_3w (a1:List SNode) (v2:Bool) (v3:List Int) (v4:Int) (v5:Int):Option Yt15:=
 (bif v2 then
 some (a1,v3,v4,v5)
 else(F_0 v3 v4 v5 (a1.length:Int)).bind (fun y6=>(F_0 y6.2.1 y6.2.2.1 y6.2.2.2 7).bind (fun y7=>(bif (y7.1==0) then
 (F_0 y7.2.1 y7.2.2.1 y7.2.2.2 10).bind (fun y8=>(ix a1 y6.1).bind (fun z9=>(ix a1 y6.1).bind (fun z10=>some ((a1.set (y6.1).toNat ((IntKind.i64.wrap (y8.1-1)),z10.2)),y8.2.1,y8.2.2.1,y8.2.2.2))))
 else(bif (y7.1==1) then
 (F_5 y7.2.1 y7.2.2.1 y7.2.2.2 ([(-1),63,64,2])).bind (fun y11=>(ix a1 y6.1).bind (fun z12=>(ix a1 y6.1).bind (fun z13=>some ((a1.set (y6.1).toNat (z13.1,(z13.2.1,(y11.1,z13.2.2.2)))),y11.2.1,y11.2.2.1,y11.2.2.2))))
 else(bif (y7.1==2) then
 (F_5 y7.2.1 y7.2.2.1 y7.2.2.2 ([(-1),1000000,1000001])).bind (fun y14=>(ix a1 y6.1).bind (fun z15=>(ix a1 y6.1).bind (fun z16=>some ((a1.set (y6.1).toNat (z16.1,(z16.2.1,(z16.2.2.1,(z16.2.2.2.1,(y14.1,z16.2.2.2.2.2)))))),y14.2.1,y14.2.2.1,y14.2.2.2))))
 else(bif (y7.1==3) then
 (ix a1 y6.1).bind (fun z17=>(ix a1 y6.1).bind (fun z18=>some ((a1.set (y6.1).toNat (z18.1,(z18.2.1,(z18.2.2.1,(z18.2.2.2.1,(z18.2.2.2.2.1,(true,z18.2.2.2.2.2.2))))))),y7.2.1,y7.2.2.1,y7.2.2.2)))
 else(bif (y7.1==4) then
 (ix a1 y6.1).bind (fun z19=>(ix a1 y6.1).bind (fun z20=>(apx a1 ([z20])).bind (fun z21=>some (z21,y7.2.1,y7.2.2.1,y7.2.2.2))))
 else(bif (y7.1==5) then
 (tkx a1 y6.1).bind (fun z22=>some (z22,y7.2.1,y7.2.2.1,y7.2.2.2))
 else(bif (y7.1==6) then
 (ix a1 y6.1).bind (fun z23=>(ix a1 y6.1).bind (fun z24=>(bind2 (ix a1 y6.1) (fun z25=>apx z25.2.2.2.2.2.2.1 ([0]))).bind (fun y26=>(inx a1.length y6.1).bind (fun z27=>(eqix y6.1 y6.1 a1).bind (fun z28=>some ((a1.set (y6.1).toNat (z28.1,(z28.2.1,(z28.2.2.1,(z28.2.2.2.1,(z28.2.2.2.2.1,(z28.2.2.2.2.2.1,(y26.2,z28.2.2.2.2.2.2.2)))))))),y7.2.1,y7.2.2.1,y7.2.2.2))))))
 else some (a1,y7.2.1,y7.2.2.1,y7.2.2.2)))))))))))
theorem U_3j (a0x0:List Int) (a0x1:Int) (a0x2:Int) (a1:List SNode):Le (joinK ((F_b a0x0 a0x1 a0x2 8).bind (fun y1=>(bif (!y1.1) then
 some (.go (true,y1.2.1,y1.2.2.1,y1.2.2.2))
 else some (.go (((a1.length:Int)==0),y1.2.1,y1.2.2.1,y1.2.2.2)))))
 (fun s=>J_3w a1 s.1 s.2.1 s.2.2.1 s.2.2.2)) (F_3v a0x0 a0x1 a0x2 a1):=callL_le (tt:=tt) (FT:=FT) (SP:=SP) (j:=33) rfl (by kernel_rfl)
noncomputable def L_33 (a1:List STable) (a3:Int) (f0:((List SNode)×Yt28×Int×Yt11×Int×Int)→Option (Ex Yt46 Yt46)) (v1:List SNode) (v2:List SStep) (v3:Int) (v4:List Int) (v5:Int) (v6:Int):Option (Ex Yt46 Yt46):=
 (bif (decide (v3<a3)) then
 (F_47 v4 v5 v6 a1 v1).bind (fun y7=>(F_39 a1 v1 (y7.1.1,(y7.1.2.1,()))).bind (fun y8=>(apx v2 ([(y7.1.1,(y7.1.2.1,()))])).bind (fun z9=>f0 (y8.1,z9,(IntKind.i64.wrap (v3+1)),y7.2.1,y7.2.2.1,y7.2.2.2))))
 else some (.go (v2,v4,v5,v6)))
@[simp] noncomputable def J_6r (v10:List SStep) (v11:List Int) (v12:Int) (v13:Int):Option Yt46:=
 some (v10,v11,v12,v13)
theorem U_46 (a0x0:List Int) (a0x1:Int) (a0x2:Int) (a1:List STable) (a2:List SNode) (a3:Int):Le (joinK (loopF (fun f s=>L_33 a1 a3 f s.1 s.2.1 s.2.2.1 s.2.2.2.1 s.2.2.2.2.1 s.2.2.2.2.2) (a2,[],0,a0x0,a0x1,a0x2))
 (fun s=>J_6r s.1 s.2.1 s.2.2.1 s.2.2.2)) (F_48 a0x0 a0x1 a0x2 a1 a2 a3):=callL_le (tt:=tt) (FT:=FT) (SP:=SP) (j:=34) rfl (by kernel_rfl)
@[simp] noncomputable def J_4r (a2:List SNode) (y1:List SStep) (v3:Bool) (v4:List Int) (v5:Int) (v6:Int):Option (SStep×Yt11×Int×Int):=
 (bif v3 then
 (F_0 v4 v5 v6 (y1.length:Int)).bind (fun y7=>(ix y1 y7.1).bind (fun z8=>some ((z8.1,(z8.2.1,())),y7.2.1,y7.2.2.1,y7.2.2.2)))
 else(F_0 v4 v5 v6 14).bind (fun y9=>(F_0 y9.2.1 y9.2.2.1 y9.2.2.2 (IntKind.i64.wrap ((a2.length:Int)+2))).bind (fun y10=>some (((IntKind.i64.wrap (y9.1-1)),((IntKind.i64.wrap (y10.1-1)),())),y10.2.1,y10.2.2.1,y10.2.2.2))))
theorem U_45 (a0x0:List Int) (a0x1:Int) (a0x2:Int) (a1:List STable) (a2:List SNode):Le ((F_3o a1 a2).bind (fun y1=>joinK ((bif (decide ((y1.length:Int)>0)) then
 (F_0 a0x0 a0x1 a0x2 4).bind (fun y2=>some (.go ((decide (y2.1>0)),y2.2.1,y2.2.2.1,y2.2.2.2)))
 else some (.go (false,a0x0,a0x1,a0x2))))
 (fun s=>J_4r a2 y1 s.1 s.2.1 s.2.2.1 s.2.2.2))) (F_47 a0x0 a0x1 a0x2 a1 a2):=callL_le (tt:=tt) (FT:=FT) (SP:=SP) (j:=35) rfl (by kernel_rfl)
@[simp] noncomputable def J_64 (v5:Int) (f1:(Yt28×Int)→Option (Ex (Ex Yt28 Yt28) Yt28)) (v8:List SStep):Option (Ex (Ex Yt28 Yt28) Yt28):=
 f1 (v8,(IntKind.i64.wrap (v5+1)))
noncomputable def L_34 (a0:List STable) (a1:List SNode) (v3:Int) (f1:(Yt28×Int)→Option (Ex (Ex Yt28 Yt28) Yt28)) (v4:List SStep) (v5:Int):Option (Ex (Ex Yt28 Yt28) Yt28):=
 (bif (decide (v5<12)) then
 joinK ((F_n a0 a1 (v5,(v3,()))).bind (fun y6=>(bif y6.2 then
 (apx v4 ([(v5,(v3,()))])).bind (fun z7=>some (.go z7))
 else some (.go v4))))
 (fun s=>J_64 v5 f1 s)
 else some (.go v4))
@[simp] noncomputable def J_3f (v3:Int) (f0:(Yt28×Int)→Option (Ex Yt28 Yt28)) (v9:List SStep):Option (Ex Yt28 Yt28):=
 f0 (v9,(IntKind.i64.wrap (v3+1)))
noncomputable def L_1n (a0:List STable) (a1:List SNode) (f0:(Yt28×Int)→Option (Ex Yt28 Yt28)) (v2:List SStep) (v3:Int):Option (Ex Yt28 Yt28):=
 (bif (decide (v3<(a1.length:Int))) then
 joinK (loopF (fun f s=>L_34 a0 a1 v3 f s.1 s.2) (v2,0))
 (fun s=>J_3f v3 f0 s)
 else some (.go v2))
@[simp] noncomputable def J_63 (v10:List SStep):Option Yt28:=
 some v10
theorem U_30 (a0:List STable) (a1:List SNode):Le ((F_s a0 a1).bind (fun y1=>(bif (!y1) then
 some ([])
 else joinK (loopF (fun f s=>L_1n a0 a1 f s.1 s.2) ([],0))
 (fun s=>J_63 s)))) (F_3o a0 a1):=callL_le (tt:=tt) (FT:=FT) (SP:=SP) (j:=36) rfl (by kernel_rfl)
theorem U_34 (a0:List STable) (a1:List SNode):Le ((F_3q a0 a1).bind (fun y1=>some (y1 != (-1)))) (F_s a0 a1):=callL_le (tt:=tt) (FT:=FT) (SP:=SP) (j:=37) rfl (by kernel_rfl)
@[simp] noncomputable def J_66 (a0:List STable) (a1:List SNode) (v3:Bool):Option Int:=
 (bif v3 then
 some (-1)
 else(F_12 a0 a1 0).bind (fun y4=>some y4))
theorem U_35 (a0:List STable) (a1:List SNode):Le (joinK ((F_q a0).bind (fun y1=>(bif (!y1) then
 some (.go true)
 else(F_f a1).bind (fun y2=>some (.go (!y2))))))
 (fun s=>J_66 a0 a1 s)) (F_3q a0 a1):=callL_le (tt:=tt) (FT:=FT) (SP:=SP) (j:=38) rfl (by kernel_rfl)
@[simp] noncomputable def J_5x (v1:Bool) (v2:Int) (f0:Yt29→Option Yt16) (v10:Bool):Option Yt16:=
 (bif v10 then
 some (.ret false)
 else f0 (v1,(IntKind.i64.wrap (v2+1))))
noncomputable def L_1k (a0:List STable) (f0:Yt29→Option Yt16) (v1:Bool) (v2:Int):Option Yt16:=
 (bif (decide (v2<(a0.length:Int))) then
 joinK ((ix a0 v2).bind (fun z3=>(F_1p z3.1).bind (fun y4=>(bif (!y4) then
 some (.go true)
 else(ix a0 v2).bind (fun z5=>(F_2 z5.2.1 1 6).bind (fun y6=>(bif (!y6) then
 some (.go true)
 else(bif (decide (v2>0)) then
 (ix a0 (IntKind.i64.wrap (v2-1))).bind (fun z7=>(ix a0 v2).bind (fun z8=>(F_3s z7.1 z8.1).bind (fun y9=>some (.go (!y9)))))
 else some (.go false)))))))))
 (fun s=>J_5x v1 v2 f0 s)
 else some (.go v1))
@[simp] noncomputable def J_5w (v11:Bool):Option Bool:=
 some true
theorem U_2x (a0:List STable):Le ((bif (decide ((a0.length:Int)>8)) then
 some false
 else joinK (loopF (fun f s=>L_1k a0 f s.1 s.2) (false,0))
 (fun s=>J_5w s))) (F_q a0):=callL_le (tt:=tt) (FT:=FT) (SP:=SP) (j:=39) rfl (by kernel_rfl)
@[simp] noncomputable def J_6 (a0:ByteArray) (a1:ByteArray) (v1:Bool) (v2:Int) (f0:Yt29→Option Yt16) (v3:Bool):Option Yt16:=
 (bif v3 then
 (bix a0 v2).bind (fun z4=>(bix a1 v2).bind (fun z5=>(bif (z4 != z5) then
 (bix a0 v2).bind (fun z6=>(bix a1 v2).bind (fun z7=>some (.ret (decide (z6<z7)))))
 else f0 (v1,(IntKind.i64.wrap (v2+1))))))
 else some (.go v1))
noncomputable def L_1w (a0:ByteArray) (a1:ByteArray) (f0:Yt29→Option Yt16) (v1:Bool) (v2:Int):Option Yt16:=
 joinK ((bif (decide (v2<(a0.size:Int))) then
 some (.go (decide (v2<(a1.size:Int))))
 else some (.go false)))
 (fun s=>J_6 a0 a1 v1 v2 f0 s)
@[simp] noncomputable def J_6b (a0:ByteArray) (a1:ByteArray) (v8:Bool):Option Bool:=
 some (decide ((a0.size:Int)<(a1.size:Int)))
theorem U_3c (a0:ByteArray) (a1:ByteArray):Le (joinK (loopF (fun f s=>L_1w a0 a1 f s.1 s.2) (false,0))
 (fun s=>J_6b a0 a1 s)) (F_3s a0 a1):=callL_le (tt:=tt) (FT:=FT) (SP:=SP) (j:=40) rfl (by kernel_rfl)
noncomputable def L_5 (a0:List STable) (a1:List SNode) (y2:List Int) (f0:(Int×Yt11×Int)→Option (Ex Int (Int×Yt11))) (v3:Int) (v4:List Int) (v5:Int):Option (Ex Int (Int×Yt11)):=
 (bif (decide (v5<(y2.length:Int))) then
 (ix y2 v5).bind (fun z6=>(F_12 a0 a1 z6).bind (fun y7=>(bif (decide (y7<0)) then
 some (.ret (-1))
 else(apx v4 ([y7])).bind (fun z8=>f0 (v3,z8,(IntKind.i64.wrap (v5+1)))))))
 else some (.go (v3,v4)))
noncomputable def L_23 (z1:SNode) (v10:List Int) (f1:Yt26→Option (Ex Yt23 Int)) (v15:Int) (v16:Int):Option (Ex Yt23 Int):=
 (bif (decide (v16<(z1.2.2.2.2.2.2.1.length:Int))) then
 (ix z1.2.2.2.2.2.2.1 v16).bind (fun z17=>(ix v10 0).bind (fun z18=>(bif (decide (z17≥z18)) then
 some (.ret (.ret (-1)))
 else f1 (v15,(IntKind.i64.wrap (v16+1))))))
 else some (.go v15))
@[simp] noncomputable def J_6l (z1:SNode) (v19:Int):Option Yt23:=
 some (.ret (z1.2.2.2.2.2.2.1.length:Int))
@[simp] noncomputable def J_6m (v10:List Int) (v24:Bool):Option Yt23:=
 (bif v24 then
 some (.ret (-1))
 else(ix v10 0).bind (fun z25=>(ix v10 1).bind (fun z26=>some (.ret (IntKind.i64.wrap (z25+z26))))))
@[simp] noncomputable def J_43 (z1:SNode) (v9:Int) (v10:List Int) (v13:Bool):Option Yt23:=
 (bif v13 then
 (ix v10 0).bind (fun z14=>(bif (decide (z1.2.2.1≥z14)) then
 some (.ret (-1))
 else some (.go v9)))
 else(bif (z1.1==2) then
 joinK (loopF (fun f s=>L_23 z1 v10 f s.1 s.2) (v9,0))
 (fun s=>J_6l z1 s)
 else(bif (z1.1==3) then
 joinK ((ix v10 0).bind (fun z20=>(bif (decide (z1.2.2.1≥z20)) then
 some (.go true)
 else(ix v10 1).bind (fun z21=>(bif (decide (z1.2.2.2.2.1≥z21)) then
 some (.go true)
 else(ix v10 0).bind (fun z22=>(ix v10 1).bind (fun z23=>some (.go (decide ((IntKind.i64.wrap (z22+z23))>64))))))))))
 (fun s=>J_6m v10 s)
 else(bif (z1.1==4) then
 (ix v10 0).bind (fun z27=>(ix v10 1).bind (fun z28=>(bif (z27 != z28) then
 some (.ret (-1))
 else some (.go v9))))
 else some (.go v9)))))
@[simp] noncomputable def J_6k (v10:List Int) (v29:Int):Option Int:=
 (ix v10 0).bind (fun z30=>some z30)
@[simp] noncomputable def J_8 (a0:List STable) (z1:SNode) (v9:Int) (v10:List Int):Option Int:=
 joinK ((bif (z1.1==0) then
 (F_1u a0 z1.2.1).bind (fun y11=>(bif (decide (y11<0)) then
 some (.ret (-1))
 else(ix a0 y11).bind (fun z12=>some (.ret z12.2.1))))
 else joinK ((bif (z1.1==1) then
 some (.go true)
 else some (.go (z1.1==5))))
 (fun s=>J_43 z1 v9 v10 s)))
 (fun s=>J_6k v10 s)
theorem U_3 (a0:List STable) (a1:List SNode) (a2:Int):Le ((ix a1 a2).bind (fun z1=>(F_11 a1 a2).bind (fun y2=>joinK (loopF (fun f s=>L_5 a0 a1 y2 f s.1 s.2.1 s.2.2) (0,[],0))
 (fun s=>J_8 a0 z1 s.1 s.2)))) (F_12 a0 a1 a2):=callL_le (tt:=tt) (FT:=FT) (SP:=SP) (j:=41) rfl (by kernel_rfl)
noncomputable def L_20 (a0:List SNode) (a1:Int) (f0:Yt40→Option Yt33) (v1:List Int) (v2:Int) (v3:Int):Option Yt33:=
 (ix a0 a1).bind (fun z4=>(F_1l z4.1).bind (fun y5=>(bif (decide (v3<y5)) then
 (apx v1 ([v2])).bind (fun z6=>(F_6 a0 v2 10).bind (fun y7=>f0 (z6,y7.1,(IntKind.i64.wrap (v3+1)))))
 else some (.go v1))))
@[simp] noncomputable def J_6h (v8:List Int):Option Yt11:=
 some v8
theorem U_3o (a0:List SNode) (a1:Int):Le (joinK (loopF (fun f s=>L_20 a0 a1 f s.1 s.2.1 s.2.2) ([],(IntKind.i64.wrap (a1+1)),0))
 (fun s=>J_6h s)) (F_11 a0 a1):=callL_le (tt:=tt) (FT:=FT) (SP:=SP) (j:=42) rfl (by kernel_rfl)
noncomputable def L_22 (a0:List STable) (a1:ByteArray) (f0:Yt26→Option Yt23) (v1:Int) (v2:Int):Option Yt23:=
 (bif (decide (v2<(a0.length:Int))) then
 (ix a0 v2).bind (fun z3=>(bif (z3.1.toList==a1.toList) then
 some (.ret v2)
 else f0 (v1,(IntKind.i64.wrap (v2+1)))))
 else some (.go v1))
@[simp] noncomputable def J_6j (v4:Int):Option Int:=
 some (-1)
theorem U_3r (a0:List STable) (a1:ByteArray):Le (joinK (loopF (fun f s=>L_22 a0 a1 f s.1 s.2) (0,0))
 (fun s=>J_6j s)) (F_1u a0 a1):=callL_le (tt:=tt) (FT:=FT) (SP:=SP) (j:=43) rfl (by kernel_rfl)
@[simp] noncomputable def J_2n (a0:List STable) (a1:List SNode) (a2:SStep) (y1:List SNode) (v9:Bool):Option Yt34:=
 (bif v9 then
 some (y1,false)
 else(F_u a0 a1 a2.1 a2.2.1).bind (fun y10=>(bif (!y10.2) then
 some (y1,false)
 else(F_6 a1 a2.2.1 10).bind (fun y11=>(slx a1 0 a2.2.1).bind (fun z12=>(slx a1 y11.1 (a1.length:Int)).bind (fun z13=>(F_1 ([z12,y10.1,z13])).bind (fun y14=>(F_f y14).bind (fun y15=>(bif (!y15) then
 some (y1,false)
 else some (y14,true))))))))))
@[simp] noncomputable def J_2m (a0:List STable) (a1:List SNode) (a2:SStep) (y1:List SNode) (v5:Bool):Option Yt34:=
 (bif v5 then
 some (y1,false)
 else(F_1x a2.1).bind (fun y6=>joinK ((ix a1 a2.2.1).bind (fun z7=>(bif (z7.1 != y6.1) then
 some (.go true)
 else(ix a1 (IntKind.i64.wrap (a2.2.1+1))).bind (fun z8=>some (.go (z8.1 != y6.2))))))
 (fun s=>J_2n a0 a1 a2 y1 s)))
theorem U_2b (a0:List STable) (a1:List SNode) (a2:SStep):Le ((F_h a1).bind (fun y1=>joinK ((F_s a0 a1).bind (fun y2=>(bif (!y2) then
 some (.go true)
 else(F_2 a2.1 0 11).bind (fun y3=>(bif (!y3) then
 some (.go true)
 else(F_2 a2.2.1 0 (IntKind.i64.wrap ((a1.length:Int)-2))).bind (fun y4=>some (.go (!y4))))))))
 (fun s=>J_2m a0 a1 a2 y1 s))) (F_n a0 a1 a2):=callL_le (tt:=tt) (FT:=FT) (SP:=SP) (j:=44) rfl (by kernel_rfl)
theorem U_47 (a0:Int):Le ((ix ([1,1,6,5,1,1,1,7,2,6,1,7]) a0).bind (fun z1=>(ix ([1,5,6,5,4,3,3,7,2,2,2,5]) a0).bind (fun z2=>some (z1,z2)))) (F_1x a0):=callL_le (tt:=tt) (FT:=FT) (SP:=SP) (j:=45) rfl (by kernel_rfl)
noncomputable def L_j (a1:List SNode) (y3:List Int) (f0:((List (List SNode))×Int)→Option (Ex Yt34 (List (List SNode)))) (v4:List (List SNode)) (v5:Int):Option (Ex Yt34 (List (List SNode))):=
 (bif (decide (v5<(y3.length:Int))) then
 (ix y3 v5).bind (fun z6=>(F_6 a1 z6 10).bind (fun y7=>(ix y3 v5).bind (fun z8=>(slx a1 z8 y7.1).bind (fun z9=>(apx v4 ([z9])).bind (fun z10=>f0 (z10,(IntKind.i64.wrap (v5+1))))))))
 else some (.go v4))
@[simp] noncomputable def J_6v (v11:List (List SNode)) (v17:Int) (v18:ByteArray) (v19:Int) (v20:Int) (v21:Int) (v22:Bool) (v23:List Int):Option Yt12:=
 (ix v11 0).bind (fun z24=>(ix v11 0).bind (fun z25=>(F_1 ([[(v17,(v18,(v19,(v20,(v21,(v22,(v23,())))))))],z25])).bind (fun y26=>some (.ret (y26,true)))))
@[simp] noncomputable def J_6u (z1:SNode) (z2:SNode) (v11:List (List SNode)) (v16:Bool):Option Yt12:=
 (bif v16 then
 some (.ret ([],false))
 else joinK ((bif (decide (z1.2.2.2.2.1<z2.2.2.2.2.1)) then
 some (.go (z2.1,z2.2.1,z2.2.2.1,z2.2.2.2.1,z1.2.2.2.2.1,z2.2.2.2.2.2.1,z2.2.2.2.2.2.2.1))
 else some (.go (z2.1,z2.2.1,z2.2.2.1,z2.2.2.2.1,z2.2.2.2.2.1,z2.2.2.2.2.2.1,z2.2.2.2.2.2.2.1))))
 (fun s=>J_6v v11 s.1 s.2.1 s.2.2.1 s.2.2.2.1 s.2.2.2.2.1 s.2.2.2.2.2.1 s.2.2.2.2.2.2))
noncomputable def L_2e (z1:SNode) (z2:SNode) (f1:Yt45→Option (Ex Yt12 Yt11)) (v51:List Int) (v52:Int):Option (Ex Yt12 Yt11):=
 (bif (decide (v52<(z1.2.2.2.2.2.2.1.length:Int))) then
 (ix z1.2.2.2.2.2.2.1 v52).bind (fun z53=>(ix z2.2.2.2.2.2.2.1 z53).bind (fun z54=>(apx v51 ([z54])).bind (fun z55=>f1 (z55,(IntKind.i64.wrap (v52+1))))))
 else some (.go v51))
@[simp] noncomputable def J_6x (z1:SNode) (v11:List (List SNode)) (v56:List Int):Option Yt12:=
 (ix v11 0).bind (fun z57=>(ix v11 0).bind (fun z58=>(F_1 ([[(z1.1,(z1.2.1,(z1.2.2.1,(z1.2.2.2.1,(z1.2.2.2.2.1,(z1.2.2.2.2.2.1,(v56,())))))))],z58])).bind (fun y59=>some (.ret (y59,true)))))
@[simp] noncomputable def J_6w (a0:List STable) (a1:List SNode) (a2:Int) (z1:SNode) (z2:SNode) (y3:List Int) (v11:List (List SNode)) (v35:Bool):Option Yt12:=
 (bif v35 then
 (ix y3 0).bind (fun z36=>(F_12 a0 a1 z36).bind (fun y37=>(bif (a2==5) then
 (ix v11 0).bind (fun z38=>(ix v11 0).bind (fun z39=>(ix v11 1).bind (fun z40=>(ix v11 1).bind (fun z41=>(F_1 ([[(z2.1,(z2.2.1,(z2.2.2.1,(z2.2.2.2.1,(z2.2.2.2.2.1,(z2.2.2.2.2.2.1,(z2.2.2.2.2.2.2.1,())))))))],[(z1.1,(z1.2.1,(z1.2.2.1,(z1.2.2.2.1,(z1.2.2.2.2.1,(z1.2.2.2.2.2.1,(z1.2.2.2.2.2.2.1,())))))))],z39,z41])).bind (fun y42=>some (.ret (y42,(decide (z1.2.2.1<y37)))))))))
 else(ix v11 0).bind (fun z43=>(ix v11 0).bind (fun z44=>(ix v11 1).bind (fun z45=>(ix v11 1).bind (fun z46=>(F_1 ([[(z2.1,(z2.2.1,(z2.2.2.1,(z2.2.2.2.1,(z2.2.2.2.2.1,(z2.2.2.2.2.2.1,(z2.2.2.2.2.2.2.1,())))))))],z44,[(z1.1,(z1.2.1,((IntKind.i64.wrap (z1.2.2.1-y37)),(z1.2.2.2.1,(z1.2.2.2.2.1,(z1.2.2.2.2.2.1,(z1.2.2.2.2.2.2.1,())))))))],z46])).bind (fun y47=>some (.ret (y47,(decide ((IntKind.i64.wrap (z1.2.2.1-y37))≥0))))))))))))
 else(bif (a2==7) then
 (ix v11 0).bind (fun z48=>(ix v11 0).bind (fun z49=>(F_1 ([[(z2.1,(z2.2.1,(z2.2.2.1,(z2.2.2.2.1,(z2.2.2.2.2.1,(z2.2.2.2.2.2.1,(z2.2.2.2.2.2.2.1,())))))))],z49])).bind (fun y50=>some (.ret (y50,true)))))
 else(bif (a2==8) then
 joinK (loopF (fun f s=>L_2e z1 z2 f s.1 s.2) ([],0))
 (fun s=>J_6x z1 v11 s)
 else some (.go ([],false,z1.1,z1.2.1,z1.2.2.1,z1.2.2.2.1,z1.2.2.2.2.1,z1.2.2.2.2.2.1,z1.2.2.2.2.2.2.1,z2.1,z2.2.1,z2.2.2.1,z2.2.2.2.1,z2.2.2.2.2.1,z2.2.2.2.2.2.1,z2.2.2.2.2.2.2.1)))))
@[simp] noncomputable def J_6t (a0:List STable) (a1:List SNode) (a2:Int) (z1:SNode) (z2:SNode) (y3:List Int) (v11:List (List SNode)) (v12:Bool):Option Yt12:=
 (bif v12 then
 (ix v11 0).bind (fun z13=>(ix v11 0).bind (fun z14=>(F_1 ([[(z2.1,(z2.2.1,(z2.2.2.1,(z2.2.2.2.1,(z2.2.2.2.2.1,(z2.2.2.2.2.2.1,(z2.2.2.2.2.2.2.1,())))))))],[(z1.1,(z1.2.1,(z1.2.2.1,(z1.2.2.2.1,(z1.2.2.2.2.1,(z1.2.2.2.2.2.1,(z1.2.2.2.2.2.2.1,())))))))],z14])).bind (fun y15=>some (.ret (y15,true)))))
 else(bif (a2==2) then
 joinK ((bif z1.2.2.2.2.2.1 then
 some (.go true)
 else some (.go z2.2.2.2.2.2.1)))
 (fun s=>J_6u z1 z2 v11 s)
 else(bif (a2==3) then
 (ix v11 0).bind (fun z27=>(ix v11 0).bind (fun z28=>(F_1 ([[(z2.1,(z2.2.1,(z2.2.2.1,(z2.2.2.2.1,(z2.2.2.2.2.1,(z2.2.2.2.2.2.1,(z2.2.2.2.2.2.2.1,())))))))],z28])).bind (fun y29=>some (.ret (y29,(z1.2.2.1==z2.2.2.1))))))
 else(bif (a2==4) then
 (ix v11 0).bind (fun z30=>(ix v11 0).bind (fun z31=>(ix v11 1).bind (fun z32=>(ix v11 1).bind (fun z33=>(F_1 ([[(z2.1,(z2.2.1,(z2.2.2.1,(z2.2.2.2.1,(z2.2.2.2.2.1,(z2.2.2.2.2.2.1,(z2.2.2.2.2.2.2.1,())))))))],[(z1.1,(z1.2.1,(z1.2.2.1,(z1.2.2.2.1,(z1.2.2.2.2.1,(z1.2.2.2.2.2.1,(z1.2.2.2.2.2.2.1,())))))))],z31,[(z1.1,(z1.2.1,(z1.2.2.1,(z1.2.2.2.1,(z1.2.2.2.2.1,(z1.2.2.2.2.2.1,(z1.2.2.2.2.2.2.1,())))))))],z33])).bind (fun y34=>some (.ret (y34,true)))))))
 else joinK ((bif (a2==5) then
 some (.go true)
 else some (.go (a2==6))))
 (fun s=>J_6w a0 a1 a2 z1 z2 y3 v11 s)))))
@[simp] noncomputable def J_6s (v11:List (List SNode)) (v60:List SNode) (v61:Bool) (v62:Int) (v63:ByteArray) (v64:Int) (v65:Int) (v66:Int) (v67:Bool) (v68:List Int) (v69:Int) (v70:ByteArray) (v71:Int) (v72:Int) (v73:Int) (v74:Bool) (v75:List Int):Option Yt34:=
 (ix v75 v64).bind (fun z76=>(ix v11 0).bind (fun z77=>(ix v11 0).bind (fun z78=>(F_1 ([[(v69,(v70,(v71,(v72,(v73,(v74,(v75,())))))))],[(v62,(v63,(z76,(v65,(v66,(v67,(v68,())))))))],z78])).bind (fun y79=>some (y79,true)))))
@[simp] noncomputable def J_k (a0:List STable) (a1:List SNode) (a2:Int) (z1:SNode) (z2:SNode) (y3:List Int) (v11:List (List SNode)):Option Yt34:=
 joinK (joinK ((bif (a2==0) then
 some (.go true)
 else(bif (a2==1) then
 some (.go true)
 else(bif (a2==9) then
 some (.go true)
 else some (.go (a2==11))))))
 (fun s=>J_6t a0 a1 a2 z1 z2 y3 v11 s))
 (fun s=>J_6s v11 s.1 s.2.1 s.2.2.1 s.2.2.2.1 s.2.2.2.2.1 s.2.2.2.2.2.1 s.2.2.2.2.2.2.1 s.2.2.2.2.2.2.2.1 s.2.2.2.2.2.2.2.2.1 s.2.2.2.2.2.2.2.2.2.1 s.2.2.2.2.2.2.2.2.2.2.1 s.2.2.2.2.2.2.2.2.2.2.2.1 s.2.2.2.2.2.2.2.2.2.2.2.2.1 s.2.2.2.2.2.2.2.2.2.2.2.2.2.1 s.2.2.2.2.2.2.2.2.2.2.2.2.2.2.1 s.2.2.2.2.2.2.2.2.2.2.2.2.2.2.2)
theorem U_7 (a0:List STable) (a1:List SNode) (a2:Int) (a3:Int):Le ((ix a1 a3).bind (fun z1=>(ix a1 (IntKind.i64.wrap (a3+1))).bind (fun z2=>(F_11 a1 (IntKind.i64.wrap (a3+1))).bind (fun y3=>joinK (loopF (fun f s=>L_j a1 y3 f s.1 s.2) ([],0))
 (fun s=>J_k a0 a1 a2 z1 z2 y3 s))))) (F_u a0 a1 a2 a3):=callL_le (tt:=tt) (FT:=FT) (SP:=SP) (j:=46) rfl (by kernel_rfl)
@[simp] noncomputable def J_2p (a0:List STable) (a1:List SNode) (a2:SStep) (y1:List SNode) (v9:Bool):Option Yt34:=
 (bif v9 then
 some (y1,false)
 else(F_u a0 a1 a2.1 a2.2.1).bind (fun y10=>(bif (!y10.2) then
 some (y1,false)
 else(F_6 a1 a2.2.1 10).bind (fun y11=>(slx a1 0 a2.2.1).bind (fun z12=>(slx a1 y11.1 (a1.length:Int)).bind (fun z13=>(F_1 ([z12,y10.1,z13])).bind (fun y14=>(F_f y14).bind (fun y15=>(bif (!y15) then
 some (y1,false)
 else some (y14,true))))))))))
@[simp] noncomputable def J_2o (a0:List STable) (a1:List SNode) (a2:SStep) (y1:List SNode) (v5:Bool):Option Yt34:=
 (bif v5 then
 some (y1,false)
 else(F_1x a2.1).bind (fun y6=>joinK ((ix a1 a2.2.1).bind (fun z7=>(bif (z7.1 != y6.1) then
 some (.go true)
 else(ix a1 (IntKind.i64.wrap (a2.2.1+1))).bind (fun z8=>some (.go (z8.1 != y6.2))))))
 (fun s=>J_2p a0 a1 a2 y1 s)))
theorem U_2c (a0:List STable) (a1:List SNode) (a2:SStep):Le ((F_h a1).bind (fun y1=>joinK ((F_s a0 a1).bind (fun y2=>(bif (!y2) then
 some (.go true)
 else(F_2 a2.1 0 11).bind (fun y3=>(bif (!y3) then
 some (.go true)
 else(F_2 a2.2.1 0 (IntKind.i64.wrap ((a1.length:Int)-2))).bind (fun y4=>some (.go (!y4))))))))
 (fun s=>J_2o a0 a1 a2 y1 s))) (F_39 a0 a1 a2):=callL_le (tt:=tt) (FT:=FT) (SP:=SP) (j:=47) rfl (by kernel_rfl)
noncomputable def L_1h (a0:List STable) (a2:List SStep) (f0:((List SNode)×Int×(List SNode)×Int)→Option (Ex Yt42 ((List SNode)×Int×(List SNode)))) (v2:List SNode) (v3:Int) (v4:List SNode) (v5:Int):Option (Ex Yt42 ((List SNode)×Int×(List SNode))):=
 (bif (decide (v5<(a2.length:Int))) then
 (ix a2 v5).bind (fun z6=>(F_n a0 v4 z6).bind (fun y7=>(bif (!y7.2) then
 some (.ret (v4,v5))
 else f0 (v2,v3,y7.1,(IntKind.i64.wrap (v5+1))))))
 else some (.go (v2,v3,v4)))
@[simp] noncomputable def J_5t (a2:List SStep) (v8:List SNode) (v9:Int) (v10:List SNode):Option Yt42:=
 some (v10,(a2.length:Int))
theorem U_2q (a0:List STable) (a1:List SNode) (a2:List SStep):Le ((F_h a1).bind (fun y1=>(bif (decide ((a2.length:Int)>20)) then
 some (y1,0)
 else joinK (loopF (fun f s=>L_1h a0 a2 f s.1 s.2.1 s.2.2.1 s.2.2.2) ([],0,y1,0))
 (fun s=>J_5t a2 s.1 s.2.1 s.2.2)))) (F_3j a0 a1 a2):=callL_le (tt:=tt) (FT:=FT) (SP:=SP) (j:=48) rfl (by kernel_rfl)
theorem U_f (a0:List STable) (a1:List SNode) (a2:List SNode) (a3:Int):Le ((F_2f a0 a1 a2 a3).bind (fun y1=>some y1)) (F_17 a0 a1 a2 a3):=callL_le (tt:=tt) (FT:=FT) (SP:=SP) (j:=49) rfl (by kernel_rfl)
@[simp] noncomputable def J_1n (v2:Int) (v3:Int) (f0:Yt26→Option Yt23) (v8:Bool):Option Yt23:=
 (bif v8 then
 some (.ret v3)
 else f0 (v2,(IntKind.i64.wrap (v3+1))))
noncomputable def L_w (a0:List STable) (a1:List SNode) (a2:List SNode) (a3:Int) (f0:Yt26→Option Yt23) (v2:Int) (v3:Int):Option Yt23:=
 (bif (decide (v3<a3)) then
 (F_d a0 v3).bind (fun y4=>(F_7 a0 y4 a1).bind (fun y5=>(F_7 a0 y4 a2).bind (fun y6=>joinK ((bif (y5.2==0) then
 (bif (y6.2==0) then
 (F_19 y5.1 y6.1).bind (fun y7=>some (.go (!y7)))
 else some (.go false))
 else some (.go false)))
 (fun s=>J_1n v2 v3 f0 s))))
 else some (.go v2))
@[simp] noncomputable def J_1m (v9:Int):Option Int:=
 some (-1)
theorem U_14 (a0:List STable) (a1:List SNode) (a2:List SNode) (a3:Int):Le ((F_3 a3 0 50).bind (fun y1=>(bif (!y1) then
 some (-1)
 else joinK (loopF (fun f s=>L_w a0 a1 a2 a3 f s.1 s.2) (0,0))
 (fun s=>J_1m s)))) (F_2f a0 a1 a2 a3):=callL_le (tt:=tt) (FT:=FT) (SP:=SP) (j:=50) rfl (by kernel_rfl)
@[simp] noncomputable def J_53 (v1:Bool):Option Bool:=
 some v1
theorem U_18 (a0:Int) (a1:Int) (a2:Int):Le (joinK ((bif (decide (a0≥a1)) then
 some (.go (decide (a0≤a2)))
 else some (.go false)))
 (fun s=>J_53 s)) (F_3 a0 a1 a2):=callL_le (tt:=tt) (FT:=FT) (SP:=SP) (j:=51) rfl (by kernel_rfl)
@[simp] noncomputable def J_1b (v13:List Int) (v15:Int) (y16:Yt26) (f2:Yt40→Option (Ex (Ex (Ex Yt13 Yt21) Yt21) Yt45)) (v18:Int):Option (Ex (Ex (Ex Yt13 Yt21) Yt21) Yt45):=
 (apx v13 ([v18])).bind (fun z19=>f2 (z19,y16.2,(IntKind.i64.wrap (v15+1))))
noncomputable def L_q (z7:STable) (f2:Yt40→Option (Ex (Ex (Ex Yt13 Yt21) Yt21) Yt45)) (v13:List Int) (v14:Int) (v15:Int):Option (Ex (Ex (Ex Yt13 Yt21) Yt21) Yt45):=
 (bif (decide (v15<z7.2.1)) then
 (F_1g v14).bind (fun y16=>(remx y16.1 6).bind (fun z17=>joinK ((bif (z17==5) then
 some (.go (-2000000))
 else some (.go z17)))
 (fun s=>J_1b v13 v15 y16 f2 s)))
 else some (.go (v13,v14)))
@[simp] noncomputable def J_1a (v10:List Yt11) (v20:List Int) (v21:Int):Option (Ex (Ex Yt13 Yt21) Yt21):=
 (apx v10 ([v20])).bind (fun z22=>some (.go (z22,v21)))
@[simp] noncomputable def J_19 (v12:Int) (f1:(Yt9×Int×Int)→Option (Ex Yt13 Yt21)) (v23:List Yt11) (v24:Int):Option (Ex Yt13 Yt21):=
 f1 (v23,v24,(IntKind.i64.wrap (v12+1)))
noncomputable def L_2g (z7:STable) (z9:Int) (f1:(Yt9×Int×Int)→Option (Ex Yt13 Yt21)) (v10:List Yt11) (v11:Int) (v12:Int):Option (Ex Yt13 Yt21):=
 (bif (decide (v12<z9)) then
 joinK (joinK (loopF (fun f s=>L_q z7 f s.1 s.2.1 s.2.2) ([],v11,0))
 (fun s=>J_1a v10 s.1 s.2))
 (fun s=>J_19 v12 f1 s.1 s.2)
 else some (.go (v10,v11)))
@[simp] noncomputable def J_18 (v4:List Yt9) (v25:List Yt11) (v26:Int):Option Yt13:=
 (apx v4 ([v25])).bind (fun z27=>some (.go (z27,v26)))
@[simp] noncomputable def J_17 (v6:Int) (f0:(Yt37×Int×Int)→Option (Ex Yt37 Yt37)) (v28:List Yt9) (v29:Int):Option (Ex Yt37 Yt37):=
 f0 (v28,v29,(IntKind.i64.wrap (v6+1)))
noncomputable def L_p (a0:List STable) (f0:(Yt37×Int×Int)→Option (Ex Yt37 Yt37)) (v4:List Yt9) (v5:Int) (v6:Int):Option (Ex Yt37 Yt37):=
 (bif (decide (v6<(a0.length:Int))) then
 joinK ((ix a0 v6).bind (fun z7=>joinK ((F_1g v5).bind (fun y8=>(remx y8.1 5).bind (fun z9=>loopF (fun f s=>L_2g z7 z9 f s.1 s.2.1 s.2.2) ([],y8.2,0))))
 (fun s=>J_18 v4 s.1 s.2)))
 (fun s=>J_17 v6 f0 s.1 s.2)
 else some (.go v4))
@[simp] noncomputable def J_16 (v30:List Yt9):Option Yt37:=
 some v30
@[simp] noncomputable def J_15 (a0:List STable) (a1:Int) (v3:Bool):Option Yt37:=
 (bif v3 then
 some ([])
 else joinK (loopF (fun f s=>L_p a0 f s.1 s.2.1 s.2.2) ([],a1,0))
 (fun s=>J_16 s))
theorem U_v (a0:List STable) (a1:Int):Le (joinK ((F_v a0).bind (fun y1=>(bif (!y1) then
 some (.go true)
 else(F_3 a1 0 65536).bind (fun y2=>some (.go (!y2))))))
 (fun s=>J_15 a0 a1 s)) (F_d a0 a1):=callL_le (tt:=tt) (FT:=FT) (SP:=SP) (j:=52) rfl (by kernel_rfl)
@[simp] noncomputable def J_4y (v1:Bool) (v2:Int) (f0:Yt29→Option Yt16) (v7:Bool):Option Yt16:=
 (bif v7 then
 some (.ret false)
 else f0 (v1,(IntKind.i64.wrap (v2+1))))
noncomputable def L_o (a0:List STable) (f0:Yt29→Option Yt16) (v1:Bool) (v2:Int):Option Yt16:=
 (bif (decide (v2<(a0.length:Int))) then
 (ix a0 v2).bind (fun z3=>joinK ((F_1b z3.1).bind (fun y4=>(bif (!y4) then
 some (.go true)
 else(F_3 z3.2.1 1 6).bind (fun y5=>(bif (!y5) then
 some (.go true)
 else(bif (decide (v2>0)) then
 (ix a0 (IntKind.i64.wrap (v2-1))).bind (fun z6=>some (.go (!(Op.bytesLess z6.1.toList z3.1.toList))))
 else some (.go false)))))))
 (fun s=>J_4y v1 v2 f0 s))
 else some (.go v1))
@[simp] noncomputable def J_4x (a0:List STable) (v8:Bool):Option Bool:=
 some (decide ((a0.length:Int)≤8))
theorem U_t (a0:List STable):Le (joinK (loopF (fun f s=>L_o a0 f s.1 s.2) (false,0))
 (fun s=>J_4x a0 s)) (F_v a0):=callL_le (tt:=tt) (FT:=FT) (SP:=SP) (j:=53) rfl (by kernel_rfl)
@[simp] noncomputable def J_1j (v1:Bool) (v2:Int) (f0:Yt29→Option Yt16) (v5:Bool):Option Yt16:=
 (bif v5 then
 some (.ret false)
 else f0 (v1,(IntKind.i64.wrap (v2+1))))
@[simp] noncomputable def J_1i (v1:Bool) (v2:Int) (z3:Int) (f0:Yt29→Option Yt16) (v4:Bool):Option Yt16:=
 joinK ((bif (!v4) then
 (bif (v2==0) then
 some (.go true)
 else(bif (decide (z3<48)) then
 some (.go true)
 else some (.go (decide (z3>57)))))
 else some (.go false)))
 (fun s=>J_1j v1 v2 f0 s)
noncomputable def L_t (a0:ByteArray) (f0:Yt29→Option Yt16) (v1:Bool) (v2:Int):Option Yt16:=
 (bif (decide (v2<(a0.size:Int))) then
 (bix a0 v2).bind (fun z3=>joinK ((bif (decide (z3≥97)) then
 some (.go (decide (z3≤122)))
 else some (.go false)))
 (fun s=>J_1i v1 v2 z3 f0 s))
 else some (.go v1))
@[simp] noncomputable def J_51 (a0:ByteArray) (v6:Bool):Option Bool:=
 (F_3 (a0.size:Int) 1 12).bind (fun y7=>some y7)
theorem U_11 (a0:ByteArray):Le (joinK (loopF (fun f s=>L_t a0 f s.1 s.2) (false,0))
 (fun s=>J_51 a0 s)) (F_1b a0):=callL_le (tt:=tt) (FT:=FT) (SP:=SP) (j:=54) rfl (by kernel_rfl)
theorem U_1g (a0x0:Int):Le ((remx (IntKind.i64.wrap ((IntKind.i64.wrap (75*a0x0))+74)) 65537).bind (fun z1=>some (z1,z1))) (F_1g a0x0):=callL_le (tt:=tt) (FT:=FT) (SP:=SP) (j:=55) rfl (by kernel_rfl)
@[simp] noncomputable def J_r (a0:List STable) (a1:List Yt9) (a2:List SNode) (v4:Bool):Option Yt21:=
 (bif v4 then
 some ([],1)
 else(F_9 a0 a1 a2 0).bind (fun y5=>(bif (!y5.2) then
 some ([],2)
 else(F_1f y5.1).bind (fun y6=>some (y6,0)))))
theorem U_g (a0:List STable) (a1:List Yt9) (a2:List SNode):Le (joinK ((F_j a0 a1).bind (fun y1=>(bif (!y1) then
 some (.go true)
 else(F_2c a0 a2).bind (fun y2=>(bif (!y2) then
 some (.go true)
 else(F_2g a2).bind (fun y3=>some (.go y3)))))))
 (fun s=>J_r a0 a1 a2 s)) (F_7 a0 a1 a2):=callL_le (tt:=tt) (FT:=FT) (SP:=SP) (j:=56) rfl (by kernel_rfl)
@[simp] noncomputable def J_1f (v6:Bool) (v7:Int) (f1:Yt29→Option Yt47) (v11:Bool):Option Yt47:=
 (bif v11 then
 some (.ret (.ret false))
 else f1 (v6,(IntKind.i64.wrap (v7+1))))
noncomputable def L_s (a0:List STable) (v4:Int) (z5:List Yt11) (f1:Yt29→Option Yt47) (v6:Bool) (v7:Int):Option Yt47:=
 (bif (decide (v7<(z5.length:Int))) then
 (ix z5 v7).bind (fun z8=>joinK ((ix a0 v4).bind (fun z9=>(bif ((z8.length:Int) != z9.2.1) then
 some (.go true)
 else(F_2w z8).bind (fun y10=>some (.go y10)))))
 (fun s=>J_1f v6 v7 f1 s))
 else some (.go v6))
@[simp] noncomputable def J_1e (v4:Int) (f0:Yt29→Option Yt16) (v12:Bool):Option Yt16:=
 f0 (v12,(IntKind.i64.wrap (v4+1)))
noncomputable def L_r (a0:List STable) (a1:List Yt9) (f0:Yt29→Option Yt16) (v3:Bool) (v4:Int):Option Yt16:=
 (bif (decide (v4<(a1.length:Int))) then
 joinK ((ix a1 v4).bind (fun z5=>(bif (decide ((z5.length:Int)>40)) then
 some (.ret (.ret false))
 else loopF (fun f s=>L_s a0 v4 z5 f s.1 s.2) (v3,0))))
 (fun s=>J_1e v4 f0 s)
 else some (.go v3))
@[simp] noncomputable def J_1d (v13:Bool):Option Bool:=
 some true
@[simp] noncomputable def J_1c (a0:List STable) (a1:List Yt9) (v2:Bool):Option Bool:=
 (bif v2 then
 some false
 else joinK (loopF (fun f s=>L_r a0 a1 f s.1 s.2) (false,0))
 (fun s=>J_1d s))
theorem U_w (a0:List STable) (a1:List Yt9):Le (joinK ((F_v a0).bind (fun y1=>(bif (!y1) then
 some (.go true)
 else some (.go ((a1.length:Int) != (a0.length:Int))))))
 (fun s=>J_1c a0 a1 s)) (F_j a0 a1):=callL_le (tt:=tt) (FT:=FT) (SP:=SP) (j:=57) rfl (by kernel_rfl)
theorem U_1t (a0:List Int):Le ((F_34 a0).bind (fun y1=>some (decide (y1≥0)))) (F_2w a0):=callL_le (tt:=tt) (FT:=FT) (SP:=SP) (j:=58) rfl (by kernel_rfl)
noncomputable def L_1a (a0:List Int) (f0:Yt26→Option Yt23) (v1:Int) (v2:Int):Option Yt23:=
 (bif (decide (v2<(a0.length:Int))) then
 (ix a0 v2).bind (fun z3=>(F_2a z3).bind (fun y4=>(bif y4 then
 some (.ret v2)
 else f0 (v1,(IntKind.i64.wrap (v2+1))))))
 else some (.go v1))
@[simp] noncomputable def J_26 (v5:Int):Option Int:=
 some (-1)
theorem U_22 (a0:List Int):Le (joinK (loopF (fun f s=>L_1a a0 f s.1 s.2) (0,0))
 (fun s=>J_26 s)) (F_34 a0):=callL_le (tt:=tt) (FT:=FT) (SP:=SP) (j:=59) rfl (by kernel_rfl)
theorem U_x (a0:Int):Le ((F_2i a0).bind (fun y1=>some (!y1))) (F_2a a0):=callL_le (tt:=tt) (FT:=FT) (SP:=SP) (j:=60) rfl (by kernel_rfl)
@[simp] noncomputable def J_1v (v2:Bool):Option Bool:=
 some v2
theorem U_1c (a0:Int):Le (joinK ((F_1d a0).bind (fun y1=>(bif y1 then
 some (.go true)
 else some (.go (a0==(-2000000))))))
 (fun s=>J_1v s)) (F_2i a0):=callL_le (tt:=tt) (FT:=FT) (SP:=SP) (j:=61) rfl (by kernel_rfl)
theorem U_1a (a0:Int):Le ((F_3 a0 (-1000000) 1000000).bind (fun y1=>some y1)) (F_1d a0):=callL_le (tt:=tt) (FT:=FT) (SP:=SP) (j:=62) rfl (by kernel_rfl)
theorem U_z (a0:List STable) (a1:List SNode):Le ((F_2d a0 a1).bind (fun y1=>some (decide (y1≥0)))) (F_2c a0 a1):=callL_le (tt:=tt) (FT:=FT) (SP:=SP) (j:=63) rfl (by kernel_rfl)
@[simp] noncomputable def J_50 (a0:List STable) (a1:List SNode) (v3:Bool):Option Int:=
 (bif v3 then
 some (-1)
 else(F_1i a0 a1 0).bind (fun y4=>some y4))
theorem U_10 (a0:List STable) (a1:List SNode):Le (joinK ((F_v a0).bind (fun y1=>(bif (!y1) then
 some (.go true)
 else(F_26 a1).bind (fun y2=>some (.go (!y2))))))
 (fun s=>J_50 a0 a1 s)) (F_2d a0 a1):=callL_le (tt:=tt) (FT:=FT) (SP:=SP) (j:=64) rfl (by kernel_rfl)
@[simp] noncomputable def J_11 (a0:List SNode) (v3:Bool):Option Bool:=
 (bif v3 then
 some false
 else(F_k a0 0 1).bind (fun y4=>some (y4==(a0.length:Int))))
theorem U_m (a0:List SNode):Le (joinK ((F_3 (a0.length:Int) 1 40).bind (fun y1=>(bif (!y1) then
 some (.go true)
 else(F_2t a0).bind (fun y2=>some (.go y2)))))
 (fun s=>J_11 a0 s)) (F_26 a0):=callL_le (tt:=tt) (FT:=FT) (SP:=SP) (j:=65) rfl (by kernel_rfl)
theorem U_1q (a0:List SNode):Le ((F_30 a0).bind (fun y1=>some (decide (y1≥0)))) (F_2t a0):=callL_le (tt:=tt) (FT:=FT) (SP:=SP) (j:=66) rfl (by kernel_rfl)
noncomputable def L_16 (a0:List SNode) (f0:Yt26→Option Yt23) (v1:Int) (v2:Int):Option Yt23:=
 (bif (decide (v2<(a0.length:Int))) then
 (ix a0 v2).bind (fun z3=>(F_27 z3).bind (fun y4=>(bif y4 then
 some (.ret v2)
 else f0 (v1,(IntKind.i64.wrap (v2+1))))))
 else some (.go v1))
@[simp] noncomputable def J_5c (v5:Int):Option Int:=
 some (-1)
theorem U_1y (a0:List SNode):Le (joinK (loopF (fun f s=>L_16 a0 f s.1 s.2) (0,0))
 (fun s=>J_5c s)) (F_30 a0):=callL_le (tt:=tt) (FT:=FT) (SP:=SP) (j:=67) rfl (by kernel_rfl)
theorem U_n (a0:SNode):Le ((F_23 (a0.1,(a0.2.1,(a0.2.2.1,(a0.2.2.2.1,(a0.2.2.2.2.1,(a0.2.2.2.2.2.1,(a0.2.2.2.2.2.2.1,())))))))).bind (fun y1=>some (!y1))) (F_27 a0):=callL_le (tt:=tt) (FT:=FT) (SP:=SP) (j:=68) rfl (by kernel_rfl)
@[simp] noncomputable def J_u (a0:SNode) (v7:Bool):Option Yt25:=
 some (.go (0,a0.2.1,0,0,0,false,a0.2.2.2.2.2.2.1,v7))
@[simp] noncomputable def J_t (a0:SNode) (v4:Bool):Option Yt25:=
 joinK ((bif (a0.2.2.2.1==3) then
 (bif v4 then
 (bif (a0.2.2.2.2.1==0) then
 some (.go (!a0.2.2.2.2.2.1))
 else some (.go false))
 else some (.go false))
 else(bif a0.2.2.2.2.2.1 then
 (bif v4 then
 (F_1e a0.2.2.2.2.1).bind (fun y5=>some (.go y5))
 else some (.go false))
 else(bif v4 then
 (F_1d a0.2.2.2.2.1).bind (fun y6=>some (.go y6))
 else some (.go false)))))
 (fun s=>J_u a0 s)
@[simp] noncomputable def J_v (a0:SNode) (v10:Bool):Option Yt25:=
 some (.go (0,a0.2.1,a0.2.2.1,a0.2.2.2.1,a0.2.2.2.2.1,a0.2.2.2.2.2.1,[],v10))
@[simp] noncomputable def J_w (a0:SNode) (v13:Bool):Option Yt25:=
 some (.go (0,a0.2.1,0,a0.2.2.2.1,0,a0.2.2.2.2.2.1,a0.2.2.2.2.2.2.1,v13))
@[simp] noncomputable def J_x (a0:SNode) (v17:Bool):Option Yt25:=
 some (.go (0,a0.2.1,a0.2.2.1,a0.2.2.2.1,0,false,a0.2.2.2.2.2.2.1,v17))
@[simp] noncomputable def J_y (a0:SNode) (v18:Bool):Option Yt25:=
 (bif v18 then
 some (.go (0,a0.2.1,a0.2.2.1,a0.2.2.2.1,a0.2.2.2.2.1,a0.2.2.2.2.2.1,a0.2.2.2.2.2.2.1,true))
 else some (.go (0,a0.2.1,a0.2.2.1,a0.2.2.2.1,a0.2.2.2.2.1,a0.2.2.2.2.2.1,a0.2.2.2.2.2.2.1,false)))
@[simp] noncomputable def J_4w (v28:Bool):Option Bool:=
 some v28
@[simp] noncomputable def J_0 (v19:Int) (v20:ByteArray) (v21:Int) (v22:Int) (v23:Int) (v24:Bool) (v25:List Int) (v26:Bool):Option Bool:=
 joinK ((bif v26 then
 (F_2k (v19,(v20,(v21,(v22,(v23,(v24,(v25,()))))))) (0,(ByteArray.empty,(0,(0,(0,(false,([],())))))))).bind (fun y27=>some (.go y27))
 else some (.go false)))
 (fun s=>J_4w s)
theorem U_j (a0:SNode):Le (joinK ((bif (a0.1==0) then
 (F_1b a0.2.1).bind (fun y1=>some (.go (0,ByteArray.empty,a0.2.2.1,a0.2.2.2.1,a0.2.2.2.2.1,a0.2.2.2.2.2.1,a0.2.2.2.2.2.2.1,y1)))
 else(bif (a0.1==1) then
 joinK ((F_e a0.2.2.1).bind (fun y2=>(bif y2 then
 (F_3 a0.2.2.2.1 0 3).bind (fun y3=>some (.go y3))
 else some (.go false))))
 (fun s=>J_t a0 s)
 else(bif (a0.1==2) then
 joinK ((F_3 (a0.2.2.2.2.2.2.1.length:Int) 1 6).bind (fun y8=>(bif y8 then
 (F_2v a0.2.2.2.2.2.2.1).bind (fun y9=>some (.go (!y9)))
 else some (.go false))))
 (fun s=>J_v a0 s)
 else(bif (a0.1==3) then
 joinK ((F_e a0.2.2.1).bind (fun y11=>(bif y11 then
 (F_e a0.2.2.2.2.1).bind (fun y12=>some (.go y12))
 else some (.go false))))
 (fun s=>J_w a0 s)
 else(bif (a0.1==5) then
 (F_e a0.2.2.1).bind (fun y14=>some (.go (0,a0.2.1,0,a0.2.2.2.1,a0.2.2.2.2.1,a0.2.2.2.2.2.1,a0.2.2.2.2.2.2.1,y14)))
 else(bif (a0.1==6) then
 joinK ((F_3 a0.2.2.2.2.1 0 1000000).bind (fun y15=>(bif y15 then
 (bif (!a0.2.2.2.2.2.1) then
 some (.go true)
 else(F_1e a0.2.2.2.2.1).bind (fun y16=>some (.go y16)))
 else some (.go false))))
 (fun s=>J_x a0 s)
 else joinK ((bif (a0.1==4) then
 some (.go true)
 else some (.go (a0.1==7))))
 (fun s=>J_y a0 s))))))))
 (fun s=>J_0 s.1 s.2.1 s.2.2.1 s.2.2.2.1 s.2.2.2.2.1 s.2.2.2.2.2.1 s.2.2.2.2.2.2.1 s.2.2.2.2.2.2.2)) (F_23 a0):=callL_le (tt:=tt) (FT:=FT) (SP:=SP) (j:=69) rfl (by kernel_rfl)
theorem U_19 (a0:Int):Le ((F_3 a0 0 63).bind (fun y1=>some y1)) (F_e a0):=callL_le (tt:=tt) (FT:=FT) (SP:=SP) (j:=70) rfl (by kernel_rfl)
theorem U_1b (a0:Int):Le ((F_3 a0 0 39).bind (fun y1=>some y1)) (F_1e a0):=callL_le (tt:=tt) (FT:=FT) (SP:=SP) (j:=71) rfl (by kernel_rfl)
theorem U_1s (a0:List Int):Le ((F_33 a0).bind (fun y1=>some (decide (y1≥0)))) (F_2v a0):=callL_le (tt:=tt) (FT:=FT) (SP:=SP) (j:=72) rfl (by kernel_rfl)
noncomputable def L_19 (a0:List Int) (f0:Yt26→Option Yt23) (v1:Int) (v2:Int):Option Yt23:=
 (bif (decide (v2<(a0.length:Int))) then
 (ix a0 v2).bind (fun z3=>(F_24 z3).bind (fun y4=>(bif y4 then
 some (.ret v2)
 else f0 (v1,(IntKind.i64.wrap (v2+1))))))
 else some (.go v1))
@[simp] noncomputable def J_5f (v5:Int):Option Int:=
 some (-1)
theorem U_21 (a0:List Int):Le (joinK (loopF (fun f s=>L_19 a0 f s.1 s.2) (0,0))
 (fun s=>J_5f s)) (F_33 a0):=callL_le (tt:=tt) (FT:=FT) (SP:=SP) (j:=73) rfl (by kernel_rfl)
theorem U_k (a0:Int):Le ((F_e a0).bind (fun y1=>some (!y1))) (F_24 a0):=callL_le (tt:=tt) (FT:=FT) (SP:=SP) (j:=74) rfl (by kernel_rfl)
@[simp] noncomputable def J_54 (v2:Bool):Option Bool:=
 some v2
theorem U_1f (a0:SNode) (a1:SNode):Le (joinK ((bif (a0.1==a1.1) then
 (bif (a0.2.1.toList==a1.2.1.toList) then
 (bif (a0.2.2.1==a1.2.2.1) then
 (bif (a0.2.2.2.1==a1.2.2.2.1) then
 (bif (a0.2.2.2.2.1==a1.2.2.2.2.1) then
 (bif (a0.2.2.2.2.2.1==a1.2.2.2.2.2.1) then
 (F_w a0.2.2.2.2.2.2.1 a1.2.2.2.2.2.2.1).bind (fun y1=>some (.go y1))
 else some (.go false))
 else some (.go false))
 else some (.go false))
 else some (.go false))
 else some (.go false))
 else some (.go false)))
 (fun s=>J_54 s)) (F_2k a0 a1):=callL_le (tt:=tt) (FT:=FT) (SP:=SP) (j:=75) rfl (by kernel_rfl)
noncomputable def L_15 (a0:List Int) (a1:List Int) (f0:Yt29→Option Yt16) (v1:Bool) (v2:Int):Option Yt16:=
 (bif (decide (v2<(a0.length:Int))) then
 (ix a0 v2).bind (fun z3=>(ix a1 v2).bind (fun z4=>(bif (z3 != z4) then
 some (.ret false)
 else f0 (v1,(IntKind.i64.wrap (v2+1))))))
 else some (.go v1))
@[simp] noncomputable def J_5b (v5:Bool):Option Bool:=
 some true
theorem U_1v (a0:List Int) (a1:List Int):Le ((bif ((a0.length:Int) != (a1.length:Int)) then
 some false
 else joinK (loopF (fun f s=>L_15 a0 a1 f s.1 s.2) (false,0))
 (fun s=>J_5b s))) (F_w a0 a1):=callL_le (tt:=tt) (FT:=FT) (SP:=SP) (j:=76) rfl (by kernel_rfl)
noncomputable def L_2 (a0:List SNode) (a2:Int) (y3:Int) (f0:(Int×Int×Int)→Option (Ex Int Yt26)) (v4:Int) (v5:Int) (v6:Int):Option (Ex Int Yt26):=
 (bif (decide (v6<y3)) then
 (F_k a0 v5 (IntKind.i64.wrap (a2+1))).bind (fun y7=>(bif (decide (y7<0)) then
 some (.ret (-1))
 else f0 (v4,y7,(IntKind.i64.wrap (v6+1)))))
 else some (.go (v4,v5)))
@[simp] noncomputable def J_3 (v8:Int) (v9:Int):Option Int:=
 some v9
@[simp] noncomputable def J_b (a0:List SNode) (a1:Int) (a2:Int) (v1:Bool):Option Int:=
 (bif v1 then
 some (-1)
 else joinK ((ix a0 a1).bind (fun z2=>(F_15 z2.1).bind (fun y3=>loopF (fun f s=>L_2 a0 a2 y3 f s.1 s.2.1 s.2.2) (0,(IntKind.i64.wrap (a1+1)),0))))
 (fun s=>J_3 s.1 s.2))
theorem U_4 (a0:List SNode) (a1:Int) (a2:Int):Le (joinK ((bif (decide (a1≥(a0.length:Int))) then
 some (.go true)
 else some (.go (decide (a2>10)))))
 (fun s=>J_b a0 a1 a2 s)) (F_k a0 a1 a2):=callL_le (tt:=tt) (FT:=FT) (SP:=SP) (j:=77) rfl (by kernel_rfl)
@[simp] noncomputable def J_4u (v2:Bool):Option Int:=
 (bif v2 then
 some 1
 else some (-1))
@[simp] noncomputable def J_4t (a0:Int) (v1:Bool):Option Int:=
 (bif v1 then
 some 2
 else joinK ((bif (a0==1) then
 some (.go true)
 else(bif (a0==2) then
 some (.go true)
 else(bif (a0==5) then
 some (.go true)
 else(bif (a0==6) then
 some (.go true)
 else some (.go (a0==7)))))))
 (fun s=>J_4u s))
theorem U_b (a0:Int):Le ((bif (a0==0) then
 some 0
 else joinK ((bif (a0==3) then
 some (.go true)
 else some (.go (a0==4))))
 (fun s=>J_4t a0 s))) (F_15 a0):=callL_le (tt:=tt) (FT:=FT) (SP:=SP) (j:=78) rfl (by kernel_rfl)
noncomputable def L_3 (a0:List STable) (a1:List SNode) (y1:List Int) (f0:(Int×Yt11×Int)→Option (Ex Int (Int×Yt11))) (v2:Int) (v3:List Int) (v4:Int):Option (Ex Int (Int×Yt11)):=
 (bif (decide (v4<(y1.length:Int))) then
 (ix y1 v4).bind (fun z5=>(F_1i a0 a1 z5).bind (fun y6=>(bif (decide (y6<0)) then
 some (.ret (-1))
 else(apx v3 ([y6])).bind (fun z7=>f0 (v2,z7,(IntKind.i64.wrap (v4+1)))))))
 else some (.go (v2,v3)))
@[simp] noncomputable def J_56 (v9:List Int) (v21:Bool):Option Yt23:=
 (bif v21 then
 some (.ret (-1))
 else(ix v9 0).bind (fun z22=>(ix v9 1).bind (fun z23=>some (.ret (IntKind.i64.wrap (z22+z23))))))
@[simp] noncomputable def J_1x (v8:Int) (v9:List Int) (z10:SNode) (v13:Bool):Option Yt23:=
 (bif v13 then
 (ix v9 0).bind (fun z14=>(bif (decide (z10.2.2.1≥z14)) then
 some (.ret (-1))
 else some (.go v8)))
 else(bif (z10.1==2) then
 (F_1j z10.2.2.2.2.2.2.1).bind (fun y15=>(ix v9 0).bind (fun z16=>(bif (decide (y15≥z16)) then
 some (.ret (-1))
 else some (.ret (z10.2.2.2.2.2.2.1.length:Int)))))
 else(bif (z10.1==3) then
 joinK ((ix v9 0).bind (fun z17=>(bif (decide (z10.2.2.1≥z17)) then
 some (.go true)
 else(ix v9 1).bind (fun z18=>(bif (decide (z10.2.2.2.2.1≥z18)) then
 some (.go true)
 else(ix v9 0).bind (fun z19=>(ix v9 1).bind (fun z20=>some (.go (decide ((IntKind.i64.wrap (z19+z20))>64))))))))))
 (fun s=>J_56 v9 s)
 else(bif (z10.1==4) then
 (ix v9 0).bind (fun z24=>(ix v9 1).bind (fun z25=>(bif (z24 != z25) then
 some (.ret (-1))
 else some (.go v8))))
 else some (.go v8)))))
@[simp] noncomputable def J_55 (v9:List Int) (v26:Int):Option Int:=
 (ix v9 0).bind (fun z27=>some z27)
@[simp] noncomputable def J_5 (a0:List STable) (a1:List SNode) (a2:Int) (v8:Int) (v9:List Int):Option Int:=
 (ix a1 a2).bind (fun z10=>joinK ((bif (z10.1==0) then
 (F_1h a0 z10.2.1).bind (fun y11=>(bif (decide (y11<0)) then
 some (.ret (-1))
 else(ix a0 y11).bind (fun z12=>some (.ret z12.2.1))))
 else joinK ((bif (z10.1==1) then
 some (.go true)
 else some (.go (z10.1==5))))
 (fun s=>J_1x v8 v9 z10 s)))
 (fun s=>J_55 v9 s))
theorem U_2 (a0:List STable) (a1:List SNode) (a2:Int):Le (joinK ((F_1c a1 a2).bind (fun y1=>loopF (fun f s=>L_3 a0 a1 y1 f s.1 s.2.1 s.2.2) (0,[],0)))
 (fun s=>J_5 a0 a1 a2 s.1 s.2)) (F_1i a0 a1 a2):=callL_le (tt:=tt) (FT:=FT) (SP:=SP) (j:=79) rfl (by kernel_rfl)
noncomputable def L_u (a0:List SNode) (y2:Int) (f0:Yt40→Option Yt33) (v3:List Int) (v4:Int) (v5:Int):Option Yt33:=
 (bif (decide (v5<y2)) then
 (apx v3 ([v4])).bind (fun z6=>(F_k a0 v4 1).bind (fun y7=>f0 (z6,y7,(IntKind.i64.wrap (v5+1)))))
 else some (.go v3))
@[simp] noncomputable def J_52 (v8:List Int):Option Yt11:=
 some v8
theorem U_12 (a0:List SNode) (a1:Int):Le (joinK ((ix a0 a1).bind (fun z1=>(F_15 z1.1).bind (fun y2=>loopF (fun f s=>L_u a0 y2 f s.1 s.2.1 s.2.2) ([],(IntKind.i64.wrap (a1+1)),0))))
 (fun s=>J_52 s)) (F_1c a0 a1):=callL_le (tt:=tt) (FT:=FT) (SP:=SP) (j:=80) rfl (by kernel_rfl)
theorem U_1h (a0:List STable) (a1:ByteArray):Le ((F_32 a0 a1).bind (fun y1=>some y1.1)) (F_1h a0 a1):=callL_le (tt:=tt) (FT:=FT) (SP:=SP) (j:=81) rfl (by kernel_rfl)
noncomputable def L_18 (a0:List STable) (f0:(Int×Int×ByteArray)→Option (Ex Yt50 Yt50)) (v1:Int) (v2:Int) (v3:ByteArray):Option (Ex Yt50 Yt50):=
 (bif (decide (v2<(a0.length:Int))) then
 (ix a0 v2).bind (fun z4=>(F_2l z4 v3).bind (fun y5=>(bif y5.1 then
 some (.ret (v2,y5.2))
 else f0 (v1,(IntKind.i64.wrap (v2+1)),y5.2))))
 else some (.go (v1,v3)))
@[simp] noncomputable def J_5e (v6:Int) (v7:ByteArray):Option Yt50:=
 some ((-1),v7)
theorem U_20 (a0:List STable) (a1x0x0:ByteArray):Le (joinK (loopF (fun f s=>L_18 a0 f s.1 s.2.1 s.2.2) (0,0,a1x0x0))
 (fun s=>J_5e s.1 s.2)) (F_32 a0 a1x0x0):=callL_le (tt:=tt) (FT:=FT) (SP:=SP) (j:=82) rfl (by kernel_rfl)
theorem U_1i (a0:STable) (c0x0:ByteArray):Le (some ((a0.1.toList==c0x0.toList),c0x0)) (F_2l a0 c0x0):=callL_le (tt:=tt) (FT:=FT) (SP:=SP) (j:=83) rfl (by kernel_rfl)
noncomputable def L_1b (a0:List Int) (f0:Yt26→Option Yt23) (v2:Int) (v3:Int):Option Yt23:=
 (bif (decide (v3<(a0.length:Int))) then
 (ix a0 v3).bind (fun z4=>f0 ((mmx true v2 z4),(IntKind.i64.wrap (v3+1))))
 else some (.go v2))
@[simp] noncomputable def J_5g (v5:Int):Option Int:=
 some v5
@[simp] noncomputable def J_27 (a0:List Int):Option Int:=
 (ix a0 0).bind (fun z1=>joinK (loopF (fun f s=>L_1b a0 f s.1 s.2) (z1,1))
 (fun s=>J_5g s))
theorem U_23 (a0:List Int):Le (joinK ((bif (decide ((a0.length:Int)<1)) then
 none
 else some (.go ())))
 (fun _=>J_27 a0)) (F_1j a0):=callL_le (tt:=tt) (FT:=FT) (SP:=SP) (j:=84) rfl (by kernel_rfl)
theorem U_16 (a0:List SNode):Le ((F_2u a0).bind (fun y1=>some y1)) (F_2g a0):=callL_le (tt:=tt) (FT:=FT) (SP:=SP) (j:=85) rfl (by kernel_rfl)
theorem U_1r (a0:List SNode):Le ((F_31 a0).bind (fun y1=>some (decide (y1≥0)))) (F_2u a0):=callL_le (tt:=tt) (FT:=FT) (SP:=SP) (j:=86) rfl (by kernel_rfl)
noncomputable def L_17 (a0:List SNode) (f0:Yt26→Option Yt23) (v1:Int) (v2:Int):Option Yt23:=
 (bif (decide (v2<(a0.length:Int))) then
 (ix a0 v2).bind (fun z3=>(F_2h z3).bind (fun y4=>(bif y4 then
 some (.ret v2)
 else f0 (v1,(IntKind.i64.wrap (v2+1))))))
 else some (.go v1))
@[simp] noncomputable def J_5d (v5:Int):Option Int:=
 some (-1)
theorem U_1z (a0:List SNode):Le (joinK (loopF (fun f s=>L_17 a0 f s.1 s.2) (0,0))
 (fun s=>J_5d s)) (F_31 a0):=callL_le (tt:=tt) (FT:=FT) (SP:=SP) (j:=87) rfl (by kernel_rfl)
theorem U_17 (a0:SNode):Le (some a0.2.2.2.2.2.1) (F_2h a0):=callL_le (tt:=tt) (FT:=FT) (SP:=SP) (j:=88) rfl (by kernel_rfl)
noncomputable def L_0 (a0:List STable) (a1:List Yt9) (a2:List SNode) (y1:List Int) (f0:(Yt9×Bool×Yt37×Int)→Option (Ex Yt20 (Yt9×Bool×Yt37))) (v2:List Yt11) (v3:Bool) (v4:List Yt9) (v5:Int):Option (Ex Yt20 (Yt9×Bool×Yt37)):=
 (bif (decide (v5<(y1.length:Int))) then
 (ix y1 v5).bind (fun z6=>(F_9 a0 a1 a2 z6).bind (fun y7=>(bif (!y7.2) then
 some (.ret ([],false))
 else(apx v4 ([y7.1])).bind (fun z8=>f0 (v2,v3,z8,(IntKind.i64.wrap (v5+1)))))))
 else some (.go (v2,v3,v4)))
@[simp] noncomputable def J_1o (v18:Int) (f1:Yt21→Option Yt20) (v23:List Yt11):Option Yt20:=
 f1 (v23,(IntKind.i64.wrap (v18+1)))
noncomputable def L_8 (z12:SNode) (z16:List Yt11) (f1:Yt21→Option Yt20) (v17:List Yt11) (v18:Int):Option Yt20:=
 (bif (decide (v18<(z16.length:Int))) then
 joinK ((ix z16 v18).bind (fun z19=>(ix z19 z12.2.2.1).bind (fun z20=>(F_25 (z12.1,(z12.2.1,(z12.2.2.1,(z12.2.2.2.1,(z12.2.2.2.2.1,(z12.2.2.2.2.2.1,(z12.2.2.2.2.2.2.1,()))))))) z20).bind (fun y21=>(bif y21 then
 (apx v17 ([z19])).bind (fun z22=>some (.go z22))
 else some (.go v17))))))
 (fun s=>J_1o v18 f1 s)
 else some (v17,(decide ((v17.length:Int)≤200))))
noncomputable def L_x (z12:SNode) (z28:List Int) (f3:Yt45→Option (Ex (Ex Yt20 Yt9) Yt11)) (v29:List Int) (v30:Int):Option (Ex (Ex Yt20 Yt9) Yt11):=
 (bif (decide (v30<(z12.2.2.2.2.2.2.1.length:Int))) then
 (ix z12.2.2.2.2.2.2.1 v30).bind (fun z31=>(ix z28 z31).bind (fun z32=>(apx v29 ([z32])).bind (fun z33=>f3 (z33,(IntKind.i64.wrap (v30+1))))))
 else some (.go v29))
@[simp] noncomputable def J_1q (v26:List Yt11) (v34:List Int):Option (Ex Yt20 Yt9):=
 (apx v26 ([v34])).bind (fun z35=>some (.go z35))
@[simp] noncomputable def J_1p (v27:Int) (f2:Yt21→Option Yt20) (v36:List Yt11):Option Yt20:=
 f2 (v36,(IntKind.i64.wrap (v27+1)))
noncomputable def L_9 (z12:SNode) (z25:List Yt11) (f2:Yt21→Option Yt20) (v26:List Yt11) (v27:Int):Option Yt20:=
 (bif (decide (v27<(z25.length:Int))) then
 joinK ((ix z25 v27).bind (fun z28=>joinK (loopF (fun f s=>L_x z12 z28 f s.1 s.2) ([],0))
 (fun s=>J_1q v26 s)))
 (fun s=>J_1p v27 f2 s)
 else some (v26,(decide ((v26.length:Int)≤200))))
@[simp] noncomputable def J_1t (z41:List Int) (v44:List Yt11) (z46:List Int) (v50:Bool):Option (Ex (Ex Yt20 Yt9) Yt9):=
 (bif v50 then
 (F_2s ([z41,z46])).bind (fun y51=>(apx v44 ([y51])).bind (fun z52=>some (.go z52)))
 else some (.go v44))
@[simp] noncomputable def J_1s (v45:Int) (f5:Yt21→Option (Ex Yt20 Yt9)) (v53:List Yt11):Option (Ex Yt20 Yt9):=
 f5 (v53,(IntKind.i64.wrap (v45+1)))
noncomputable def L_y (z12:SNode) (z41:List Int) (z43:List Yt11) (f5:Yt21→Option (Ex Yt20 Yt9)) (v44:List Yt11) (v45:Int):Option (Ex Yt20 Yt9):=
 (bif (decide (v45<(z43.length:Int))) then
 joinK ((ix z43 v45).bind (fun z46=>joinK ((ix z41 z12.2.2.1).bind (fun z47=>(ix z46 z12.2.2.2.2.1).bind (fun z48=>(bif (z47==z48) then
 (ix z41 z12.2.2.1).bind (fun z49=>some (.go (z49 != (-2000000))))
 else some (.go false)))))
 (fun s=>J_1t z41 v44 z46 s)))
 (fun s=>J_1s v45 f5 s)
 else some (.go v44))
@[simp] noncomputable def J_1r (v40:Int) (f4:Yt21→Option Yt20) (v54:List Yt11):Option Yt20:=
 f4 (v54,(IntKind.i64.wrap (v40+1)))
noncomputable def L_a (v11:List Yt9) (z12:SNode) (z38:List Yt11) (f4:Yt21→Option Yt20) (v39:List Yt11) (v40:Int):Option Yt20:=
 (bif (decide (v40<(z38.length:Int))) then
 joinK ((ix z38 v40).bind (fun z41=>(ix v11 1).bind (fun z42=>(ix v11 1).bind (fun z43=>loopF (fun f s=>L_y z12 z41 z43 f s.1 s.2) (v39,0)))))
 (fun s=>J_1r v40 f4 s)
 else some (v39,(decide ((v39.length:Int)≤200))))
@[simp] noncomputable def J_1u (v72:Int) (f6:Yt21→Option Yt20) (v76:List Yt11):Option Yt20:=
 f6 (v76,(IntKind.i64.wrap (v72+1)))
noncomputable def L_b (z70:List Yt11) (f6:Yt21→Option Yt20) (v71:List Yt11) (v72:Int):Option Yt20:=
 (bif (decide (v72<(z70.length:Int))) then
 joinK ((ix z70 v72).bind (fun z73=>(F_20 v71 z73).bind (fun y74=>(bif (y74==0) then
 (apx v71 ([z73])).bind (fun z75=>some (.go z75))
 else some (.go v71)))))
 (fun s=>J_1u v72 f6 s)
 else some (v71,(decide ((v71.length:Int)≤200))))
@[simp] noncomputable def J_4 (a0:List STable) (a1:List Yt9) (a2:List SNode) (a3:Int) (v9:List Yt11) (v10:Bool) (v11:List Yt9):Option Yt20:=
 (ix a2 a3).bind (fun z12=>(bif (z12.1==0) then
 (F_1h a0 z12.2.1).bind (fun y13=>(ix a1 y13).bind (fun z14=>some (z14,(decide ((z14.length:Int)≤200)))))
 else(bif (z12.1==1) then
 (ix v11 0).bind (fun z15=>(ix v11 0).bind (fun z16=>loopF (fun f s=>L_8 z12 z16 f s.1 s.2) ([],0)))
 else(bif (z12.1==2) then
 (ix v11 0).bind (fun z24=>(ix v11 0).bind (fun z25=>loopF (fun f s=>L_9 z12 z25 f s.1 s.2) ([],0)))
 else(bif (z12.1==3) then
 (ix v11 0).bind (fun z37=>(ix v11 0).bind (fun z38=>loopF (fun f s=>L_a v11 z12 z38 f s.1 s.2) ([],0)))
 else(bif (z12.1==4) then
 (ix v11 0).bind (fun z55=>(ix v11 0).bind (fun z56=>(ix v11 1).bind (fun z57=>(ix v11 1).bind (fun z58=>(F_2r ([z56,z58])).bind (fun y59=>some (y59,(decide ((y59.length:Int)≤200))))))))
 else(bif (z12.1==5) then
 (ix v11 0).bind (fun z60=>(ix v11 0).bind (fun z61=>(F_2p z61).bind (fun y62=>(F_36 y62 z12.1 z12.2.1 z12.2.2.1 z12.2.2.2.1 z12.2.2.2.2.1 z12.2.2.2.2.2.1 z12.2.2.2.2.2.2.1).bind (fun y63=>some (y63.1,(decide ((y63.1.length:Int)≤200)))))))
 else(bif (z12.1==6) then
 (ix v11 0).bind (fun z64=>(ix v11 0).bind (fun z65=>(ix v11 0).bind (fun z66=>(ix v11 0).bind (fun z67=>(slx z65 0 (mmx false z12.2.2.2.2.1 (z67.length:Int))).bind (fun z68=>some (z68,(decide ((z68.length:Int)≤200))))))))
 else(bif (z12.1==7) then
 (ix v11 0).bind (fun z69=>(ix v11 0).bind (fun z70=>loopF (fun f s=>L_b z70 f s.1 s.2) ([],0)))
 else some ([],(decide ((([]:List Yt11).length:Int)≤200))))))))))))
theorem U_0 (a0:List STable) (a1:List Yt9) (a2:List SNode) (a3:Int):Le (joinK ((F_1c a2 a3).bind (fun y1=>loopF (fun f s=>L_0 a0 a1 a2 y1 f s.1 s.2.1 s.2.2.1 s.2.2.2) ([],false,[],0)))
 (fun s=>J_4 a0 a1 a2 a3 s.1 s.2.1 s.2.2)) (F_9 a0 a1 a2 a3):=callL_le (tt:=tt) (FT:=FT) (SP:=SP) (j:=89) rfl (by kernel_rfl)
@[simp] noncomputable def J_z (v1:Bool):Option Bool:=
 some v1
@[simp] noncomputable def J_10 (v2:Bool):Option Bool:=
 some v2
theorem U_l (a0:SNode) (a1:Int):Le ((bif (a0.2.2.2.1==3) then
 some (a1==(-2000000))
 else(bif (a0.2.2.2.1==0) then
 some (a1==a0.2.2.2.2.1)
 else(bif (a0.2.2.2.1==1) then
 joinK ((bif (a1 != (-2000000)) then
 some (.go (decide (a1<a0.2.2.2.2.1)))
 else some (.go false)))
 (fun s=>J_z s)
 else joinK ((bif (a1 != (-2000000)) then
 some (.go (decide (a1>a0.2.2.2.2.1)))
 else some (.go false)))
 (fun s=>J_10 s))))) (F_25 a0 a1):=callL_le (tt:=tt) (FT:=FT) (SP:=SP) (j:=90) rfl (by kernel_rfl)
@[simp] noncomputable def J_24 (v2:Int) (f0:Yt26→Option (Ex Yt11 Int)) (v4:Int):Option (Ex Yt11 Int):=
 f0 (v4,(IntKind.i64.wrap (v2+1)))
noncomputable def L_12 (a0:List Yt11) (f0:Yt26→Option (Ex Yt11 Int)) (v1:Int) (v2:Int):Option (Ex Yt11 Int):=
 (bif (decide (v2<(a0.length:Int))) then
 joinK ((ix a0 v2).bind (fun z3=>(bif (decide ((IntKind.i64.wrap (v1+(z3.length:Int)))<0)) then
 none
 else some (.go (IntKind.i64.wrap (v1+(z3.length:Int)))))))
 (fun s=>J_24 v2 f0 s)
 else some (.go v1))
noncomputable def L_13 (a0:List Yt11) (f1:Yt45→Option Yt33) (v7:List Int) (v8:Int):Option Yt33:=
 (bif (decide (v8<(a0.length:Int))) then
 (ix a0 v8).bind (fun z9=>(apx v7 z9).bind (fun z10=>f1 (z10,(IntKind.i64.wrap (v8+1)))))
 else some (.go v7))
@[simp] noncomputable def J_5a (v11:List Int):Option Yt11:=
 some v11
@[simp] noncomputable def J_23 (a0:List Yt11) (v5:Int):Option Yt11:=
 (F_2z v5).bind (fun y6=>joinK (loopF (fun f s=>L_13 a0 f s.1 s.2) (y6,0))
 (fun s=>J_5a s))
theorem U_1p (a0:List Yt11):Le (joinK (loopF (fun f s=>L_12 a0 f s.1 s.2) (0,0))
 (fun s=>J_23 a0 s)) (F_2s a0):=callL_le (tt:=tt) (FT:=FT) (SP:=SP) (j:=91) rfl (by kernel_rfl)
theorem U_1x (a1:Int):Le ((bif (decide (a1<0)) then
 none
 else(bif (decide ((IntKind.i64.wrap (a1-(IntKind.i64.wrap (0-0))))>0)) then
 (mkx (IntKind.i64.wrap (a1-(IntKind.i64.wrap (0-0)))) (0:Int)).bind (fun z1=>(tkx z1 0).bind (fun z2=>some z2))
 else some ([])))) (F_2z a1):=callL_le (tt:=tt) (FT:=FT) (SP:=SP) (j:=92) rfl (by kernel_rfl)
@[simp] noncomputable def J_22 (v2:Int) (f0:Yt26→Option (Ex Yt9 Int)) (v4:Int):Option (Ex Yt9 Int):=
 f0 (v4,(IntKind.i64.wrap (v2+1)))
noncomputable def L_10 (a0:List Yt9) (f0:Yt26→Option (Ex Yt9 Int)) (v1:Int) (v2:Int):Option (Ex Yt9 Int):=
 (bif (decide (v2<(a0.length:Int))) then
 joinK ((ix a0 v2).bind (fun z3=>(bif (decide ((IntKind.i64.wrap (v1+(z3.length:Int)))<0)) then
 none
 else some (.go (IntKind.i64.wrap (v1+(z3.length:Int)))))))
 (fun s=>J_22 v2 f0 s)
 else some (.go v1))
noncomputable def L_11 (a0:List Yt9) (f1:Yt21→Option Yt31) (v7:List Yt11) (v8:Int):Option Yt31:=
 (bif (decide (v8<(a0.length:Int))) then
 (ix a0 v8).bind (fun z9=>(apx v7 z9).bind (fun z10=>f1 (z10,(IntKind.i64.wrap (v8+1)))))
 else some (.go v7))
@[simp] noncomputable def J_59 (v11:List Yt11):Option Yt9:=
 some v11
@[simp] noncomputable def J_21 (a0:List Yt9) (v5:Int):Option Yt9:=
 (F_2y v5).bind (fun y6=>joinK (loopF (fun f s=>L_11 a0 f s.1 s.2) (y6,0))
 (fun s=>J_59 s))
theorem U_1o (a0:List Yt9):Le (joinK (loopF (fun f s=>L_10 a0 f s.1 s.2) (0,0))
 (fun s=>J_21 a0 s)) (F_2r a0):=callL_le (tt:=tt) (FT:=FT) (SP:=SP) (j:=93) rfl (by kernel_rfl)
theorem U_1w (a1:Int):Le ((bif (decide (a1<0)) then
 none
 else(bif (decide ((IntKind.i64.wrap (a1-(IntKind.i64.wrap (0-0))))>0)) then
 (mkx (IntKind.i64.wrap (a1-(IntKind.i64.wrap (0-0)))) ([]:List Int)).bind (fun z1=>(tkx z1 0).bind (fun z2=>some z2))
 else some ([])))) (F_2y a1):=callL_le (tt:=tt) (FT:=FT) (SP:=SP) (j:=94) rfl (by kernel_rfl)
theorem U_1m (a0:List Yt11):Le ((nilx a0.isEmpty
 (some ([]))
 ((apx ([]) a0).bind (fun z1=>some z1)))) (F_2p a0):=callL_le (tt:=tt) (FT:=FT) (SP:=SP) (j:=95) rfl (by kernel_rfl)
theorem U_25 (a0:List Yt11) (a1x0x0:Int) (a1x0x1:ByteArray) (a1x0x2:Int) (a1x0x3:Int) (a1x0x4:Int) (a1x0x5:Bool) (a1x0x6:List Int):Le ((F_38 a0 (a0.length:Int) a1x0x0 a1x0x1 a1x0x2 a1x0x3 a1x0x4 a1x0x5 a1x0x6).bind (fun y1=>some (y1.1,y1.2.1,y1.2.2.1,y1.2.2.2.1,y1.2.2.2.2.1,y1.2.2.2.2.2.1,y1.2.2.2.2.2.2.1,y1.2.2.2.2.2.2.2))) (F_36 a0 a1x0x0 a1x0x1 a1x0x2 a1x0x3 a1x0x4 a1x0x5 a1x0x6):=callL_le (tt:=tt) (FT:=FT) (SP:=SP) (j:=96) rfl (by kernel_rfl)
noncomputable def L_2m (a1:Int) (f0:Yt39→Option (Ex Yt10 Yt14)) (v1:Int) (v2:Int) (v3:List Yt11) (v4:Int) (v5:ByteArray) (v6:Int) (v7:Int) (v8:Int) (v9:Bool) (v10:List Int):Option (Ex Yt10 Yt14):=
 (bif (decide (v2≤a1)) then
 (F_1k v3 v1 v2 v4 v5 v6 v7 v8 v9 v10).bind (fun y11=>f0 (v2,(IntKind.i64.wrap (v2+20)),y11.1,y11.2.1,y11.2.2.1,y11.2.2.2.1,y11.2.2.2.2.1,y11.2.2.2.2.2.1,y11.2.2.2.2.2.2.1,y11.2.2.2.2.2.2.2))
 else some (.go (v1,v3,v4,v5,v6,v7,v8,v9,v10)))
noncomputable def L_2o (a1:Int) (v22:Int) (f2:Yt39→Option (Ex Yt10 Yt14)) (v31:Int) (v32:Int) (v33:List Yt11) (v34:Int) (v35:ByteArray) (v36:Int) (v37:Int) (v38:Int) (v39:Bool) (v40:List Int):Option (Ex Yt10 Yt14):=
 (bif (decide (v32≤a1)) then
 (F_m v33 v31 (IntKind.i64.wrap (v31+v22)) v32 v34 v35 v36 v37 v38 v39 v40).bind (fun y41=>f2 (v32,(IntKind.i64.wrap (v32+(IntKind.i64.wrap (2*v22)))),y41.1,y41.2.1,y41.2.2.1,y41.2.2.2.1,y41.2.2.2.2.1,y41.2.2.2.2.2.1,y41.2.2.2.2.2.2.1,y41.2.2.2.2.2.2.2))
 else some (.go (v31,v33,v34,v35,v36,v37,v38,v39,v40)))
@[simp] noncomputable def J_e (v22:Int) (f1:Yt14→Option Yt10) (v52:List Yt11) (v53:Int) (v54:ByteArray) (v55:Int) (v56:Int) (v57:Int) (v58:Bool) (v59:List Int):Option Yt10:=
 f1 ((IntKind.i64.wrap (v22*2)),v52,v53,v54,v55,v56,v57,v58,v59)
@[simp] noncomputable def J_2a (a1:Int) (v22:Int) (f1:Yt14→Option Yt10) (v42:Int) (v43:List Yt11) (v44:Int) (v45:ByteArray) (v46:Int) (v47:Int) (v48:Int) (v49:Bool) (v50:List Int):Option Yt10:=
 joinK ((bif (decide ((IntKind.i64.wrap (v42+v22))<a1)) then
 (F_m v43 v42 (IntKind.i64.wrap (v42+v22)) a1 v44 v45 v46 v47 v48 v49 v50).bind (fun y51=>some (.go (y51.1,y51.2.1,y51.2.2.1,y51.2.2.2.1,y51.2.2.2.2.1,y51.2.2.2.2.2.1,y51.2.2.2.2.2.2.1,y51.2.2.2.2.2.2.2)))
 else some (.go (v43,v44,v45,v46,v47,v48,v49,v50))))
 (fun s=>J_e v22 f1 s.1 s.2.1 s.2.2.1 s.2.2.2.1 s.2.2.2.2.1 s.2.2.2.2.2.1 s.2.2.2.2.2.2.1 s.2.2.2.2.2.2.2)
noncomputable def L_2n (a1:Int) (f1:Yt14→Option Yt10) (v22:Int) (v23:List Yt11) (v24:Int) (v25:ByteArray) (v26:Int) (v27:Int) (v28:Int) (v29:Bool) (v30:List Int):Option Yt10:=
 (bif (decide (v22<a1)) then
 joinK (loopF (fun f s=>L_2o a1 v22 f s.1 s.2.1 s.2.2.1 s.2.2.2.1 s.2.2.2.2.1 s.2.2.2.2.2.1 s.2.2.2.2.2.2.1 s.2.2.2.2.2.2.2.1 s.2.2.2.2.2.2.2.2.1 s.2.2.2.2.2.2.2.2.2) (0,(IntKind.i64.wrap (2*v22)),v23,v24,v25,v26,v27,v28,v29,v30))
 (fun s=>J_2a a1 v22 f1 s.1 s.2.1 s.2.2.1 s.2.2.2.1 s.2.2.2.2.1 s.2.2.2.2.2.1 s.2.2.2.2.2.2.1 s.2.2.2.2.2.2.2.1 s.2.2.2.2.2.2.2.2)
 else some (v23,v24,v25,v26,v27,v28,v29,v30))
@[simp] noncomputable def J_29 (a1:Int) (v12:Int) (v13:List Yt11) (v14:Int) (v15:ByteArray) (v16:Int) (v17:Int) (v18:Int) (v19:Bool) (v20:List Int):Option Yt10:=
 (F_1k v13 v12 a1 v14 v15 v16 v17 v18 v19 v20).bind (fun y21=>loopF (fun f s=>L_2n a1 f s.1 s.2.1 s.2.2.1 s.2.2.2.1 s.2.2.2.2.1 s.2.2.2.2.2.1 s.2.2.2.2.2.2.1 s.2.2.2.2.2.2.2.1 s.2.2.2.2.2.2.2.2) (20,y21.1,y21.2.1,y21.2.2.1,y21.2.2.2.1,y21.2.2.2.2.1,y21.2.2.2.2.2.1,y21.2.2.2.2.2.2.1,y21.2.2.2.2.2.2.2))
theorem U_28 (a0:List Yt11) (a1:Int) (a2x0x0:Int) (a2x0x1:ByteArray) (a2x0x2:Int) (a2x0x3:Int) (a2x0x4:Int) (a2x0x5:Bool) (a2x0x6:List Int):Le (joinK (loopF (fun f s=>L_2m a1 f s.1 s.2.1 s.2.2.1 s.2.2.2.1 s.2.2.2.2.1 s.2.2.2.2.2.1 s.2.2.2.2.2.2.1 s.2.2.2.2.2.2.2.1 s.2.2.2.2.2.2.2.2.1 s.2.2.2.2.2.2.2.2.2) (0,20,a0,a2x0x0,a2x0x1,a2x0x2,a2x0x3,a2x0x4,a2x0x5,a2x0x6))
 (fun s=>J_29 a1 s.1 s.2.1 s.2.2.1 s.2.2.2.1 s.2.2.2.2.1 s.2.2.2.2.2.1 s.2.2.2.2.2.2.1 s.2.2.2.2.2.2.2.1 s.2.2.2.2.2.2.2.2)) (F_38 a0 a1 a2x0x0 a2x0x1 a2x0x2 a2x0x3 a2x0x4 a2x0x5 a2x0x6):=callL_le (tt:=tt) (FT:=FT) (SP:=SP) (j:=97) rfl (by kernel_rfl)
@[simp] noncomputable def J_c (v10:Int) (v11:List Yt11) (f1:Yt14→Option Yt38) (v24:Bool) (v25:Int) (v26:ByteArray) (v27:Int) (v28:Int) (v29:Int) (v30:Bool) (v31:List Int):Option Yt38:=
 (bif v24 then
 (inx v11.length (IntKind.i64.wrap (v10-1))).bind (fun z32=>(ix v11 (IntKind.i64.wrap (v10-1))).bind (fun z33=>(inx v11.length v10).bind (fun z34=>(ix v11 v10).bind (fun z35=>(inx v11.length v10).bind (fun z36=>(stx v11 v10 z33).bind (fun z37=>(inx v11.length (IntKind.i64.wrap (v10-1))).bind (fun z38=>(stx z37 (IntKind.i64.wrap (v10-1)) z35).bind (fun z39=>f1 ((IntKind.i64.wrap (v10-1)),z39,v25,v26,v27,v28,v29,v30,v31)))))))))
 else some (.go (v11,v25,v26,v27,v28,v29,v30,v31)))
noncomputable def L_2k (a1:Int) (f1:Yt14→Option Yt38) (v10:Int) (v11:List Yt11) (v12:Int) (v13:ByteArray) (v14:Int) (v15:Int) (v16:Int) (v17:Bool) (v18:List Int):Option Yt38:=
 joinK ((bif (decide (v10>a1)) then
 (ix v11 v10).bind (fun z19=>(ix v11 v10).bind (fun z20=>(ix v11 (IntKind.i64.wrap (v10-1))).bind (fun z21=>(ix v11 (IntKind.i64.wrap (v10-1))).bind (fun z22=>(F_l z20 z22 v12 v13 v14 v15 v16 v17 v18).bind (fun y23=>some (.go ((decide (y23.1<0)),y23.2.1,y23.2.2.1,y23.2.2.2.1,y23.2.2.2.2.1,y23.2.2.2.2.2.1,y23.2.2.2.2.2.2.1,y23.2.2.2.2.2.2.2)))))))
 else some (.go (false,v12,v13,v14,v15,v16,v17,v18))))
 (fun s=>J_c v10 v11 f1 s.1 s.2.1 s.2.2.1 s.2.2.2.1 s.2.2.2.2.1 s.2.2.2.2.2.1 s.2.2.2.2.2.2.1 s.2.2.2.2.2.2.2)
@[simp] noncomputable def J_28 (v1:Int) (f0:Yt14→Option Yt10) (v40:List Yt11) (v41:Int) (v42:ByteArray) (v43:Int) (v44:Int) (v45:Int) (v46:Bool) (v47:List Int):Option Yt10:=
 f0 ((IntKind.i64.wrap (v1+1)),v40,v41,v42,v43,v44,v45,v46,v47)
noncomputable def L_2j (a1:Int) (a2:Int) (f0:Yt14→Option Yt10) (v1:Int) (v2:List Yt11) (v3:Int) (v4:ByteArray) (v5:Int) (v6:Int) (v7:Int) (v8:Bool) (v9:List Int):Option Yt10:=
 (bif (decide (v1<a2)) then
 joinK (loopF (fun f s=>L_2k a1 f s.1 s.2.1 s.2.2.1 s.2.2.2.1 s.2.2.2.2.1 s.2.2.2.2.2.1 s.2.2.2.2.2.2.1 s.2.2.2.2.2.2.2.1 s.2.2.2.2.2.2.2.2) (v1,v2,v3,v4,v5,v6,v7,v8,v9))
 (fun s=>J_28 v1 f0 s.1 s.2.1 s.2.2.1 s.2.2.2.1 s.2.2.2.2.1 s.2.2.2.2.2.1 s.2.2.2.2.2.2.1 s.2.2.2.2.2.2.2)
 else some (v2,v3,v4,v5,v6,v7,v8,v9))
theorem U_26 (a0:List Yt11) (a1:Int) (a2:Int) (a3x0x0:Int) (a3x0x1:ByteArray) (a3x0x2:Int) (a3x0x3:Int) (a3x0x4:Int) (a3x0x5:Bool) (a3x0x6:List Int):Le (loopF (fun f s=>L_2j a1 a2 f s.1 s.2.1 s.2.2.1 s.2.2.2.1 s.2.2.2.2.1 s.2.2.2.2.2.1 s.2.2.2.2.2.2.1 s.2.2.2.2.2.2.2.1 s.2.2.2.2.2.2.2.2) ((IntKind.i64.wrap (a1+1)),a0,a3x0x0,a3x0x1,a3x0x2,a3x0x3,a3x0x4,a3x0x5,a3x0x6)) (F_1k a0 a1 a2 a3x0x0 a3x0x1 a3x0x2 a3x0x3 a3x0x4 a3x0x5 a3x0x6):=callL_le (tt:=tt) (FT:=FT) (SP:=SP) (j:=98) rfl (by kernel_rfl)
theorem U_15 (a0:List Int) (a1:List Int) (c0x0:Int) (c0x1:ByteArray) (c0x2:Int) (c0x3:Int) (c0x4:Int) (c0x5:Bool) (c0x6:List Int):Le ((ix a0 c0x2).bind (fun z1=>(ix a1 c0x2).bind (fun z2=>(F_1z z1 z2).bind (fun y3=>some (y3,c0x0,c0x1,c0x2,c0x3,c0x4,c0x5,c0x6))))) (F_l a0 a1 c0x0 c0x1 c0x2 c0x3 c0x4 c0x5 c0x6):=callL_le (tt:=tt) (FT:=FT) (SP:=SP) (j:=99) rfl (by kernel_rfl)
theorem U_9 (a0:Int) (a1:Int):Le ((F_14 a0).bind (fun y1=>(F_14 a1).bind (fun y2=>(bif y1 then
 (bif y2 then
 some 0
 else some (-1))
 else(bif y2 then
 some 1
 else(bif (decide (a0<a1)) then
 some (-1)
 else(bif (decide (a0>a1)) then
 some 1
 else some 0))))))) (F_1z a0 a1):=callL_le (tt:=tt) (FT:=FT) (SP:=SP) (j:=100) rfl (by kernel_rfl)
theorem U_a (a0:Int):Le (some (a0 != a0)) (F_14 a0):=callL_le (tt:=tt) (FT:=FT) (SP:=SP) (j:=101) rfl (by kernel_rfl)
noncomputable def L_c (a0:List Yt11) (a1:Int) (f0:Yt43→Option (Ex Yt38 Yt24)) (v1:Int) (v2:Int) (v3:Int) (v4:ByteArray) (v5:Int) (v6:Int) (v7:Int) (v8:Bool) (v9:List Int):Option (Ex Yt38 Yt24):=
 (bif (decide (v1<v2)) then
 (shrV .u64 (IntKind.u64.wrap (IntKind.i64.wrap (v1+v2))) 1).bind (fun z10=>(ix a0 (IntKind.i64.wrap z10)).bind (fun z11=>(ix a0 (IntKind.i64.wrap z10)).bind (fun z12=>(ix a0 a1).bind (fun z13=>(ix a0 a1).bind (fun z14=>(F_l z12 z14 v3 v4 v5 v6 v7 v8 v9).bind (fun y15=>(bif (decide (y15.1<0)) then
 f0 ((IntKind.i64.wrap ((IntKind.i64.wrap z10)+1)),v2,y15.2.1,y15.2.2.1,y15.2.2.2.1,y15.2.2.2.2.1,y15.2.2.2.2.2.1,y15.2.2.2.2.2.2.1,y15.2.2.2.2.2.2.2)
 else f0 (v1,(IntKind.i64.wrap z10),y15.2.1,y15.2.2.1,y15.2.2.2.1,y15.2.2.2.2.1,y15.2.2.2.2.2.1,y15.2.2.2.2.2.2.1,y15.2.2.2.2.2.2.2))))))))
 else some (.go (v1,v3,v4,v5,v6,v7,v8,v9)))
noncomputable def L_2p (v16:Int) (f1:(Int×Yt9)→Option (Ex Yt38 Yt9)) (v24:Int) (v25:List Yt11):Option (Ex Yt38 Yt9):=
 (bif (decide (v24<(IntKind.i64.wrap (v16-1)))) then
 (inx v25.length (IntKind.i64.wrap (v24+1))).bind (fun z26=>(ix v25 (IntKind.i64.wrap (v24+1))).bind (fun z27=>(inx v25.length v24).bind (fun z28=>(ix v25 v24).bind (fun z29=>(inx v25.length v24).bind (fun z30=>(stx v25 v24 z27).bind (fun z31=>(inx v25.length (IntKind.i64.wrap (v24+1))).bind (fun z32=>(stx z31 (IntKind.i64.wrap (v24+1)) z29).bind (fun z33=>f1 ((IntKind.i64.wrap (v24+1)),z33)))))))))
 else some (.go v25))
@[simp] noncomputable def J_2f (v17:Int) (v18:ByteArray) (v19:Int) (v20:Int) (v21:Int) (v22:Bool) (v23:List Int) (v34:List Yt11):Option Yt38:=
 some (.ret (v34,v17,v18,v19,v20,v21,v22,v23))
@[simp] noncomputable def J_2c (a0:List Yt11) (a1:Int) (v16:Int) (v17:Int) (v18:ByteArray) (v19:Int) (v20:Int) (v21:Int) (v22:Bool) (v23:List Int):Option Yt38:=
 joinK (loopF (fun f s=>L_2p v16 f s.1 s.2) (a1,a0))
 (fun s=>J_2f v17 v18 v19 v20 v21 v22 v23 s)
noncomputable def L_d (a2:Int) (v35:List Yt11) (f2:Yt43→Option (Ex Yt38 Yt24)) (v43:Int) (v44:Int) (v45:Int) (v46:ByteArray) (v47:Int) (v48:Int) (v49:Int) (v50:Bool) (v51:List Int):Option (Ex Yt38 Yt24):=
 (bif (decide (v43<v44)) then
 (shrV .u64 (IntKind.u64.wrap (IntKind.i64.wrap (v43+v44))) 1).bind (fun z52=>(ix v35 a2).bind (fun z53=>(ix v35 a2).bind (fun z54=>(ix v35 (IntKind.i64.wrap z52)).bind (fun z55=>(ix v35 (IntKind.i64.wrap z52)).bind (fun z56=>(F_l z54 z56 v45 v46 v47 v48 v49 v50 v51).bind (fun y57=>(bif (!(decide (y57.1<0))) then
 f2 ((IntKind.i64.wrap ((IntKind.i64.wrap z52)+1)),v44,y57.2.1,y57.2.2.1,y57.2.2.2.1,y57.2.2.2.2.1,y57.2.2.2.2.2.1,y57.2.2.2.2.2.2.1,y57.2.2.2.2.2.2.2)
 else f2 (v43,(IntKind.i64.wrap z52),y57.2.1,y57.2.2.1,y57.2.2.2.1,y57.2.2.2.2.1,y57.2.2.2.2.2.1,y57.2.2.2.2.2.2.1,y57.2.2.2.2.2.2.2))))))))
 else some (.go (v43,v45,v46,v47,v48,v49,v50,v51)))
noncomputable def L_2q (v58:Int) (f3:(Int×Yt9)→Option (Ex Yt38 Yt9)) (v66:Int) (v67:List Yt11):Option (Ex Yt38 Yt9):=
 (bif (decide (v66>v58)) then
 (inx v67.length (IntKind.i64.wrap (v66-1))).bind (fun z68=>(ix v67 (IntKind.i64.wrap (v66-1))).bind (fun z69=>(inx v67.length v66).bind (fun z70=>(ix v67 v66).bind (fun z71=>(inx v67.length v66).bind (fun z72=>(stx v67 v66 z69).bind (fun z73=>(inx v67.length (IntKind.i64.wrap (v66-1))).bind (fun z74=>(stx z73 (IntKind.i64.wrap (v66-1)) z71).bind (fun z75=>f3 ((IntKind.i64.wrap (v66-1)),z75)))))))))
 else some (.go v67))
@[simp] noncomputable def J_2i (v59:Int) (v60:ByteArray) (v61:Int) (v62:Int) (v63:Int) (v64:Bool) (v65:List Int) (v76:List Yt11):Option Yt38:=
 some (.ret (v76,v59,v60,v61,v62,v63,v64,v65))
@[simp] noncomputable def J_2h (a2:Int) (v35:List Yt11) (v58:Int) (v59:Int) (v60:ByteArray) (v61:Int) (v62:Int) (v63:Int) (v64:Bool) (v65:List Int):Option Yt38:=
 joinK (loopF (fun f s=>L_2q v58 f s.1 s.2) (a2,v35))
 (fun s=>J_2i v59 v60 v61 v62 v63 v64 v65 s)
noncomputable def L_e (a2:Int) (v77:List Yt11) (z85:Int) (f4:Yt43→Option (Ex Yt10 Yt24)) (v88:Int) (v89:Int) (v90:Int) (v91:ByteArray) (v92:Int) (v93:Int) (v94:Int) (v95:Bool) (v96:List Int):Option (Ex Yt10 Yt24):=
 (bif (decide (v88<v89)) then
 (shrV .u64 (IntKind.u64.wrap (IntKind.i64.wrap (v88+v89))) 1).bind (fun z97=>(ix v77 (IntKind.i64.wrap ((IntKind.i64.wrap ((IntKind.i64.wrap ((IntKind.i64.wrap z85)+a2))-1))-(IntKind.i64.wrap z97)))).bind (fun z98=>(ix v77 (IntKind.i64.wrap ((IntKind.i64.wrap ((IntKind.i64.wrap ((IntKind.i64.wrap z85)+a2))-1))-(IntKind.i64.wrap z97)))).bind (fun z99=>(ix v77 (IntKind.i64.wrap z97)).bind (fun z100=>(ix v77 (IntKind.i64.wrap z97)).bind (fun z101=>(F_l z99 z101 v90 v91 v92 v93 v94 v95 v96).bind (fun y102=>(bif (!(decide (y102.1<0))) then
 f4 ((IntKind.i64.wrap ((IntKind.i64.wrap z97)+1)),v89,y102.2.1,y102.2.2.1,y102.2.2.2.1,y102.2.2.2.2.1,y102.2.2.2.2.2.1,y102.2.2.2.2.2.2.1,y102.2.2.2.2.2.2.2)
 else f4 (v88,(IntKind.i64.wrap z97),y102.2.1,y102.2.2.1,y102.2.2.2.1,y102.2.2.2.2.1,y102.2.2.2.2.2.1,y102.2.2.2.2.2.2.1,y102.2.2.2.2.2.2.2))))))))
 else some (.go (v88,v90,v91,v92,v93,v94,v95,v96)))
@[simp] noncomputable def J_g (a2:Int) (v77:List Yt11) (z85:Int) (v103:Int) (v104:Int) (v105:ByteArray) (v106:Int) (v107:Int) (v108:Int) (v109:Bool) (v110:List Int) (v111:Bool):Option Yt38:=
 (bif v111 then
 (F_37 v77 v103 a2 (IntKind.i64.wrap ((IntKind.i64.wrap ((IntKind.i64.wrap z85)+a2))-v103)) v104 v105 v106 v107 v108 v109 v110).bind (fun y112=>some (.go (y112.1,y112.2.1,y112.2.2.1,y112.2.2.2.1,y112.2.2.2.2.1,y112.2.2.2.2.2.1,y112.2.2.2.2.2.2.1,y112.2.2.2.2.2.2.2)))
 else some (.go (v77,v104,v105,v106,v107,v108,v109,v110)))
@[simp] noncomputable def J_f (a1:Int) (z85:Int) (v103:Int) (v113:List Yt11) (v114:Int) (v115:ByteArray) (v116:Int) (v117:Int) (v118:Int) (v119:Bool) (v120:List Int) (v121:Bool):Option Yt38:=
 (bif v121 then
 (F_m v113 a1 v103 (IntKind.i64.wrap z85) v114 v115 v116 v117 v118 v119 v120).bind (fun y122=>some (.go (y122.1,y122.2.1,y122.2.2.1,y122.2.2.2.1,y122.2.2.2.2.1,y122.2.2.2.2.2.1,y122.2.2.2.2.2.2.1,y122.2.2.2.2.2.2.2)))
 else some (.go (v113,v114,v115,v116,v117,v118,v119,v120)))
@[simp] noncomputable def J_2e (a2:Int) (a3:Int) (z85:Int) (v103:Int) (v123:List Yt11) (v124:Int) (v125:ByteArray) (v126:Int) (v127:Int) (v128:Int) (v129:Bool) (v130:List Int) (v131:Bool):Option Yt10:=
 (bif v131 then
 (F_m v123 (IntKind.i64.wrap z85) (IntKind.i64.wrap ((IntKind.i64.wrap ((IntKind.i64.wrap z85)+a2))-v103)) a3 v124 v125 v126 v127 v128 v129 v130).bind (fun y132=>some (y132.1,y132.2.1,y132.2.2.1,y132.2.2.2.1,y132.2.2.2.2.1,y132.2.2.2.2.2.1,y132.2.2.2.2.2.2.1,y132.2.2.2.2.2.2.2))
 else some (v123,v124,v125,v126,v127,v128,v129,v130))
@[simp] noncomputable def J_2d (a2:Int) (a3:Int) (z85:Int) (v103:Int) (v123:List Yt11) (v124:Int) (v125:ByteArray) (v126:Int) (v127:Int) (v128:Int) (v129:Bool) (v130:List Int):Option Yt10:=
 joinK ((bif (decide ((IntKind.i64.wrap z85)<(IntKind.i64.wrap ((IntKind.i64.wrap ((IntKind.i64.wrap z85)+a2))-v103)))) then
 some (.go (decide ((IntKind.i64.wrap ((IntKind.i64.wrap ((IntKind.i64.wrap z85)+a2))-v103))<a3)))
 else some (.go false)))
 (fun s=>J_2e a2 a3 z85 v103 v123 v124 v125 v126 v127 v128 v129 v130 s)
@[simp] noncomputable def J_2l (a1:Int) (a2:Int) (a3:Int) (z85:Int) (v103:Int) (v113:List Yt11) (v114:Int) (v115:ByteArray) (v116:Int) (v117:Int) (v118:Int) (v119:Bool) (v120:List Int):Option Yt10:=
 joinK (joinK ((bif (decide (a1<v103)) then
 some (.go (decide (v103<(IntKind.i64.wrap z85))))
 else some (.go false)))
 (fun s=>J_f a1 z85 v103 v113 v114 v115 v116 v117 v118 v119 v120 s))
 (fun s=>J_2d a2 a3 z85 v103 s.1 s.2.1 s.2.2.1 s.2.2.2.1 s.2.2.2.2.1 s.2.2.2.2.2.1 s.2.2.2.2.2.2.1 s.2.2.2.2.2.2.2)
@[simp] noncomputable def J_2k (a1:Int) (a2:Int) (a3:Int) (v77:List Yt11) (z85:Int) (v103:Int) (v104:Int) (v105:ByteArray) (v106:Int) (v107:Int) (v108:Int) (v109:Bool) (v110:List Int):Option Yt10:=
 joinK (joinK ((bif (decide (v103<a2)) then
 some (.go (decide (a2<(IntKind.i64.wrap ((IntKind.i64.wrap ((IntKind.i64.wrap z85)+a2))-v103)))))
 else some (.go false)))
 (fun s=>J_g a2 v77 z85 v103 v104 v105 v106 v107 v108 v109 v110 s))
 (fun s=>J_2l a1 a2 a3 z85 v103 s.1 s.2.1 s.2.2.1 s.2.2.2.1 s.2.2.2.2.1 s.2.2.2.2.2.1 s.2.2.2.2.2.2.1 s.2.2.2.2.2.2.2)
@[simp] noncomputable def J_2j (a1:Int) (a2:Int) (a3:Int) (v77:List Yt11) (v78:Int) (v79:ByteArray) (v80:Int) (v81:Int) (v82:Int) (v83:Bool) (v84:List Int) (z85:Int) (v86:Int) (v87:Int):Option Yt10:=
 joinK (loopF (fun f s=>L_e a2 v77 z85 f s.1 s.2.1 s.2.2.1 s.2.2.2.1 s.2.2.2.2.1 s.2.2.2.2.2.1 s.2.2.2.2.2.2.1 s.2.2.2.2.2.2.2.1 s.2.2.2.2.2.2.2.2) (v86,v87,v78,v79,v80,v81,v82,v83,v84))
 (fun s=>J_2k a1 a2 a3 v77 z85 s.1 s.2.1 s.2.2.1 s.2.2.2.1 s.2.2.2.2.1 s.2.2.2.2.2.1 s.2.2.2.2.2.2.1 s.2.2.2.2.2.2.2)
@[simp] noncomputable def J_2g (a1:Int) (a2:Int) (a3:Int) (v77:List Yt11) (v78:Int) (v79:ByteArray) (v80:Int) (v81:Int) (v82:Int) (v83:Bool) (v84:List Int):Option Yt10:=
 (shrV .u64 (IntKind.u64.wrap (IntKind.i64.wrap (a1+a3))) 1).bind (fun z85=>joinK ((bif (decide (a2>(IntKind.i64.wrap z85))) then
 some (.go ((IntKind.i64.wrap ((IntKind.i64.wrap ((IntKind.i64.wrap z85)+a2))-a3)),(IntKind.i64.wrap z85)))
 else some (.go (a1,a2))))
 (fun s=>J_2j a1 a2 a3 v77 v78 v79 v80 v81 v82 v83 v84 z85 s.1 s.2))
@[simp] noncomputable def J_2b (a1:Int) (a2:Int) (a3:Int) (v35:List Yt11) (v36:Int) (v37:ByteArray) (v38:Int) (v39:Int) (v40:Int) (v41:Bool) (v42:List Int):Option Yt10:=
 joinK ((bif ((IntKind.i64.wrap (a3-a2))==1) then
 joinK (loopF (fun f s=>L_d a2 v35 f s.1 s.2.1 s.2.2.1 s.2.2.2.1 s.2.2.2.2.1 s.2.2.2.2.2.1 s.2.2.2.2.2.2.1 s.2.2.2.2.2.2.2.1 s.2.2.2.2.2.2.2.2) (a1,a2,v36,v37,v38,v39,v40,v41,v42))
 (fun s=>J_2h a2 v35 s.1 s.2.1 s.2.2.1 s.2.2.2.1 s.2.2.2.2.1 s.2.2.2.2.2.1 s.2.2.2.2.2.2.1 s.2.2.2.2.2.2.2)
 else some (.go (v35,v36,v37,v38,v39,v40,v41,v42))))
 (fun s=>J_2g a1 a2 a3 s.1 s.2.1 s.2.2.1 s.2.2.2.1 s.2.2.2.2.1 s.2.2.2.2.2.1 s.2.2.2.2.2.2.1 s.2.2.2.2.2.2.2)
theorem U_2a (a0:List Yt11) (a1:Int) (a2:Int) (a3:Int) (a4x0x0:Int) (a4x0x1:ByteArray) (a4x0x2:Int) (a4x0x3:Int) (a4x0x4:Int) (a4x0x5:Bool) (a4x0x6:List Int):Le (joinK ((bif ((IntKind.i64.wrap (a2-a1))==1) then
 joinK (loopF (fun f s=>L_c a0 a1 f s.1 s.2.1 s.2.2.1 s.2.2.2.1 s.2.2.2.2.1 s.2.2.2.2.2.1 s.2.2.2.2.2.2.1 s.2.2.2.2.2.2.2.1 s.2.2.2.2.2.2.2.2) (a2,a3,a4x0x0,a4x0x1,a4x0x2,a4x0x3,a4x0x4,a4x0x5,a4x0x6))
 (fun s=>J_2c a0 a1 s.1 s.2.1 s.2.2.1 s.2.2.2.1 s.2.2.2.2.1 s.2.2.2.2.2.1 s.2.2.2.2.2.2.1 s.2.2.2.2.2.2.2)
 else some (.go (a0,a4x0x0,a4x0x1,a4x0x2,a4x0x3,a4x0x4,a4x0x5,a4x0x6))))
 (fun s=>J_2b a1 a2 a3 s.1 s.2.1 s.2.2.1 s.2.2.2.1 s.2.2.2.2.1 s.2.2.2.2.2.1 s.2.2.2.2.2.2.1 s.2.2.2.2.2.2.2)) (F_m a0 a1 a2 a3 a4x0x0 a4x0x1 a4x0x2 a4x0x3 a4x0x4 a4x0x5 a4x0x6):=callL_le (tt:=tt) (FT:=FT) (SP:=SP) (j:=102) rfl (by kernel_rfl)
noncomputable def L_2l (a2:Int) (f0:Yt39→Option (Ex Yt10 Yt14)) (v1:Int) (v2:Int) (v3:List Yt11) (v4:Int) (v5:ByteArray) (v6:Int) (v7:Int) (v8:Int) (v9:Bool) (v10:List Int):Option (Ex Yt10 Yt14):=
 (bif (v1 != v2) then
 (bif (decide (v1>v2)) then
 (F_x v3 (IntKind.i64.wrap (a2-v1)) a2 v2 v4 v5 v6 v7 v8 v9 v10).bind (fun y11=>f0 ((IntKind.i64.wrap (v1-v2)),v2,y11.1,y11.2.1,y11.2.2.1,y11.2.2.2.1,y11.2.2.2.2.1,y11.2.2.2.2.2.1,y11.2.2.2.2.2.2.1,y11.2.2.2.2.2.2.2))
 else(F_x v3 (IntKind.i64.wrap (a2-v1)) (IntKind.i64.wrap ((IntKind.i64.wrap (a2+v2))-v1)) v1 v4 v5 v6 v7 v8 v9 v10).bind (fun y12=>f0 (v1,(IntKind.i64.wrap (v2-v1)),y12.1,y12.2.1,y12.2.2.1,y12.2.2.2.1,y12.2.2.2.2.1,y12.2.2.2.2.2.1,y12.2.2.2.2.2.2.1,y12.2.2.2.2.2.2.2)))
 else some (.go (v1,v3,v4,v5,v6,v7,v8,v9,v10)))
@[simp] noncomputable def J_d (a2:Int) (v13:Int) (v14:List Yt11) (v15:Int) (v16:ByteArray) (v17:Int) (v18:Int) (v19:Int) (v20:Bool) (v21:List Int):Option Yt10:=
 (F_x v14 (IntKind.i64.wrap (a2-v13)) a2 v13 v15 v16 v17 v18 v19 v20 v21).bind (fun y22=>some (y22.1,y22.2.1,y22.2.2.1,y22.2.2.2.1,y22.2.2.2.2.1,y22.2.2.2.2.2.1,y22.2.2.2.2.2.2.1,y22.2.2.2.2.2.2.2))
theorem U_27 (a0:List Yt11) (a1:Int) (a2:Int) (a3:Int) (a4x0x0:Int) (a4x0x1:ByteArray) (a4x0x2:Int) (a4x0x3:Int) (a4x0x4:Int) (a4x0x5:Bool) (a4x0x6:List Int):Le (joinK (loopF (fun f s=>L_2l a2 f s.1 s.2.1 s.2.2.1 s.2.2.2.1 s.2.2.2.2.1 s.2.2.2.2.2.1 s.2.2.2.2.2.2.1 s.2.2.2.2.2.2.2.1 s.2.2.2.2.2.2.2.2.1 s.2.2.2.2.2.2.2.2.2) ((IntKind.i64.wrap (a2-a1)),(IntKind.i64.wrap (a3-a2)),a0,a4x0x0,a4x0x1,a4x0x2,a4x0x3,a4x0x4,a4x0x5,a4x0x6))
 (fun s=>J_d a2 s.1 s.2.1 s.2.2.1 s.2.2.2.1 s.2.2.2.2.1 s.2.2.2.2.2.1 s.2.2.2.2.2.2.1 s.2.2.2.2.2.2.2.1 s.2.2.2.2.2.2.2.2)) (F_37 a0 a1 a2 a3 a4x0x0 a4x0x1 a4x0x2 a4x0x3 a4x0x4 a4x0x5 a4x0x6):=callL_le (tt:=tt) (FT:=FT) (SP:=SP) (j:=103) rfl (by kernel_rfl)
noncomputable def L_2x (a1:Int) (a2:Int) (a3:Int) (a4x0x0:Int) (a4x0x1:ByteArray) (a4x0x2:Int) (a4x0x3:Int) (a4x0x4:Int) (a4x0x5:Bool) (a4x0x6:List Int) (f0:(Int×Yt9)→Option Yt10) (v1:Int) (v2:List Yt11):Option Yt10:=
 (bif (decide (v1<a3)) then
 (inx v2.length (IntKind.i64.wrap (a2+v1))).bind (fun z3=>(ix v2 (IntKind.i64.wrap (a2+v1))).bind (fun z4=>(inx v2.length (IntKind.i64.wrap (a1+v1))).bind (fun z5=>(ix v2 (IntKind.i64.wrap (a1+v1))).bind (fun z6=>(inx v2.length (IntKind.i64.wrap (a1+v1))).bind (fun z7=>(stx v2 (IntKind.i64.wrap (a1+v1)) z4).bind (fun z8=>(inx v2.length (IntKind.i64.wrap (a2+v1))).bind (fun z9=>(stx z8 (IntKind.i64.wrap (a2+v1)) z6).bind (fun z10=>f0 ((IntKind.i64.wrap (v1+1)),z10)))))))))
 else some (v2,a4x0x0,a4x0x1,a4x0x2,a4x0x3,a4x0x4,a4x0x5,a4x0x6))
theorem U_29 (a0:List Yt11) (a1:Int) (a2:Int) (a3:Int) (a4x0x0:Int) (a4x0x1:ByteArray) (a4x0x2:Int) (a4x0x3:Int) (a4x0x4:Int) (a4x0x5:Bool) (a4x0x6:List Int):Le (loopF (fun f s=>L_2x a1 a2 a3 a4x0x0 a4x0x1 a4x0x2 a4x0x3 a4x0x4 a4x0x5 a4x0x6 f s.1 s.2) (0,a0)) (F_x a0 a1 a2 a3 a4x0x0 a4x0x1 a4x0x2 a4x0x3 a4x0x4 a4x0x5 a4x0x6):=callL_le (tt:=tt) (FT:=FT) (SP:=SP) (j:=104) rfl (by kernel_rfl)
@[simp] noncomputable def J_q (v2:Int) (f0:Yt26→Option Yt23) (v5:Int):Option Yt23:=
 f0 (v5,(IntKind.i64.wrap (v2+1)))
noncomputable def L_k (a0:List Yt11) (a1:List Int) (f0:Yt26→Option Yt23) (v1:Int) (v2:Int):Option Yt23:=
 (bif (decide (v2<(a0.length:Int))) then
 joinK ((ix a0 v2).bind (fun z3=>(F_w z3 a1).bind (fun y4=>(bif y4 then
 some (.go (IntKind.i64.wrap (v1+1)))
 else some (.go v1)))))
 (fun s=>J_q v2 f0 s)
 else some (.go v1))
@[simp] noncomputable def J_p (v6:Int):Option Int:=
 some v6
theorem U_d (a0:List Yt11) (a1:List Int):Le (joinK (loopF (fun f s=>L_k a0 a1 f s.1 s.2) (0,0))
 (fun s=>J_p s)) (F_20 a0 a1):=callL_le (tt:=tt) (FT:=FT) (SP:=SP) (j:=105) rfl (by kernel_rfl)
noncomputable def L_z (a0:List Yt11) (f0:Yt21→Option Yt31) (v1:List Yt11) (v2:Int):Option Yt31:=
 (bif (decide (v2<(a0.length:Int))) then
 (ix a0 v2).bind (fun z3=>(F_2q z3).bind (fun y4=>(apx v1 ([y4])).bind (fun z5=>f0 (z5,(IntKind.i64.wrap (v2+1))))))
 else some (.go v1))
@[simp] noncomputable def J_1w (v6:List Yt11):Option Yt9:=
 some v6
theorem U_1e (a0:List Yt11):Le (joinK (loopF (fun f s=>L_z a0 f s.1 s.2) ([],0))
 (fun s=>J_1w s)) (F_1f a0):=callL_le (tt:=tt) (FT:=FT) (SP:=SP) (j:=106) rfl (by kernel_rfl)
theorem U_1n (a0:List Int):Le ((nilx a0.isEmpty
 (some ([]))
 ((apx ([]) a0).bind (fun z1=>some z1)))) (F_2q a0):=callL_le (tt:=tt) (FT:=FT) (SP:=SP) (j:=107) rfl (by kernel_rfl)
theorem U_s (a0:List Yt11) (a1:List Yt11):Le ((F_2x a0 a1).bind (fun y1=>some y1)) (F_19 a0 a1):=callL_le (tt:=tt) (FT:=FT) (SP:=SP) (j:=108) rfl (by kernel_rfl)
noncomputable def L_14 (a0:List Yt11) (a1:List Yt11) (f0:Yt29→Option Yt16) (v1:Bool) (v2:Int):Option Yt16:=
 (bif (decide (v2<(a0.length:Int))) then
 (ix a0 v2).bind (fun z3=>(ix a1 v2).bind (fun z4=>(F_w z3 z4).bind (fun y5=>(bif (!y5) then
 some (.ret false)
 else f0 (v1,(IntKind.i64.wrap (v2+1)))))))
 else some (.go v1))
@[simp] noncomputable def J_25 (v6:Bool):Option Bool:=
 some true
theorem U_1u (a0:List Yt11) (a1:List Yt11):Le ((bif ((a0.length:Int) != (a1.length:Int)) then
 some false
 else joinK (loopF (fun f s=>L_14 a0 a1 f s.1 s.2) (false,0))
 (fun s=>J_25 s))) (F_2x a0 a1):=callL_le (tt:=tt) (FT:=FT) (SP:=SP) (j:=109) rfl (by kernel_rfl)
theorem U_e (a0:List STable) (a1:List SNode) (a2:List SNode) (a3:Int):Le ((F_2e a0 a1 a2 a3).bind (fun y1=>some y1)) (F_21 a0 a1 a2 a3):=callL_le (tt:=tt) (FT:=FT) (SP:=SP) (j:=110) rfl (by kernel_rfl)
@[simp] noncomputable def J_1l (v2:Int) (v3:Int) (f0:Yt26→Option Yt23) (v8:Bool):Option Yt23:=
 (bif v8 then
 some (.ret v3)
 else f0 (v2,(IntKind.i64.wrap (v3+1))))
noncomputable def L_v (a0:List STable) (a1:List SNode) (a2:List SNode) (a3:Int) (f0:Yt26→Option Yt23) (v2:Int) (v3:Int):Option Yt23:=
 (bif (decide (v3<a3)) then
 (F_d a0 v3).bind (fun y4=>(F_7 a0 y4 a1).bind (fun y5=>(F_7 a0 y4 a2).bind (fun y6=>joinK ((bif (y5.2==0) then
 (bif (y6.2==0) then
 (F_29 y5.1 y6.1).bind (fun y7=>some (.go (!y7)))
 else some (.go false))
 else some (.go false)))
 (fun s=>J_1l v2 v3 f0 s))))
 else some (.go v2))
@[simp] noncomputable def J_1k (v9:Int):Option Int:=
 some (-1)
theorem U_13 (a0:List STable) (a1:List SNode) (a2:List SNode) (a3:Int):Le ((F_3 a3 0 50).bind (fun y1=>(bif (!y1) then
 some (-1)
 else joinK (loopF (fun f s=>L_v a0 a1 a2 a3 f s.1 s.2) (0,0))
 (fun s=>J_1k s)))) (F_2e a0 a1 a2 a3):=callL_le (tt:=tt) (FT:=FT) (SP:=SP) (j:=111) rfl (by kernel_rfl)
@[simp] noncomputable def J_14 (v4:Bool):Option Bool:=
 some v4
theorem U_r (a0:List Yt11) (a1:List Yt11):Le (joinK ((bif (decide ((a0.length:Int)≤200)) then
 (bif (decide ((a1.length:Int)≤200)) then
 (F_1a a0).bind (fun y1=>(F_1a a1).bind (fun y2=>(F_19 y1 y2).bind (fun y3=>some (.go y3))))
 else some (.go false))
 else some (.go false)))
 (fun s=>J_14 s)) (F_29 a0 a1):=callL_le (tt:=tt) (FT:=FT) (SP:=SP) (j:=112) rfl (by kernel_rfl)
theorem U_u (a0:List Yt11):Le ((bif (decide ((a0.length:Int)>200)) then
 some ([])
 else(F_1f a0).bind (fun y1=>(F_35 y1).bind (fun y2=>some y2)))) (F_1a a0):=callL_le (tt:=tt) (FT:=FT) (SP:=SP) (j:=113) rfl (by kernel_rfl)
theorem U_24 (a0:List Yt11):Le (sortRF a0) (F_35 a0):=callL_sp (tt:=tt) (FT:=FT) (SP:=SP) (j:=114) (v:=(show InVals (FT 114) from((a0,(()),()),(())))) (f:=fun v=>sortRF v.1.1) rfl
theorem U_2h (a0:List STable) (a1:List SNode) (a2:List SNode) (a3:Int):Le ((F_13 a0 a1 a2 a3 false).bind (fun y1=>some y1)) (F_3d a0 a1 a2 a3):=callL_le (tt:=tt) (FT:=FT) (SP:=SP) (j:=115) rfl (by kernel_rfl)
@[simp] noncomputable def J_o (v2:Int) (v3:Int) (v11:Bool):Option (Ex Yt23 Int):=
 (bif v11 then
 some (.ret (.ret v3))
 else some (.go v2))
@[simp] noncomputable def J_n (a4:Bool) (v2:Int) (v3:Int) (y5:Yt21) (y6:Yt21) (v7:Bool):Option (Ex Yt23 Int):=
 (bif v7 then
 some (.go v2)
 else joinK ((bif a4 then
 (F_3m y5.1 y6.1).bind (fun y8=>(bif (!y8) then
 some (.go true)
 else(bif (!a4) then
 (F_y y5.1 y6.1).bind (fun y9=>some (.go (!y9)))
 else some (.go false))))
 else(bif (!a4) then
 (F_y y5.1 y6.1).bind (fun y10=>some (.go (!y10)))
 else some (.go false))))
 (fun s=>J_o v2 v3 s))
@[simp] noncomputable def J_m (v3:Int) (f0:Yt26→Option Yt23) (v12:Int):Option Yt23:=
 f0 (v12,(IntKind.i64.wrap (v3+1)))
noncomputable def L_6 (a0:List STable) (a1:List SNode) (a2:List SNode) (a3:Int) (a4:Bool) (f0:Yt26→Option Yt23) (v2:Int) (v3:Int):Option Yt23:=
 (bif (decide (v3<a3)) then
 joinK ((F_r a0 v3).bind (fun y4=>(F_o a0 y4 a1).bind (fun y5=>(F_o a0 y4 a2).bind (fun y6=>joinK ((bif (y5.2 != 0) then
 some (.go true)
 else some (.go (y6.2 != 0))))
 (fun s=>J_n a4 v2 v3 y5 y6 s)))))
 (fun s=>J_m v3 f0 s)
 else some (.go v2))
@[simp] noncomputable def J_l (v13:Int):Option Int:=
 some (-1)
theorem U_8 (a0:List STable) (a1:List SNode) (a2:List SNode) (a3:Int) (a4:Bool):Le ((F_2 a3 0 50).bind (fun y1=>(bif (!y1) then
 some (-1)
 else joinK (loopF (fun f s=>L_6 a0 a1 a2 a3 a4 f s.1 s.2) (0,0))
 (fun s=>J_l s)))) (F_13 a0 a1 a2 a3 a4):=callL_le (tt:=tt) (FT:=FT) (SP:=SP) (j:=116) rfl (by kernel_rfl)
@[simp] noncomputable def J_3m (v13:List Int) (v14:Int) (y16:Yt26) (f2:(Int×Yt11×Int)→Option Yt35) (v18:Int):Option Yt35:=
 (apx v13 ([v18])).bind (fun z19=>f2 (y16.2,z19,(IntKind.i64.wrap (v14+1))))
noncomputable def L_1p (a0:List STable) (v6:Int) (f2:(Int×Yt11×Int)→Option Yt35) (v12:Int) (v13:List Int) (v14:Int):Option Yt35:=
 (ix a0 v6).bind (fun z15=>(bif (decide (v14<z15.2.1)) then
 (F_1y v12).bind (fun y16=>(remx y16.1 6).bind (fun z17=>joinK ((bif (z17==5) then
 some (.go (-2000000))
 else some (.go z17)))
 (fun s=>J_3m v13 v14 y16 f2 s)))
 else some (.go (v12,v13))))
@[simp] noncomputable def J_3l (v10:List Yt11) (v20:Int) (v21:List Int):Option (Ex (Ex Yt13 (Int×Yt9)) (Int×Yt9)):=
 (apx v10 ([v21])).bind (fun z22=>some (.go (v20,z22)))
@[simp] noncomputable def J_3k (v11:Int) (f1:(Int×Yt9×Int)→Option (Ex Yt13 (Int×Yt9))) (v23:Int) (v24:List Yt11):Option (Ex Yt13 (Int×Yt9)):=
 f1 (v23,v24,(IntKind.i64.wrap (v11-1)))
noncomputable def L_2s (a0:List STable) (v6:Int) (f1:(Int×Yt9×Int)→Option (Ex Yt13 (Int×Yt9))) (v9:Int) (v10:List Yt11) (v11:Int):Option (Ex Yt13 (Int×Yt9)):=
 (bif (decide (v11>0)) then
 joinK (joinK (loopF (fun f s=>L_1p a0 v6 f s.1 s.2.1 s.2.2) (v9,[],0))
 (fun s=>J_3l v10 s.1 s.2))
 (fun s=>J_3k v11 f1 s.1 s.2)
 else some (.go (v9,v10)))
@[simp] noncomputable def J_3j (v4:List Yt9) (v25:Int) (v26:List Yt11):Option Yt13:=
 (apx v4 ([v26])).bind (fun z27=>some (.go (z27,v25)))
@[simp] noncomputable def J_3i (v6:Int) (f0:(Yt37×Int×Int)→Option (Ex Yt37 Yt37)) (v28:List Yt9) (v29:Int):Option (Ex Yt37 Yt37):=
 f0 (v28,v29,(IntKind.i64.wrap (v6+1)))
noncomputable def L_1o (a0:List STable) (f0:(Yt37×Int×Int)→Option (Ex Yt37 Yt37)) (v4:List Yt9) (v5:Int) (v6:Int):Option (Ex Yt37 Yt37):=
 (bif (decide (v6<(a0.length:Int))) then
 joinK (joinK ((F_1y v5).bind (fun y7=>(remx y7.1 5).bind (fun z8=>loopF (fun f s=>L_2s a0 v6 f s.1 s.2.1 s.2.2) (y7.2,[],z8))))
 (fun s=>J_3j v4 s.1 s.2))
 (fun s=>J_3i v6 f0 s.1 s.2)
 else some (.go v4))
@[simp] noncomputable def J_3h (v30:List Yt9):Option Yt37:=
 some v30
@[simp] noncomputable def J_3g (a0:List STable) (a1:Int) (v3:Bool):Option Yt37:=
 (bif v3 then
 some ([])
 else joinK (loopF (fun f s=>L_1o a0 f s.1 s.2.1 s.2.2) ([],a1,0))
 (fun s=>J_3h s))
theorem U_31 (a0:List STable) (a1:Int):Le (joinK ((F_q a0).bind (fun y1=>(bif (!y1) then
 some (.go true)
 else(F_2 a1 0 65536).bind (fun y2=>some (.go (!y2))))))
 (fun s=>J_3g a0 a1 s)) (F_r a0 a1):=callL_le (tt:=tt) (FT:=FT) (SP:=SP) (j:=117) rfl (by kernel_rfl)
theorem U_49 (a0x0:Int):Le ((remx (IntKind.i64.wrap ((IntKind.i64.wrap (a0x0*75))+74)) 65537).bind (fun z1=>some (z1,z1))) (F_1y a0x0):=callL_le (tt:=tt) (FT:=FT) (SP:=SP) (j:=118) rfl (by kernel_rfl)
noncomputable def L_7 (a2:List SNode) (f0:(Yt9×Int×Int)→Option (Ex Yt21 Yt21)) (v4:List Yt11) (v5:Int) (v6:Int):Option (Ex Yt21 Yt21):=
 (bif (decide (v6<(a2.length:Int))) then
 (ix a2 v6).bind (fun z7=>(bif z7.2.2.2.2.2.1 then
 some (.ret ([],1))
 else f0 (v4,v5,(IntKind.i64.wrap (v6+1)))))
 else some (.go (v4,v5)))
@[simp] noncomputable def J_2w (a0:List STable) (a1:List Yt9) (a2:List SNode) (v8:List Yt11) (v9:Int):Option Yt21:=
 (F_c a0 a1 a2 0).bind (fun y10=>(bif (!y10.2) then
 some ([],2)
 else(F_1w y10.1).bind (fun y11=>some (y11,0))))
@[simp] noncomputable def J_2v (a0:List STable) (a1:List Yt9) (a2:List SNode) (v3:Bool):Option Yt21:=
 (bif v3 then
 some ([],1)
 else joinK (loopF (fun f s=>L_7 a2 f s.1 s.2.1 s.2.2) ([],0,0))
 (fun s=>J_2w a0 a1 a2 s.1 s.2))
theorem U_2k (a0:List STable) (a1:List Yt9) (a2:List SNode):Le (joinK ((F_1o a0 a1).bind (fun y1=>(bif (!y1) then
 some (.go true)
 else(F_s a0 a2).bind (fun y2=>some (.go (!y2))))))
 (fun s=>J_2v a0 a1 a2 s)) (F_o a0 a1 a2):=callL_le (tt:=tt) (FT:=FT) (SP:=SP) (j:=119) rfl (by kernel_rfl)
noncomputable def L_1s (a1:List Yt9) (v4:Int) (v7:Int) (f2:Yt29→Option (Ex Yt47 Bool)) (v12:Bool) (v13:Int):Option (Ex Yt47 Bool):=
 (ix a1 v4).bind (fun z14=>(ix z14 v7).bind (fun z15=>(bif (decide (v13<(z15.length:Int))) then
 (ix a1 v4).bind (fun z16=>(ix z16 v7).bind (fun z17=>(ix z17 v13).bind (fun z18=>(F_42 z18).bind (fun y19=>(bif (!y19) then
 some (.ret (.ret (.ret false)))
 else f2 (v12,(IntKind.i64.wrap (v13+1))))))))
 else some (.go v12))))
@[simp] noncomputable def J_3q (v7:Int) (f1:Yt29→Option Yt47) (v20:Bool):Option Yt47:=
 f1 (v20,(IntKind.i64.wrap (v7+1)))
noncomputable def L_1r (a0:List STable) (a1:List Yt9) (v4:Int) (f1:Yt29→Option Yt47) (v6:Bool) (v7:Int):Option Yt47:=
 (ix a1 v4).bind (fun z8=>(bif (decide (v7<(z8.length:Int))) then
 joinK ((ix a1 v4).bind (fun z9=>(ix z9 v7).bind (fun z10=>(ix a0 v4).bind (fun z11=>(bif ((z10.length:Int) != z11.2.1) then
 some (.ret (.ret (.ret false)))
 else loopF (fun f s=>L_1s a1 v4 v7 f s.1 s.2) (v6,0))))))
 (fun s=>J_3q v7 f1 s)
 else some (.go v6)))
@[simp] noncomputable def J_3p (v4:Int) (f0:Yt29→Option Yt16) (v21:Bool):Option Yt16:=
 f0 (v21,(IntKind.i64.wrap (v4+1)))
noncomputable def L_1q (a0:List STable) (a1:List Yt9) (f0:Yt29→Option Yt16) (v3:Bool) (v4:Int):Option Yt16:=
 (bif (decide (v4<(a0.length:Int))) then
 joinK ((ix a1 v4).bind (fun z5=>(bif (decide ((z5.length:Int)>40)) then
 some (.ret (.ret false))
 else loopF (fun f s=>L_1r a0 a1 v4 f s.1 s.2) (v3,0))))
 (fun s=>J_3p v4 f0 s)
 else some (.go v3))
@[simp] noncomputable def J_3o (v22:Bool):Option Bool:=
 some true
@[simp] noncomputable def J_3n (a0:List STable) (a1:List Yt9) (v2:Bool):Option Bool:=
 (bif v2 then
 some false
 else joinK (loopF (fun f s=>L_1q a0 a1 f s.1 s.2) (false,0))
 (fun s=>J_3o s))
theorem U_32 (a0:List STable) (a1:List Yt9):Le (joinK ((F_q a0).bind (fun y1=>(bif (!y1) then
 some (.go true)
 else some (.go ((a1.length:Int) != (a0.length:Int))))))
 (fun s=>J_3n a0 a1 s)) (F_1o a0 a1):=callL_le (tt:=tt) (FT:=FT) (SP:=SP) (j:=120) rfl (by kernel_rfl)
@[simp] noncomputable def J_4o (v2:Bool):Option Bool:=
 some v2
theorem U_40 (a0:Int):Le (joinK ((F_1r a0).bind (fun y1=>(bif y1 then
 some (.go true)
 else some (.go (a0==(-2000000))))))
 (fun s=>J_4o s)) (F_42 a0):=callL_le (tt:=tt) (FT:=FT) (SP:=SP) (j:=121) rfl (by kernel_rfl)
noncomputable def L_1 (a0:List STable) (a1:List Yt9) (a2:List SNode) (y2:List Int) (f0:(Yt9×Bool×Yt37×Int)→Option (Ex Yt20 (Yt9×Bool×Yt37))) (v3:List Yt11) (v4:Bool) (v5:List Yt9) (v6:Int):Option (Ex Yt20 (Yt9×Bool×Yt37)):=
 (bif (decide (v6<(y2.length:Int))) then
 (ix y2 v6).bind (fun z7=>(F_c a0 a1 a2 z7).bind (fun y8=>(bif (!y8.2) then
 some (.ret ([],false))
 else(apx v5 ([y8.1])).bind (fun z9=>f0 (v3,v4,z9,(IntKind.i64.wrap (v6+1)))))))
 else some (.go (v3,v4,v5)))
noncomputable def L_i (v12:List Yt9) (v27:Int) (f2:Yt21→Option (Ex Yt20 Yt9)) (v28:List Yt11) (v29:Int):Option (Ex Yt20 Yt9):=
 (ix v12 v27).bind (fun z30=>(ix v12 v27).bind (fun z31=>(bif (decide (v29<(z31.length:Int))) then
 (ix v12 v27).bind (fun z32=>(ix v12 v27).bind (fun z33=>(ix z33 v29).bind (fun z34=>(apx v28 ([z34])).bind (fun z35=>f2 (z35,(IntKind.i64.wrap (v29+1)))))))
 else some (.go v28))))
@[simp] noncomputable def J_45 (v27:Int) (f1:Yt21→Option Yt20) (v36:List Yt11):Option Yt20:=
 f1 (v36,(IntKind.i64.wrap (v27+1)))
noncomputable def L_2v (v12:List Yt9) (f1:Yt21→Option Yt20) (v26:List Yt11) (v27:Int):Option Yt20:=
 (bif (decide (v27<2)) then
 joinK (loopF (fun f s=>L_i v12 v27 f s.1 s.2) (v26,0))
 (fun s=>J_45 v27 f1 s)
 else some (v26,(decide ((v26.length:Int)≤200))))
@[simp] noncomputable def J_9 (a0:List STable) (a1:List Yt9) (z1:SNode) (v10:List Yt11) (v11:Bool) (v12:List Yt9):Option Yt20:=
 (bif (z1.1==0) then
 (F_1u a0 z1.2.1).bind (fun y13=>(ix a1 y13).bind (fun z14=>some (z14,(decide ((z14.length:Int)≤200)))))
 else(bif (z1.1==1) then
 (ix v12 0).bind (fun z15=>(ix v12 0).bind (fun z16=>(F_3w (z1.1,(z1.2.1,(z1.2.2.1,(z1.2.2.2.1,(z1.2.2.2.2.1,(z1.2.2.2.2.2.1,(z1.2.2.2.2.2.2.1,()))))))) z16).bind (fun y17=>some (y17,(decide ((y17.length:Int)≤200))))))
 else(bif (z1.1==2) then
 (ix v12 0).bind (fun z18=>(ix v12 0).bind (fun z19=>(F_3z (z1.1,(z1.2.1,(z1.2.2.1,(z1.2.2.2.1,(z1.2.2.2.2.1,(z1.2.2.2.2.2.1,(z1.2.2.2.2.2.2.1,()))))))) z19).bind (fun y20=>some (y20,(decide ((y20.length:Int)≤200))))))
 else(bif (z1.1==3) then
 (ix v12 0).bind (fun z21=>(ix v12 0).bind (fun z22=>(ix v12 1).bind (fun z23=>(ix v12 1).bind (fun z24=>(F_3y (z1.1,(z1.2.1,(z1.2.2.1,(z1.2.2.2.1,(z1.2.2.2.2.1,(z1.2.2.2.2.2.1,(z1.2.2.2.2.2.2.1,()))))))) z22 z24).bind (fun y25=>some (y25,(decide ((y25.length:Int)≤200))))))))
 else(bif (z1.1==4) then
 loopF (fun f s=>L_2v v12 f s.1 s.2) ([],0)
 else(bif (z1.1==5) then
 (ix v12 0).bind (fun z37=>(ix v12 0).bind (fun z38=>(F_41 (z1.1,(z1.2.1,(z1.2.2.1,(z1.2.2.2.1,(z1.2.2.2.2.1,(z1.2.2.2.2.2.1,(z1.2.2.2.2.2.2.1,()))))))) z38).bind (fun y39=>some (y39,(decide ((y39.length:Int)≤200))))))
 else(bif (z1.1==6) then
 (ix v12 0).bind (fun z40=>(ix v12 0).bind (fun z41=>(bif (decide (z1.2.2.2.2.1<(z41.length:Int))) then
 (slx z41 0 z1.2.2.2.2.1).bind (fun z42=>some (z42,(decide ((z42.length:Int)≤200))))
 else some (z41,(decide ((z41.length:Int)≤200))))))
 else(bif (z1.1==7) then
 (ix v12 0).bind (fun z43=>(ix v12 0).bind (fun z44=>(F_40 z44).bind (fun y45=>some (y45,(decide ((y45.length:Int)≤200))))))
 else some ([],(decide ((([]:List Yt11).length:Int)≤200)))))))))))
theorem U_1 (a0:List STable) (a1:List Yt9) (a2:List SNode) (a3:Int):Le ((ix a2 a3).bind (fun z1=>(F_11 a2 a3).bind (fun y2=>joinK (loopF (fun f s=>L_1 a0 a1 a2 y2 f s.1 s.2.1 s.2.2.1 s.2.2.2) ([],false,[],0))
 (fun s=>J_9 a0 a1 z1 s.1 s.2.1 s.2.2)))) (F_c a0 a1 a2 a3):=callL_le (tt:=tt) (FT:=FT) (SP:=SP) (j:=122) rfl (by kernel_rfl)
@[simp] noncomputable def J_47 (v2:Int) (f0:Yt21→Option Yt31) (v8:List Yt11):Option Yt31:=
 f0 (v8,(IntKind.i64.wrap (v2+1)))
noncomputable def L_25 (a0:SNode) (a1:List Yt11) (f0:Yt21→Option Yt31) (v1:List Yt11) (v2:Int):Option Yt31:=
 (bif (decide (v2<(a1.length:Int))) then
 joinK ((ix a1 v2).bind (fun z3=>(ix z3 a0.2.2.1).bind (fun z4=>(F_3x (a0.1,(a0.2.1,(a0.2.2.1,(a0.2.2.2.1,(a0.2.2.2.2.1,(a0.2.2.2.2.2.1,(a0.2.2.2.2.2.2.1,()))))))) z4).bind (fun y5=>(bif y5 then
 (ix a1 v2).bind (fun z6=>(apx v1 ([z6])).bind (fun z7=>some (.go z7)))
 else some (.go v1))))))
 (fun s=>J_47 v2 f0 s)
 else some (.go v1))
@[simp] noncomputable def J_46 (v9:List Yt11):Option Yt9:=
 some v9
theorem U_3u (a0:SNode) (a1:List Yt11):Le (joinK (loopF (fun f s=>L_25 a0 a1 f s.1 s.2) ([],0))
 (fun s=>J_46 s)) (F_3w a0 a1):=callL_le (tt:=tt) (FT:=FT) (SP:=SP) (j:=123) rfl (by kernel_rfl)
theorem U_3v (a0:SNode) (a1:Int):Le ((bif (a1==(-2000000)) then
 some (a0.2.2.2.1==3)
 else(bif (a0.2.2.2.1==0) then
 some (a1==a0.2.2.2.2.1)
 else(bif (a0.2.2.2.1==1) then
 some (decide (a1<a0.2.2.2.2.1))
 else(bif (a0.2.2.2.1==2) then
 some (decide (a1>a0.2.2.2.2.1))
 else some false))))) (F_3x a0 a1):=callL_le (tt:=tt) (FT:=FT) (SP:=SP) (j:=124) rfl (by kernel_rfl)
noncomputable def L_2a (a0:SNode) (a1:List Yt11) (v2:Int) (f1:Yt45→Option (Ex Yt22 Yt11)) (v3:List Int) (v4:Int):Option (Ex Yt22 Yt11):=
 (bif (decide (v4<(a0.2.2.2.2.2.2.1.length:Int))) then
 (ix a1 v2).bind (fun z5=>(ix a0.2.2.2.2.2.2.1 v4).bind (fun z6=>(ix z5 z6).bind (fun z7=>(apx v3 ([z7])).bind (fun z8=>f1 (z8,(IntKind.i64.wrap (v4+1)))))))
 else some (.go v3))
@[simp] noncomputable def J_4f (v1:List Yt11) (v9:List Int):Option Yt22:=
 (apx v1 ([v9])).bind (fun z10=>some (.go z10))
@[simp] noncomputable def J_4e (v2:Int) (f0:Yt21→Option Yt31) (v11:List Yt11):Option Yt31:=
 f0 (v11,(IntKind.i64.wrap (v2+1)))
noncomputable def L_29 (a0:SNode) (a1:List Yt11) (f0:Yt21→Option Yt31) (v1:List Yt11) (v2:Int):Option Yt31:=
 (bif (decide (v2<(a1.length:Int))) then
 joinK (joinK (loopF (fun f s=>L_2a a0 a1 v2 f s.1 s.2) ([],0))
 (fun s=>J_4f v1 s))
 (fun s=>J_4e v2 f0 s)
 else some (.go v1))
@[simp] noncomputable def J_4d (v12:List Yt11):Option Yt9:=
 some v12
theorem U_3x (a0:SNode) (a1:List Yt11):Le (joinK (loopF (fun f s=>L_29 a0 a1 f s.1 s.2) ([],0))
 (fun s=>J_4d s)) (F_3z a0 a1):=callL_le (tt:=tt) (FT:=FT) (SP:=SP) (j:=125) rfl (by kernel_rfl)
noncomputable def L_28 (a2:List Yt11) (v4:Int) (f2:Yt45→Option (Ex (Ex Yt22 Yt9) Yt11)) (v12:List Int) (v13:Int):Option (Ex (Ex Yt22 Yt9) Yt11):=
 (ix a2 v4).bind (fun z14=>(bif (decide (v13<(z14.length:Int))) then
 (ix a2 v4).bind (fun z15=>(ix z15 v13).bind (fun z16=>(apx v12 ([z16])).bind (fun z17=>f2 (z17,(IntKind.i64.wrap (v13+1))))))
 else some (.go v12)))
@[simp] noncomputable def J_4c (v3:List Yt11) (v18:List Int):Option (Ex Yt22 Yt9):=
 (apx v3 ([v18])).bind (fun z19=>some (.go z19))
@[simp] noncomputable def J_4b (a1:List Yt11) (a2:List Yt11) (v2:Int) (v3:List Yt11) (v4:Int) (v9:Bool):Option (Ex Yt22 Yt9):=
 (bif v9 then
 some (.go v3)
 else(ix a1 v2).bind (fun z10=>(F_z z10).bind (fun y11=>joinK (loopF (fun f s=>L_28 a2 v4 f s.1 s.2) (y11,0))
 (fun s=>J_4c v3 s))))
@[simp] noncomputable def J_4a (v4:Int) (f1:Yt21→Option Yt22) (v20:List Yt11):Option Yt22:=
 f1 (v20,(IntKind.i64.wrap (v4+1)))
noncomputable def L_27 (a0:SNode) (a1:List Yt11) (a2:List Yt11) (v2:Int) (f1:Yt21→Option Yt22) (v3:List Yt11) (v4:Int):Option Yt22:=
 (bif (decide (v4<(a2.length:Int))) then
 joinK ((ix a1 v2).bind (fun z5=>(ix z5 a0.2.2.1).bind (fun z6=>joinK ((bif (z6==(-2000000)) then
 some (.go true)
 else(ix a2 v4).bind (fun z7=>(ix z7 a0.2.2.2.2.1).bind (fun z8=>some (.go (z6 != z8))))))
 (fun s=>J_4b a1 a2 v2 v3 v4 s))))
 (fun s=>J_4a v4 f1 s)
 else some (.go v3))
@[simp] noncomputable def J_49 (v2:Int) (f0:Yt21→Option Yt31) (v21:List Yt11):Option Yt31:=
 f0 (v21,(IntKind.i64.wrap (v2+1)))
noncomputable def L_26 (a0:SNode) (a1:List Yt11) (a2:List Yt11) (f0:Yt21→Option Yt31) (v1:List Yt11) (v2:Int):Option Yt31:=
 (bif (decide (v2<(a1.length:Int))) then
 joinK (loopF (fun f s=>L_27 a0 a1 a2 v2 f s.1 s.2) (v1,0))
 (fun s=>J_49 v2 f0 s)
 else some (.go v1))
@[simp] noncomputable def J_48 (v22:List Yt11):Option Yt9:=
 some v22
theorem U_3w (a0:SNode) (a1:List Yt11) (a2:List Yt11):Le (joinK (loopF (fun f s=>L_26 a0 a1 a2 f s.1 s.2) ([],0))
 (fun s=>J_48 s)) (F_3y a0 a1 a2):=callL_le (tt:=tt) (FT:=FT) (SP:=SP) (j:=126) rfl (by kernel_rfl)
@[simp] noncomputable def J_4m (a1:List Yt11) (v2:Int) (v3:List Yt11) (v4:Bool) (v11:Bool):Option (Ex (Ex Yt22 Yt20) Yt20):=
 (bif v11 then
 (ix a1 v2).bind (fun z12=>(apx v3 ([z12])).bind (fun z13=>some (.go (z13,true))))
 else some (.go (v3,v4)))
@[simp] noncomputable def J_4l (v1:List Yt11) (v5:Int) (f1:(Yt9×Bool×Int)→Option (Ex Yt22 Yt20)) (v14:List Yt11) (v15:Bool):Option (Ex Yt22 Yt20):=
 (ix v1 v5).bind (fun z16=>(ix v1 v5).bind (fun z17=>(apx v14 ([z17])).bind (fun z18=>f1 (z18,v15,(IntKind.i64.wrap (v5+1))))))
noncomputable def L_2d (a0:SNode) (a1:List Yt11) (v1:List Yt11) (v2:Int) (f1:(Yt9×Bool×Int)→Option (Ex Yt22 Yt20)) (v3:List Yt11) (v4:Bool) (v5:Int):Option (Ex Yt22 Yt20):=
 (bif (decide (v5<(v1.length:Int))) then
 joinK (joinK ((bif (!v4) then
 (ix a1 v2).bind (fun z6=>(ix z6 a0.2.2.1).bind (fun z7=>(ix v1 v5).bind (fun z8=>(ix v1 v5).bind (fun z9=>(ix z9 a0.2.2.1).bind (fun z10=>some (.go (decide (z7<z10))))))))
 else some (.go false)))
 (fun s=>J_4m a1 v2 v3 v4 s))
 (fun s=>J_4l v1 v5 f1 s.1 s.2)
 else some (.go (v3,v4)))
@[simp] noncomputable def J_4n (v23:List Yt11):Option Yt22:=
 some (.go v23)
@[simp] noncomputable def J_4k (a1:List Yt11) (v2:Int) (v19:List Yt11) (v20:Bool):Option Yt22:=
 joinK ((bif (!v20) then
 (ix a1 v2).bind (fun z21=>(apx v19 ([z21])).bind (fun z22=>some (.go z22)))
 else some (.go v19)))
 (fun s=>J_4n s)
@[simp] noncomputable def J_4j (v2:Int) (f0:Yt21→Option Yt31) (v24:List Yt11):Option Yt31:=
 f0 (v24,(IntKind.i64.wrap (v2+1)))
noncomputable def L_2c (a0:SNode) (a1:List Yt11) (f0:Yt21→Option Yt31) (v1:List Yt11) (v2:Int):Option Yt31:=
 (bif (decide (v2<(a1.length:Int))) then
 joinK (joinK (loopF (fun f s=>L_2d a0 a1 v1 v2 f s.1 s.2.1 s.2.2) ([],false,0))
 (fun s=>J_4k a1 v2 s.1 s.2))
 (fun s=>J_4j v2 f0 s)
 else some (.go v1))
@[simp] noncomputable def J_4i (v25:List Yt11):Option Yt9:=
 some v25
theorem U_3z (a0:SNode) (a1:List Yt11):Le (joinK (loopF (fun f s=>L_2c a0 a1 f s.1 s.2) ([],0))
 (fun s=>J_4i s)) (F_41 a0 a1):=callL_le (tt:=tt) (FT:=FT) (SP:=SP) (j:=127) rfl (by kernel_rfl)
@[simp] noncomputable def J_4h (v2:Int) (f0:Yt21→Option Yt31) (v7:List Yt11):Option Yt31:=
 f0 (v7,(IntKind.i64.wrap (v2+1)))
noncomputable def L_2b (a0:List Yt11) (f0:Yt21→Option Yt31) (v1:List Yt11) (v2:Int):Option Yt31:=
 (bif (decide (v2<(a0.length:Int))) then
 joinK ((ix a0 v2).bind (fun z3=>(F_3b v1 z3).bind (fun y4=>(bif (y4==0) then
 (ix a0 v2).bind (fun z5=>(apx v1 ([z5])).bind (fun z6=>some (.go z6)))
 else some (.go v1)))))
 (fun s=>J_4h v2 f0 s)
 else some (.go v1))
@[simp] noncomputable def J_4g (v8:List Yt11):Option Yt9:=
 some v8
theorem U_3y (a0:List Yt11):Le (joinK (loopF (fun f s=>L_2b a0 f s.1 s.2) ([],0))
 (fun s=>J_4g s)) (F_40 a0):=callL_le (tt:=tt) (FT:=FT) (SP:=SP) (j:=128) rfl (by kernel_rfl)
@[simp] noncomputable def J_2r (v2:Int) (f0:Yt26→Option Yt23) (v5:Int):Option Yt23:=
 f0 (v5,(IntKind.i64.wrap (v2+1)))
noncomputable def L_1c (a0:List Yt11) (a1:List Int) (f0:Yt26→Option Yt23) (v1:Int) (v2:Int):Option Yt23:=
 (bif (decide (v2<(a0.length:Int))) then
 joinK ((ix a0 v2).bind (fun z3=>(F_1s z3 a1).bind (fun y4=>(bif y4 then
 some (.go (IntKind.i64.wrap (v1+1)))
 else some (.go v1)))))
 (fun s=>J_2r v2 f0 s)
 else some (.go v1))
@[simp] noncomputable def J_2q (v6:Int):Option Int:=
 some v6
theorem U_2f (a0:List Yt11) (a1:List Int):Le (joinK (loopF (fun f s=>L_1c a0 a1 f s.1 s.2) (0,0))
 (fun s=>J_2q s)) (F_3b a0 a1):=callL_le (tt:=tt) (FT:=FT) (SP:=SP) (j:=129) rfl (by kernel_rfl)
noncomputable def L_21 (a0:List Int) (a1:List Int) (f0:Yt29→Option Yt16) (v1:Bool) (v2:Int):Option Yt16:=
 (bif (decide (v2<(a0.length:Int))) then
 (ix a0 v2).bind (fun z3=>(ix a1 v2).bind (fun z4=>(bif (z3 != z4) then
 some (.ret false)
 else f0 (v1,(IntKind.i64.wrap (v2+1))))))
 else some (.go v1))
@[simp] noncomputable def J_42 (v5:Bool):Option Bool:=
 some true
theorem U_3p (a0:List Int) (a1:List Int):Le ((bif ((a0.length:Int) != (a1.length:Int)) then
 some false
 else joinK (loopF (fun f s=>L_21 a0 a1 f s.1 s.2) (false,0))
 (fun s=>J_42 s))) (F_1s a0 a1):=callL_le (tt:=tt) (FT:=FT) (SP:=SP) (j:=130) rfl (by kernel_rfl)
noncomputable def L_24 (a0:List Yt11) (f0:Yt21→Option Yt31) (v1:List Yt11) (v2:Int):Option Yt31:=
 (bif (decide (v2<(a0.length:Int))) then
 (ix a0 v2).bind (fun z3=>(F_z z3).bind (fun y4=>(apx v1 ([y4])).bind (fun z5=>f0 (z5,(IntKind.i64.wrap (v2+1))))))
 else some (.go v1))
@[simp] noncomputable def J_44 (v6:List Yt11):Option Yt9:=
 some v6
theorem U_3t (a0:List Yt11):Le (joinK (loopF (fun f s=>L_24 a0 f s.1 s.2) ([],0))
 (fun s=>J_44 s)) (F_1w a0):=callL_le (tt:=tt) (FT:=FT) (SP:=SP) (j:=131) rfl (by kernel_rfl)
@[simp] noncomputable def J_38 (v4:Bool):Option Bool:=
 some v4
theorem U_2v (a0:List Yt11) (a1:List Yt11):Le (joinK ((bif (decide ((a0.length:Int)≤200)) then
 (bif (decide ((a1.length:Int)≤200)) then
 (F_1n a0).bind (fun y1=>(F_1n a1).bind (fun y2=>(F_y y1 y2).bind (fun y3=>some (.go y3))))
 else some (.go false))
 else some (.go false)))
 (fun s=>J_38 s)) (F_3m a0 a1):=callL_le (tt:=tt) (FT:=FT) (SP:=SP) (j:=132) rfl (by kernel_rfl)
end Go.Proofs.YtkbcahfajbdgnaaGreatDoorX
