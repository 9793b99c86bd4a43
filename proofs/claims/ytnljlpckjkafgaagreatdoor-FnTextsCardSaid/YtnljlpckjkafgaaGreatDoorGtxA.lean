/- Printed: for each function that the statement reaches, a plain function, and that it is what the program's function answers. -/
import Derived.Test.YtnljlpckjkafgaaGreatDoorProg
import Derived.Test.YtnljlpckjkafgaaGreatDoorTrtxD
set_option linter.all false
namespace Go.Proofs.YtnljlpckjkafgaaGreatDoorX
open Go Go.Proofs Go.Proofs.YtnljlpckjkafgaaGreatDoorT
set_option maxRecDepth 100000
set_option linter.all false
abbrev SNode:=Int×ByteArray×Int×Int×Int×Bool×(List Int)×Unit
abbrev Sl01Cur:=(List Int)×Int×Int×Unit
abbrev SwordReader:=(List ByteArray)×Int×Int×Unit
abbrev Sl06Reader:=(List ByteArray)×Int×Bool×Unit
abbrev Yv1:Ty:=.int .i64
abbrev Yv2:Ty:=.sl 5 (.int .u8)
abbrev Yv4:Ty:=.sl 9 .str
abbrev Yv5:Ty:=.sl 3 Yv1
abbrev Yv0:Ty:=.pr Yv1 (.pr .str (.pr Yv1 (.pr Yv1 (.pr Yv1 (.pr .bool (.pr Yv5 .un))))))
abbrev Yv3:Ty:=.sl 71 Yv0
abbrev Yt6:Type:=List ByteArray
abbrev Yt8:Type:=List Int
abbrev Yt7:Type:=Ex (SNode×Yt6×Int×Bool) (Int×ByteArray×Int×Int×Int×Bool×Yt8×Yt6×Int×Bool)
abbrev Yt9:Type:=(List SNode)×Yt8×Int×Int
abbrev Yt10:Type:=(List SNode)×Int×Yt8×Int×Int
abbrev Yt11:Type:=Ex ByteArray ByteArray
abbrev Yt12:Type:=ByteArray×Yt8×Int×Int
abbrev Yt13:Type:=Ex Bool (Int×ByteArray×Int×Int×Int×Bool×Yt8×Bool)
abbrev Yt14:Type:=Ex Bool Bool
abbrev Yt15:Type:=Int×Bool×Yt6×Int×Bool
abbrev Yt16:Type:=(List SNode)×Int
abbrev Yt17:Type:=Ex Yt10 (Int×Int×ByteArray×Int×Int×Int×Bool×Yt8×Yt8×Int×Int)
abbrev Yt18:Type:=Ex (List SNode) (List SNode)
abbrev Yt19:Type:=Ex (Int×Int) (Int×Int×Int×Int)
abbrev Yt20:Type:=ByteArray×Yt6×Int×Bool
abbrev Yt21:Type:=Int×Bool
abbrev Yt22:Type:=Ex (SNode×Yt6×Int×Int) (Int×ByteArray×Int×Int×Int×Bool×Yt8×Yt6×Int×Int)
abbrev Yl0:LT:=⟨false,false,Yv1⟩
abbrev Yl1:LT:=⟨false,false,.bool⟩
abbrev Yl2:LT:=⟨true,true,Yv1⟩
abbrev Yl3:LT:=⟨false,false,.str⟩
abbrev Yl4:LT:=⟨true,true,Yv4⟩
abbrev Yl5:LT:=⟨false,false,Yv2⟩
abbrev Yl6:LT:=⟨true,true,Yv3⟩
abbrev Yl7:LT:=⟨true,true,.bool⟩
abbrev Yl8:LT:=⟨true,true,Yv5⟩
abbrev Yl9:LT:=⟨true,true,.str⟩
abbrev Yl10:LT:=⟨true,true,Yv2⟩
def ttL:List (Nat×Ty):=[(3,Yv1),
 (4,.bool),
 (5,(.int .u8)),
 (9,.str),
 (29,Yv3),
 (43,Yv2),
 (55,Yv4),
 (69,Yv5),
 (71,Yv0),
 (81,(.pr Yv4 (.pr Yv1 (.pr Yv1 .un)))),
 (92,(.pr Yv4 (.pr Yv1 (.pr .bool .un)))),
 (128,(.pr Yv2 (.pr Yv1 (.pr Yv1 .un)))),
 (181,(.sl 29 Yv3))]
def tt (T:TypeId):Option Ty:=lkT ttL T
theorem tt_ok:TTok Tryz.prog tt:=lkT_ok (by kernel_rfl)
noncomputable def i_0:Inst:={f:=5,fn:=Tryz.f5,n:=99,pds:=[.rd Yv2],caps:=[],res:=[Yl1],h:={al:=[18,21,25,27,31,41,42,68,69],ca:=[(15,1),(17,2),(19,17),(22,43),(26,57),(28,61),(32,44),(35,63),(43,81),(48,83),(52,85),(53,86),(56,63),(61,90),(70,81),(75,84),(89,64),(97,83)],code:=(.two .nil (.two .nil (.two .nil (.two .nil (.two (.join ⟨[],[(30,.v Yl1)]⟩ .nil .nil) (.join ⟨[2],[(2,.v Yl1)]⟩ (.two .nil (.two (.two .nil (.join ⟨[],[(50,.v Yl1)]⟩ .nil .nil)) .nil)) (.two .nil (.two .nil (.two .nil (.two (.join ⟨[],[(72,.v Yl1)]⟩ .nil .nil) (.two .nil (.two (.two .nil (.two (.join ⟨[2],[(2,.v Yl1)]⟩ .nil .nil) .nil)) (.join ⟨[2],[(2,.v Yl1)]⟩ .nil .nil)))))))))))))}}
noncomputable def i_16:Inst:={f:=16,fn:=Tryz.f16,n:=6,pds:=[.rd Yv2],caps:=[],res:=[Yl1],h:={code:=.nil}}
noncomputable def i_1h:Inst:={f:=17,fn:=Tryz.f17,n:=5,pds:=[.rd Yv2],caps:=[],res:=[⟨true,false,Yv3⟩],h:={ca:=[(4,3)],code:=.nil}}
noncomputable def i_1f:Inst:={f:=45,fn:=Tryz.f45,n:=7,pds:=[.rd Yv2],caps:=[],res:=[⟨true,false,Yv3⟩],h:={ca:=[(4,4),(6,5)],code:=.nil}}
noncomputable def i_1u:Inst:={f:=57,fn:=Tryz.f57,n:=32,pds:=[.rd Yv2],caps:=[],res:=[Yl5,Yl0,Yl0],h:={code:=(.two .nil (.two .nil (.join ⟨[3],[(3,.v Yl0)]⟩ (.two .nil (.loop ⟨[3,4],[(3,.v Yl0),(4,.v Yl0)]⟩ (.two (.join ⟨[],[(15,.v Yl1)]⟩ .nil .nil) .nil))) .nil)))},rb:=some (128,3)}
noncomputable def i_29:Inst:={f:=86,fn:=Tryz.f86,n:=57,pds:=[.pt true 128 [Yl5,Yl0,Yl0],.rd Yv2],caps:=[],res:=[⟨true,false,Yv3⟩],h:={al:=[12,17,24,32,43,47,55],el:=[45,50],ca:=[(10,6),(41,15),(56,16)],code:=(.two .nil (.two .nil (.two .nil (.join ⟨[0,5,6,8,57],[(0,.fix (.eq 57)),(5,.v Yl6),(57,.bx 128 [Yl5,Yl0,Yl0])]⟩ (.two .nil (.loop ⟨[0,5,6,7,8,57],[(0,.fix (.eq 57)),(5,.v Yl6),(6,.v Yl0),(7,.v Yl0),(57,.bx 128 [Yl5,Yl0,Yl0])]⟩ (.two .nil (.join ⟨[0,5,6,12,57],[(0,.fix (.eq 57)),(5,.v Yl6),(6,.v Yl0),(57,.bx 128 [Yl5,Yl0,Yl0])]⟩ (.join ⟨[0,57],[(0,.fix (.eq 57)),(42,.v Yl1),(57,.bx 128 [Yl5,Yl0,Yl0])]⟩ .nil .nil) .nil)))) .nil))))}}
noncomputable def i_25:Inst:={f:=127,fn:=Tryz.f127,n:=18,pds:=[.pt true 128 [Yl5,Yl0,Yl0],.rd Yv2],caps:=[],res:=[Yl6],h:={ca:=[(11,7),(12,8),(14,10)],code:=.nil}}
noncomputable def i_21:Inst:={f:=150,fn:=Tryz.f150,n:=15,pds:=[.rd Yv2,.rd Yv1],caps:=[],res:=[Yl0],h:={code:=.nil}}
noncomputable def i_1q:Inst:={f:=60,fn:=Tryz.f60,n:=31,pds:=[.pt true 128 [Yl5,Yl0,Yl0],.rd Yv1],caps:=[],res:=[Yl0],h:={ca:=[(13,9),(17,9),(19,9),(21,9)],code:=.nil}}
noncomputable def i_1r:Inst:={f:=109,fn:=Tryz.f109,n:=58,pds:=[.pt true 128 [Yl5,Yl0,Yl0]],caps:=[],res:=[Yl0],h:={code:=(.two .nil (.two .nil (.two .nil (.join ⟨[0,3,4,5,6,7,11,12,13,14,15,18,19,20,58],[(3,.v Yl0),(58,.bx 128 [Yl5,Yl0,Yl0])]⟩ .nil .nil))))}}
noncomputable def i_26:Inst:={f:=149,fn:=Tryz.f149,n:=178,pds:=[.pt true 128 [Yl5,Yl0,Yl0],.rd Yv1],caps:=[],res:=[Yl6,Yl0],h:={al:=[35,41],tk:=[68,151,172],ca:=[(25,11),(32,8),(51,10),(58,10),(63,8),(66,8),(73,12),(83,10),(90,10),(101,12),(107,12),(113,12),(119,10),(129,8),(132,8),(138,8),(144,8),(154,8),(165,8),(170,8),(176,12)],code:=(.two .nil (.two .nil (.join ⟨[6],[(6,.v Yl0)]⟩ .nil (.two (.two .nil (.two .nil (.two .nil (.two .nil (.two .nil (.two .nil (.two (.two .nil (.two .nil (.join ⟨[15,16,17],[(15,.v Yl6),(16,.v Yl0),(17,.v Yl6)]⟩ .nil .nil))) .nil))))))) (.two .nil (.two .nil (.join ⟨[0,20,21,23,116,178],[(20,.v Yl0),(21,.bx 71 [Yl2,Yl9,Yl0,Yl0,Yl0,Yl7,Yl8]),(178,.bx 128 [Yl5,Yl0,Yl0])]⟩ (.two .nil (.two .nil (.two .nil (.two .nil (.two (.join ⟨[0,21,23,116,178],[(21,.bx 71 [Yl2,Yl9,Yl2,Yl2,Yl2,Yl7,Yl8]),(178,.bx 128 [Yl5,Yl0,Yl0])]⟩ (.two .nil (.loop ⟨[0,21,22,23,116,143,178],[(0,.fix (.eq 178)),(21,.bx 71 [Yl2,Yl9,Yl2,Yl2,Yl2,Yl7,Yl8]),(22,.v Yl0),(178,.bx 128 [Yl5,Yl0,Yl0])]⟩ .nil)) .nil) .nil))))) .nil)))))))}}
noncomputable def i_1y:Inst:={f:=151,fn:=Tryz.f151,n:=12,pds:=[.pt true 128 [Yl5,Yl0,Yl0],.rd Yv5],caps:=[],res:=[Yl0],h:={ca:=[(9,8)],code:=.nil}}
noncomputable def i_28:Inst:={f:=167,fn:=Tryz.f167,n:=20,pds:=[.rd (.sl 29 Yv3)],caps:=[],res:=[Yl6],h:={ca:=[(17,13)],code:=(.two .nil (.two .nil (.join ⟨[3],[(3,.v Yl6)]⟩ (.two .nil (.loop ⟨[3,4],[(3,.v Yl6),(4,.v Yl0)]⟩ .nil)) .nil)))}}
noncomputable def i_24:Inst:={f:=175,fn:=Tryz.f175,n:=37,pds:=[.rd Yv3],caps:=[],res:=[Yl6],h:={tk:=[33],no:=true,ca:=[(30,14)],code:=(.two .nil (.two .nil (.join ⟨[3],[(3,.v Yl6)]⟩ (.two .nil (.loop ⟨[3,4],[(3,.v Yl6),(4,.v Yl0)]⟩ (.two .nil (.two (.two .nil (.two .nil (.join ⟨[5,17],[(5,.bx 71 [Yl0,Yl3,Yl0,Yl0,Yl0,Yl1,Yl8])]⟩ .nil .nil))) .nil)))) .nil)))}}
noncomputable def i_1s:Inst:={f:=182,fn:=Tryz.f182,n:=20,pds:=[.rd Yv5],caps:=[],res:=[Yl8],h:={code:=(.two .nil (.two .nil (.join ⟨[3],[(3,.v Yl8)]⟩ (.two .nil (.loop ⟨[3,4],[(3,.v Yl8),(4,.v Yl0)]⟩ .nil)) .nil)))}}
noncomputable def i_1x:Inst:={f:=59,fn:=Tryz.f59,n:=9,pds:=[.pt true 128 [Yl5,Yl0,Yl0],.rd Yv1],caps:=[],res:=[Yl1],h:={ca:=[(7,8)],code:=.nil}}
noncomputable def i_22:Inst:={f:=128,fn:=Tryz.f128,n:=82,pds:=[.pt true 128 [Yl5,Yl0,Yl0],.hv true 71 Yv0],caps:=[],res:=[⟨true,false,Yv3⟩],h:={al:=[10,16,23,32,41,50,70,72],el:=[28,37,46,52,59,74],tk:=[67],nn:=[76],sw:=[56],ca:=[(7,15),(18,8),(20,8),(26,8),(36,11),(45,11)],code:=(.two .nil (.two (.join ⟨[0,82],[(0,.fix (.eq 82)),(13,.v Yl1),(82,.bx 128 [Yl5,Yl0,Yl0])]⟩ .nil .nil) .nil))}}
noncomputable def i_b:Inst:={f:=18,fn:=Tryz.f18,n:=23,pds:=[.rd Yv3],caps:=[],res:=[Yl3],h:={al:=[21],ca:=[(7,18),(17,35),(22,41)],code:=(.two .nil (.two .nil (.two .nil (.join ⟨[3],[(3,.v Yl4)]⟩ (.two .nil (.loop ⟨[3,11],[(3,.v Yl4),(11,.v Yl0)]⟩ .nil)) .nil))))}}
noncomputable def i_9:Inst:={f:=40,fn:=Tryz.f40,n:=16,pds:=[.rd Yv3],caps:=[],res:=[Yl1],h:={ca:=[(5,19),(9,20),(12,33)],code:=(.two .nil (.two (.join ⟨[],[(10,.v Yl1)]⟩ .nil .nil) .nil))}}
noncomputable def i_i:Inst:={f:=76,fn:=Tryz.f76,n:=15,pds:=[.rd Yv1,.rd Yv1,.rd Yv1],caps:=[],res:=[Yl1],h:={code:=(.two .nil (.join ⟨[6],[(6,.v Yl1)]⟩ .nil .nil))}}
noncomputable def i_17:Inst:={f:=77,fn:=Tryz.f77,n:=9,pds:=[.rd Yv3,.fn 78 []],caps:=[],res:=[Yl1],h:={ca:=[(7,21)],code:=.nil}}
noncomputable def i_1b:Inst:={f:=120,fn:=Tryz.f120,n:=19,pds:=[.rd Yv3,.fn 78 []],caps:=[],res:=[Yl0],h:={ca:=[(16,22)],code:=(.two .nil (.join ⟨[4],[(4,.v Yl0)]⟩ (.two .nil (.loop ⟨[4,8],[(4,.v Yl0),(8,.v Yl0)]⟩ .nil)) .nil))}}
noncomputable def i_a:Inst:={f:=78,fn:=Tryz.f78,n:=6,pds:=[.rd Yv0],caps:=[],res:=[Yl1],h:={ca:=[(4,23)],code:=.nil}}
noncomputable def i_3:Inst:={f:=79,fn:=Tryz.f79,n:=116,pds:=[.rd Yv0],caps:=[],res:=[Yl1],h:={ca:=[(13,24),(19,25),(23,19),(29,27),(53,26),(64,19),(68,28),(76,25),(80,25),(88,25),(94,19),(102,26),(114,31)],code:=(.two .nil (.two .nil (.two .nil (.two .nil (.join ⟨[3,4,6],[(3,.bx 71 [Yl0,Yl3,Yl0,Yl0,Yl0,Yl1,⟨false,false,Yv5⟩]),(4,.v Yl1)]⟩ (.two .nil (.two .nil (.two .nil (.two .nil (.two (.join ⟨[4],[(4,.v Yl1)]⟩ .nil (.join ⟨[4],[(4,.v Yl1)]⟩ .nil .nil)) (.two .nil (.two (.join ⟨[4],[(4,.v Yl1)]⟩ .nil .nil) (.two .nil (.two (.join ⟨[4],[(4,.v Yl1)]⟩ .nil .nil) (.two .nil (.two .nil (.two .nil (.two (.join ⟨[4],[(4,.v Yl1)]⟩ .nil .nil) (.join ⟨[],[(107,.v Yl1)]⟩ .nil .nil)))))))))))))) (.join ⟨[2],[(2,.v Yl1)]⟩ .nil .nil))))))}}
noncomputable def i_e:Inst:={f:=104,fn:=Tryz.f104,n:=38,pds:=[.rd .str],caps:=[],res:=[Yl1],h:={ca:=[(37,19)],code:=(.two .nil (.join ⟨[2],[(2,.v Yl1)]⟩ (.two .nil (.loop ⟨[2,8],[(2,.v Yl1),(8,.v Yl0)]⟩ (.two .nil (.two .nil (.two (.two .nil (.two .nil (.join ⟨[],[(5,.v Yl1)]⟩ .nil (.join ⟨[],[(33,.v Yl1)]⟩ .nil .nil)))) .nil))))) .nil))}}
noncomputable def i_j:Inst:={f:=121,fn:=Tryz.f121,n:=5,pds:=[.rd Yv1],caps:=[],res:=[Yl1],h:={ca:=[(4,19)],code:=.nil}}
noncomputable def i_l:Inst:={f:=122,fn:=Tryz.f122,n:=5,pds:=[.rd Yv1],caps:=[],res:=[Yl1],h:={ca:=[(4,19)],code:=.nil}}
noncomputable def i_k:Inst:={f:=119,fn:=Tryz.f119,n:=5,pds:=[.rd Yv1],caps:=[],res:=[Yl1],h:={ca:=[(4,19)],code:=.nil}}
noncomputable def i_18:Inst:={f:=123,fn:=Tryz.f123,n:=9,pds:=[.rd Yv5,.fn 124 []],caps:=[],res:=[Yl1],h:={ca:=[(7,29)],code:=.nil}}
noncomputable def i_1c:Inst:={f:=144,fn:=Tryz.f144,n:=19,pds:=[.rd Yv5,.fn 124 []],caps:=[],res:=[Yl0],h:={ca:=[(16,30)],code:=(.two .nil (.join ⟨[4],[(4,.v Yl0)]⟩ (.two .nil (.loop ⟨[4,8],[(4,.v Yl0),(8,.v Yl0)]⟩ .nil)) .nil))}}
noncomputable def i_4:Inst:={f:=124,fn:=Tryz.f124,n:=6,pds:=[.rd Yv1],caps:=[],res:=[Yl1],h:={ca:=[(4,25)],code:=.nil}}
noncomputable def i_r:Inst:={f:=56,fn:=Tryz.f56,n:=52,pds:=[.rd Yv0,.rd Yv0],caps:=[],res:=[Yl1],h:={ca:=[(50,32)],code:=(.two .nil (.join ⟨[4],[(4,.v Yl1)]⟩ .nil .nil))}}
noncomputable def i_1a:Inst:={f:=107,fn:=Tryz.f107,n:=26,pds:=[.rd Yv5,.rd Yv5],caps:=[],res:=[Yl1],h:={code:=(.two .nil (.two .nil (.join ⟨[4],[(4,.v Yl1)]⟩ (.two .nil (.loop ⟨[4,13],[(4,.v Yl1),(13,.v Yl0)]⟩ .nil)) .nil)))}}
noncomputable def i_h:Inst:={f:=80,fn:=Tryz.f80,n:=35,pds:=[.rd Yv3,.rd Yv1,.rd Yv1],caps:=[],res:=[Yl0],h:={ca:=[(23,34),(30,33)],code:=(.two .nil (.two (.join ⟨[],[(15,.v Yl1)]⟩ .nil .nil) (.two .nil (.join ⟨[6,7],[(6,.v Yl0),(7,.v Yl0)]⟩ (.two .nil (.loop ⟨[6,7,24],[(6,.v Yl0),(7,.v Yl0),(24,.v Yl0)]⟩ .nil)) .nil))))}}
noncomputable def i_1:Inst:={f:=54,fn:=Tryz.f54,n:=15,pds:=[.rd Yv1],caps:=[],res:=[Yl0],h:={code:=(.two .nil (.two (.two .nil (.two .nil (.two .nil (.join ⟨[],[(6,.v Yl1)]⟩ .nil (.two .nil (.join ⟨[],[(9,.v Yl1)]⟩ .nil .nil)))))) .nil))}}
noncomputable def i_5:Inst:={f:=46,fn:=Tryz.f46,n:=95,pds:=[.rd Yv0],caps:=[],res:=[Yl3],h:={al:=[93],ca:=[(7,23),(9,36),(29,37),(30,39),(42,40),(51,37),(63,37),(72,37),(75,37),(83,37),(90,40),(94,41)],code:=(.two .nil (.two .nil (.two .nil (.join ⟨[3],[(3,.v Yl4)]⟩ (.two .nil (.two .nil (.two .nil (.two .nil (.two .nil (.two .nil (.two (.two .nil (.two .nil (.loop ⟨[3,57],[(3,.v Yl4),(57,.v Yl0)]⟩ .nil))) .nil))))))) .nil))))}}
noncomputable def i_m:Inst:={f:=87,fn:=Tryz.f87,n:=2,pds:=[],caps:=[],res:=[Yl4],h:={code:=.nil}}
noncomputable def i_o:Inst:={f:=88,fn:=Tryz.f88,n:=5,pds:=[.rd Yv1],caps:=[],res:=[Yl3],h:={ca:=[(4,38)],code:=.nil}}
noncomputable def i_2k:Inst:={f:=129,fn:=Tryz.f129,n:=5,pds:=[.rd Yv1],caps:=[],res:=[Yl3],h:={}}
noncomputable def i_p:Inst:={f:=89,fn:=Tryz.f89,n:=2,pds:=[],caps:=[],res:=[Yl4],h:={code:=.nil}}
noncomputable def i_6:Inst:={f:=90,fn:=Tryz.f90,n:=12,pds:=[.rd Yv0],caps:=[],res:=[Yl3],h:={ca:=[(7,37),(11,37)],code:=.nil}}
noncomputable def i_s:Inst:={f:=47,fn:=Tryz.f47,n:=5,pds:=[.mu true true 9 .str],caps:=[],res:=[Yl3],h:={ca:=[(4,42)],code:=.nil}}
noncomputable def i_2m:Inst:={f:=91,fn:=Tryz.f91,n:=75,pds:=[.mu true true 9 .str,.rd .str],caps:=[],res:=[Yl3],h:={}}
noncomputable def i_1n:Inst:={f:=19,fn:=Tryz.f19,n:=26,pds:=[.rd Yv3],caps:=[],res:=[Yl3],h:={ca:=[(6,44),(23,52)],code:=(.two .nil (.two .nil (.two .nil (.join ⟨[3],[(3,.v Yl3)]⟩ (.two .nil (.loop ⟨[3,4],[(3,.v Yl3),(4,.v Yl0)]⟩ (.two .nil (.two (.join ⟨[3],[(3,.v Yl3)]⟩ .nil .nil) .nil)))) .nil))))}}
noncomputable def i_1m:Inst:={f:=22,fn:=Tryz.f22,n:=31,pds:=[.rd Yv3],caps:=[],res:=[Yl1],h:={ca:=[(8,45),(20,46),(24,50)],code:=(.two .nil (.two .nil (.join ⟨[2],[(2,.v Yl1)]⟩ (.two .nil (.loop ⟨[2,3],[(2,.v Yl1),(3,.v Yl0)]⟩ .nil)) .nil)))}}
noncomputable def i_1t:Inst:={f:=33,fn:=Tryz.f33,n:=15,pds:=[.rd Yv1,.rd Yv1,.rd Yv1],caps:=[],res:=[Yl1],h:={code:=(.two .nil (.join ⟨[6],[(6,.v Yl1)]⟩ .nil .nil))}}
noncomputable def i_1i:Inst:={f:=51,fn:=Tryz.f51,n:=186,pds:=[.rd Yv0],caps:=[],res:=[Yl1],h:={ca:=[(39,45),(49,47),(69,48),(73,45),(78,49),(109,48),(114,45),(134,48),(138,48),(149,48),(168,45)],code:=(.two .nil (.two (.join ⟨[],[(42,.v Yl1)]⟩ .nil .nil) (.join ⟨[2],[(2,.v Yl1)]⟩ (.two .nil (.two .nil (.two (.join ⟨[2],[(2,.v Yl1)]⟩ .nil .nil) (.two .nil (.two (.join ⟨[2],[(2,.v Yl1)]⟩ .nil .nil) (.two .nil (.two (.join ⟨[2],[(2,.v Yl1)]⟩ (.two .nil (.loop ⟨[2,3],[(2,.v Yl1),(3,.v Yl0)]⟩ .nil)) (.join ⟨[2],[(2,.v Yl1)]⟩ .nil .nil)) (.two .nil (.two (.join ⟨[2],[(2,.v Yl1)]⟩ .nil .nil) (.two .nil (.two (.join ⟨[2],[(2,.v Yl1)]⟩ .nil .nil) (.two .nil (.two (.join ⟨[2],[(2,.v Yl1)]⟩ .nil .nil) (.join ⟨[],[(170,.v Yl1)]⟩ .nil (.two (.join ⟨[2],[(2,.v Yl1)]⟩ .nil .nil) .nil))))))))))))))) .nil)))}}
noncomputable def i_1o:Inst:={f:=98,fn:=Tryz.f98,n:=41,pds:=[.rd .str],caps:=[],res:=[Yl1],h:={ca:=[(6,45)],code:=(.two .nil (.two (.join ⟨[],[(12,.v Yl1)]⟩ .nil .nil) (.join ⟨[2],[(2,.v Yl1)]⟩ (.two .nil (.loop ⟨[2,3],[(2,.v Yl1),(3,.v Yl0)]⟩ (.two .nil (.two (.join ⟨[],[(40,.v Yl1)]⟩ .nil .nil) .nil)))) .nil)))}}
noncomputable def i_23:Inst:={f:=99,fn:=Tryz.f99,n:=5,pds:=[.rd Yv1],caps:=[],res:=[Yl1],h:={ca:=[(4,45)],code:=.nil}}
noncomputable def i_1w:Inst:={f:=100,fn:=Tryz.f100,n:=5,pds:=[.rd Yv1],caps:=[],res:=[Yl1],h:={ca:=[(4,45)],code:=.nil}}
noncomputable def i_27:Inst:={f:=52,fn:=Tryz.f52,n:=51,pds:=[.rd Yv3,.rd Yv1,.rd Yv1],caps:=[],res:=[Yl0,Yl0],h:={ca:=[(29,51),(38,50)],code:=(.two .nil (.two (.join ⟨[],[(20,.v Yl1)]⟩ .nil .nil) (.two .nil (.two .nil (.join ⟨[6,7,8,9],[(6,.v Yl0),(7,.v Yl0),(8,.v Yl0),(9,.v Yl0)]⟩ (.two .nil (.loop ⟨[6,7,8,9,10],[(6,.v Yl0),(7,.v Yl0),(8,.v Yl0),(9,.v Yl0),(10,.v Yl0)]⟩ (.two .nil (.join ⟨[6,7,8,9],[(6,.v Yl0),(7,.v Yl0),(8,.v Yl0),(9,.v Yl0)]⟩ .nil .nil)))) .nil)))))}}
noncomputable def i_1e:Inst:={f:=63,fn:=Tryz.f63,n:=15,pds:=[.rd Yv1],caps:=[],res:=[Yl0],h:={code:=(.two .nil (.two (.two .nil (.two .nil (.two .nil (.join ⟨[],[(6,.v Yl1)]⟩ .nil (.two .nil (.join ⟨[],[(9,.v Yl1)]⟩ .nil .nil)))))) .nil))}}
noncomputable def i_1j:Inst:={f:=48,fn:=Tryz.f48,n:=99,pds:=[.rd Yv0],caps:=[],res:=[Yl3],h:={ca:=[(6,46),(8,53),(28,54),(31,55),(43,56),(52,54),(68,54),(76,54),(81,54),(89,54),(96,56)],code:=(.two .nil (.two .nil (.two .nil (.join ⟨[2,3],[(2,.v Yl3),(3,.v Yl3)]⟩ (.two .nil (.two .nil (.two .nil (.two .nil (.two .nil (.two .nil (.two (.two .nil (.two .nil (.loop ⟨[3,4],[(3,.v Yl3),(4,.v Yl0)]⟩ .nil))) .nil))))))) .nil))))}}
noncomputable def i_2i:Inst:={f:=92,fn:=Tryz.f92,n:=2,pds:=[],caps:=[],res:=[Yl4],h:={code:=.nil}}
noncomputable def i_1v:Inst:={f:=93,fn:=Tryz.f93,n:=31,pds:=[.rd Yv1],caps:=[],res:=[Yl3],h:={code:=(.two .nil (.two .nil (.two .nil (.two .nil (.join ⟨[0,3],[(3,.v Yl3)]⟩ (.loop ⟨[0,3],[(0,.v Yl0),(3,.v Yl3)]⟩ (.two .nil (.two .nil (.join ⟨[5],[(5,.v Yl0)]⟩ .nil .nil)))) .nil)))))}}
noncomputable def i_2h:Inst:={f:=94,fn:=Tryz.f94,n:=2,pds:=[],caps:=[],res:=[Yl4],h:={code:=.nil}}
noncomputable def i_2g:Inst:={f:=95,fn:=Tryz.f95,n:=12,pds:=[.rd Yv0],caps:=[],res:=[Yl3],h:={ca:=[(7,54),(11,54)],code:=.nil}}
noncomputable def i_8:Inst:={f:=20,fn:=Tryz.f20,n:=8,pds:=[.rd Yv3],caps:=[],res:=[Yl3],h:={ca:=[(4,18),(7,58)],code:=.nil}}
noncomputable def i_n:Inst:={f:=49,fn:=Tryz.f49,n:=36,pds:=[.rd Yv3,.rd Yv1,.rd Yv1],caps:=[],res:=[Yl3],h:={ca:=[(11,59),(16,35),(21,60),(32,58)],code:=(.two .nil (.two .nil (.join ⟨[7],[(7,.v Yl3)]⟩ (.two .nil (.loop ⟨[7,23],[(7,.v Yl3),(23,.v Yl0)]⟩ .nil)) .nil)))}}
noncomputable def i_2n:Inst:={f:=96,fn:=Tryz.f96,n:=125,pds:=[.rd .str,.rd Yv1],caps:=[],res:=[Yl3],h:={}}
noncomputable def i_g:Inst:={f:=97,fn:=Tryz.f97,n:=26,pds:=[.rd Yv3,.rd Yv1],caps:=[],res:=[Yl8],h:={ca:=[(14,34),(23,33)],code:=(.two .nil (.two .nil (.two .nil (.join ⟨[5,6],[(5,.v Yl8)]⟩ (.two .nil (.loop ⟨[5,6,15],[(5,.v Yl8),(6,.v Yl0),(15,.v Yl0)]⟩ .nil)) .nil))))}}
noncomputable def i_1l:Inst:={f:=21,fn:=Tryz.f21,n:=33,pds:=[.rd Yv3],caps:=[],res:=[Yl3],h:={ca:=[(7,44),(17,62),(29,52)],code:=(.two .nil (.two .nil (.two .nil (.join ⟨[3],[(3,.v Yl3)]⟩ (.two .nil (.loop ⟨[3,4],[(3,.v Yl3),(4,.v Yl0)]⟩ (.two .nil (.join ⟨[3],[(3,.v Yl3)]⟩ (.join ⟨[3],[(3,.v Yl3)]⟩ (.two .nil (.loop ⟨[3,5],[(3,.v Yl3),(5,.v Yl0)]⟩ .nil)) .nil) .nil)))) .nil))))}}
noncomputable def i_2a:Inst:={f:=50,fn:=Tryz.f50,n:=26,pds:=[.rd Yv3,.rd Yv1],caps:=[],res:=[Yl0],h:={ca:=[(17,50)],code:=(.two .nil (.two .nil (.join ⟨[5],[(5,.v Yl0)]⟩ (.two .nil (.loop ⟨[5,6],[(5,.v Yl0),(6,.v Yl0)]⟩ (.two .nil (.join ⟨[5],[(5,.v Yl0)]⟩ .nil .nil)))) .nil)))}}
noncomputable def i_7:Inst:={f:=23,fn:=Tryz.f23,n:=62,pds:=[.rd .str],caps:=[],res:=[Yl6,Yl0],h:={al:=[53],nn:=[31],ca:=[(12,64),(20,66),(37,34),(54,18)],code:=(.two .nil (.two .nil (.two .nil (.two .nil (.join ⟨[2,3,4,5,14],[(2,.v Yl6),(3,.v Yl0),(4,.fix (.eq 14)),(5,.v Yl6),(14,.bx 81 [Yl4,Yl2,Yl2])]⟩ (.two .nil (.loop ⟨[2,3,4,5,6,14],[(2,.v Yl6),(3,.v Yl0),(4,.fix (.eq 14)),(5,.v Yl6),(6,.v Yl0),(14,.bx 81 [Yl4,Yl2,Yl2])]⟩ .nil)) .nil)))))}}
noncomputable def i_f:Inst:={f:=30,fn:=Tryz.f30,n:=8,pds:=[.rd .str],caps:=[],res:=[Yl4],h:={ca:=[(7,65)],code:=.nil}}
noncomputable def i_2l:Inst:={f:=64,fn:=Tryz.f64,n:=65,pds:=[.rd .str,.fn 65 []],caps:=[],res:=[Yl4],h:={}}
noncomputable def i_x:Inst:={f:=53,fn:=Tryz.f53,n:=71,pds:=[.pt true 81 [Yl4,Yl2,Yl2]],caps:=[],res:=[⟨true,true,Yv0⟩],h:={tk:=[41,70],ca:=[(5,36),(6,67),(14,71),(18,73),(21,39),(22,67),(29,77),(37,73),(43,73),(51,73),(54,73),(59,73),(65,77)],code:=(.two .nil (.two .nil (.join ⟨[0,3,4,71],[(3,.bx 71 [Yl2,Yl9,Yl2,Yl2,Yl2,Yl7,Yl8]),(71,.bx 81 [Yl4,Yl2,Yl2])]⟩ (.two .nil (.two .nil (.two .nil (.two .nil (.two .nil (.two .nil (.two (.two .nil (.loop ⟨[0,3,4,8,36,38,71],[(0,.fix (.eq 71)),(3,.bx 71 [Yl2,Yl9,Yl2,Yl2,Yl2,Yl7,Yl8]),(38,.v Yl0),(71,.bx 81 [Yl4,Yl2,Yl2])]⟩ .nil)) .nil))))))) .nil)))}}
noncomputable def i_13:Inst:={f:=101,fn:=Tryz.f101,n:=10,pds:=[.pt true 81 [Yl4,Yl2,Yl2],.rd Yv4],caps:=[],res:=[Yl0],h:={ca:=[(8,68)],code:=.nil}}
noncomputable def i_w:Inst:={f:=102,fn:=Tryz.f102,n:=50,pds:=[.pt true 81 [Yl4,Yl2,Yl2],.fn 136 [(true,55,[⟨false,false,Yv4⟩]),(true,3,[Yl0])]],caps:=[],res:=[],h:={ca:=[(40,69)],code:=(.two .nil (.two .nil (.join ⟨[1,51,52],[(17,.v Yl1),(51,.bx 55 [⟨false,false,Yv4⟩]),(52,.bx 3 [Yl0])]⟩ .nil .nil)))}}
noncomputable def i_14:Inst:={f:=136,fn:=Tryz.f136,n:=10,pds:=[.rd .str],caps:=[(true,55,[⟨false,false,Yv4⟩]),(true,3,[Yl0])],res:=[Yl1],h:={ca:=[(7,70)],code:=.nil}}
noncomputable def i_1d:Inst:={f:=137,fn:=Tryz.f137,n:=19,pds:=[.rd Yv4,.rd .str],caps:=[],res:=[Yl0],h:={code:=(.two .nil (.join ⟨[4],[(4,.v Yl0)]⟩ (.two .nil (.loop ⟨[4,8],[(4,.v Yl0),(8,.v Yl0)]⟩ .nil)) .nil))}}
noncomputable def i_t:Inst:={f:=102,fn:=Tryz.f102,n:=50,pds:=[.pt true 81 [Yl4,Yl2,Yl2],.fn 103 [(true,71,[Yl2,Yl9,Yl2,Yl2,Yl2,Yl7,Yl8])]],caps:=[],res:=[],h:={ca:=[(40,72)],code:=(.two .nil (.two .nil (.join ⟨[1,51],[(17,.v Yl1),(51,.bx 71 [Yl2,Yl9,Yl2,Yl2,Yl2,Yl7,Yl8])]⟩ .nil .nil)))}}
noncomputable def i_y:Inst:={f:=103,fn:=Tryz.f103,n:=8,pds:=[.rd .str],caps:=[(true,71,[Yl2,Yl9,Yl2,Yl2,Yl2,Yl7,Yl8])],res:=[Yl1],h:={ca:=[(7,24)],code:=.nil}}
noncomputable def i_z:Inst:={f:=105,fn:=Tryz.f105,n:=12,pds:=[.pt true 81 [Yl4,Yl2,Yl2],.rd Yv1,.rd Yv1],caps:=[],res:=[Yl0],h:={ca:=[(10,74)],code:=.nil}}
noncomputable def i_v:Inst:={f:=102,fn:=Tryz.f102,n:=50,pds:=[.pt true 81 [Yl4,Yl2,Yl2],.fn 138 [(true,3,[Yl0]),(true,3,[Yl0]),(true,3,[Yl0])]],caps:=[],res:=[],h:={ca:=[(40,75)],code:=(.two .nil (.two .nil (.join ⟨[1,51,52,53],[(17,.v Yl1),(51,.bx 3 [Yl0]),(52,.bx 3 [Yl0]),(53,.bx 3 [Yl0])]⟩ .nil .nil)))}}
noncomputable def i_12:Inst:={f:=138,fn:=Tryz.f138,n:=21,pds:=[.rd .str],caps:=[(true,3,[Yl0]),(true,3,[Yl0]),(true,3,[Yl0])],res:=[Yl1],h:={ca:=[(10,76),(19,19)],code:=(.two .nil (.two .nil (.two .nil (.join ⟨[5],[(5,.v Yl1)]⟩ .nil .nil))))}}
noncomputable def i_q:Inst:={f:=75,fn:=Tryz.f75,n:=25,pds:=[.rd .str],caps:=[],res:=[Yl0,Yl1],h:={}}
noncomputable def i_10:Inst:={f:=106,fn:=Tryz.f106,n:=11,pds:=[.pt true 81 [Yl4,Yl2,Yl2]],caps:=[],res:=[Yl0,Yl1],h:={ca:=[(8,78)],code:=.nil}}
noncomputable def i_u:Inst:={f:=102,fn:=Tryz.f102,n:=50,pds:=[.pt true 81 [Yl4,Yl2,Yl2],.fn 139 [(true,3,[Yl0]),(true,4,[Yl1])]],caps:=[],res:=[],h:={ca:=[(40,79)],code:=(.two .nil (.two .nil (.join ⟨[1,51,52],[(17,.v Yl1),(51,.bx 3 [Yl0]),(52,.bx 4 [Yl1])]⟩ .nil .nil)))}}
noncomputable def i_11:Inst:={f:=139,fn:=Tryz.f139,n:=28,pds:=[.rd .str],caps:=[(true,3,[Yl0]),(true,4,[Yl1])],res:=[Yl1],h:={ca:=[(9,80),(12,76)],code:=(.two .nil (.two .nil (.two .nil (.two .nil (.join ⟨[4],[(4,.v Yl1)]⟩ .nil .nil)))))}}
noncomputable def i_2o:Inst:={f:=140,fn:=Tryz.f140,n:=8,pds:=[.rd .str,.rd .str],caps:=[],res:=[Yl3],h:={}}
noncomputable def i_c:Inst:={f:=24,fn:=Tryz.f24,n:=8,pds:=[.rd Yv3,.rd Yv3],caps:=[],res:=[Yl1],h:={ca:=[(7,82)],code:=.nil}}
noncomputable def i_19:Inst:={f:=55,fn:=Tryz.f55,n:=32,pds:=[.rd Yv3,.rd Yv3,.fn 56 []],caps:=[],res:=[Yl1],h:={ca:=[(29,31)],code:=(.two .nil (.two .nil (.join ⟨[6],[(6,.v Yl1)]⟩ (.two .nil (.loop ⟨[6,17],[(6,.v Yl1),(17,.v Yl0)]⟩ .nil)) .nil)))}}
noncomputable def i_2:Inst:={f:=25,fn:=Tryz.f25,n:=16,pds:=[.rd .str],caps:=[],res:=[Yl1],h:={ca:=[(7,84)],code:=(.two .nil (.two .nil (.join ⟨[2],[(2,.v Yl1)]⟩ .nil .nil)))}}
noncomputable def i_d:Inst:={f:=29,fn:=Tryz.f29,n:=15,pds:=[.rd .str],caps:=[],res:=[Yl3,Yl1],h:={al:=[13],ca:=[(8,63),(14,17)],code:=.nil}}
noncomputable def i_15:Inst:={f:=27,fn:=Tryz.f27,n:=28,pds:=[.rd Yv2,.rd Yv1],caps:=[],res:=[Yl10],h:={code:=(.two .nil (.two .nil (.join ⟨[5],[(5,.v Yl10)]⟩ (.two .nil (.loop ⟨[5,6],[(5,.v Yl10),(6,.v Yl0)]⟩ (.two (.join ⟨[],[(17,.v Yl1)]⟩ .nil .nil) .nil))) .nil)))}}
noncomputable def i_1g:Inst:={f:=26,fn:=Tryz.f26,n:=26,pds:=[.rd Yv2],caps:=[],res:=[Yl3],h:={al:=[14,23],ca:=[(7,4),(10,87),(12,15),(17,8)],code:=(.two .nil (.two .nil (.two .nil (.join ⟨[2,3,7,8],[(2,.v Yl3)]⟩ (.two .nil (.two (.two .nil (.join ⟨[3,5,7,8,11],[(5,.v Yl10)]⟩ (.loop ⟨[3,5,7,8,11],[(3,.fix (.eq 7)),(5,.v Yl10),(7,.bx 128 [Yl5,Yl0,Yl0])]⟩ .nil) .nil)) .nil)) .nil))))}}
noncomputable def i_2c:Inst:={f:=58,fn:=Tryz.f58,n:=79,pds:=[.pt true 128 [Yl5,Yl0,Yl0],.rd Yv2],caps:=[],res:=[Yl3],h:={al:=[17,22,29,51,53,60,73],el:=[34,58],tk:=[39],sw:=[42],ca:=[(11,5),(12,43),(13,88),(15,15),(24,8),(26,8),(33,89),(70,89)],code:=(.two .nil (.two .nil (.join ⟨[0,5,9,79],[(0,.fix (.eq 79)),(5,.v Yl4),(79,.bx 128 [Yl5,Yl0,Yl0])]⟩ (.join ⟨[0,9,79],[(0,.fix (.eq 79)),(20,.v Yl1),(79,.bx 128 [Yl5,Yl0,Yl0])]⟩ .nil .nil) (.two .nil (.join ⟨[0,7,79],[(7,.v Yl3),(79,.bx 128 [Yl5,Yl0,Yl0])]⟩ (.two .nil (.loop ⟨[0,7,8,79],[(0,.fix (.eq 79)),(7,.v Yl3),(8,.v Yl0),(79,.bx 128 [Yl5,Yl0,Yl0])]⟩ (.two .nil (.two (.join ⟨[0,7,79],[(0,.fix (.eq 79)),(7,.v Yl3),(79,.bx 128 [Yl5,Yl0,Yl0])]⟩ .nil .nil) .nil)))) .nil)))))}}
noncomputable def i_1p:Inst:={f:=61,fn:=Tryz.f61,n:=46,pds:=[.rd .str],caps:=[],res:=[Yl4],h:={code:=(.two .nil (.two .nil (.two .nil (.two .nil (.join ⟨[3,4],[(3,.v Yl4)]⟩ (.two .nil (.loop ⟨[3,4,5],[(3,.v Yl4),(4,.v Yl3),(5,.v Yl0)]⟩ (.two .nil (.join ⟨[3,4],[(3,.v Yl4),(4,.v Yl3)]⟩ (.two (.join ⟨[],[(31,.v Yl1)]⟩ .nil .nil) (.join ⟨[3],[(3,.v Yl4)]⟩ .nil .nil)) .nil)))) .nil)))))}}
noncomputable def i_1z:Inst:={f:=108,fn:=Tryz.f108,n:=12,pds:=[.pt true 128 [Yl5,Yl0,Yl0],.rd Yv4],caps:=[],res:=[Yl3],h:={ca:=[(9,8)],code:=.nil}}
noncomputable def i_1k:Inst:={f:=28,fn:=Tryz.f28,n:=47,pds:=[.rd .str],caps:=[],res:=[Yl6,Yl0],h:={al:=[40],nn:=[23],ca:=[(12,88),(17,91),(29,51),(41,44)],code:=(.two .nil (.two .nil (.two .nil (.two .nil (.join ⟨[2,3,4,5],[(2,.v Yl6),(3,.v Yl0),(4,.bx 92 [Yl4,Yl2,Yl7]),(5,.v Yl6)]⟩ (.two .nil (.loop ⟨[2,3,4,5,6],[(2,.v Yl6),(3,.v Yl0),(4,.bx 92 [Yl4,Yl2,Yl7]),(5,.v Yl6),(6,.v Yl0)]⟩ .nil)) .nil)))))}}
noncomputable def i_2f:Inst:={f:=62,fn:=Tryz.f62,n:=135,pds:=[.pt true 92 [Yl4,Yl2,Yl7]],caps:=[],res:=[⟨true,true,Yv0⟩],h:={tk:=[19,98,134],ca:=[(9,53),(11,92),(12,93),(18,94),(25,92),(29,47),(32,94),(37,95),(41,55),(43,92),(44,93),(50,94),(63,95),(72,95),(76,45),(79,94),(94,95),(107,95),(113,95),(121,95),(129,95)],code:=(.two .nil (.two .nil (.two .nil (.join ⟨[0,3,10,14,135],[(3,.bx 71 [Yl2,Yl3,Yl2,Yl2,Yl2,Yl7,Yl8]),(135,.bx 92 [Yl4,Yl2,Yl7])]⟩ (.two .nil (.two .nil (.two .nil (.two .nil (.two (.two .nil (.two .nil (.join ⟨[0,10,36,42,135],[(0,.fix (.eq 135)),(135,.bx 92 [Yl4,Yl2,Yl7])]⟩ .nil (.join ⟨[],[(60,.v Yl1)]⟩ .nil .nil)))) (.two .nil (.two (.two .nil (.join ⟨[0,10,71,135],[(0,.fix (.eq 135)),(135,.bx 92 [Yl4,Yl2,Yl7])]⟩ .nil (.two .nil (.loop ⟨[0,3,6,14,20,135],[(0,.fix (.eq 135)),(3,.bx 71 [Yl2,Yl9,Yl2,Yl2,Yl2,Yl7,Yl8]),(6,.v Yl0),(135,.bx 92 [Yl4,Yl2,Yl7])]⟩ (.two (.join ⟨[],[(89,.v Yl1)]⟩ .nil .nil) .nil))))) .nil))))))) .nil))))}}
noncomputable def i_2j:Inst:={f:=111,fn:=Tryz.f111,n:=42,pds:=[.pt true 92 [Yl4,Yl2,Yl7]],caps:=[],res:=[Yl3],h:={code:=(.two .nil (.two (.join ⟨[],[(19,.v Yl1)]⟩ .nil .nil) .nil))}}
noncomputable def i_2d:Inst:={f:=110,fn:=Tryz.f110,n:=19,pds:=[.rd Yv4,.rd .str],caps:=[],res:=[Yl0],h:={code:=(.two .nil (.join ⟨[4],[(4,.v Yl0)]⟩ (.two .nil (.loop ⟨[4,5],[(4,.v Yl0),(5,.v Yl0)]⟩ .nil)) .nil))}}
noncomputable def i_2b:Inst:={f:=112,fn:=Tryz.f112,n:=18,pds:=[.pt true 92 [Yl4,Yl2,Yl7]],caps:=[],res:=[],h:={code:=.nil}}
noncomputable def i_2e:Inst:={f:=113,fn:=Tryz.f113,n:=43,pds:=[.pt true 92 [Yl4,Yl2,Yl7],.rd .bool],caps:=[],res:=[Yl0,Yl1],h:={ca:=[(11,92),(27,96),(40,94)],code:=(.two .nil (.two .nil (.two .nil (.join ⟨[],[(7,.v Yl1)]⟩ .nil (.join ⟨[6],[(6,.v Yl3)]⟩ .nil (.two .nil (.two (.join ⟨[],[(38,.v Yl1)]⟩ .nil .nil) .nil)))))))}}
noncomputable def i_20:Inst:={f:=68,fn:=Tryz.f68,n:=62,pds:=[.rd .str],caps:=[],res:=[Yl0,Yl1],h:={ca:=[(20,45),(55,54),(60,49)],code:=(.two .nil (.two .nil (.join ⟨[4],[(4,.v Yl3)]⟩ (.join ⟨[],[(15,.v Yl1)]⟩ .nil .nil) (.two .nil (.two .nil (.join ⟨[2,3,5],[(2,.v Yl0),(3,.v Yl1),(5,.v Yl0)]⟩ (.two .nil (.loop ⟨[2,3,5,6],[(2,.v Yl0),(3,.v Yl1),(5,.v Yl0),(6,.v Yl0)]⟩ (.two .nil (.two (.two (.join ⟨[],[(37,.v Yl1)]⟩ .nil .nil) .nil) .nil)))) (.join ⟨[5],[(5,.v Yl0)]⟩ .nil (.join ⟨[2,3],[(2,.v Yl0),(3,.v Yl1)]⟩ .nil .nil))))))))}}
noncomputable def FTL:List Inst:=[i_0,i_16,i_1h,i_1f,i_1u,i_29,i_25,i_21,i_1q,i_1r,i_26,i_1y,i_28,i_24,i_1s,i_1x,i_22,i_b,i_9,i_i,i_17,i_1b,i_a,i_3,i_e,i_j,i_l,i_k,i_18,i_1c,i_4,i_r,i_1a,i_h,i_1,i_5,i_m,i_o,i_2k,i_p,i_6,i_s,i_2m,i_1n,i_1m,i_1t,i_1i,i_1o,i_23,i_1w,i_27,i_1e,i_1j,i_2i,i_1v,i_2h,i_2g,i_8,i_n,i_2n,i_g,i_1l,i_2a,i_7,i_f,i_2l,i_x,i_13,i_w,i_14,i_1d,i_t,i_y,i_z,i_v,i_12,i_q,i_10,i_u,i_11,i_2o,i_c,i_19,i_2,i_d,i_15,i_1g,i_2c,i_1p,i_1z,i_1k,i_2f,i_2j,i_2d,i_2b,i_2e,i_20]
noncomputable def FT (j:Nat):Inst:=FTL.getD j i_0
noncomputable def SP (j:Nat):Option (InVals (FT j)→Option (Tup (outTys (FT j)))):=if h38:j=38 then some (h38▸(show InVals (FT 38)→Option (Tup (outTys (FT 38))) from fun v=>itoaF v.1.1)) else if h42:j=42 then some (h42▸(show InVals (FT 42)→Option (Tup (outTys (FT 42))) from fun v=>joinF v.1.1 v.1.2.1)) else if h59:j=59 then some (h59▸(show InVals (FT 59)→Option (Tup (outTys (FT 59))) from fun v=>repeatF v.1.1 v.1.2.1)) else if h65:j=65 then some (h65▸(show InVals (FT 65)→Option (Tup (outTys (FT 65))) from fun v=>fieldsF v.1.1)) else if h76:j=76 then some (h76▸(show InVals (FT 76)→Option (Tup (outTys (FT 76))) from fun v=>readF v.1.1)) else if h80:j=80 then some (h80▸(show InVals (FT 80)→Option (Tup (outTys (FT 80))) from fun v=>trimF v.1.1 v.1.2.1)) else none
def lays101_ren:Go.Shelf.Ren:=⟨fun|101=>140|206=>157|208=>158|n=>n,fun|3=>3|4=>4|9=>9|n=>n,fun n=>n⟩
theorem lays101:Go.Proofs.Lays.n101 Tryz.prog lays101_ren:={
 mixed:=by kernel_rfl,
 f101:=Tryz.func140.trans (congrArg some (by kernel_rfl)),
 f206:=Tryz.func157.trans (congrArg some (by kernel_rfl)),
 f208:=Tryz.func158.trans (congrArg some (by kernel_rfl)),
 t3:=Tryz.underlying3,
 a3:=Tryz.isAgg3,
 z3:=Tryz.sizeOf3,
 v3:=Tryz.zeroValue3,
 t4:=Tryz.underlying4,
 a4:=Tryz.isAgg4,
 z4:=Tryz.sizeOf4,
 v4:=Tryz.zeroValue4,
 t9:=Tryz.underlying9,
 a9:=Tryz.isAgg9,
 z9:=Tryz.sizeOf9,
 v9:=Tryz.zeroValue9}
def lays105_ren:Go.Shelf.Ren:=⟨fun|99=>134|105=>96|165=>130|166=>131|169=>132|170=>135|206=>157|212=>133|240=>153|241=>154|263=>155|264=>156|276=>169|277=>170|n=>n,fun|0=>0|3=>3|4=>4|5=>5|9=>9|20=>20|37=>43|46=>152|51=>165|53=>168|70=>148|72=>150|75=>142|76=>143|80=>117|109=>153|127=>164|146=>166|148=>169|164=>183|n=>n,fun n=>n⟩
theorem lays105:Go.Proofs.Lays.n105 Tryz.prog lays105_ren:={
 mixed:=by kernel_rfl,
 f99:=Tryz.func134.trans (congrArg some (by kernel_rfl)),
 f105:=Tryz.func96.trans (congrArg some (by kernel_rfl)),
 f165:=Tryz.func130.trans (congrArg some (by kernel_rfl)),
 f166:=Tryz.func131.trans (congrArg some (by kernel_rfl)),
 f169:=Tryz.func132.trans (congrArg some (by kernel_rfl)),
 f170:=Tryz.func135.trans (congrArg some (by kernel_rfl)),
 f206:=Tryz.func157.trans (congrArg some (by kernel_rfl)),
 f212:=Tryz.func133.trans (congrArg some (by kernel_rfl)),
 f240:=Tryz.func153.trans (congrArg some (by kernel_rfl)),
 f241:=Tryz.func154.trans (congrArg some (by kernel_rfl)),
 f263:=Tryz.func155.trans (congrArg some (by kernel_rfl)),
 f264:=Tryz.func156.trans (congrArg some (by kernel_rfl)),
 f276:=Tryz.func169.trans (congrArg some (by kernel_rfl)),
 f277:=Tryz.func170.trans (congrArg some (by kernel_rfl)),
 t0:=Tryz.underlying0,
 a0:=Tryz.isAgg0,
 z0:=Tryz.sizeOf0,
 v0:=Tryz.zeroValue0,
 t3:=Tryz.underlying3,
 a3:=Tryz.isAgg3,
 z3:=Tryz.sizeOf3,
 v3:=Tryz.zeroValue3,
 t4:=Tryz.underlying4,
 a4:=Tryz.isAgg4,
 z4:=Tryz.sizeOf4,
 v4:=Tryz.zeroValue4,
 t5:=Tryz.underlying5,
 a5:=Tryz.isAgg5,
 z5:=Tryz.sizeOf5,
 v5:=Tryz.zeroValue5,
 t9:=Tryz.underlying9,
 a9:=Tryz.isAgg9,
 z9:=Tryz.sizeOf9,
 v9:=Tryz.zeroValue9,
 t20:=Tryz.underlying20,
 a20:=Tryz.isAgg20,
 z20:=Tryz.sizeOf20,
 v20:=Tryz.zeroValue20,
 t37:=Tryz.underlying43,
 a37:=Tryz.isAgg43,
 z37:=Tryz.sizeOf43,
 v37:=Tryz.zeroValue43,
 t46:=Tryz.underlying152,
 a46:=Tryz.isAgg152,
 z46:=Tryz.sizeOf152,
 v46:=Tryz.zeroValue152,
 t51:=Tryz.underlying165,
 a51:=Tryz.isAgg165,
 z51:=Tryz.sizeOf165,
 v51:=Tryz.zeroValue165,
 t53:=Tryz.underlying168,
 a53:=Tryz.isAgg168,
 z53:=Tryz.sizeOf168,
 v53:=Tryz.zeroValue168,
 t70:=Tryz.underlying148,
 a70:=Tryz.isAgg148,
 z70:=Tryz.sizeOf148,
 v70:=Tryz.zeroValue148,
 t72:=Tryz.underlying150,
 a72:=Tryz.isAgg150,
 z72:=Tryz.sizeOf150,
 v72:=Tryz.zeroValue150,
 t75:=Tryz.underlying142,
 a75:=Tryz.isAgg142,
 z75:=Tryz.sizeOf142,
 v75:=Tryz.zeroValue142,
 t76:=Tryz.underlying143,
 a76:=Tryz.isAgg143,
 z76:=Tryz.sizeOf143,
 v76:=Tryz.zeroValue143,
 t109:=Tryz.underlying153,
 a109:=Tryz.isAgg153,
 z109:=Tryz.sizeOf153,
 v109:=Tryz.zeroValue153,
 t127:=Tryz.underlying164,
 a127:=Tryz.isAgg164,
 z127:=Tryz.sizeOf164,
 v127:=Tryz.zeroValue164,
 t146:=Tryz.underlying166,
 a146:=Tryz.isAgg166,
 z146:=Tryz.sizeOf166,
 v146:=Tryz.zeroValue166,
 t148:=Tryz.underlying169,
 a148:=Tryz.isAgg169,
 z148:=Tryz.sizeOf169,
 v148:=Tryz.zeroValue169,
 t164:=Tryz.underlying183,
 a164:=Tryz.isAgg183,
 z164:=Tryz.sizeOf183,
 v164:=Tryz.zeroValue183}
theorem lays105X:Go.Proofs.Builder.Extra Tryz.prog lays105_ren:={
 sizeBuilder:=by kernel_rfl,
 liesBuilder:=by kernel_rfl,
 t5:=Tryz.underlying5,
 a5:=Tryz.isAgg5,
 z5:=Tryz.sizeOf5,
 v5:=Tryz.zeroValue5,
 infoByte:=by kernel_rfl,
 cellsByte:=by kernel_rfl,
 sizeByte:=by kernel_rfl,
 neB5:=by decide}
def lays156_ren:Go.Shelf.Ren:=⟨fun|156=>91|165=>130|166=>131|169=>132|240=>153|241=>154|276=>169|277=>170|n=>n,fun|0=>0|3=>3|4=>4|5=>5|9=>9|20=>20|31=>55|37=>43|70=>148|72=>150|75=>142|76=>143|80=>117|127=>164|164=>183|n=>n,fun n=>n⟩
theorem lays156:Go.Proofs.Lays.n156 Tryz.prog lays156_ren:={
 mixed:=by kernel_rfl,
 f156:=Tryz.func91.trans (congrArg some (by kernel_rfl)),
 f165:=Tryz.func130.trans (congrArg some (by kernel_rfl)),
 f166:=Tryz.func131.trans (congrArg some (by kernel_rfl)),
 f169:=Tryz.func132.trans (congrArg some (by kernel_rfl)),
 f240:=Tryz.func153.trans (congrArg some (by kernel_rfl)),
 f241:=Tryz.func154.trans (congrArg some (by kernel_rfl)),
 f276:=Tryz.func169.trans (congrArg some (by kernel_rfl)),
 f277:=Tryz.func170.trans (congrArg some (by kernel_rfl)),
 t0:=Tryz.underlying0,
 a0:=Tryz.isAgg0,
 z0:=Tryz.sizeOf0,
 v0:=Tryz.zeroValue0,
 t3:=Tryz.underlying3,
 a3:=Tryz.isAgg3,
 z3:=Tryz.sizeOf3,
 v3:=Tryz.zeroValue3,
 t4:=Tryz.underlying4,
 a4:=Tryz.isAgg4,
 z4:=Tryz.sizeOf4,
 v4:=Tryz.zeroValue4,
 t9:=Tryz.underlying9,
 a9:=Tryz.isAgg9,
 z9:=Tryz.sizeOf9,
 v9:=Tryz.zeroValue9,
 t20:=Tryz.underlying20,
 a20:=Tryz.isAgg20,
 z20:=Tryz.sizeOf20,
 v20:=Tryz.zeroValue20,
 t31:=Tryz.underlying55,
 a31:=Tryz.isAgg55,
 z31:=Tryz.sizeOf55,
 v31:=Tryz.zeroValue55,
 t37:=Tryz.underlying43,
 a37:=Tryz.isAgg43,
 z37:=Tryz.sizeOf43,
 v37:=Tryz.zeroValue43,
 t70:=Tryz.underlying148,
 a70:=Tryz.isAgg148,
 z70:=Tryz.sizeOf148,
 v70:=Tryz.zeroValue148,
 t72:=Tryz.underlying150,
 a72:=Tryz.isAgg150,
 z72:=Tryz.sizeOf150,
 v72:=Tryz.zeroValue150,
 t75:=Tryz.underlying142,
 a75:=Tryz.isAgg142,
 z75:=Tryz.sizeOf142,
 v75:=Tryz.zeroValue142,
 t76:=Tryz.underlying143,
 a76:=Tryz.isAgg143,
 z76:=Tryz.sizeOf143,
 v76:=Tryz.zeroValue143,
 t127:=Tryz.underlying164,
 a127:=Tryz.isAgg164,
 z127:=Tryz.sizeOf164,
 v127:=Tryz.zeroValue164,
 t164:=Tryz.underlying183,
 a164:=Tryz.isAgg183,
 z164:=Tryz.sizeOf183,
 v164:=Tryz.zeroValue183}
theorem lays156X:Go.Proofs.Builder.Extra Tryz.prog lays156_ren:={
 sizeBuilder:=by kernel_rfl,
 liesBuilder:=by kernel_rfl,
 t5:=Tryz.underlying5,
 a5:=Tryz.isAgg5,
 z5:=Tryz.sizeOf5,
 v5:=Tryz.zeroValue5,
 infoByte:=by kernel_rfl,
 cellsByte:=by kernel_rfl,
 sizeByte:=by kernel_rfl,
 neB5:=by decide}
def lays171_ren:Go.Shelf.Ren:=⟨fun|129=>184|171=>129|243=>152|246=>168|283=>176|284=>177|285=>178|286=>179|317=>183|318=>185|319=>186|320=>187|337=>188|338=>189|n=>n,fun|0=>0|2=>2|3=>3|4=>4|5=>5|9=>9|20=>20|37=>43|46=>152|51=>165|53=>168|171=>193|173=>196|212=>207|213=>208|232=>211|233=>212|n=>n,fun|17=>5|18=>6|19=>7|n=>n⟩
theorem lays171:Go.Proofs.LaysM.n171 Tryz.prog lays171_ren:={
 mixed:=by kernel_rfl,
 f129:=Tryz.func184.trans (congrArg some (by kernel_rfl)),
 f171:=Tryz.func129.trans (congrArg some (by kernel_rfl)),
 f243:=Tryz.func152.trans (congrArg some (by kernel_rfl)),
 f246:=Tryz.func168.trans (congrArg some (by kernel_rfl)),
 f283:=Tryz.func176.trans (congrArg some (by kernel_rfl)),
 f284:=Tryz.func177.trans (congrArg some (by kernel_rfl)),
 f285:=Tryz.func178.trans (congrArg some (by kernel_rfl)),
 f286:=Tryz.func179.trans (congrArg some (by kernel_rfl)),
 f317:=Tryz.func183.trans (congrArg some (by kernel_rfl)),
 f318:=Tryz.func185.trans (congrArg some (by kernel_rfl)),
 f319:=Tryz.func186.trans (congrArg some (by kernel_rfl)),
 f320:=Tryz.func187.trans (congrArg some (by kernel_rfl)),
 f337:=Tryz.func188.trans (congrArg some (by kernel_rfl)),
 f338:=Tryz.func189.trans (congrArg some (by kernel_rfl)),
 t0:=Tryz.underlying0,
 a0:=Tryz.isAgg0,
 z0:=Tryz.sizeOf0,
 v0:=Tryz.zeroValue0,
 t2:=Tryz.underlying2,
 a2:=Tryz.isAgg2,
 z2:=Tryz.sizeOf2,
 v2:=Tryz.zeroValue2,
 t3:=Tryz.underlying3,
 a3:=Tryz.isAgg3,
 z3:=Tryz.sizeOf3,
 v3:=Tryz.zeroValue3,
 t4:=Tryz.underlying4,
 a4:=Tryz.isAgg4,
 z4:=Tryz.sizeOf4,
 v4:=Tryz.zeroValue4,
 t5:=Tryz.underlying5,
 a5:=Tryz.isAgg5,
 z5:=Tryz.sizeOf5,
 v5:=Tryz.zeroValue5,
 t9:=Tryz.underlying9,
 a9:=Tryz.isAgg9,
 z9:=Tryz.sizeOf9,
 v9:=Tryz.zeroValue9,
 t20:=Tryz.underlying20,
 a20:=Tryz.isAgg20,
 z20:=Tryz.sizeOf20,
 v20:=Tryz.zeroValue20,
 t37:=Tryz.underlying43,
 a37:=Tryz.isAgg43,
 z37:=Tryz.sizeOf43,
 v37:=Tryz.zeroValue43,
 t46:=Tryz.underlying152,
 a46:=Tryz.isAgg152,
 z46:=Tryz.sizeOf152,
 v46:=Tryz.zeroValue152,
 t51:=Tryz.underlying165,
 a51:=Tryz.isAgg165,
 z51:=Tryz.sizeOf165,
 v51:=Tryz.zeroValue165,
 t53:=Tryz.underlying168,
 a53:=Tryz.isAgg168,
 z53:=Tryz.sizeOf168,
 v53:=Tryz.zeroValue168,
 t171:=Tryz.underlying193,
 a171:=Tryz.isAgg193,
 z171:=Tryz.sizeOf193,
 v171:=Tryz.zeroValue193,
 t173:=Tryz.underlying196,
 a173:=Tryz.isAgg196,
 z173:=Tryz.sizeOf196,
 v173:=Tryz.zeroValue196,
 t212:=Tryz.underlying207,
 a212:=Tryz.isAgg207,
 z212:=Tryz.sizeOf207,
 v212:=Tryz.zeroValue207,
 t213:=Tryz.underlying208,
 a213:=Tryz.isAgg208,
 z213:=Tryz.sizeOf208,
 t232:=Tryz.underlying211,
 a232:=Tryz.isAgg211,
 z232:=Tryz.sizeOf211,
 v232:=Tryz.zeroValue211,
 t233:=Tryz.underlying212,
 a233:=Tryz.isAgg212,
 z233:=Tryz.sizeOf212,
 v233:=Tryz.zeroValue212,
 g17:=by kernel_rfl,
 g18:=by kernel_rfl,
 g19:=by kernel_rfl,
 i0:=by kernel_rfl,
 i2:=by kernel_rfl,
 i3:=by kernel_rfl,
 i4:=by kernel_rfl,
 i5:=by kernel_rfl,
 i9:=by kernel_rfl,
 i20:=by kernel_rfl,
 i37:=by kernel_rfl,
 i46:=by kernel_rfl,
 i51:=by kernel_rfl,
 i53:=by kernel_rfl,
 i171:=by kernel_rfl,
 i173:=by kernel_rfl,
 i212:=by kernel_rfl,
 i232:=by kernel_rfl,
 i233:=by kernel_rfl,
 m17:=by kernel_rfl,
 m18:=by kernel_rfl,
 m19:=by kernel_rfl}
def lays172_ren:Go.Shelf.Ren:=⟨fun|129=>184|171=>129|172=>118|205=>174|243=>152|244=>142|245=>143|246=>168|247=>160|279=>161|280=>162|281=>163|282=>164|283=>176|284=>177|285=>178|286=>179|287=>172|316=>173|317=>183|318=>185|319=>186|320=>187|321=>180|322=>181|337=>188|338=>189|n=>n,fun|0=>0|2=>2|3=>3|4=>4|5=>5|9=>9|20=>20|21=>21|37=>43|46=>152|51=>165|53=>168|75=>142|76=>143|80=>117|85=>174|127=>164|143=>203|145=>205|167=>173|168=>176|171=>193|173=>196|175=>186|210=>190|212=>207|213=>208|232=>211|233=>212|n=>n,fun|15=>1|16=>2|17=>5|18=>6|19=>7|n=>n⟩
theorem lays172:Go.Proofs.LaysC.n172 Tryz.prog lays172_ren:={
 mixed:=by kernel_rfl,
 f129:=Tryz.func184.trans (congrArg some (by kernel_rfl)),
 f171:=Tryz.func129.trans (congrArg some (by kernel_rfl)),
 f172:=Tryz.func118.trans (congrArg some (by kernel_rfl)),
 f205:=Tryz.func174.trans (congrArg some (by kernel_rfl)),
 f243:=Tryz.func152.trans (congrArg some (by kernel_rfl)),
 f244:=Tryz.func142.trans (congrArg some (by kernel_rfl)),
 f245:=Tryz.func143.trans (congrArg some (by kernel_rfl)),
 f246:=Tryz.func168.trans (congrArg some (by kernel_rfl)),
 f247:=Tryz.func160.trans (congrArg some (by kernel_rfl)),
 f279:=Tryz.func161.trans (congrArg some (by kernel_rfl)),
 f280:=Tryz.func162.trans (congrArg some (by kernel_rfl)),
 f281:=Tryz.func163.trans (congrArg some (by kernel_rfl)),
 f282:=Tryz.func164.trans (congrArg some (by kernel_rfl)),
 f283:=Tryz.func176.trans (congrArg some (by kernel_rfl)),
 f284:=Tryz.func177.trans (congrArg some (by kernel_rfl)),
 f285:=Tryz.func178.trans (congrArg some (by kernel_rfl)),
 f286:=Tryz.func179.trans (congrArg some (by kernel_rfl)),
 f287:=Tryz.func172.trans (congrArg some (by kernel_rfl)),
 f316:=Tryz.func173.trans (congrArg some (by kernel_rfl)),
 f317:=Tryz.func183.trans (congrArg some (by kernel_rfl)),
 f318:=Tryz.func185.trans (congrArg some (by kernel_rfl)),
 f319:=Tryz.func186.trans (congrArg some (by kernel_rfl)),
 f320:=Tryz.func187.trans (congrArg some (by kernel_rfl)),
 f321:=Tryz.func180.trans (congrArg some (by kernel_rfl)),
 f322:=Tryz.func181.trans (congrArg some (by kernel_rfl)),
 f337:=Tryz.func188.trans (congrArg some (by kernel_rfl)),
 f338:=Tryz.func189.trans (congrArg some (by kernel_rfl)),
 t0:=Tryz.underlying0,
 a0:=Tryz.isAgg0,
 z0:=Tryz.sizeOf0,
 v0:=Tryz.zeroValue0,
 t2:=Tryz.underlying2,
 a2:=Tryz.isAgg2,
 z2:=Tryz.sizeOf2,
 v2:=Tryz.zeroValue2,
 t3:=Tryz.underlying3,
 a3:=Tryz.isAgg3,
 z3:=Tryz.sizeOf3,
 v3:=Tryz.zeroValue3,
 t4:=Tryz.underlying4,
 a4:=Tryz.isAgg4,
 z4:=Tryz.sizeOf4,
 v4:=Tryz.zeroValue4,
 t5:=Tryz.underlying5,
 a5:=Tryz.isAgg5,
 z5:=Tryz.sizeOf5,
 v5:=Tryz.zeroValue5,
 t9:=Tryz.underlying9,
 a9:=Tryz.isAgg9,
 z9:=Tryz.sizeOf9,
 v9:=Tryz.zeroValue9,
 t20:=Tryz.underlying20,
 a20:=Tryz.isAgg20,
 z20:=Tryz.sizeOf20,
 v20:=Tryz.zeroValue20,
 t21:=Tryz.underlying21,
 a21:=Tryz.isAgg21,
 z21:=Tryz.sizeOf21,
 v21:=Tryz.zeroValue21,
 t37:=Tryz.underlying43,
 a37:=Tryz.isAgg43,
 z37:=Tryz.sizeOf43,
 v37:=Tryz.zeroValue43,
 t46:=Tryz.underlying152,
 a46:=Tryz.isAgg152,
 z46:=Tryz.sizeOf152,
 v46:=Tryz.zeroValue152,
 t51:=Tryz.underlying165,
 a51:=Tryz.isAgg165,
 z51:=Tryz.sizeOf165,
 v51:=Tryz.zeroValue165,
 t53:=Tryz.underlying168,
 a53:=Tryz.isAgg168,
 z53:=Tryz.sizeOf168,
 v53:=Tryz.zeroValue168,
 t75:=Tryz.underlying142,
 a75:=Tryz.isAgg142,
 z75:=Tryz.sizeOf142,
 v75:=Tryz.zeroValue142,
 t76:=Tryz.underlying143,
 a76:=Tryz.isAgg143,
 z76:=Tryz.sizeOf143,
 v76:=Tryz.zeroValue143,
 t85:=Tryz.underlying174,
 a85:=Tryz.isAgg174,
 z85:=Tryz.sizeOf174,
 v85:=Tryz.zeroValue174,
 t127:=Tryz.underlying164,
 a127:=Tryz.isAgg164,
 z127:=Tryz.sizeOf164,
 v127:=Tryz.zeroValue164,
 t143:=Tryz.underlying203,
 a143:=Tryz.isAgg203,
 z143:=Tryz.sizeOf203,
 v143:=Tryz.zeroValue203,
 t145:=Tryz.underlying205,
 a145:=Tryz.isAgg205,
 z145:=Tryz.sizeOf205,
 v145:=Tryz.zeroValue205,
 t167:=Tryz.underlying173,
 a167:=Tryz.isAgg173,
 z167:=Tryz.sizeOf173,
 v167:=Tryz.zeroValue173,
 t168:=Tryz.underlying176,
 a168:=Tryz.isAgg176,
 z168:=Tryz.sizeOf176,
 v168:=Tryz.zeroValue176,
 t171:=Tryz.underlying193,
 a171:=Tryz.isAgg193,
 z171:=Tryz.sizeOf193,
 v171:=Tryz.zeroValue193,
 t173:=Tryz.underlying196,
 a173:=Tryz.isAgg196,
 z173:=Tryz.sizeOf196,
 v173:=Tryz.zeroValue196,
 t175:=Tryz.underlying186,
 a175:=Tryz.isAgg186,
 z175:=Tryz.sizeOf186,
 v175:=Tryz.zeroValue186,
 t210:=Tryz.underlying190,
 a210:=Tryz.isAgg190,
 z210:=Tryz.sizeOf190,
 v210:=Tryz.zeroValue190,
 t212:=Tryz.underlying207,
 a212:=Tryz.isAgg207,
 z212:=Tryz.sizeOf207,
 v212:=Tryz.zeroValue207,
 t213:=Tryz.underlying208,
 a213:=Tryz.isAgg208,
 z213:=Tryz.sizeOf208,
 t232:=Tryz.underlying211,
 a232:=Tryz.isAgg211,
 z232:=Tryz.sizeOf211,
 v232:=Tryz.zeroValue211,
 t233:=Tryz.underlying212,
 a233:=Tryz.isAgg212,
 z233:=Tryz.sizeOf212,
 v233:=Tryz.zeroValue212,
 g15:=by kernel_rfl,
 g16:=by kernel_rfl,
 g17:=by kernel_rfl,
 g18:=by kernel_rfl,
 g19:=by kernel_rfl,
 t80:=Tryz.underlying117,
 a80:=Tryz.isAgg117,
 z80:=Tryz.sizeOf117,
 v80:=Tryz.zeroValue117,
 i0:=by kernel_rfl,
 i2:=by kernel_rfl,
 i3:=by kernel_rfl,
 i4:=by kernel_rfl,
 i5:=by kernel_rfl,
 i9:=by kernel_rfl,
 i20:=by kernel_rfl,
 i21:=by kernel_rfl,
 i37:=by kernel_rfl,
 i46:=by kernel_rfl,
 i51:=by kernel_rfl,
 i53:=by kernel_rfl,
 i75:=by kernel_rfl,
 i76:=by kernel_rfl,
 i80:=by kernel_rfl,
 i85:=by kernel_rfl,
 i127:=by kernel_rfl,
 i143:=by kernel_rfl,
 i145:=by kernel_rfl,
 i167:=by kernel_rfl,
 i168:=by kernel_rfl,
 i171:=by kernel_rfl,
 i173:=by kernel_rfl,
 i175:=by kernel_rfl,
 i210:=by kernel_rfl,
 i212:=by kernel_rfl,
 i232:=by kernel_rfl,
 i233:=by kernel_rfl,
 m15:=by kernel_rfl,
 m16:=by kernel_rfl,
 m17:=by kernel_rfl,
 m18:=by kernel_rfl,
 m19:=by kernel_rfl,
 c0:=by kernel_rfl,
 c2:=by kernel_rfl,
 c3:=by kernel_rfl,
 c4:=by kernel_rfl,
 c5:=by kernel_rfl,
 c9:=by kernel_rfl,
 c20:=by kernel_rfl,
 c21:=by kernel_rfl,
 c37:=by kernel_rfl,
 c46:=by kernel_rfl,
 c51:=by kernel_rfl,
 c53:=by kernel_rfl,
 c75:=by kernel_rfl,
 c76:=by kernel_rfl,
 c80:=by kernel_rfl,
 c85:=by kernel_rfl,
 c127:=by kernel_rfl,
 c143:=by kernel_rfl,
 c145:=by kernel_rfl,
 c167:=by kernel_rfl,
 c168:=by kernel_rfl,
 c171:=by kernel_rfl,
 c173:=by kernel_rfl,
 c175:=by kernel_rfl,
 c210:=by kernel_rfl,
 c212:=by kernel_rfl,
 c213:=by kernel_rfl,
 c232:=by kernel_rfl,
 c233:=by kernel_rfl}
def lays229_ren:Go.Shelf.Ren:=⟨fun|229=>64|n=>n,fun|0=>0|3=>3|4=>4|9=>9|21=>21|31=>55|40=>96|152=>135|154=>137|n=>n,fun n=>n⟩
theorem lays229:Go.Proofs.Lays.n229 Tryz.prog lays229_ren:={
 mixed:=by kernel_rfl,
 f229:=Tryz.func64.trans (congrArg some (by kernel_rfl)),
 t0:=Tryz.underlying0,
 a0:=Tryz.isAgg0,
 z0:=Tryz.sizeOf0,
 v0:=Tryz.zeroValue0,
 t3:=Tryz.underlying3,
 a3:=Tryz.isAgg3,
 z3:=Tryz.sizeOf3,
 v3:=Tryz.zeroValue3,
 t4:=Tryz.underlying4,
 a4:=Tryz.isAgg4,
 z4:=Tryz.sizeOf4,
 v4:=Tryz.zeroValue4,
 t9:=Tryz.underlying9,
 a9:=Tryz.isAgg9,
 z9:=Tryz.sizeOf9,
 v9:=Tryz.zeroValue9,
 t21:=Tryz.underlying21,
 a21:=Tryz.isAgg21,
 z21:=Tryz.sizeOf21,
 v21:=Tryz.zeroValue21,
 t31:=Tryz.underlying55,
 a31:=Tryz.isAgg55,
 z31:=Tryz.sizeOf55,
 v31:=Tryz.zeroValue55,
 t40:=Tryz.underlying96,
 a40:=Tryz.isAgg96,
 z40:=Tryz.sizeOf96,
 v40:=Tryz.zeroValue96,
 t152:=Tryz.underlying135,
 a152:=Tryz.isAgg135,
 z152:=Tryz.sizeOf135,
 v152:=Tryz.zeroValue135,
 t154:=Tryz.underlying137,
 a154:=Tryz.isAgg137,
 z154:=Tryz.sizeOf137,
 v154:=Tryz.zeroValue137}
set_option maxRecDepth 100000 in
theorem sep_gives (w:World) (x:Nat)(hx:x≤1114111):FnGives Tryz.prog 65 #[] #[encR x] (.bool (sepP x)) w:=by
 unfold FnGives encR
 go_enter Tryz.func65,Tryz.ntmps65
 go_wp2
 ·rename_i h
  have hx2:x=32:=by omega
  subst hx2
  go_ret
  exact⟨rfl,0,rfl⟩
 ·go_ret
  refine⟨?_,0,rfl⟩
  unfold sepP
  rw[←beq_nat x 32,←beq_nat x 10]
  rfl
open Go.RowKit Go.Shelf in
set_option maxRecDepth 100000 in
theorem num_calls {n:Int}(h0:-9223372036854775808≤n)(h1:n≤9223372036854775807) (w:World)(hT:Lib.TabIs Tryz.prog w "internal/strconv.uint64pow10" .u64 Lib.pow10Tab) :
  Calls Tryz.prog 88 #[.int .i64 n] w fun e w'=>e=.returned (.string ⟨(Lib.itoa n).toArray⟩)∧Below w.heap.size w w':=by
 go_enter Tryz.func88,Tryz.ntmps88
 go_wp2_with (go_at_call 129;refine(Any.strconv_Itoa lays171 n h0 h1 _ hT).mono ?_;rintro e w' ⟨rfl,k,os,rfl⟩)
 go_ret
 exact⟨rfl,below_grow _ _ _⟩
open Go.RowKit Go.Shelf in
set_option maxRecDepth 100000 in
theorem in_calls (x lo hi:Int) (w:World):Calls Tryz.prog 76 #[.int .i64 x,.int .i64 lo,.int .i64 hi] w fun e w'=>e=.returned (.bool (decide (lo≤x)&&decide (x≤hi)))∧Below w.heap.size w w':=by
 go_enter Tryz.func76,Tryz.ntmps76
 go_wp2
 ·rename_i h
  go_ret
  exact⟨congrArg (fun b=>Ending.returned (.bool b)) (by rw[decide_eq_true h,Bool.true_and]),Below.refl _ _⟩
 ·rename_i h
  go_ret
  exact⟨congrArg (fun b=>Ending.returned (.bool b)) (by rw[decide_eq_false (show¬lo≤x by omega),Bool.false_and]),Below.refl _ _⟩
open Go.RowKit Go.Shelf in
set_option maxRecDepth 100000 in
theorem isNum_calls (x:Int) (w:World):Calls Tryz.prog 119 #[.int .i64 x] w fun e w'=>e=.returned (.bool (decide (-1000000≤x)&&decide (x≤1000000)))∧Below w.heap.size w w':=by
 go_enter Tryz.func119,Tryz.ntmps119
 go_wp2_with (go_at_call 76;refine(in_calls _ _ _ _).mono ?_;rintro e w' ⟨rfl,hb⟩)
 go_ret
 exact⟨rfl,hb⟩
open Go.RowKit Go.Shelf in
set_option maxRecDepth 100000 in
theorem read_calls (s:ByteArray) (w:World) (Z:Nat→Prop)(hs:s.size≤281474976710656)(hg:Gl Tryz.prog w Z)(hz:∀b,Z b→b<w.heap.size) :
  Calls Tryz.prog 75 #[.string s] w fun e w'=>e=.returned (.tuple #[.int .i64 (readV s).1,.bool (readV s).2])∧Below w.heap.size w w':=by
 rcases h:Lib.atoiAll s.data.toList with v|_|_
 ·
  obtain⟨v0,v1⟩:=atoi_range h
  have hr:readV s=if (⟨(Lib.itoa v).toArray⟩:ByteArray)=s∧-1000000≤v∧v≤1000000 then(v,true) else(0,false):=by
   unfold readV readM
   rw[h]
   simp only
   by_cases hc:(⟨(Lib.itoa v).toArray⟩:ByteArray)=s∧-1000000≤v∧v≤1000000
   ·rw[if_pos hc,if_pos hc]
   ·rw[if_neg hc,if_neg hc]
  go_enter Tryz.func75,Tryz.ntmps75
  go_wp2_with (go_at_call 118;refine(Any.strconv_Atoi_ok lays172 s (by omega) v h _).mono ?_;rintro e w' ⟨rfl,hw⟩)
  have hb:Below w.heap.size w w':=by
   rcases hw with rfl|⟨t,rfl⟩
   ·exact Below.refl _ _
   ·exact Lib.bytesWorld_below _ _ _
  have hT:=gl_pow (hg.mono (fun b hb'=>⟨hb',hb.block b (hz b hb')⟩)) (by kernel_rfl)
  go_wp2_with (go_at_call 88;refine(num_calls v0 v1 _ hT).mono ?_;rintro e w2 ⟨rfl,hb2⟩)
  ·have he':(⟨(Lib.itoa v).toArray⟩:ByteArray)=s:=by
    have he:=‹Lib.itoa v=s.toList›
    cases s with
    |mk d=>
     rw[ByteArray.toList_eq] at he
     rw[he]
   go_wp2_with (go_at_call 119;refine(isNum_calls _ _).mono ?_;rintro e w3 ⟨rfl,hb3⟩)
   ·rename_i hor
    go_ret2
    rw[hr,if_neg (fun h'=>by
     obtain⟨-,h2,h3⟩:=h'
     rw[decide_eq_true h2,decide_eq_true h3] at hor
     cases hor with
     |inl k=>cases k
     |inr k=>cases k)]
    exact⟨rfl,hb.trans ((hb2.mono hb.size).trans (hb3.mono (Nat.le_trans hb.size hb2.size)))⟩
   ·rename_i hor
    go_ret2
    rw[hr,if_pos ⟨he',by have:=hor.1;rwa [Bool.not_eq_false',decide_eq_true_eq] at this,by have:=hor.2;rwa [Bool.not_eq_false',decide_eq_true_eq] at this⟩]
    exact⟨rfl,hb.trans ((hb2.mono hb.size).trans (hb3.mono (Nat.le_trans hb.size hb2.size)))⟩
  ·rename_i hne
   go_ret2
   rw[hr,if_neg (fun h'=>hne ?_)]
   ·exact⟨rfl,hb.trans (hb2.mono hb.size)⟩
   ·rw[←h'.1,ByteArray.toList_mk]
 ·
  obtain⟨tp,p,hv⟩:=gl_syn hg (by kernel_rfl)
  have hr:readV s=(0,false):=by unfold readV readM;rw[h]
  go_enter Tryz.func75,Tryz.ntmps75
  go_wp2_with (go_at_call 118;refine(Any.strconv_Atoi_syntax_var lays172 s hs h tp p _ hv).mono ?_;rintro e w' ⟨N,rfl,-,-,hb⟩)
  go_wp2
  go_ret2
  rw[hr]
  exact⟨rfl,hb⟩
 ·
  obtain⟨tp,p,hv⟩:=gl_ran hg (by kernel_rfl)
  have hr:readV s=(0,false):=by unfold readV readM;rw[h]
  go_enter Tryz.func75,Tryz.ntmps75
  go_wp2_with (go_at_call 118;refine(Any.strconv_Atoi_range_var lays172 s hs h tp p _ hv).mono ?_;rintro e w' ⟨N,rfl,-,-,hb⟩)
  go_wp2
  go_ret2
  rw[hr]
  exact⟨rfl,hb⟩
theorem sp_ok:∀j f,SP j=some f→∀v r,f v=some r→RetI Tryz.prog (FT j) v r:=by
 intro j f hf v r hv
 by_cases h38:j=38
 ·subst h38
  have hf2:some (show InVals (FT 38)→Option (Tup (outTys (FT 38))) from fun v=>itoaF v.1.1)=some f:=hf
  have hf3:=Option.some.inj hf2
  subst hf3
  exact retI_itoa lays171 (by kernel_rfl) (by decide) (by kernel_rfl) hv
 by_cases h42:j=42
 ·subst h42
  have hf2:some (show InVals (FT 42)→Option (Tup (outTys (FT 42))) from fun v=>joinF v.1.1 v.1.2.1)=some f:=hf
  have hf3:=Option.some.inj hf2
  subst hf3
  exact retI_join lays156 lays156X (by kernel_rfl) (by decide) hv
 by_cases h59:j=59
 ·subst h59
  have hf2:some (show InVals (FT 59)→Option (Tup (outTys (FT 59))) from fun v=>repeatF v.1.1 v.1.2.1)=some f:=hf
  have hf3:=Option.some.inj hf2
  subst hf3
  exact retI_repeat lays105 lays105X (by kernel_rfl) (by decide) hv
 by_cases h65:j=65
 ·subst h65
  have hf2:some (show InVals (FT 65)→Option (Tup (outTys (FT 65))) from fun v=>fieldsF v.1.1)=some f:=hf
  have hf3:=Option.some.inj hf2
  subst hf3
  exact retI_fields lays229 (by kernel_rfl) (by decide) (by kernel_rfl) sep_gives (by kernel_rfl) (by kernel_rfl) (by kernel_rfl) hv
 by_cases h76:j=76
 ·subst h76
  have hf2:some (show InVals (FT 76)→Option (Tup (outTys (FT 76))) from fun v=>readF v.1.1)=some f:=hf
  have hf3:=Option.some.inj hf2
  subst hf3
  exact retI_read (by kernel_rfl) (by decide) read_calls hv
 by_cases h80:j=80
 ·subst h80
  have hf2:some (show InVals (FT 80)→Option (Tup (outTys (FT 80))) from fun v=>trimF v.1.1 v.1.2.1)=some f:=hf
  have hf3:=Option.some.inj hf2
  subst hf3
  exact retI_trim lays101 (by kernel_rfl) (by decide) hv
 unfold SP at hf
 rw[dif_neg h38,dif_neg h42,dif_neg h59,dif_neg h65,dif_neg h76,dif_neg h80] at hf
 cases hf
theorem ft_ok:FTok Tryz.prog tt FT SP:=FTok.of tt_ok (by kernel_rfl) ⟨Tryz.func5,Tryz.func5,Tryz.func16,Tryz.func17,Tryz.func45,Tryz.func57,Tryz.func86,Tryz.func127,Tryz.func150,Tryz.func60,Tryz.func109,Tryz.func149,Tryz.func151,Tryz.func167,Tryz.func175,Tryz.func182,Tryz.func59,Tryz.func128,Tryz.func18,Tryz.func40,Tryz.func76,Tryz.func77,Tryz.func120,Tryz.func78,Tryz.func79,Tryz.func104,Tryz.func121,Tryz.func122,Tryz.func119,Tryz.func123,Tryz.func144,Tryz.func124,Tryz.func56,Tryz.func107,Tryz.func80,Tryz.func54,Tryz.func46,Tryz.func87,Tryz.func88,Tryz.func129,Tryz.func89,Tryz.func90,Tryz.func47,Tryz.func91,Tryz.func19,Tryz.func22,Tryz.func33,Tryz.func51,Tryz.func98,Tryz.func99,Tryz.func100,Tryz.func52,Tryz.func63,Tryz.func48,Tryz.func92,Tryz.func93,Tryz.func94,Tryz.func95,Tryz.func20,Tryz.func49,Tryz.func96,Tryz.func97,Tryz.func21,Tryz.func50,Tryz.func23,Tryz.func30,Tryz.func64,Tryz.func53,Tryz.func101,Tryz.func102,Tryz.func136,Tryz.func137,Tryz.func102,Tryz.func103,Tryz.func105,Tryz.func102,Tryz.func138,Tryz.func75,Tryz.func106,Tryz.func102,Tryz.func139,Tryz.func140,Tryz.func24,Tryz.func55,Tryz.func25,Tryz.func29,Tryz.func27,Tryz.func26,Tryz.func58,Tryz.func61,Tryz.func108,Tryz.func28,Tryz.func62,Tryz.func111,Tryz.func110,Tryz.func112,Tryz.func113,Tryz.func68,trivial⟩ (by kernel_rfl) (sp_ok)
noncomputable def F_1y (a0:List Int):Option Bool:=callL tt FT SP 0 (show InVals (FT 0) from((a0,()),(())))
noncomputable def F_20 (a0:List Int):Option Bool:=callL tt FT SP 1 (show InVals (FT 1) from((a0,()),(())))
noncomputable def F_2a (a0:List Int):Option (List SNode):=callL tt FT SP 2 (show InVals (FT 2) from((a0,()),(())))
noncomputable def F_28 (a0:List Int):Option (List SNode):=callL tt FT SP 3 (show InVals (FT 3) from((a0,()),(())))
noncomputable def F_1e (a0:List Int):Option (Yt8×Int×Int):=callL tt FT SP 4 (show InVals (FT 4) from((a0,()),(())))
noncomputable def F_1h (a0x0:List Int) (a0x1:Int) (a0x2:Int) (a1:List Int):Option Yt9:=callL tt FT SP 5 (show InVals (FT 5) from(((a0x0,a0x1,a0x2,()),a1,()),(())))
noncomputable def F_2h (a0x0:List Int) (a0x1:Int) (a0x2:Int) (a1:List Int):Option Yt9:=callL tt FT SP 6 (show InVals (FT 6) from(((a0x0,a0x1,a0x2,()),a1,()),(())))
noncomputable def F_2e (a0:List Int) (a1:Int):Option Int:=callL tt FT SP 7 (show InVals (FT 7) from((a0,a1,()),(())))
noncomputable def F_0 (a0x0:List Int) (a0x1:Int) (a0x2:Int) (a1:Int):Option (Int×Yt8×Int×Int):=callL tt FT SP 8 (show InVals (FT 8) from(((a0x0,a0x1,a0x2,()),a1,()),(())))
noncomputable def F_i (a0x0:List Int) (a0x1:Int) (a0x2:Int):Option (Int×Yt8×Int×Int):=callL tt FT SP 9 (show InVals (FT 9) from(((a0x0,a0x1,a0x2,()),()),(())))
noncomputable def F_3 (a0x0:List Int) (a0x1:Int) (a0x2:Int) (a1:Int):Option Yt10:=callL tt FT SP 10 (show InVals (FT 10) from(((a0x0,a0x1,a0x2,()),a1,()),(())))
noncomputable def F_w (a0x0:List Int) (a0x1:Int) (a0x2:Int) (a1:List Int):Option (Int×Yt8×Int×Int):=callL tt FT SP 11 (show InVals (FT 11) from(((a0x0,a0x1,a0x2,()),a1,()),(())))
noncomputable def F_9 (a0:List (List SNode)):Option (List SNode):=callL tt FT SP 12 (show InVals (FT 12) from((a0,()),(())))
noncomputable def F_2g (a0:List SNode):Option (List SNode):=callL tt FT SP 13 (show InVals (FT 13) from((a0,()),(())))
noncomputable def F_2c (a0:List Int):Option Yt8:=callL tt FT SP 14 (show InVals (FT 14) from((a0,()),(())))
noncomputable def F_8 (a0x0:List Int) (a0x1:Int) (a0x2:Int) (a1:Int):Option (Bool×Yt8×Int×Int):=callL tt FT SP 15 (show InVals (FT 15) from(((a0x0,a0x1,a0x2,()),a1,()),(())))
noncomputable def F_2f (a0x0:List Int) (a0x1:Int) (a0x2:Int) (a1:List SNode):Option Yt9:=callL tt FT SP 16 (show InVals (FT 16) from(((a0x0,a0x1,a0x2,()),a1,()),(())))
noncomputable def F_p (a0:List SNode):Option ByteArray:=callL tt FT SP 17 (show InVals (FT 17) from((a0,()),(())))
noncomputable def F_o (a0:List SNode):Option Bool:=callL tt FT SP 18 (show InVals (FT 18) from((a0,()),(())))
noncomputable def F_5 (a0:Int) (a1:Int) (a2:Int):Option Bool:=callL tt FT SP 19 (show InVals (FT 19) from((a0,a1,a2,()),(())))
noncomputable def F_21 (a0:List SNode):Option Bool:=callL tt FT SP 20 (show InVals (FT 20) from((a0,(()),()),(())))
noncomputable def F_25 (a0:List SNode):Option Int:=callL tt FT SP 21 (show InVals (FT 21) from((a0,(()),()),(())))
noncomputable def F_1n (a0:SNode):Option Bool:=callL tt FT SP 22 (show InVals (FT 22) from((a0,()),(())))
noncomputable def F_n (a0:SNode):Option Bool:=callL tt FT SP 23 (show InVals (FT 23) from((a0,()),(())))
noncomputable def F_10 (a0:ByteArray):Option Bool:=callL tt FT SP 24 (show InVals (FT 24) from((a0,()),(())))
noncomputable def F_c (a0:Int):Option Bool:=callL tt FT SP 25 (show InVals (FT 25) from((a0,()),(())))
noncomputable def F_12 (a0:Int):Option Bool:=callL tt FT SP 26 (show InVals (FT 26) from((a0,()),(())))
noncomputable def F_1p (a0:Int):Option Bool:=callL tt FT SP 27 (show InVals (FT 27) from((a0,()),(())))
noncomputable def F_22 (a0:List Int):Option Bool:=callL tt FT SP 28 (show InVals (FT 28) from((a0,(()),()),(())))
noncomputable def F_26 (a0:List Int):Option Int:=callL tt FT SP 29 (show InVals (FT 29) from((a0,(()),()),(())))
noncomputable def F_1l (a0:Int):Option Bool:=callL tt FT SP 30 (show InVals (FT 30) from((a0,()),(())))
noncomputable def F_16 (a0:SNode) (a1:SNode):Option Bool:=callL tt FT SP 31 (show InVals (FT 31) from((a0,a1,()),(())))
noncomputable def F_24 (a0:List Int) (a1:List Int):Option Bool:=callL tt FT SP 32 (show InVals (FT 32) from((a0,a1,()),(())))
noncomputable def F_g (a0:List SNode) (a1:Int) (a2:Int):Option Int:=callL tt FT SP 33 (show InVals (FT 33) from((a0,a1,a2,()),(())))
noncomputable def F_l (a0:Int):Option Int:=callL tt FT SP 34 (show InVals (FT 34) from((a0,()),(())))
noncomputable def F_e (a0:SNode):Option ByteArray:=callL tt FT SP 35 (show InVals (FT 35) from((a0,()),(())))
noncomputable def F_13:Option Yt6:=callL tt FT SP 36 (show InVals (FT 36) from((()),(())))
noncomputable def F_6 (a0:Int):Option ByteArray:=callL tt FT SP 37 (show InVals (FT 37) from((a0,()),(())))
noncomputable def F_2l (a0:Int):Option ByteArray:=callL tt FT SP 38 (show InVals (FT 38) from((a0,()),(())))
noncomputable def F_14:Option Yt6:=callL tt FT SP 39 (show InVals (FT 39) from((()),(())))
noncomputable def F_y (a0:SNode):Option ByteArray:=callL tt FT SP 40 (show InVals (FT 40) from((a0,()),(())))
noncomputable def F_17 (a0:List ByteArray):Option (ByteArray×Yt6):=callL tt FT SP 41 (show InVals (FT 41) from((a0,()),(())))
noncomputable def F_2n (a0:List ByteArray) (a1:ByteArray):Option (ByteArray×Yt6):=callL tt FT SP 42 (show InVals (FT 42) from((a0,a1,()),(())))
noncomputable def F_v (a0:List SNode):Option ByteArray:=callL tt FT SP 43 (show InVals (FT 43) from((a0,()),(())))
noncomputable def F_h (a0:List SNode):Option Bool:=callL tt FT SP 44 (show InVals (FT 44) from((a0,()),(())))
noncomputable def F_1 (a0:Int) (a1:Int) (a2:Int):Option Bool:=callL tt FT SP 45 (show InVals (FT 45) from((a0,a1,a2,()),(())))
noncomputable def F_u (a0:SNode):Option Bool:=callL tt FT SP 46 (show InVals (FT 46) from((a0,()),(())))
noncomputable def F_1c (a0:ByteArray):Option Bool:=callL tt FT SP 47 (show InVals (FT 47) from((a0,()),(())))
noncomputable def F_d (a0:Int):Option Bool:=callL tt FT SP 48 (show InVals (FT 48) from((a0,()),(())))
noncomputable def F_1f (a0:Int):Option Bool:=callL tt FT SP 49 (show InVals (FT 49) from((a0,()),(())))
noncomputable def F_j (a0:List SNode) (a1:Int) (a2:Int):Option (Int×Int):=callL tt FT SP 50 (show InVals (FT 50) from((a0,a1,a2,()),(())))
noncomputable def F_19 (a0:Int):Option Int:=callL tt FT SP 51 (show InVals (FT 51) from((a0,()),(())))
noncomputable def F_1a (a0:SNode):Option ByteArray:=callL tt FT SP 52 (show InVals (FT 52) from((a0,()),(())))
noncomputable def F_1k:Option Yt6:=callL tt FT SP 53 (show InVals (FT 53) from((()),(())))
noncomputable def F_2 (a0:Int):Option ByteArray:=callL tt FT SP 54 (show InVals (FT 54) from((a0,()),(())))
noncomputable def F_1j:Option Yt6:=callL tt FT SP 55 (show InVals (FT 55) from((()),(())))
noncomputable def F_1i (a0:SNode):Option ByteArray:=callL tt FT SP 56 (show InVals (FT 56) from((a0,()),(())))
noncomputable def F_1m (a0:List SNode):Option ByteArray:=callL tt FT SP 57 (show InVals (FT 57) from((a0,()),(())))
noncomputable def F_r (a0:List SNode) (a1:Int) (a2:Int):Option ByteArray:=callL tt FT SP 58 (show InVals (FT 58) from((a0,a1,a2,()),(())))
noncomputable def F_x (a0:ByteArray) (a1:Int):Option ByteArray:=callL tt FT SP 59 (show InVals (FT 59) from((a0,a1,()),(())))
noncomputable def F_1o (a0:List SNode) (a1:Int):Option Yt8:=callL tt FT SP 60 (show InVals (FT 60) from((a0,a1,()),(())))
noncomputable def F_1b (a0:List SNode):Option ByteArray:=callL tt FT SP 61 (show InVals (FT 61) from((a0,()),(())))
noncomputable def F_2i (a0:List SNode) (a1:Int):Option Int:=callL tt FT SP 62 (show InVals (FT 62) from((a0,a1,()),(())))
noncomputable def F_f (a0:ByteArray):Option Yt16:=callL tt FT SP 63 (show InVals (FT 63) from((a0,()),(())))
noncomputable def F_11 (a0:ByteArray):Option Yt6:=callL tt FT SP 64 (show InVals (FT 64) from((a0,()),(())))
noncomputable def F_2m (a0:ByteArray):Option Yt6:=callL tt FT SP 65 (show InVals (FT 65) from((a0,(()),()),(())))
noncomputable def F_1u (a0x0:List ByteArray) (a0x1:Int) (a0x2:Int):Option (SNode×Yt6×Int×Int):=callL tt FT SP 66 (show InVals (FT 66) from(((a0x0,a0x1,a0x2,()),()),(())))
noncomputable def F_t (a0x0:List ByteArray) (a0x1:Int) (a0x2:Int) (a1:List ByteArray):Option (Int×Yt6×Int×Int):=callL tt FT SP 67 (show InVals (FT 67) from(((a0x0,a0x1,a0x2,()),a1,()),(())))
noncomputable def F_1t (a0x0:List ByteArray) (a0x1:Int) (a0x2:Int) (a1x0x0:List ByteArray) (a1x1x0:Int):Option (Yt6×Int×Int×Yt6×Int):=callL tt FT SP 68 (show InVals (FT 68) from(((a0x0,a0x1,a0x2,()),((a1x0x0,()),(a1x1x0,()),()),()),(())))
noncomputable def F_1x (a0:ByteArray) (c0x0:List ByteArray) (c1x0:Int):Option (Bool×Yt6×Int):=callL tt FT SP 69 (show InVals (FT 69) from((a0,()),((c0x0,()),(c1x0,()),())))
noncomputable def F_27 (a0:List ByteArray) (a1:ByteArray):Option Int:=callL tt FT SP 70 (show InVals (FT 70) from((a0,a1,()),(())))
noncomputable def F_1q (a0x0:List ByteArray) (a0x1:Int) (a0x2:Int) (a1x0x0:Int) (a1x0x1:ByteArray) (a1x0x2:Int) (a1x0x3:Int) (a1x0x4:Int) (a1x0x5:Bool) (a1x0x6:List Int):Option (Yt6×Int×Int×Int×ByteArray×Int×Int×Int×Bool×Yt8):=callL tt FT SP 71 (show InVals (FT 71) from(((a0x0,a0x1,a0x2,()),((a1x0x0,a1x0x1,a1x0x2,a1x0x3,a1x0x4,a1x0x5,a1x0x6,()),()),()),(())))
noncomputable def F_1v (a0:ByteArray) (c0x0:Int) (c0x1:ByteArray) (c0x2:Int) (c0x3:Int) (c0x4:Int) (c0x5:Bool) (c0x6:List Int):Option (Bool×Int×ByteArray×Int×Int×Int×Bool×Yt8):=callL tt FT SP 72 (show InVals (FT 72) from((a0,()),((c0x0,c0x1,c0x2,c0x3,c0x4,c0x5,c0x6,()),())))
noncomputable def F_7 (a0x0:List ByteArray) (a0x1:Int) (a0x2:Int) (a1:Int) (a2:Int):Option (Int×Yt6×Int×Int):=callL tt FT SP 73 (show InVals (FT 73) from(((a0x0,a0x1,a0x2,()),a1,a2,()),(())))
noncomputable def F_1s (a0x0:List ByteArray) (a0x1:Int) (a0x2:Int) (a1x0x0:Int) (a1x1x0:Int) (a1x2x0:Int):Option (Yt6×Int×Int×Int×Int×Int):=callL tt FT SP 74 (show InVals (FT 74) from(((a0x0,a0x1,a0x2,()),((a1x0x0,()),(a1x1x0,()),(a1x2x0,()),()),()),(())))
noncomputable def F_1w (a0:ByteArray) (c0x0:Int) (c1x0:Int) (c2x0:Int):Option (Bool×Int×Int×Int):=callL tt FT SP 75 (show InVals (FT 75) from((a0,()),((c0x0,()),(c1x0,()),(c2x0,()),())))
noncomputable def F_15 (a0:ByteArray):Option Yt21:=callL tt FT SP 76 (show InVals (FT 76) from((a0,()),(())))
noncomputable def F_s (a0x0:List ByteArray) (a0x1:Int) (a0x2:Int):Option (Int×Bool×Yt6×Int×Int):=callL tt FT SP 77 (show InVals (FT 77) from(((a0x0,a0x1,a0x2,()),()),(())))
noncomputable def F_1r (a0x0:List ByteArray) (a0x1:Int) (a0x2:Int) (a1x0x0:Int) (a1x1x0:Bool):Option (Yt6×Int×Int×Int×Bool):=callL tt FT SP 78 (show InVals (FT 78) from(((a0x0,a0x1,a0x2,()),((a1x0x0,()),(a1x1x0,()),()),()),(())))
noncomputable def F_18 (a0:ByteArray) (c0x0:Int) (c1x0:Bool):Option (Bool×Int×Bool):=callL tt FT SP 79 (show InVals (FT 79) from((a0,()),((c0x0,()),(c1x0,()),())))
noncomputable def F_2o (a0:ByteArray) (a1:ByteArray):Option ByteArray:=callL tt FT SP 80 (show InVals (FT 80) from((a0,a1,()),(())))
noncomputable def F_q (a0:List SNode) (a1:List SNode):Option Bool:=callL tt FT SP 81 (show InVals (FT 81) from((a0,a1,()),(())))
noncomputable def F_23 (a0:List SNode) (a1:List SNode):Option Bool:=callL tt FT SP 82 (show InVals (FT 82) from((a0,a1,(()),()),(())))
noncomputable def F_m (a0:ByteArray):Option Bool:=callL tt FT SP 83 (show InVals (FT 83) from((a0,()),(())))
noncomputable def F_z (a0:ByteArray):Option (ByteArray×Bool):=callL tt FT SP 84 (show InVals (FT 84) from((a0,()),(())))
noncomputable def F_1z (a0:List Int) (a1:Int):Option Yt8:=callL tt FT SP 85 (show InVals (FT 85) from((a0,a1,()),(())))
noncomputable def F_29 (a0:List Int):Option ByteArray:=callL tt FT SP 86 (show InVals (FT 86) from((a0,()),(())))
noncomputable def F_2j (a0x0:List Int) (a0x1:Int) (a0x2:Int) (a1:List Int):Option Yt12:=callL tt FT SP 87 (show InVals (FT 87) from(((a0x0,a0x1,a0x2,()),a1,()),(())))
noncomputable def F_1d (a0:ByteArray):Option Yt6:=callL tt FT SP 88 (show InVals (FT 88) from((a0,()),(())))
noncomputable def F_1g (a0x0:List Int) (a0x1:Int) (a0x2:Int) (a1:List ByteArray):Option Yt12:=callL tt FT SP 89 (show InVals (FT 89) from(((a0x0,a0x1,a0x2,()),a1,()),(())))
noncomputable def F_2b (a0:ByteArray):Option Yt16:=callL tt FT SP 90 (show InVals (FT 90) from((a0,()),(())))
noncomputable def F_2k (a0x0:List ByteArray) (a0x1:Int) (a0x2:Bool):Option (SNode×Yt6×Int×Bool):=callL tt FT SP 91 (show InVals (FT 91) from(((a0x0,a0x1,a0x2,()),()),(())))
noncomputable def F_b (a0x0:List ByteArray) (a0x1:Int) (a0x2:Bool):Option Yt20:=callL tt FT SP 92 (show InVals (FT 92) from(((a0x0,a0x1,a0x2,()),()),(())))
noncomputable def F_k (a0:List ByteArray) (a1:ByteArray):Option Int:=callL tt FT SP 93 (show InVals (FT 93) from((a0,a1,()),(())))
noncomputable def F_a (a0x0:List ByteArray) (a0x1:Int) (a0x2:Bool):Option (Yt6×Int×Bool):=callL tt FT SP 94 (show InVals (FT 94) from(((a0x0,a0x1,a0x2,()),()),(())))
noncomputable def F_4 (a0x0:List ByteArray) (a0x1:Int) (a0x2:Bool) (a1:Bool):Option Yt15:=callL tt FT SP 95 (show InVals (FT 95) from(((a0x0,a0x1,a0x2,()),a1,()),(())))
noncomputable def F_2d (a0:ByteArray):Option Yt21:=callL tt FT SP 96 (show InVals (FT 96) from((a0,()),(())))
@[simp] noncomputable def J_14 (v12:Bool):Option Yt14:=
 (bif v12 then
 some (.ret false)
 else some (.go false))
@[simp] noncomputable def J_2a (v22:Bool):Option Bool:=
 some v22
@[simp] noncomputable def J_2b (v24:Bool):Option Bool:=
 some v24
@[simp] noncomputable def J_15 (y15:ByteArray) (y16:Yt16) (v19:Bool):Option Bool:=
 (bif v19 then
 some false
 else(F_z y15).bind (fun y20=>(bif (decide (y16.2≥0)) then
 joinK ((bif (!y20.2) then
 (bif (decide ((y15.size:Int)>2000)) then
 some (.go true)
 else(F_11 y15).bind (fun y21=>some (.go (decide (y16.2≤(y21.length:Int))))))
 else some (.go false)))
 (fun s=>J_2a s)
 else joinK ((bif y20.2 then
 (F_m y20.1).bind (fun y23=>some (.go y23))
 else some (.go false)))
 (fun s=>J_2b s))))
@[simp] noncomputable def J_13 (a0:List Int) (v13:Bool):Option Bool:=
 (F_1z a0 1).bind (fun y14=>(F_29 y14).bind (fun y15=>(F_f y15).bind (fun y16=>(F_2b y15).bind (fun y17=>joinK ((bif (y16.2 != y17.2) then
 some (.go true)
 else(F_q y16.1 y17.1).bind (fun y18=>some (.go (!y18)))))
 (fun s=>J_15 y15 y16 s)))))
@[simp] noncomputable def J_12 (a0:List Int) (y2:List SNode) (y3:ByteArray) (v7:Bool):Option Bool:=
 (bif v7 then
 some false
 else joinK ((F_h y2).bind (fun y8=>(bif y8 then
 (F_f y3).bind (fun y9=>joinK ((bif (y9.2 != (-1)) then
 some (.go true)
 else(F_q y9.1 y2).bind (fun y10=>(bif (!y10) then
 some (.go true)
 else(F_m y3).bind (fun y11=>some (.go (!y11)))))))
 (fun s=>J_14 s))
 else some (.go false))))
 (fun s=>J_13 a0 s))
theorem U_1a (a0:List Int):Le ((F_20 a0).bind (fun y1=>(bif y1 then
 some true
 else(F_2a a0).bind (fun y2=>(F_p y2).bind (fun y3=>joinK ((F_v y2).bind (fun y4=>(bif (!(y3.toList==y4.toList)) then
 some (.go true)
 else(F_1m y2).bind (fun y5=>(F_1b y2).bind (fun y6=>some (.go (!(y5.toList==y6.toList))))))))
 (fun s=>J_12 a0 y2 y3 s)))))) (F_1y a0):=callL_le (tt:=tt) (FT:=FT) (SP:=SP) (j:=0) rfl (by kernel_rfl)
theorem U_1c (a0:List Int):Le (some (decide ((a0.length:Int)>1048576))) (F_20 a0):=callL_le (tt:=tt) (FT:=FT) (SP:=SP) (j:=1) rfl (by kernel_rfl)
theorem U_1n (a0:List Int):Le ((F_28 a0).bind (fun y1=>some y1)) (F_2a a0):=callL_le (tt:=tt) (FT:=FT) (SP:=SP) (j:=2) rfl (by kernel_rfl)
theorem U_1l (a0:List Int):Le ((F_1e a0).bind (fun y1=>(F_1h y1.1 y1.2.1 y1.2.2 a0).bind (fun y2=>some y2.1))) (F_28 a0):=callL_le (tt:=tt) (FT:=FT) (SP:=SP) (j:=3) rfl (by kernel_rfl)
@[simp] noncomputable def J_31 (a0:List Int) (v1:Int) (v2:Int) (f0:(Int×Int)→Option (Ex (Yt8×Int×Int) Int)) (v3:Bool):Option (Ex (Yt8×Int×Int) Int):=
 (bif v3 then
 (ix a0 v2).bind (fun z4=>f0 ((andV .i64 (IntKind.i64.wrap ((IntKind.i64.wrap ((IntKind.i64.wrap (v1*149))+(IntKind.i64.wrap z4)))+11)) 1073741823),(IntKind.i64.wrap (v2+1))))
 else some (.go v1))
noncomputable def L_x (a0:List Int) (f0:(Int×Int)→Option (Ex (Yt8×Int×Int) Int)) (v1:Int) (v2:Int):Option (Ex (Yt8×Int×Int) Int):=
 joinK ((bif (decide (v2<(a0.length:Int))) then
 some (.go (decide (v2<4000)))
 else some (.go false)))
 (fun s=>J_31 a0 v1 v2 f0 s)
@[simp] noncomputable def J_30 (a0:List Int) (v5:Int):Option (Yt8×Int×Int):=
 some (a0,0,v5)
theorem U_1y (a0:List Int):Le (joinK (loopF (fun f s=>L_x a0 f s.1 s.2) ((IntKind.i64.wrap (844844+(a0.length:Int))),0))
 (fun s=>J_30 a0 s)) (F_1e a0):=callL_le (tt:=tt) (FT:=FT) (SP:=SP) (j:=4) rfl (by kernel_rfl)
@[simp] noncomputable def J_1u (v2:List SNode) (v3:Int) (v4:Int) (v15:Bool) (v16:List Int) (v17:Int) (v18:Int):Option (Ex (Ex Yt9 Yt9) Yt10):=
 (bif v15 then
 (ix v2 v4).bind (fun z19=>(ix v2 v4).bind (fun z20=>(ix (v2.set (v4).toNat (z20.1,(z20.2.1,(z20.2.2.1,(z20.2.2.2.1,(z20.2.2.2.2.1,(true,z20.2.2.2.2.2.2))))))) v4).bind (fun z21=>(ix (v2.set (v4).toNat (z20.1,(z20.2.1,(z20.2.2.1,(z20.2.2.2.1,(z20.2.2.2.2.1,(true,z20.2.2.2.2.2.2))))))) v4).bind (fun z22=>some (.go (((v2.set (v4).toNat (z20.1,(z20.2.1,(z20.2.2.1,(z20.2.2.2.1,(z20.2.2.2.2.1,(true,z20.2.2.2.2.2.2))))))).set (v4).toNat (z22.1,(z22.2.1,(z22.2.2.1,(z22.2.2.2.1,(v3,z22.2.2.2.2.2)))))),(IntKind.i64.wrap (v3+1)),v16,v17,v18))))))
 else some (.go (v2,v3,v16,v17,v18)))
@[simp] noncomputable def J_1t (v4:Int) (f0:((List SNode)×Int×Int×Yt8×Int×Int)→Option (Ex Yt9 Yt9)) (v23:List SNode) (v24:Int) (v25:List Int) (v26:Int) (v27:Int):Option (Ex Yt9 Yt9):=
 f0 (v23,v24,(IntKind.i64.wrap (v4+1)),v25,v26,v27)
noncomputable def L_z (f0:((List SNode)×Int×Int×Yt8×Int×Int)→Option (Ex Yt9 Yt9)) (v2:List SNode) (v3:Int) (v4:Int) (v5:List Int) (v6:Int) (v7:Int):Option (Ex Yt9 Yt9):=
 (bif (decide (v4<(v2.length:Int))) then
 joinK (joinK ((ix v2 v4).bind (fun z8=>(bif (z8.1==1) then
 (ix v2 v4).bind (fun z9=>(bif (z9.2.2.2.1 != 3) then
 (F_8 v5 v6 v7 3).bind (fun y10=>some (.go (y10.1,y10.2.1,y10.2.2.1,y10.2.2.2)))
 else(ix v2 v4).bind (fun z11=>(bif (z11.1==6) then
 (F_8 v5 v6 v7 3).bind (fun y12=>some (.go (y12.1,y12.2.1,y12.2.2.1,y12.2.2.2)))
 else some (.go (false,v5,v6,v7))))))
 else(ix v2 v4).bind (fun z13=>(bif (z13.1==6) then
 (F_8 v5 v6 v7 3).bind (fun y14=>some (.go (y14.1,y14.2.1,y14.2.2.1,y14.2.2.2)))
 else some (.go (false,v5,v6,v7)))))))
 (fun s=>J_1u v2 v3 v4 s.1 s.2.1 s.2.2.1 s.2.2.2))
 (fun s=>J_1t v4 f0 s.1 s.2.1 s.2.2.1 s.2.2.2.1 s.2.2.2.2)
 else some (.go (v2,v5,v6,v7)))
@[simp] noncomputable def J_1s (v28:List SNode) (v29:List Int) (v30:Int) (v31:Int):Option Yt9:=
 (F_2f v29 v30 v31 v28).bind (fun y32=>some (y32.1,y32.2.1,y32.2.2.1,y32.2.2.2))
theorem U_2c (a0x0:List Int) (a0x1:Int) (a0x2:Int) (a1:List Int):Le ((F_2h a0x0 a0x1 a0x2 a1).bind (fun y1=>joinK (loopF (fun f s=>L_z f s.1 s.2.1 s.2.2.1 s.2.2.2.1 s.2.2.2.2.1 s.2.2.2.2.2) (y1.1,0,0,y1.2.1,y1.2.2.1,y1.2.2.2))
 (fun s=>J_1s s.1 s.2.1 s.2.2.1 s.2.2.2))) (F_1h a0x0 a0x1 a0x2 a1):=callL_le (tt:=tt) (FT:=FT) (SP:=SP) (j:=5) rfl (by kernel_rfl)
theorem U_29 (a0x0:List Int) (a0x1:Int) (a0x2:Int) (a1:List Int):Le ((F_2e a1 7).bind (fun y1=>(F_0 a0x0 a0x1 a0x2 y1).bind (fun y2=>(F_3 y2.2.1 y2.2.2.1 y2.2.2.2 (IntKind.i64.wrap (1+y2.1))).bind (fun y3=>some (y3.1,y3.2.2.1,y3.2.2.2.1,y3.2.2.2.2))))) (F_2h a0x0 a0x1 a0x2 a1):=callL_le (tt:=tt) (FT:=FT) (SP:=SP) (j:=6) rfl (by kernel_rfl)
theorem U_25 (a0:List Int) (a1:Int):Le ((quox (a0.length:Int) 16).bind (fun z1=>(bif (decide ((IntKind.i64.wrap (2+z1))>a1)) then
 some a1
 else some (IntKind.i64.wrap (2+z1))))) (F_2e a0 a1):=callL_le (tt:=tt) (FT:=FT) (SP:=SP) (j:=7) rfl (by kernel_rfl)
theorem U_1u (a0x0:List Int) (a0x1:Int) (a0x2:Int) (a1:Int):Le ((bif (decide (a1≤0)) then
 some (0,a0x0,a0x1,a0x2)
 else(bif (decide (a1≤256)) then
 (F_i a0x0 a0x1 a0x2).bind (fun y1=>(remx y1.1 a1).bind (fun z2=>some (z2,y1.2.1,y1.2.2.1,y1.2.2.2)))
 else(F_i a0x0 a0x1 a0x2).bind (fun y3=>(F_i y3.2.1 y3.2.2.1 y3.2.2.2).bind (fun y4=>(F_i y4.2.1 y4.2.2.1 y4.2.2.2).bind (fun y5=>(remx (IntKind.i64.wrap ((IntKind.i64.wrap ((IntKind.i64.wrap (y3.1*65536))+(IntKind.i64.wrap (y4.1*256))))+y5.1)) a1).bind (fun z6=>some (z6,y5.2.1,y5.2.2.1,y5.2.2.2)))))))) (F_0 a0x0 a0x1 a0x2 a1):=callL_le (tt:=tt) (FT:=FT) (SP:=SP) (j:=8) rfl (by kernel_rfl)
@[simp] noncomputable def J_1g (v4:Int) (v5:List Int) (v6:Int) (v7:Int):Option (Int×Yt8×Int×Int):=
 some (v4,v5,v6,v7)
theorem U_1v (a0x0:List Int) (a0x1:Int) (a0x2:Int):Le ((shrV .i64 (IntKind.i64.wrap ((IntKind.i64.wrap (a0x2*6364136223846793005))+1442695040888963407)) 33).bind (fun z1=>(shrV .i64 (IntKind.i64.wrap ((IntKind.i64.wrap (a0x2*6364136223846793005))+1442695040888963407)) 45).bind (fun z2=>joinK ((bif (decide (a0x1<(a0x0.length:Int))) then
 (ix a0x0 a0x1).bind (fun z3=>some (.go ((andV .i64 (IntKind.i64.wrap ((andV .i64 (xorV .i64 z1 z2) 255)+(IntKind.i64.wrap z3))) 255),a0x0,(IntKind.i64.wrap (a0x1+1)),(IntKind.i64.wrap ((IntKind.i64.wrap (a0x2*6364136223846793005))+1442695040888963407)))))
 else some (.go ((andV .i64 (xorV .i64 z1 z2) 255),a0x0,a0x1,(IntKind.i64.wrap ((IntKind.i64.wrap (a0x2*6364136223846793005))+1442695040888963407))))))
 (fun s=>J_1g s.1 s.2.1 s.2.2.1 s.2.2.2)))) (F_i a0x0 a0x1 a0x2):=callL_le (tt:=tt) (FT:=FT) (SP:=SP) (j:=9) rfl (by kernel_rfl)
@[simp] noncomputable def J_1p (y12:Yt10) (v15:List SNode) (v16:Int) (v17:List SNode):Option Yt10:=
 (F_9 ([[(4,(ByteArray.empty,(0,(0,(0,(false,([],())))))))],v15,v17])).bind (fun y18=>some (y18,v16,y12.2.2.1,y12.2.2.2.1,y12.2.2.2.2))
noncomputable def L_y (y19:Yt10) (f0:(Int×ByteArray×Int×Int×Int×Bool×Yt8×Int×Yt8×Int×Int)→Option (Ex Yt17 (Int×ByteArray×Int×Int×Int×Bool×Yt8×Yt8×Int×Int))) (v24:Int) (v25:ByteArray) (v26:Int) (v27:Int) (v28:Int) (v29:Bool) (v30:List Int) (v31:Int) (v32:List Int) (v33:Int) (v34:Int):Option (Ex Yt17 (Int×ByteArray×Int×Int×Int×Bool×Yt8×Yt8×Int×Int)):=
 (bif (decide (v31>0)) then
 (F_0 v32 v33 v34 y19.2.1).bind (fun y35=>(apx v30 ([y35.1])).bind (fun z36=>f0 (v24,v25,v26,v27,v28,v29,z36,(IntKind.i64.wrap (v31-1)),y35.2.1,y35.2.2.1,y35.2.2.2)))
 else some (.go (v24,v25,v26,v27,v28,v29,v30,v32,v33,v34)))
@[simp] noncomputable def J_34 (v37:Int) (v38:ByteArray) (v39:Int) (v40:Int) (v41:Int) (v42:Bool) (v43:List Int) (v44:List Int) (v45:Int) (v46:Int):Option Yt17:=
 some (.go ((v43.length:Int),v37,v38,v39,v40,v41,v42,v43,v44,v45,v46))
@[simp] noncomputable def J_1q (y19:Yt10) (v49:Int) (v50:Int) (v51:ByteArray) (v52:Int) (v53:Int) (v54:Int) (v55:Bool) (v56:List Int) (v57:List Int) (v58:Int) (v59:Int):Option Yt10:=
 (F_9 ([[(v50,(v51,(v52,(v53,(v54,(v55,(v56,())))))))],y19.1])).bind (fun y60=>some (y60,v49,v57,v58,v59))
@[simp] noncomputable def J_1o (a1:Int) (y1:(Int×Yt8×Int×Int)) (v2:Int):Option Yt10:=
 (bif (v2==0) then
 (F_0 y1.2.1 y1.2.2.1 y1.2.2.2 3).bind (fun y3=>(ix ([(⟨#[116,49]⟩:ByteArray),(⟨#[116,50]⟩:ByteArray),(⟨#[116,51]⟩:ByteArray)]) y3.1).bind (fun z4=>(ix ([2,3,1]) y3.1).bind (fun z5=>some ([(0,(z4,(0,(0,(0,(false,([],())))))))],z5,y3.2.1,y3.2.2.1,y3.2.2.2))))
 else(bif (v2==3) then
 (F_3 y1.2.1 y1.2.2.1 y1.2.2.2 (IntKind.i64.wrap (a1-1))).bind (fun y6=>(F_3 y6.2.2.1 y6.2.2.2.1 y6.2.2.2.2 (IntKind.i64.wrap (a1-2))).bind (fun y7=>(F_0 y7.2.2.1 y7.2.2.2.1 y7.2.2.2.2 y6.2.1).bind (fun y8=>(F_0 y8.2.1 y8.2.2.1 y8.2.2.2 y7.2.1).bind (fun y9=>(F_9 ([[(3,(ByteArray.empty,(y8.1,(0,(y9.1,(false,([],())))))))],y6.1,y7.1])).bind (fun y10=>some (y10,(IntKind.i64.wrap (y6.2.1+y7.2.1)),y9.2.1,y9.2.2.1,y9.2.2.2))))))
 else(bif (v2==4) then
 (F_3 y1.2.1 y1.2.2.1 y1.2.2.2 (IntKind.i64.wrap (a1-1))).bind (fun y11=>(F_3 y11.2.2.1 y11.2.2.2.1 y11.2.2.2.2 (IntKind.i64.wrap (a1-2))).bind (fun y12=>joinK ((bif (y12.2.1 != y11.2.1) then
 (F_9 ([[(2,(ByteArray.empty,(0,(0,(0,(false,([0],())))))))],y11.1])).bind (fun y13=>(F_9 ([[(2,(ByteArray.empty,(0,(0,(0,(false,([0],())))))))],y12.1])).bind (fun y14=>some (.go (y13,1,y14))))
 else some (.go (y11.1,y11.2.1,y12.1))))
 (fun s=>J_1p y12 s.1 s.2.1 s.2.2)))
 else(F_3 y1.2.1 y1.2.2.1 y1.2.2.2 (IntKind.i64.wrap (a1-1))).bind (fun y19=>joinK ((bif (v2==1) then
 (F_0 y19.2.2.1 y19.2.2.2.1 y19.2.2.2.2 y19.2.1).bind (fun y20=>(F_0 y20.2.1 y20.2.2.1 y20.2.2.2 4).bind (fun y21=>(bif (y21.1 != 3) then
 (F_0 y21.2.1 y21.2.2.1 y21.2.2.2 6).bind (fun y22=>some (.go (y19.2.1,v2,ByteArray.empty,y20.1,y21.1,(IntKind.i64.wrap (y22.1-1)),false,[],y22.2.1,y22.2.2.1,y22.2.2.2)))
 else some (.go (y19.2.1,v2,ByteArray.empty,y20.1,y21.1,0,false,[],y21.2.1,y21.2.2.1,y21.2.2.2)))))
 else(bif (v2==2) then
 joinK ((F_0 y19.2.2.1 y19.2.2.2.1 y19.2.2.2.2 3).bind (fun y23=>loopF (fun f s=>L_y y19 f s.1 s.2.1 s.2.2.1 s.2.2.2.1 s.2.2.2.2.1 s.2.2.2.2.2.1 s.2.2.2.2.2.2.1 s.2.2.2.2.2.2.2.1 s.2.2.2.2.2.2.2.2.1 s.2.2.2.2.2.2.2.2.2.1 s.2.2.2.2.2.2.2.2.2.2) (v2,ByteArray.empty,0,0,0,false,[],(IntKind.i64.wrap (1+y23.1)),y23.2.1,y23.2.2.1,y23.2.2.2)))
 (fun s=>J_34 s.1 s.2.1 s.2.2.1 s.2.2.2.1 s.2.2.2.2.1 s.2.2.2.2.2.1 s.2.2.2.2.2.2.1 s.2.2.2.2.2.2.2.1 s.2.2.2.2.2.2.2.2.1 s.2.2.2.2.2.2.2.2.2)
 else(bif (v2==5) then
 (F_0 y19.2.2.1 y19.2.2.2.1 y19.2.2.2.2 y19.2.1).bind (fun y47=>some (.go (y19.2.1,v2,ByteArray.empty,y47.1,0,0,false,[],y47.2.1,y47.2.2.1,y47.2.2.2)))
 else(bif (v2==6) then
 (F_0 y19.2.2.1 y19.2.2.2.1 y19.2.2.2.2 6).bind (fun y48=>some (.go (y19.2.1,v2,ByteArray.empty,0,0,y48.1,false,[],y48.2.1,y48.2.2.1,y48.2.2.2)))
 else some (.go (y19.2.1,v2,ByteArray.empty,0,0,0,false,[],y19.2.2.1,y19.2.2.2.1,y19.2.2.2.2)))))))
 (fun s=>J_1q y19 s.1 s.2.1 s.2.2.1 s.2.2.2.1 s.2.2.2.2.1 s.2.2.2.2.2.1 s.2.2.2.2.2.2.1 s.2.2.2.2.2.2.2.1 s.2.2.2.2.2.2.2.2.1 s.2.2.2.2.2.2.2.2.2.1 s.2.2.2.2.2.2.2.2.2.2)))))
theorem U_2a (a0x0:List Int) (a0x1:Int) (a0x2:Int) (a1:Int):Le ((F_w a0x0 a0x1 a0x2 ([0,1,1,1,2,3,4,5,6,7])).bind (fun y1=>joinK ((bif (decide (a1≤1)) then
 some (.go 0)
 else some (.go y1.1)))
 (fun s=>J_1o a1 y1 s))) (F_3 a0x0 a0x1 a0x2 a1):=callL_le (tt:=tt) (FT:=FT) (SP:=SP) (j:=10) rfl (by kernel_rfl)
theorem U_22 (a0x0:List Int) (a0x1:Int) (a0x2:Int) (a1:List Int):Le ((F_0 a0x0 a0x1 a0x2 (a1.length:Int)).bind (fun y1=>(ix a1 y1.1).bind (fun z2=>some (z2,y1.2.1,y1.2.2.1,y1.2.2.2)))) (F_w a0x0 a0x1 a0x2 a1):=callL_le (tt:=tt) (FT:=FT) (SP:=SP) (j:=11) rfl (by kernel_rfl)
noncomputable def L_l (a0:List (List SNode)) (f0:Yt16→Option Yt18) (v1:List SNode) (v2:Int):Option Yt18:=
 (bif (decide (v2<(a0.length:Int))) then
 (ix a0 v2).bind (fun z3=>(F_2g z3).bind (fun y4=>(apx v1 y4).bind (fun z5=>f0 (z5,(IntKind.i64.wrap (v2+1))))))
 else some (.go v1))
@[simp] noncomputable def J_35 (v6:List SNode):Option (List SNode):=
 some v6
theorem U_2b (a0:List (List SNode)):Le (joinK (loopF (fun f s=>L_l a0 f s.1 s.2) ([],0))
 (fun s=>J_35 s)) (F_9 a0):=callL_le (tt:=tt) (FT:=FT) (SP:=SP) (j:=12) rfl (by kernel_rfl)
@[simp] noncomputable def J_1n (v1:List SNode) (v2:Int) (f0:Yt16→Option Yt18) (v7:Int) (v8:ByteArray) (v9:Int) (v10:Int) (v11:Int) (v12:Bool) (v13:List Int):Option Yt18:=
 (apx v1 ([(v7,(v8,(v9,(v10,(v11,(v12,(v13,())))))))])).bind (fun z14=>f0 (z14,(IntKind.i64.wrap (v2+1))))
noncomputable def L_k (a0:List SNode) (f0:Yt16→Option Yt18) (v1:List SNode) (v2:Int):Option Yt18:=
 (bif (decide (v2<(a0.length:Int))) then
 (ix a0 v2).bind (fun z3=>joinK ((ix a0 v2).bind (fun z4=>(bif (decide ((z4.2.2.2.2.2.2.1.length:Int)>0)) then
 (ix a0 v2).bind (fun z5=>(F_2c z5.2.2.2.2.2.2.1).bind (fun y6=>some (.go (z3.1,z3.2.1,z3.2.2.1,z3.2.2.2.1,z3.2.2.2.2.1,z3.2.2.2.2.2.1,y6))))
 else some (.go (z3.1,z3.2.1,z3.2.2.1,z3.2.2.2.1,z3.2.2.2.2.1,z3.2.2.2.2.2.1,[])))))
 (fun s=>J_1n v1 v2 f0 s.1 s.2.1 s.2.2.1 s.2.2.2.1 s.2.2.2.2.1 s.2.2.2.2.2.1 s.2.2.2.2.2.2))
 else some (.go v1))
@[simp] noncomputable def J_33 (v15:List SNode):Option (List SNode):=
 some v15
theorem U_28 (a0:List SNode):Le (joinK (loopF (fun f s=>L_k a0 f s.1 s.2) ([],0))
 (fun s=>J_33 s)) (F_2g a0):=callL_le (tt:=tt) (FT:=FT) (SP:=SP) (j:=13) rfl (by kernel_rfl)
noncomputable def L_j (a0:List Int) (f0:(Yt8×Int)→Option (Ex Yt8 Yt8)) (v1:List Int) (v2:Int):Option (Ex Yt8 Yt8):=
 (bif (decide (v2<(a0.length:Int))) then
 (ix a0 v2).bind (fun z3=>(apx v1 ([z3])).bind (fun z4=>f0 (z4,(IntKind.i64.wrap (v2+1)))))
 else some (.go v1))
@[simp] noncomputable def J_2y (v5:List Int):Option Yt8:=
 some v5
theorem U_1w (a0:List Int):Le (joinK (loopF (fun f s=>L_j a0 f s.1 s.2) ([],0))
 (fun s=>J_2y s)) (F_2c a0):=callL_le (tt:=tt) (FT:=FT) (SP:=SP) (j:=14) rfl (by kernel_rfl)
theorem U_21 (a0x0:List Int) (a0x1:Int) (a0x2:Int) (a1:Int):Le ((F_0 a0x0 a0x1 a0x2 a1).bind (fun y1=>some ((y1.1==0),y1.2.1,y1.2.2.1,y1.2.2.2))) (F_8 a0x0 a0x1 a0x2 a1):=callL_le (tt:=tt) (FT:=FT) (SP:=SP) (j:=15) rfl (by kernel_rfl)
@[simp] noncomputable def J_1m (a1:List SNode) (v2:Bool) (v3:List Int) (v4:Int) (v5:Int):Option Yt9:=
 (bif v2 then
 some (a1,v3,v4,v5)
 else(F_0 v3 v4 v5 (a1.length:Int)).bind (fun y6=>(F_0 y6.2.1 y6.2.2.1 y6.2.2.2 7).bind (fun y7=>(bif (y7.1==0) then
 (F_0 y7.2.1 y7.2.2.1 y7.2.2.2 10).bind (fun y8=>(ix a1 y6.1).bind (fun z9=>(ix a1 y6.1).bind (fun z10=>some ((a1.set (y6.1).toNat ((IntKind.i64.wrap (y8.1-1)),z10.2)),y8.2.1,y8.2.2.1,y8.2.2.2))))
 else(bif (y7.1==1) then
 (F_w y7.2.1 y7.2.2.1 y7.2.2.2 ([(-1),63,64,2])).bind (fun y11=>(ix a1 y6.1).bind (fun z12=>(ix a1 y6.1).bind (fun z13=>some ((a1.set (y6.1).toNat (z13.1,(z13.2.1,(y11.1,z13.2.2.2)))),y11.2.1,y11.2.2.1,y11.2.2.2))))
 else(bif (y7.1==2) then
 (F_w y7.2.1 y7.2.2.1 y7.2.2.2 ([(-1),1000000,1000001])).bind (fun y14=>(ix a1 y6.1).bind (fun z15=>(ix a1 y6.1).bind (fun z16=>some ((a1.set (y6.1).toNat (z16.1,(z16.2.1,(z16.2.2.1,(z16.2.2.2.1,(y14.1,z16.2.2.2.2.2)))))),y14.2.1,y14.2.2.1,y14.2.2.2))))
 else(bif (y7.1==3) then
 (ix a1 y6.1).bind (fun z17=>(ix a1 y6.1).bind (fun z18=>some ((a1.set (y6.1).toNat (z18.1,(z18.2.1,(z18.2.2.1,(z18.2.2.2.1,(z18.2.2.2.2.1,(true,z18.2.2.2.2.2.2))))))),y7.2.1,y7.2.2.1,y7.2.2.2)))
 else(bif (y7.1==4) then
 (ix a1 y6.1).bind (fun z19=>(ix a1 y6.1).bind (fun z20=>(apx a1 ([z20])).bind (fun z21=>some (z21,y7.2.1,y7.2.2.1,y7.2.2.2))))
 else(bif (y7.1==5) then
 (tkx a1 y6.1).bind (fun z22=>some (z22,y7.2.1,y7.2.2.1,y7.2.2.2))
 else(bif (y7.1==6) then
 (ix a1 y6.1).bind (fun z23=>(ix a1 y6.1).bind (fun z24=>(bind2 (ix a1 y6.1) (fun z25=>apx z25.2.2.2.2.2.2.1 ([0]))).bind (fun y26=>(inx a1.length y6.1).bind (fun z27=>(eqix y6.1 y6.1 a1).bind (fun z28=>some ((a1.set (y6.1).toNat (z28.1,(z28.2.1,(z28.2.2.1,(z28.2.2.2.1,(z28.2.2.2.2.1,(z28.2.2.2.2.2.1,(y26.2,z28.2.2.2.2.2.2.2)))))))),y7.2.1,y7.2.2.1,y7.2.2.2))))))
 else some (a1,y7.2.1,y7.2.2.1,y7.2.2.2)))))))))))
theorem U_26 (a0x0:List Int) (a0x1:Int) (a0x2:Int) (a1:List SNode):Le (joinK ((F_8 a0x0 a0x1 a0x2 8).bind (fun y1=>(bif (!y1.1) then
 some (.go (true,y1.2.1,y1.2.2.1,y1.2.2.2))
 else some (.go (((a1.length:Int)==0),y1.2.1,y1.2.2.1,y1.2.2.2)))))
 (fun s=>J_1m a1 s.1 s.2.1 s.2.2.1 s.2.2.2)) (F_2f a0x0 a0x1 a0x2 a1):=callL_le (tt:=tt) (FT:=FT) (SP:=SP) (j:=16) rfl (by kernel_rfl)
noncomputable def L_7 (a0:List SNode) (f0:(Yt6×Int)→Option (Ex ByteArray Yt6)) (v2:List ByteArray) (v3:Int):Option (Ex ByteArray Yt6):=
 (bif (decide (v3<(a0.length:Int))) then
 (ix a0 v3).bind (fun z4=>(F_e (z4.1,(z4.2.1,(z4.2.2.1,(z4.2.2.2.1,(z4.2.2.2.2.1,(z4.2.2.2.2.2.1,(z4.2.2.2.2.2.2.1,())))))))).bind (fun y5=>(apx v2 ([y5])).bind (fun z6=>f0 (z6,(IntKind.i64.wrap (v3+1))))))
 else some (.go v2))
@[simp] noncomputable def J_v (v7:List ByteArray):Option ByteArray:=
 (F_17 v7).bind (fun y8=>some y8.1)
theorem U_4 (a0:List SNode):Le ((F_o a0).bind (fun y1=>(bif (!y1) then
 some ByteArray.empty
 else joinK (loopF (fun f s=>L_7 a0 f s.1 s.2) ([],0))
 (fun s=>J_v s)))) (F_p a0):=callL_le (tt:=tt) (FT:=FT) (SP:=SP) (j:=17) rfl (by kernel_rfl)
@[simp] noncomputable def J_u (a0:List SNode) (v3:Bool):Option Bool:=
 (bif v3 then
 some false
 else(F_g a0 0 1).bind (fun y4=>some (y4==(a0.length:Int))))
theorem U_o (a0:List SNode):Le (joinK ((F_5 (a0.length:Int) 1 40).bind (fun y1=>(bif (!y1) then
 some (.go true)
 else(F_21 a0).bind (fun y2=>some (.go y2)))))
 (fun s=>J_u a0 s)) (F_o a0):=callL_le (tt:=tt) (FT:=FT) (SP:=SP) (j:=18) rfl (by kernel_rfl)
@[simp] noncomputable def J_25 (v1:Bool):Option Bool:=
 some v1
theorem U_v (a0:Int) (a1:Int) (a2:Int):Le (joinK ((bif (decide (a0≥a1)) then
 some (.go (decide (a0≤a2)))
 else some (.go false)))
 (fun s=>J_25 s)) (F_5 a0 a1 a2):=callL_le (tt:=tt) (FT:=FT) (SP:=SP) (j:=19) rfl (by kernel_rfl)
theorem U_1d (a0:List SNode):Le ((F_25 a0).bind (fun y1=>some (decide (y1≥0)))) (F_21 a0):=callL_le (tt:=tt) (FT:=FT) (SP:=SP) (j:=20) rfl (by kernel_rfl)
noncomputable def L_d (a0:List SNode) (f0:(Int×Int)→Option (Ex Int Int)) (v1:Int) (v2:Int):Option (Ex Int Int):=
 (bif (decide (v2<(a0.length:Int))) then
 (ix a0 v2).bind (fun z3=>(F_1n z3).bind (fun y4=>(bif y4 then
 some (.ret v2)
 else f0 (v1,(IntKind.i64.wrap (v2+1))))))
 else some (.go v1))
@[simp] noncomputable def J_2e (v5:Int):Option Int:=
 some (-1)
theorem U_1h (a0:List SNode):Le (joinK (loopF (fun f s=>L_d a0 f s.1 s.2) (0,0))
 (fun s=>J_2e s)) (F_25 a0):=callL_le (tt:=tt) (FT:=FT) (SP:=SP) (j:=21) rfl (by kernel_rfl)
theorem U_p (a0:SNode):Le ((F_n (a0.1,(a0.2.1,(a0.2.2.1,(a0.2.2.2.1,(a0.2.2.2.2.1,(a0.2.2.2.2.2.1,(a0.2.2.2.2.2.2.1,())))))))).bind (fun y1=>some (!y1))) (F_1n a0):=callL_le (tt:=tt) (FT:=FT) (SP:=SP) (j:=22) rfl (by kernel_rfl)
@[simp] noncomputable def J_o (a0:SNode) (v7:Bool):Option Yt13:=
 some (.go (0,a0.2.1,0,0,0,false,a0.2.2.2.2.2.2.1,v7))
@[simp] noncomputable def J_n (a0:SNode) (v4:Bool):Option Yt13:=
 joinK ((bif (a0.2.2.2.1==3) then
 (bif v4 then
 (bif (a0.2.2.2.2.1==0) then
 some (.go (!a0.2.2.2.2.2.1))
 else some (.go false))
 else some (.go false))
 else(bif a0.2.2.2.2.2.1 then
 (bif v4 then
 (F_12 a0.2.2.2.2.1).bind (fun y5=>some (.go y5))
 else some (.go false))
 else(bif v4 then
 (F_1p a0.2.2.2.2.1).bind (fun y6=>some (.go y6))
 else some (.go false)))))
 (fun s=>J_o a0 s)
@[simp] noncomputable def J_p (a0:SNode) (v10:Bool):Option Yt13:=
 some (.go (0,a0.2.1,a0.2.2.1,a0.2.2.2.1,a0.2.2.2.2.1,a0.2.2.2.2.2.1,[],v10))
@[simp] noncomputable def J_q (a0:SNode) (v13:Bool):Option Yt13:=
 some (.go (0,a0.2.1,0,a0.2.2.2.1,0,a0.2.2.2.2.2.1,a0.2.2.2.2.2.2.1,v13))
@[simp] noncomputable def J_r (a0:SNode) (v17:Bool):Option Yt13:=
 some (.go (0,a0.2.1,a0.2.2.1,a0.2.2.2.1,0,false,a0.2.2.2.2.2.2.1,v17))
@[simp] noncomputable def J_s (a0:SNode) (v18:Bool):Option Yt13:=
 (bif v18 then
 some (.go (0,a0.2.1,a0.2.2.1,a0.2.2.2.1,a0.2.2.2.2.1,a0.2.2.2.2.2.1,a0.2.2.2.2.2.2.1,true))
 else some (.go (0,a0.2.1,a0.2.2.1,a0.2.2.2.1,a0.2.2.2.2.1,a0.2.2.2.2.2.1,a0.2.2.2.2.2.2.1,false)))
@[simp] noncomputable def J_22 (v28:Bool):Option Bool:=
 some v28
@[simp] noncomputable def J_0 (v19:Int) (v20:ByteArray) (v21:Int) (v22:Int) (v23:Int) (v24:Bool) (v25:List Int) (v26:Bool):Option Bool:=
 joinK ((bif v26 then
 (F_16 (v19,(v20,(v21,(v22,(v23,(v24,(v25,()))))))) (0,(ByteArray.empty,(0,(0,(0,(false,([],())))))))).bind (fun y27=>some (.go y27))
 else some (.go false)))
 (fun s=>J_22 s)
theorem U_j (a0:SNode):Le (joinK ((bif (a0.1==0) then
 (F_10 a0.2.1).bind (fun y1=>some (.go (0,ByteArray.empty,a0.2.2.1,a0.2.2.2.1,a0.2.2.2.2.1,a0.2.2.2.2.2.1,a0.2.2.2.2.2.2.1,y1)))
 else(bif (a0.1==1) then
 joinK ((F_c a0.2.2.1).bind (fun y2=>(bif y2 then
 (F_5 a0.2.2.2.1 0 3).bind (fun y3=>some (.go y3))
 else some (.go false))))
 (fun s=>J_n a0 s)
 else(bif (a0.1==2) then
 joinK ((F_5 (a0.2.2.2.2.2.2.1.length:Int) 1 6).bind (fun y8=>(bif y8 then
 (F_22 a0.2.2.2.2.2.2.1).bind (fun y9=>some (.go (!y9)))
 else some (.go false))))
 (fun s=>J_p a0 s)
 else(bif (a0.1==3) then
 joinK ((F_c a0.2.2.1).bind (fun y11=>(bif y11 then
 (F_c a0.2.2.2.2.1).bind (fun y12=>some (.go y12))
 else some (.go false))))
 (fun s=>J_q a0 s)
 else(bif (a0.1==5) then
 (F_c a0.2.2.1).bind (fun y14=>some (.go (0,a0.2.1,0,a0.2.2.2.1,a0.2.2.2.2.1,a0.2.2.2.2.2.1,a0.2.2.2.2.2.2.1,y14)))
 else(bif (a0.1==6) then
 joinK ((F_5 a0.2.2.2.2.1 0 1000000).bind (fun y15=>(bif y15 then
 (bif (!a0.2.2.2.2.2.1) then
 some (.go true)
 else(F_12 a0.2.2.2.2.1).bind (fun y16=>some (.go y16)))
 else some (.go false))))
 (fun s=>J_r a0 s)
 else joinK ((bif (a0.1==4) then
 some (.go true)
 else some (.go (a0.1==7))))
 (fun s=>J_s a0 s))))))))
 (fun s=>J_0 s.1 s.2.1 s.2.2.1 s.2.2.2.1 s.2.2.2.2.1 s.2.2.2.2.2.1 s.2.2.2.2.2.2.1 s.2.2.2.2.2.2.2)) (F_n a0):=callL_le (tt:=tt) (FT:=FT) (SP:=SP) (j:=23) rfl (by kernel_rfl)
@[simp] noncomputable def J_x (v1:Bool) (v2:Int) (f0:(Bool×Int)→Option Yt14) (v5:Bool):Option Yt14:=
 (bif v5 then
 some (.ret false)
 else f0 (v1,(IntKind.i64.wrap (v2+1))))
@[simp] noncomputable def J_w (v1:Bool) (v2:Int) (z3:Int) (f0:(Bool×Int)→Option Yt14) (v4:Bool):Option Yt14:=
 joinK ((bif (!v4) then
 (bif (v2==0) then
 some (.go true)
 else(bif (decide (z3<48)) then
 some (.go true)
 else some (.go (decide (z3>57)))))
 else some (.go false)))
 (fun s=>J_x v1 v2 f0 s)
noncomputable def L_8 (a0:ByteArray) (f0:(Bool×Int)→Option Yt14) (v1:Bool) (v2:Int):Option Yt14:=
 (bif (decide (v2<(a0.size:Int))) then
 (bix a0 v2).bind (fun z3=>joinK ((bif (decide (z3≥97)) then
 some (.go (decide (z3≤122)))
 else some (.go false)))
 (fun s=>J_w v1 v2 z3 f0 s))
 else some (.go v1))
@[simp] noncomputable def J_23 (a0:ByteArray) (v6:Bool):Option Bool:=
 (F_5 (a0.size:Int) 1 12).bind (fun y7=>some y7)
theorem U_s (a0:ByteArray):Le (joinK (loopF (fun f s=>L_8 a0 f s.1 s.2) (false,0))
 (fun s=>J_23 a0 s)) (F_10 a0):=callL_le (tt:=tt) (FT:=FT) (SP:=SP) (j:=24) rfl (by kernel_rfl)
theorem U_w (a0:Int):Le ((F_5 a0 0 63).bind (fun y1=>some y1)) (F_c a0):=callL_le (tt:=tt) (FT:=FT) (SP:=SP) (j:=25) rfl (by kernel_rfl)
theorem U_y (a0:Int):Le ((F_5 a0 0 39).bind (fun y1=>some y1)) (F_12 a0):=callL_le (tt:=tt) (FT:=FT) (SP:=SP) (j:=26) rfl (by kernel_rfl)
theorem U_x (a0:Int):Le ((F_5 a0 (-1000000) 1000000).bind (fun y1=>some y1)) (F_1p a0):=callL_le (tt:=tt) (FT:=FT) (SP:=SP) (j:=27) rfl (by kernel_rfl)
theorem U_1e (a0:List Int):Le ((F_26 a0).bind (fun y1=>some (decide (y1≥0)))) (F_22 a0):=callL_le (tt:=tt) (FT:=FT) (SP:=SP) (j:=28) rfl (by kernel_rfl)
noncomputable def L_e (a0:List Int) (f0:(Int×Int)→Option (Ex Int Int)) (v1:Int) (v2:Int):Option (Ex Int Int):=
 (bif (decide (v2<(a0.length:Int))) then
 (ix a0 v2).bind (fun z3=>(F_1l z3).bind (fun y4=>(bif y4 then
 some (.ret v2)
 else f0 (v1,(IntKind.i64.wrap (v2+1))))))
 else some (.go v1))
@[simp] noncomputable def J_2f (v5:Int):Option Int:=
 some (-1)
theorem U_1i (a0:List Int):Le (joinK (loopF (fun f s=>L_e a0 f s.1 s.2) (0,0))
 (fun s=>J_2f s)) (F_26 a0):=callL_le (tt:=tt) (FT:=FT) (SP:=SP) (j:=29) rfl (by kernel_rfl)
theorem U_k (a0:Int):Le ((F_c a0).bind (fun y1=>some (!y1))) (F_1l a0):=callL_le (tt:=tt) (FT:=FT) (SP:=SP) (j:=30) rfl (by kernel_rfl)
@[simp] noncomputable def J_27 (v2:Bool):Option Bool:=
 some v2
theorem U_13 (a0:SNode) (a1:SNode):Le (joinK ((bif (a0.1==a1.1) then
 (bif (a0.2.1.toList==a1.2.1.toList) then
 (bif (a0.2.2.1==a1.2.2.1) then
 (bif (a0.2.2.2.1==a1.2.2.2.1) then
 (bif (a0.2.2.2.2.1==a1.2.2.2.2.1) then
 (bif (a0.2.2.2.2.2.1==a1.2.2.2.2.2.1) then
 (F_24 a0.2.2.2.2.2.2.1 a1.2.2.2.2.2.2.1).bind (fun y1=>some (.go y1))
 else some (.go false))
 else some (.go false))
 else some (.go false))
 else some (.go false))
 else some (.go false))
 else some (.go false)))
 (fun s=>J_27 s)) (F_16 a0 a1):=callL_le (tt:=tt) (FT:=FT) (SP:=SP) (j:=31) rfl (by kernel_rfl)
noncomputable def L_c (a0:List Int) (a1:List Int) (f0:(Bool×Int)→Option Yt14) (v1:Bool) (v2:Int):Option Yt14:=
 (bif (decide (v2<(a0.length:Int))) then
 (ix a0 v2).bind (fun z3=>(ix a1 v2).bind (fun z4=>(bif (z3 != z4) then
 some (.ret false)
 else f0 (v1,(IntKind.i64.wrap (v2+1))))))
 else some (.go v1))
@[simp] noncomputable def J_2d (v5:Bool):Option Bool:=
 some true
theorem U_1g (a0:List Int) (a1:List Int):Le ((bif ((a0.length:Int) != (a1.length:Int)) then
 some false
 else joinK (loopF (fun f s=>L_c a0 a1 f s.1 s.2) (false,0))
 (fun s=>J_2d s))) (F_24 a0 a1):=callL_le (tt:=tt) (FT:=FT) (SP:=SP) (j:=32) rfl (by kernel_rfl)
noncomputable def L_2 (a0:List SNode) (a2:Int) (y3:Int) (f0:(Int×Int×Int)→Option (Ex Int (Int×Int))) (v4:Int) (v5:Int) (v6:Int):Option (Ex Int (Int×Int)):=
 (bif (decide (v6<y3)) then
 (F_g a0 v5 (IntKind.i64.wrap (a2+1))).bind (fun y7=>(bif (decide (y7<0)) then
 some (.ret (-1))
 else f0 (v4,y7,(IntKind.i64.wrap (v6+1)))))
 else some (.go (v4,v5)))
@[simp] noncomputable def J_7 (v8:Int) (v9:Int):Option Int:=
 some v9
@[simp] noncomputable def J_d (a0:List SNode) (a1:Int) (a2:Int) (v1:Bool):Option Int:=
 (bif v1 then
 some (-1)
 else joinK ((ix a0 a1).bind (fun z2=>(F_l z2.1).bind (fun y3=>loopF (fun f s=>L_2 a0 a2 y3 f s.1 s.2.1 s.2.2) (0,(IntKind.i64.wrap (a1+1)),0))))
 (fun s=>J_7 s.1 s.2))
theorem U_5 (a0:List SNode) (a1:Int) (a2:Int):Le (joinK ((bif (decide (a1≥(a0.length:Int))) then
 some (.go true)
 else some (.go (decide (a2>10)))))
 (fun s=>J_d a0 a1 a2 s)) (F_g a0 a1 a2):=callL_le (tt:=tt) (FT:=FT) (SP:=SP) (j:=33) rfl (by kernel_rfl)
@[simp] noncomputable def J_21 (v2:Bool):Option Int:=
 (bif v2 then
 some 1
 else some (-1))
@[simp] noncomputable def J_20 (a0:Int) (v1:Bool):Option Int:=
 (bif v1 then
 some 2
 else joinK ((bif (a0==1) then
 some (.go true)
 else(bif (a0==2) then
 some (.go true)
 else(bif (a0==5) then
 some (.go true)
 else(bif (a0==6) then
 some (.go true)
 else some (.go (a0==7)))))))
 (fun s=>J_21 s))
theorem U_h (a0:Int):Le ((bif (a0==0) then
 some 0
 else joinK ((bif (a0==3) then
 some (.go true)
 else some (.go (a0==4))))
 (fun s=>J_20 a0 s))) (F_l a0):=callL_le (tt:=tt) (FT:=FT) (SP:=SP) (j:=34) rfl (by kernel_rfl)
noncomputable def L_n (a0:SNode) (f0:(Yt6×Int)→Option (Ex ByteArray Yt6)) (v13:List ByteArray) (v14:Int):Option (Ex ByteArray Yt6):=
 (bif (decide (v14<(a0.2.2.2.2.2.2.1.length:Int))) then
 (ix a0.2.2.2.2.2.2.1 v14).bind (fun z15=>(F_6 z15).bind (fun y16=>(apx v13 ([y16])).bind (fun z17=>f0 (z17,(IntKind.i64.wrap (v14+1))))))
 else some (.go v13))
@[simp] noncomputable def J_c (v25:List ByteArray):Option ByteArray:=
 (F_17 v25).bind (fun y26=>some y26.1)
theorem U_l (a0:SNode):Le ((F_n (a0.1,(a0.2.1,(a0.2.2.1,(a0.2.2.2.1,(a0.2.2.2.2.1,(a0.2.2.2.2.2.1,(a0.2.2.2.2.2.2.1,())))))))).bind (fun y1=>(bif (!y1) then
 some ByteArray.empty
 else(F_13).bind (fun y2=>(ix y2 a0.1).bind (fun z3=>joinK ((bif (a0.1==0) then
 (apx ([z3]) ([a0.2.1])).bind (fun z4=>some (.go z4))
 else(bif (a0.1==1) then
 (F_6 a0.2.2.1).bind (fun y5=>(F_14).bind (fun y6=>(ix y6 a0.2.2.2.1).bind (fun z7=>(apx ([z3]) ([y5,z7])).bind (fun z8=>(bif (a0.2.2.2.1 != 3) then
 (F_y (a0.1,(a0.2.1,(a0.2.2.1,(a0.2.2.2.1,(a0.2.2.2.2.1,(a0.2.2.2.2.2.1,(a0.2.2.2.2.2.2.1,())))))))).bind (fun y9=>(apx z8 ([y9])).bind (fun z10=>some (.go z10)))
 else some (.go z8))))))
 else(bif (a0.1==2) then
 (F_6 (a0.2.2.2.2.2.2.1.length:Int)).bind (fun y11=>(apx ([z3]) ([y11])).bind (fun z12=>loopF (fun f s=>L_n a0 f s.1 s.2) (z12,0)))
 else(bif (a0.1==3) then
 (F_6 a0.2.2.1).bind (fun y18=>(F_6 a0.2.2.2.2.1).bind (fun y19=>(apx ([z3]) ([y18,y19])).bind (fun z20=>some (.go z20))))
 else(bif (a0.1==5) then
 (F_6 a0.2.2.1).bind (fun y21=>(apx ([z3]) ([y21])).bind (fun z22=>some (.go z22)))
 else(bif (a0.1==6) then
 (F_y (a0.1,(a0.2.1,(a0.2.2.1,(a0.2.2.2.1,(a0.2.2.2.2.1,(a0.2.2.2.2.2.1,(a0.2.2.2.2.2.2.1,())))))))).bind (fun y23=>(apx ([z3]) ([y23])).bind (fun z24=>some (.go z24)))
 else some (.go [z3]))))))))
 (fun s=>J_c s)))))) (F_e a0):=callL_le (tt:=tt) (FT:=FT) (SP:=SP) (j:=35) rfl (by kernel_rfl)
theorem U_z:Le (some ([(⟨#[115,99,97,110]⟩:ByteArray),(⟨#[102,105,108,116,101,114]⟩:ByteArray),(⟨#[107,101,101,112]⟩:ByteArray),(⟨#[106,111,105,110]⟩:ByteArray),(⟨#[98,111,116,104]⟩:ByteArray),(⟨#[115,111,114,116]⟩:ByteArray),(⟨#[108,105,109,105,116]⟩:ByteArray),(⟨#[111,110,99,101]⟩:ByteArray)])) (F_13):=callL_le (tt:=tt) (FT:=FT) (SP:=SP) (j:=36) rfl (by kernel_rfl)
theorem U_10 (a0:Int):Le ((F_2l a0).bind (fun y1=>some y1)) (F_6 a0):=callL_le (tt:=tt) (FT:=FT) (SP:=SP) (j:=37) rfl (by kernel_rfl)
theorem U_2k (a0:Int):Le (itoaF a0) (F_2l a0):=callL_sp (tt:=tt) (FT:=FT) (SP:=SP) (j:=38) (v:=(show InVals (FT 38) from((a0,()),(())))) (f:=fun v=>itoaF v.1.1) rfl
theorem U_11:Le (some ([(⟨#[61]⟩:ByteArray),(⟨#[60]⟩:ByteArray),(⟨#[62]⟩:ByteArray),(⟨#[110,111,110,101]⟩:ByteArray)])) (F_14):=callL_le (tt:=tt) (FT:=FT) (SP:=SP) (j:=39) rfl (by kernel_rfl)
theorem U_m (a0:SNode):Le ((bif a0.2.2.2.2.2.1 then
 (F_6 a0.2.2.2.2.1).bind (fun y1=>(addx (⟨#[36]⟩:ByteArray) y1).bind (fun z2=>some z2))
 else(F_6 a0.2.2.2.2.1).bind (fun y3=>some y3))) (F_y a0):=callL_le (tt:=tt) (FT:=FT) (SP:=SP) (j:=40) rfl (by kernel_rfl)
theorem U_14 (a0:List ByteArray):Le ((F_2n a0 (⟨#[32]⟩:ByteArray)).bind (fun y1=>some (y1.1,y1.2))) (F_17 a0):=callL_le (tt:=tt) (FT:=FT) (SP:=SP) (j:=41) rfl (by kernel_rfl)
theorem U_2m (a0:List ByteArray) (a1:ByteArray):Le (joinF a0 a1) (F_2n a0 a1):=callL_sp (tt:=tt) (FT:=FT) (SP:=SP) (j:=42) (v:=(show InVals (FT 42) from((a0,a1,()),(())))) (f:=fun v=>joinF v.1.1 v.1.2.1) rfl
@[simp] noncomputable def J_f (a0:List SNode) (v3:Int) (f0:(ByteArray×Int)→Option Yt11) (v5:ByteArray):Option Yt11:=
 (ix a0 v3).bind (fun z6=>(F_1a z6).bind (fun y7=>(addx v5 y7).bind (fun z8=>f0 (z8,(IntKind.i64.wrap (v3+1))))))
noncomputable def L_r (a0:List SNode) (f0:(ByteArray×Int)→Option Yt11) (v2:ByteArray) (v3:Int):Option Yt11:=
 (bif (decide (v3<(a0.length:Int))) then
 joinK ((bif (decide (v3>0)) then
 (addx v2 (⟨#[32]⟩:ByteArray)).bind (fun z4=>some (.go z4))
 else some (.go v2)))
 (fun s=>J_f a0 v3 f0 s)
 else some (.go v2))
@[simp] noncomputable def J_2v (v9:ByteArray):Option ByteArray:=
 some v9
theorem U_e (a0:List SNode):Le ((F_h a0).bind (fun y1=>(bif (!y1) then
 some ByteArray.empty
 else joinK (loopF (fun f s=>L_r a0 f s.1 s.2) (ByteArray.empty,0))
 (fun s=>J_2v s)))) (F_v a0):=callL_le (tt:=tt) (FT:=FT) (SP:=SP) (j:=43) rfl (by kernel_rfl)
noncomputable def L_h (a0:List SNode) (f0:(Bool×Int)→Option Yt14) (v2:Bool) (v3:Int):Option Yt14:=
 (bif (decide (v3<(a0.length:Int))) then
 (ix a0 v3).bind (fun z4=>(F_u z4).bind (fun y5=>(bif (!y5) then
 some (.ret false)
 else f0 (v2,(IntKind.i64.wrap (v3+1))))))
 else some (.go v2))
@[simp] noncomputable def J_1d (a0:List SNode) (v6:Bool):Option Bool:=
 (F_j a0 0 10).bind (fun y7=>some (y7.1==(a0.length:Int)))
theorem U_1r (a0:List SNode):Le ((F_1 (a0.length:Int) 1 40).bind (fun y1=>(bif (!y1) then
 some false
 else joinK (loopF (fun f s=>L_h a0 f s.1 s.2) (false,0))
 (fun s=>J_1d a0 s)))) (F_h a0):=callL_le (tt:=tt) (FT:=FT) (SP:=SP) (j:=44) rfl (by kernel_rfl)
@[simp] noncomputable def J_2z (v1:Bool):Option Bool:=
 some v1
theorem U_1x (a0:Int) (a1:Int) (a2:Int):Le (joinK ((bif (decide (a1≤a0)) then
 some (.go (decide (a0≤a2)))
 else some (.go false)))
 (fun s=>J_2z s)) (F_1 a0 a1 a2):=callL_le (tt:=tt) (FT:=FT) (SP:=SP) (j:=45) rfl (by kernel_rfl)
@[simp] noncomputable def J_2n (v11:Bool):Option Yt14:=
 some (.ret v11)
@[simp] noncomputable def J_2o (v15:Bool):Option Yt14:=
 some (.ret v15)
noncomputable def L_g (a0:SNode) (f0:(Bool×Int)→Option (Ex Yt14 Bool)) (v16:Bool) (v17:Int):Option (Ex Yt14 Bool):=
 (bif (decide (v17<(a0.2.2.2.2.2.2.1.length:Int))) then
 (ix a0.2.2.2.2.2.2.1 v17).bind (fun z18=>(F_d z18).bind (fun y19=>(bif (!y19) then
 some (.ret (.ret false))
 else f0 (v16,(IntKind.i64.wrap (v17+1))))))
 else some (.go v16))
@[simp] noncomputable def J_2p (v22:Bool):Option Yt14:=
 some (.ret v22)
@[simp] noncomputable def J_19 (a0:SNode) (v20:Bool):Option Yt14:=
 joinK ((F_1 (a0.2.2.2.2.2.2.1.length:Int) 1 6).bind (fun y21=>(bif y21 then
 (bif (a0.2.2.1==0) then
 (bif (a0.2.2.2.2.1==0) then
 some (.go (!a0.2.2.2.2.2.1))
 else some (.go false))
 else some (.go false))
 else some (.go false))))
 (fun s=>J_2p s)
@[simp] noncomputable def J_2q (v25:Bool):Option Yt14:=
 some (.ret v25)
@[simp] noncomputable def J_2r (v27:Bool):Option Yt14:=
 some (.ret v27)
@[simp] noncomputable def J_2s (v29:Bool):Option Yt14:=
 some (.ret v29)
@[simp] noncomputable def J_2m (v31:Bool):Option Yt14:=
 some (.ret v31)
@[simp] noncomputable def J_2t (a0:SNode) (v30:Bool):Option Yt14:=
 (bif v30 then
 joinK ((bif (a0.2.2.1==0) then
 (bif (a0.2.2.2.2.1==0) then
 some (.go (!a0.2.2.2.2.2.1))
 else some (.go false))
 else some (.go false)))
 (fun s=>J_2m s)
 else some (.go false))
@[simp] noncomputable def J_2l (v32:Bool):Option Bool:=
 some false
@[simp] noncomputable def J_18 (a0:SNode) (v9:Bool):Option Bool:=
 (bif v9 then
 some false
 else joinK ((bif (a0.1==0) then
 joinK ((F_1c a0.2.1).bind (fun y10=>(bif y10 then
 (bif (a0.2.2.1==0) then
 (bif (a0.2.2.2.2.1==0) then
 some (.go (!a0.2.2.2.2.2.1))
 else some (.go false))
 else some (.go false))
 else some (.go false))))
 (fun s=>J_2n s)
 else(bif (a0.1==1) then
 joinK ((F_d a0.2.2.1).bind (fun y12=>(bif y12 then
 (F_1 a0.2.2.2.1 0 3).bind (fun y13=>(bif y13 then
 (F_1f a0.2.2.2.2.1).bind (fun y14=>(bif y14 then
 (bif (a0.2.2.2.1 != 3) then
 some (.go true)
 else(bif (a0.2.2.2.2.1==0) then
 some (.go (!a0.2.2.2.2.2.1))
 else some (.go false)))
 else some (.go false)))
 else some (.go false)))
 else some (.go false))))
 (fun s=>J_2o s)
 else(bif (a0.1==2) then
 joinK (loopF (fun f s=>L_g a0 f s.1 s.2) (false,0))
 (fun s=>J_19 a0 s)
 else(bif (a0.1==3) then
 joinK ((F_d a0.2.2.1).bind (fun y23=>(bif y23 then
 (F_d a0.2.2.2.2.1).bind (fun y24=>(bif y24 then
 some (.go (!a0.2.2.2.2.2.1))
 else some (.go false)))
 else some (.go false))))
 (fun s=>J_2q s)
 else(bif (a0.1==5) then
 joinK ((F_d a0.2.2.1).bind (fun y26=>(bif y26 then
 (bif (a0.2.2.2.2.1==0) then
 some (.go (!a0.2.2.2.2.2.1))
 else some (.go false))
 else some (.go false))))
 (fun s=>J_2r s)
 else(bif (a0.1==6) then
 joinK ((bif (a0.2.2.1==0) then
 (F_1 a0.2.2.2.2.1 0 1000000).bind (fun y28=>some (.go y28))
 else some (.go false)))
 (fun s=>J_2s s)
 else joinK ((bif (a0.1==4) then
 some (.go true)
 else some (.go (a0.1==7))))
 (fun s=>J_2t a0 s))))))))
 (fun s=>J_2l s))
theorem U_1o (a0:SNode):Le (joinK ((bif (a0.1 != 0) then
 (bif (!(a0.2.1.toList==ByteArray.empty.toList)) then
 some (.go true)
 else(bif (a0.1 != 2) then
 (bif (decide ((a0.2.2.2.2.2.2.1.length:Int)>0)) then
 some (.go true)
 else(bif (a0.1 != 1) then
 (bif (a0.2.2.2.1 != 0) then
 some (.go true)
 else(bif a0.2.2.2.2.2.1 then
 (F_1 a0.2.2.2.2.1 0 39).bind (fun y1=>some (.go (!y1)))
 else some (.go false)))
 else(bif a0.2.2.2.2.2.1 then
 (F_1 a0.2.2.2.2.1 0 39).bind (fun y2=>some (.go (!y2)))
 else some (.go false))))
 else(bif (a0.1 != 1) then
 (bif (a0.2.2.2.1 != 0) then
 some (.go true)
 else(bif a0.2.2.2.2.2.1 then
 (F_1 a0.2.2.2.2.1 0 39).bind (fun y3=>some (.go (!y3)))
 else some (.go false)))
 else(bif a0.2.2.2.2.2.1 then
 (F_1 a0.2.2.2.2.1 0 39).bind (fun y4=>some (.go (!y4)))
 else some (.go false)))))
 else(bif (a0.1 != 2) then
 (bif (decide ((a0.2.2.2.2.2.2.1.length:Int)>0)) then
 some (.go true)
 else(bif (a0.1 != 1) then
 (bif (a0.2.2.2.1 != 0) then
 some (.go true)
 else(bif a0.2.2.2.2.2.1 then
 (F_1 a0.2.2.2.2.1 0 39).bind (fun y5=>some (.go (!y5)))
 else some (.go false)))
 else(bif a0.2.2.2.2.2.1 then
 (F_1 a0.2.2.2.2.1 0 39).bind (fun y6=>some (.go (!y6)))
 else some (.go false))))
 else(bif (a0.1 != 1) then
 (bif (a0.2.2.2.1 != 0) then
 some (.go true)
 else(bif a0.2.2.2.2.2.1 then
 (F_1 a0.2.2.2.2.1 0 39).bind (fun y7=>some (.go (!y7)))
 else some (.go false)))
 else(bif a0.2.2.2.2.2.1 then
 (F_1 a0.2.2.2.2.1 0 39).bind (fun y8=>some (.go (!y8)))
 else some (.go false))))))
 (fun s=>J_18 a0 s)) (F_u a0):=callL_le (tt:=tt) (FT:=FT) (SP:=SP) (j:=46) rfl (by kernel_rfl)
@[simp] noncomputable def J_1f (v4:Bool) (v5:Int) (f0:(Bool×Int)→Option Yt14) (v12:Bool):Option Yt14:=
 (bif v12 then
 some (.ret false)
 else f0 (v4,(IntKind.i64.wrap (v5+1))))
noncomputable def L_i (a0:ByteArray) (f0:(Bool×Int)→Option Yt14) (v4:Bool) (v5:Int):Option Yt14:=
 (bif (decide (v5<(a0.size:Int))) then
 joinK ((bix a0 v5).bind (fun z6=>(bif (decide (z6<97)) then
 (bix a0 v5).bind (fun z7=>(bif (decide (z7<48)) then
 some (.go true)
 else(bix a0 v5).bind (fun z8=>some (.go (decide (z8>57))))))
 else(bix a0 v5).bind (fun z9=>(bif (decide (z9>122)) then
 (bix a0 v5).bind (fun z10=>(bif (decide (z10<48)) then
 some (.go true)
 else(bix a0 v5).bind (fun z11=>some (.go (decide (z11>57))))))
 else some (.go false))))))
 (fun s=>J_1f v4 v5 f0 s)
 else some (.go v4))
@[simp] noncomputable def J_2w (v13:Bool):Option Bool:=
 some true
@[simp] noncomputable def J_1e (a0:ByteArray) (v3:Bool):Option Bool:=
 (bif v3 then
 some false
 else joinK (loopF (fun f s=>L_i a0 f s.1 s.2) (false,0))
 (fun s=>J_2w s))
theorem U_1s (a0:ByteArray):Le (joinK ((F_1 (a0.size:Int) 1 12).bind (fun y1=>(bif (!y1) then
 some (.go true)
 else(bix a0 0).bind (fun z2=>some (.go (decide (z2<97)))))))
 (fun s=>J_1e a0 s)) (F_1c a0):=callL_le (tt:=tt) (FT:=FT) (SP:=SP) (j:=47) rfl (by kernel_rfl)
theorem U_27 (a0:Int):Le ((F_1 a0 0 63).bind (fun y1=>some y1)) (F_d a0):=callL_le (tt:=tt) (FT:=FT) (SP:=SP) (j:=48) rfl (by kernel_rfl)
theorem U_20 (a0:Int):Le ((F_1 a0 (-1000000) 1000000).bind (fun y1=>some y1)) (F_1f a0):=callL_le (tt:=tt) (FT:=FT) (SP:=SP) (j:=49) rfl (by kernel_rfl)
@[simp] noncomputable def J_1r (v6:Int) (f0:(Int×Int×Int×Int×Int)→Option Yt19) (v10:Int) (v11:Int) (v12:Int) (v13:Int):Option Yt19:=
 f0 (v10,v11,v12,v13,(IntKind.i64.wrap (v6+1)))
noncomputable def L_3 (a0:List SNode) (a1:Int) (a2:Int) (f0:(Int×Int×Int×Int×Int)→Option Yt19) (v2:Int) (v3:Int) (v4:Int) (v5:Int) (v6:Int):Option Yt19:=
 (ix a0 a1).bind (fun z7=>(F_19 z7.1).bind (fun y8=>(bif (decide (v6<y8)) then
 joinK ((F_j a0 v4 (IntKind.i64.wrap (a2-1))).bind (fun y9=>(bif (decide (y9.1<0)) then
 some (.ret (.ret ((-1),0)))
 else(bif (decide (y9.2>v5)) then
 some (.go (v2,v3,y9.1,y9.2))
 else some (.go (v2,v3,y9.1,v5))))))
 (fun s=>J_1r v6 f0 s.1 s.2.1 s.2.2.1 s.2.2.2)
 else some (.go (v2,v3,v4,v5)))))
@[simp] noncomputable def J_a (v14:Int) (v15:Int) (v16:Int) (v17:Int):Option (Int×Int):=
 some (v16,(IntKind.i64.wrap (v17+1)))
@[simp] noncomputable def J_i (a0:List SNode) (a1:Int) (a2:Int) (v1:Bool):Option (Int×Int):=
 (bif v1 then
 some ((-1),0)
 else joinK (loopF (fun f s=>L_3 a0 a1 a2 f s.1 s.2.1 s.2.2.1 s.2.2.2.1 s.2.2.2.2) (0,0,(IntKind.i64.wrap (a1+1)),0,0))
 (fun s=>J_a s.1 s.2.1 s.2.2.1 s.2.2.2))
theorem U_f (a0:List SNode) (a1:Int) (a2:Int):Le (joinK ((bif (decide (a1≥(a0.length:Int))) then
 some (.go true)
 else some (.go (a2==0))))
 (fun s=>J_i a0 a1 a2 s)) (F_j a0 a1 a2):=callL_le (tt:=tt) (FT:=FT) (SP:=SP) (j:=50) rfl (by kernel_rfl)
@[simp] noncomputable def J_2i (v2:Bool):Option Int:=
 (bif v2 then
 some 1
 else some (-1))
@[simp] noncomputable def J_2h (a0:Int) (v1:Bool):Option Int:=
 (bif v1 then
 some 2
 else joinK ((bif (a0==1) then
 some (.go true)
 else(bif (a0==2) then
 some (.go true)
 else(bif (a0==5) then
 some (.go true)
 else(bif (a0==6) then
 some (.go true)
 else some (.go (a0==7)))))))
 (fun s=>J_2i s))
theorem U_1k (a0:Int):Le ((bif (a0==0) then
 some 0
 else joinK ((bif (a0==3) then
 some (.go true)
 else some (.go (a0==4))))
 (fun s=>J_2h a0 s))) (F_19 a0):=callL_le (tt:=tt) (FT:=FT) (SP:=SP) (j:=51) rfl (by kernel_rfl)
noncomputable def L_o (a0:SNode) (f0:(ByteArray×Int)→Option (Ex ByteArray (ByteArray×ByteArray))) (v19:ByteArray) (v20:Int):Option (Ex ByteArray (ByteArray×ByteArray)):=
 (bif (decide (v20<(a0.2.2.2.2.2.2.1.length:Int))) then
 (addx v19 (⟨#[32]⟩:ByteArray)).bind (fun z21=>(ix a0.2.2.2.2.2.2.1 v20).bind (fun z22=>(F_2 z22).bind (fun y23=>(addx z21 y23).bind (fun z24=>f0 (z24,(IntKind.i64.wrap (v20+1)))))))
 else some (.go (ByteArray.empty,v19)))
@[simp] noncomputable def J_1 (v37:ByteArray) (v38:ByteArray):Option ByteArray:=
 some v38
theorem U_1p (a0:SNode):Le ((F_u (a0.1,(a0.2.1,(a0.2.2.1,(a0.2.2.2.1,(a0.2.2.2.2.1,(a0.2.2.2.2.2.1,(a0.2.2.2.2.2.2.1,())))))))).bind (fun y1=>(bif (!y1) then
 some ByteArray.empty
 else(F_1k).bind (fun y2=>(ix y2 a0.1).bind (fun z3=>joinK ((bif (a0.1==0) then
 (addx z3 (⟨#[32]⟩:ByteArray)).bind (fun z4=>(addx z4 a0.2.1).bind (fun z5=>some (.ret z5)))
 else(bif (a0.1==1) then
 (addx z3 (⟨#[32]⟩:ByteArray)).bind (fun z6=>(F_2 a0.2.2.1).bind (fun y7=>(addx z6 y7).bind (fun z8=>(addx z8 (⟨#[32]⟩:ByteArray)).bind (fun z9=>(F_1j).bind (fun y10=>(ix y10 a0.2.2.2.1).bind (fun z11=>(addx z9 z11).bind (fun z12=>(bif (a0.2.2.2.1 != 3) then
 (addx z12 (⟨#[32]⟩:ByteArray)).bind (fun z13=>(F_1i (a0.1,(a0.2.1,(a0.2.2.1,(a0.2.2.2.1,(a0.2.2.2.2.1,(a0.2.2.2.2.2.1,(a0.2.2.2.2.2.2.1,())))))))).bind (fun y14=>(addx z13 y14).bind (fun z15=>some (.go (ByteArray.empty,z15)))))
 else some (.go (ByteArray.empty,z12))))))))))
 else(bif (a0.1==2) then
 (addx z3 (⟨#[32]⟩:ByteArray)).bind (fun z16=>(F_2 (a0.2.2.2.2.2.2.1.length:Int)).bind (fun y17=>(addx z16 y17).bind (fun z18=>loopF (fun f s=>L_o a0 f s.1 s.2) (z18,0))))
 else(bif (a0.1==3) then
 (addx z3 (⟨#[32]⟩:ByteArray)).bind (fun z25=>(F_2 a0.2.2.1).bind (fun y26=>(addx z25 y26).bind (fun z27=>(addx z27 (⟨#[32]⟩:ByteArray)).bind (fun z28=>(F_2 a0.2.2.2.2.1).bind (fun y29=>(addx z28 y29).bind (fun z30=>some (.go (ByteArray.empty,z30))))))))
 else(bif (a0.1==5) then
 (addx z3 (⟨#[32]⟩:ByteArray)).bind (fun z31=>(F_2 a0.2.2.1).bind (fun y32=>(addx z31 y32).bind (fun z33=>some (.go (ByteArray.empty,z33)))))
 else(bif (a0.1==6) then
 (addx z3 (⟨#[32]⟩:ByteArray)).bind (fun z34=>(F_1i (a0.1,(a0.2.1,(a0.2.2.1,(a0.2.2.2.1,(a0.2.2.2.2.1,(a0.2.2.2.2.2.1,(a0.2.2.2.2.2.2.1,())))))))).bind (fun y35=>(addx z34 y35).bind (fun z36=>some (.go (ByteArray.empty,z36)))))
 else some (.go (ByteArray.empty,z3)))))))))
 (fun s=>J_1 s.1 s.2)))))) (F_1a a0):=callL_le (tt:=tt) (FT:=FT) (SP:=SP) (j:=52) rfl (by kernel_rfl)
theorem U_2j:Le (some ([(⟨#[115,99,97,110]⟩:ByteArray),(⟨#[102,105,108,116,101,114]⟩:ByteArray),(⟨#[107,101,101,112]⟩:ByteArray),(⟨#[106,111,105,110]⟩:ByteArray),(⟨#[98,111,116,104]⟩:ByteArray),(⟨#[115,111,114,116]⟩:ByteArray),(⟨#[108,105,109,105,116]⟩:ByteArray),(⟨#[111,110,99,101]⟩:ByteArray)])) (F_1k):=callL_le (tt:=tt) (FT:=FT) (SP:=SP) (j:=53) rfl (by kernel_rfl)
@[simp] noncomputable def J_8 (v1:Int) (v2:ByteArray) (f0:(Int×ByteArray)→Option Yt11) (v4:Int):Option Yt11:=
 (addx (bsOf ([(IntKind.u8.wrap (IntKind.i64.wrap (48+v4)))])) v2).bind (fun z5=>(quox v1 10).bind (fun z6=>f0 (z6,z5)))
noncomputable def L_t (f0:(Int×ByteArray)→Option Yt11) (v1:Int) (v2:ByteArray):Option Yt11:=
 (bif (v1 != 0) then
 (remx v1 10).bind (fun z3=>joinK ((bif (decide (z3<0)) then
 some (.go (IntKind.i64.wrap (0-z3)))
 else some (.go z3)))
 (fun s=>J_8 v1 v2 f0 s))
 else some (.go v2))
@[simp] noncomputable def J_1h (a0:Int) (v7:ByteArray):Option ByteArray:=
 (bif (decide (a0<0)) then
 (addx (⟨#[45]⟩:ByteArray) v7).bind (fun z8=>some z8)
 else some v7)
theorem U_1z (a0:Int):Le ((bif (a0==0) then
 some (⟨#[48]⟩:ByteArray)
 else joinK (loopF (fun f s=>L_t f s.1 s.2) (a0,ByteArray.empty))
 (fun s=>J_1h a0 s))) (F_2 a0):=callL_le (tt:=tt) (FT:=FT) (SP:=SP) (j:=54) rfl (by kernel_rfl)
theorem U_2i:Le (some ([(⟨#[61]⟩:ByteArray),(⟨#[60]⟩:ByteArray),(⟨#[62]⟩:ByteArray),(⟨#[110,111,110,101]⟩:ByteArray)])) (F_1j):=callL_le (tt:=tt) (FT:=FT) (SP:=SP) (j:=55) rfl (by kernel_rfl)
theorem U_2h (a0:SNode):Le ((bif a0.2.2.2.2.2.1 then
 (F_2 a0.2.2.2.2.1).bind (fun y1=>(addx (⟨#[36]⟩:ByteArray) y1).bind (fun z2=>some z2))
 else(F_2 a0.2.2.2.2.1).bind (fun y3=>some y3))) (F_1i a0):=callL_le (tt:=tt) (FT:=FT) (SP:=SP) (j:=56) rfl (by kernel_rfl)
theorem U_3 (a0:List SNode):Le ((F_o a0).bind (fun y1=>(bif (!y1) then
 some ByteArray.empty
 else(F_r a0 0 0).bind (fun y2=>some y2)))) (F_1m a0):=callL_le (tt:=tt) (FT:=FT) (SP:=SP) (j:=57) rfl (by kernel_rfl)
noncomputable def L_a (a0:List SNode) (a2:Int) (y6:List Int) (f0:(ByteArray×Int)→Option Yt11) (v7:ByteArray) (v8:Int):Option Yt11:=
 (bif (decide (v8<(y6.length:Int))) then
 (ix y6 v8).bind (fun z9=>(F_r a0 z9 (IntKind.i64.wrap (a2+1))).bind (fun y10=>(addx v7 y10).bind (fun z11=>f0 (z11,(IntKind.i64.wrap (v8+1))))))
 else some (.go v7))
@[simp] noncomputable def J_26 (v12:ByteArray):Option ByteArray:=
 some v12
theorem U_0 (a0:List SNode) (a1:Int) (a2:Int):Le ((F_x (⟨#[32,32]⟩:ByteArray) a2).bind (fun y1=>(ix a0 a1).bind (fun z2=>(F_e z2).bind (fun y3=>(addx y1 y3).bind (fun z4=>(addx z4 (⟨#[10]⟩:ByteArray)).bind (fun z5=>joinK ((F_1o a0 a1).bind (fun y6=>loopF (fun f s=>L_a a0 a2 y6 f s.1 s.2) (z5,0)))
 (fun s=>J_26 s))))))) (F_r a0 a1 a2):=callL_le (tt:=tt) (FT:=FT) (SP:=SP) (j:=58) rfl (by kernel_rfl)
theorem U_2n (a0:ByteArray) (a1:Int):Le (repeatF a0 a1) (F_x a0 a1):=callL_sp (tt:=tt) (FT:=FT) (SP:=SP) (j:=59) (v:=(show InVals (FT 59) from((a0,a1,()),(())))) (f:=fun v=>repeatF v.1.1 v.1.2.1) rfl
noncomputable def L_9 (a0:List SNode) (y2:Int) (f0:(Yt8×Int×Int)→Option (Ex Yt8 Yt8)) (v3:List Int) (v4:Int) (v5:Int):Option (Ex Yt8 Yt8):=
 (bif (decide (v5<y2)) then
 (apx v3 ([v4])).bind (fun z6=>(F_g a0 v4 1).bind (fun y7=>f0 (z6,y7,(IntKind.i64.wrap (v5+1)))))
 else some (.go v3))
@[simp] noncomputable def J_24 (v8:List Int):Option Yt8:=
 some v8
theorem U_u (a0:List SNode) (a1:Int):Le (joinK ((ix a0 a1).bind (fun z1=>(F_l z1.1).bind (fun y2=>loopF (fun f s=>L_9 a0 y2 f s.1 s.2.1 s.2.2) ([],(IntKind.i64.wrap (a1+1)),0))))
 (fun s=>J_24 s)) (F_1o a0 a1):=callL_le (tt:=tt) (FT:=FT) (SP:=SP) (j:=60) rfl (by kernel_rfl)
noncomputable def L_q (f1:(ByteArray×Int)→Option (Ex (Ex Yt11 ByteArray) ByteArray)) (v5:ByteArray) (v6:Int):Option (Ex (Ex Yt11 ByteArray) ByteArray):=
 (bif (decide (v6>0)) then
 (addx v5 (⟨#[32,32]⟩:ByteArray)).bind (fun z7=>f1 (z7,(IntKind.i64.wrap (v6-1))))
 else some (.go v5))
@[simp] noncomputable def J_1c (a0:List SNode) (v3:Int) (v8:ByteArray):Option (Ex Yt11 ByteArray):=
 (ix a0 v3).bind (fun z9=>(F_1a z9).bind (fun y10=>(addx v8 y10).bind (fun z11=>(addx z11 (⟨#[10]⟩:ByteArray)).bind (fun z12=>some (.go z12)))))
@[simp] noncomputable def J_1b (v3:Int) (f0:(ByteArray×Int)→Option Yt11) (v13:ByteArray):Option Yt11:=
 f0 (v13,(IntKind.i64.wrap (v3+1)))
noncomputable def L_p (a0:List SNode) (f0:(ByteArray×Int)→Option Yt11) (v2:ByteArray) (v3:Int):Option Yt11:=
 (bif (decide (v3<(a0.length:Int))) then
 joinK (joinK ((F_2i a0 v3).bind (fun y4=>loopF (fun f s=>L_q f s.1 s.2) (v2,y4)))
 (fun s=>J_1c a0 v3 s))
 (fun s=>J_1b v3 f0 s)
 else some (.go v2))
@[simp] noncomputable def J_2u (v14:ByteArray):Option ByteArray:=
 some v14
theorem U_d (a0:List SNode):Le ((F_h a0).bind (fun y1=>(bif (!y1) then
 some ByteArray.empty
 else joinK (loopF (fun f s=>L_p a0 f s.1 s.2) (ByteArray.empty,0))
 (fun s=>J_2u s)))) (F_1b a0):=callL_le (tt:=tt) (FT:=FT) (SP:=SP) (j:=61) rfl (by kernel_rfl)
@[simp] noncomputable def J_j (v2:Int) (f0:(Int×Int)→Option (Ex Int Int)) (v4:Int):Option (Ex Int Int):=
 f0 (v4,(IntKind.i64.wrap (v2+1)))
noncomputable def L_u (a0:List SNode) (a1:Int) (f0:(Int×Int)→Option (Ex Int Int)) (v1:Int) (v2:Int):Option (Ex Int Int):=
 (bif (decide (v2<a1)) then
 joinK ((F_j a0 v2 10).bind (fun y3=>(bif (decide (y3.1>a1)) then
 some (.go (IntKind.i64.wrap (v1+1)))
 else some (.go v1))))
 (fun s=>J_j v2 f0 s)
 else some (.go v1))
@[simp] noncomputable def J_36 (v5:Int):Option Int:=
 some v5
theorem U_2d (a0:List SNode) (a1:Int):Le (joinK (loopF (fun f s=>L_u a0 a1 f s.1 s.2) (0,0))
 (fun s=>J_36 s)) (F_2i a0 a1):=callL_le (tt:=tt) (FT:=FT) (SP:=SP) (j:=62) rfl (by kernel_rfl)
noncomputable def L_4 (f0:((List SNode)×Int×(List SNode)×Int×Yt6×Int×Int)→Option (Ex Yt16 ((List SNode)×Int×(List SNode)×Yt6×Int×Int))) (v2:List SNode) (v3:Int) (v4:List SNode) (v5:Int) (v6:List ByteArray) (v7:Int) (v8:Int):Option (Ex Yt16 ((List SNode)×Int×(List SNode)×Yt6×Int×Int)):=
 (bif (decide (v5>0)) then
 (F_1u v6 v7 v8).bind (fun y9=>(bif (decide (y9.2.2.2≥0)) then
 some (.ret ([],y9.2.2.2))
 else(apx v4 ([(y9.1.1,(y9.1.2.1,(y9.1.2.2.1,(y9.1.2.2.2.1,(y9.1.2.2.2.2.1,(y9.1.2.2.2.2.2.1,(y9.1.2.2.2.2.2.2.1,())))))))])).bind (fun z10=>(F_l y9.1.1).bind (fun y11=>f0 (v2,v3,z10,(IntKind.i64.wrap ((IntKind.i64.wrap (v5+y11))-1)),y9.2.1,y9.2.2.1,y9.2.2.2)))))
 else some (.go (v2,v3,v4,v6,v7,v8)))
@[simp] noncomputable def J_t (v12:List SNode) (v13:Int) (v14:List SNode) (v15:List ByteArray) (v16:Int) (v17:Int):Option Yt16:=
 (bif (decide (v16<(v15.length:Int))) then
 some ([],v16)
 else(F_o v14).bind (fun y18=>(bif (!y18) then
 some ([],(v15.length:Int))
 else some (v14,(-1)))))
theorem U_n (a0:ByteArray):Le ((bif (decide ((a0.size:Int)>2000)) then
 some ([],0)
 else(F_11 a0).bind (fun y1=>joinK (loopF (fun f s=>L_4 f s.1 s.2.1 s.2.2.1 s.2.2.2.1 s.2.2.2.2.1 s.2.2.2.2.2.1 s.2.2.2.2.2.2) ([],0,[],1,y1,0,(-1)))
 (fun s=>J_t s.1 s.2.1 s.2.2.1 s.2.2.2.1 s.2.2.2.2.1 s.2.2.2.2.2)))) (F_f a0):=callL_le (tt:=tt) (FT:=FT) (SP:=SP) (j:=63) rfl (by kernel_rfl)
theorem U_t (a0:ByteArray):Le ((bif (decide ((a0.size:Int)>2000)) then
 some ([])
 else(F_2m a0).bind (fun y1=>some y1))) (F_11 a0):=callL_le (tt:=tt) (FT:=FT) (SP:=SP) (j:=64) rfl (by kernel_rfl)
theorem U_2l (a0:ByteArray):Le (fieldsF a0) (F_2m a0):=callL_sp (tt:=tt) (FT:=FT) (SP:=SP) (j:=65) (v:=(show InVals (FT 65) from((a0,(()),()),(())))) (f:=fun v=>fieldsF v.1.1) rfl
noncomputable def L_0 (y8:(Int×Yt6×Int×Int)) (f0:(Int×ByteArray×Int×Int×Int×Bool×Yt8×Int×Yt6×Int×Int)→Option Yt22) (v9:Int) (v10:ByteArray) (v11:Int) (v12:Int) (v13:Int) (v14:Bool) (v15:List Int) (v16:Int) (v17:List ByteArray) (v18:Int) (v19:Int):Option Yt22:=
 (bif (decide (v16<y8.1)) then
 (F_7 v17 v18 v19 (-1000000) 1000000).bind (fun y20=>(apx v15 ([y20.1])).bind (fun z21=>f0 (v9,v10,v11,v12,v13,v14,z21,(IntKind.i64.wrap (v16+1)),y20.2.1,y20.2.2.1,y20.2.2.2)))
 else some (.go (v9,v10,v11,v12,v13,v14,v15,v17,v18,v19)))
@[simp] noncomputable def J_11 (v26:Int) (v27:ByteArray) (v28:Int) (v29:Int) (v30:Int) (v31:Bool) (v32:List Int) (v33:List ByteArray) (v34:Int) (v35:Int):Option (SNode×Yt6×Int×Int):=
 some ((v26,(v27,(v28,(v29,(v30,(v31,(v32,()))))))),v33,v34,v35)
theorem U_16 (a0x0:List ByteArray) (a0x1:Int) (a0x2:Int):Le ((F_13).bind (fun y1=>(F_t a0x0 a0x1 a0x2 y1).bind (fun y2=>joinK ((bif (y2.1==0) then
 (F_1q y2.2.1 y2.2.2.1 y2.2.2.2 y2.1 ByteArray.empty 0 0 0 false ([])).bind (fun y3=>some (.go (y3.2.2.2.1,y3.2.2.2.2.1,y3.2.2.2.2.2.1,y3.2.2.2.2.2.2.1,y3.2.2.2.2.2.2.2.1,y3.2.2.2.2.2.2.2.2.1,y3.2.2.2.2.2.2.2.2.2,y3.1,y3.2.1,y3.2.2.1)))
 else(bif (y2.1==1) then
 (F_7 y2.2.1 y2.2.2.1 y2.2.2.2 (-1000000) 1000000).bind (fun y4=>(F_14).bind (fun y5=>(F_t y4.2.1 y4.2.2.1 y4.2.2.2 y5).bind (fun y6=>(bif (y6.1 != 3) then
 (F_s y6.2.1 y6.2.2.1 y6.2.2.2).bind (fun y7=>some (.go (y2.1,ByteArray.empty,y4.1,y6.1,y7.1,y7.2.1,[],y7.2.2.1,y7.2.2.2.1,y7.2.2.2.2)))
 else some (.go (y2.1,ByteArray.empty,y4.1,y6.1,0,false,[],y6.2.1,y6.2.2.1,y6.2.2.2))))))
 else(bif (y2.1==2) then
 (F_7 y2.2.1 y2.2.2.1 y2.2.2.2 1 6).bind (fun y8=>loopF (fun f s=>L_0 y8 f s.1 s.2.1 s.2.2.1 s.2.2.2.1 s.2.2.2.2.1 s.2.2.2.2.2.1 s.2.2.2.2.2.2.1 s.2.2.2.2.2.2.2.1 s.2.2.2.2.2.2.2.2.1 s.2.2.2.2.2.2.2.2.2.1 s.2.2.2.2.2.2.2.2.2.2) (y2.1,ByteArray.empty,0,0,0,false,[],0,y8.2.1,y8.2.2.1,y8.2.2.2))
 else(bif (y2.1==3) then
 (F_7 y2.2.1 y2.2.2.1 y2.2.2.2 (-1000000) 1000000).bind (fun y22=>(F_7 y22.2.1 y22.2.2.1 y22.2.2.2 (-1000000) 1000000).bind (fun y23=>some (.go (y2.1,ByteArray.empty,y22.1,0,y23.1,false,[],y23.2.1,y23.2.2.1,y23.2.2.2))))
 else(bif (y2.1==5) then
 (F_7 y2.2.1 y2.2.2.1 y2.2.2.2 (-1000000) 1000000).bind (fun y24=>some (.go (y2.1,ByteArray.empty,y24.1,0,0,false,[],y24.2.1,y24.2.2.1,y24.2.2.2)))
 else(bif (y2.1==6) then
 (F_s y2.2.1 y2.2.2.1 y2.2.2.2).bind (fun y25=>some (.go (y2.1,ByteArray.empty,0,0,y25.1,y25.2.1,[],y25.2.2.1,y25.2.2.2.1,y25.2.2.2.2)))
 else some (.go (y2.1,ByteArray.empty,0,0,0,false,[],y2.2.1,y2.2.2.1,y2.2.2.2)))))))))
 (fun s=>J_11 s.1 s.2.1 s.2.2.1 s.2.2.2.1 s.2.2.2.2.1 s.2.2.2.2.2.1 s.2.2.2.2.2.2.1 s.2.2.2.2.2.2.2.1 s.2.2.2.2.2.2.2.2.1 s.2.2.2.2.2.2.2.2.2)))) (F_1u a0x0 a0x1 a0x2):=callL_le (tt:=tt) (FT:=FT) (SP:=SP) (j:=66) rfl (by kernel_rfl)
theorem U_c (a0x0:List ByteArray) (a0x1:Int) (a0x2:Int) (a1:List ByteArray):Le ((F_1t a0x0 a0x1 a0x2 a1 (-1)).bind (fun y1=>some (y1.2.2.2.2,y1.1,y1.2.1,y1.2.2.1))) (F_t a0x0 a0x1 a0x2 a1):=callL_le (tt:=tt) (FT:=FT) (SP:=SP) (j:=67) rfl (by kernel_rfl)
@[simp] noncomputable def J_10 (a0x0:List ByteArray) (a0x1:Int) (a0x2:Int) (v3:Bool) (v4:List ByteArray) (v5:Int):Option (Yt6×Int×Int×Yt6×Int):=
 (bif v3 then
 some (a0x0,a0x1,a0x1,v4,v5)
 else some (a0x0,(IntKind.i64.wrap (a0x1+1)),a0x2,v4,v5))
theorem U_8 (a0x0:List ByteArray) (a0x1:Int) (a0x2:Int) (a1x0x0:List ByteArray) (a1x1x0:Int):Le ((bif (decide (a0x2≥0)) then
 some (a0x0,a0x1,a0x2,a1x0x0,a1x1x0)
 else joinK ((bif (a0x1==(a0x0.length:Int)) then
 some (.go (true,a1x0x0,a1x1x0))
 else(ix a0x0 a0x1).bind (fun z1=>(F_1x z1 a1x0x0 a1x1x0).bind (fun y2=>some (.go ((!y2.1),y2.2.1,y2.2.2))))))
 (fun s=>J_10 a0x0 a0x1 a0x2 s.1 s.2.1 s.2.2))) (F_1t a0x0 a0x1 a0x2 a1x0x0 a1x1x0):=callL_le (tt:=tt) (FT:=FT) (SP:=SP) (j:=68) rfl (by kernel_rfl)
theorem U_19 (a0:ByteArray) (c0x0:List ByteArray) (c1x0:Int):Le ((F_27 c0x0 a0).bind (fun y1=>some ((decide (y1≥0)),c0x0,y1))) (F_1x a0 c0x0 c1x0):=callL_le (tt:=tt) (FT:=FT) (SP:=SP) (j:=69) rfl (by kernel_rfl)
noncomputable def L_f (a0:List ByteArray) (a1:ByteArray) (f0:(Int×Int)→Option (Ex Int Int)) (v1:Int) (v2:Int):Option (Ex Int Int):=
 (bif (decide (v2<(a0.length:Int))) then
 (ix a0 v2).bind (fun z3=>(bif (a1.toList==z3.toList) then
 some (.ret v2)
 else f0 (v1,(IntKind.i64.wrap (v2+1)))))
 else some (.go v1))
@[simp] noncomputable def J_2g (v4:Int):Option Int:=
 some (-1)
theorem U_1j (a0:List ByteArray) (a1:ByteArray):Le (joinK (loopF (fun f s=>L_f a0 a1 f s.1 s.2) (0,0))
 (fun s=>J_2g s)) (F_27 a0 a1):=callL_le (tt:=tt) (FT:=FT) (SP:=SP) (j:=70) rfl (by kernel_rfl)
@[simp] noncomputable def J_y (a0x0:List ByteArray) (a0x1:Int) (a0x2:Int) (v3:Bool) (v4:Int) (v5:ByteArray) (v6:Int) (v7:Int) (v8:Int) (v9:Bool) (v10:List Int):Option (Yt6×Int×Int×Int×ByteArray×Int×Int×Int×Bool×Yt8):=
 (bif v3 then
 some (a0x0,a0x1,a0x1,v4,v5,v6,v7,v8,v9,v10)
 else some (a0x0,(IntKind.i64.wrap (a0x1+1)),a0x2,v4,v5,v6,v7,v8,v9,v10))
theorem U_15 (a0x0:List ByteArray) (a0x1:Int) (a0x2:Int) (a1x0x0:Int) (a1x0x1:ByteArray) (a1x0x2:Int) (a1x0x3:Int) (a1x0x4:Int) (a1x0x5:Bool) (a1x0x6:List Int):Le ((bif (decide (a0x2≥0)) then
 some (a0x0,a0x1,a0x2,a1x0x0,a1x0x1,a1x0x2,a1x0x3,a1x0x4,a1x0x5,a1x0x6)
 else joinK ((bif (a0x1==(a0x0.length:Int)) then
 some (.go (true,a1x0x0,a1x0x1,a1x0x2,a1x0x3,a1x0x4,a1x0x5,a1x0x6))
 else(ix a0x0 a0x1).bind (fun z1=>(F_1v z1 a1x0x0 a1x0x1 a1x0x2 a1x0x3 a1x0x4 a1x0x5 a1x0x6).bind (fun y2=>some (.go ((!y2.1),y2.2.1,y2.2.2.1,y2.2.2.2.1,y2.2.2.2.2.1,y2.2.2.2.2.2.1,y2.2.2.2.2.2.2.1,y2.2.2.2.2.2.2.2))))))
 (fun s=>J_y a0x0 a0x1 a0x2 s.1 s.2.1 s.2.2.1 s.2.2.2.1 s.2.2.2.2.1 s.2.2.2.2.2.1 s.2.2.2.2.2.2.1 s.2.2.2.2.2.2.2))) (F_1q a0x0 a0x1 a0x2 a1x0x0 a1x0x1 a1x0x2 a1x0x3 a1x0x4 a1x0x5 a1x0x6):=callL_le (tt:=tt) (FT:=FT) (SP:=SP) (j:=71) rfl (by kernel_rfl)
theorem U_17 (a0:ByteArray) (c0x0:Int) (c0x1:ByteArray) (c0x2:Int) (c0x3:Int) (c0x4:Int) (c0x5:Bool) (c0x6:List Int):Le ((F_10 a0).bind (fun y1=>some (y1,c0x0,a0,c0x2,c0x3,c0x4,c0x5,c0x6))) (F_1v a0 c0x0 c0x1 c0x2 c0x3 c0x4 c0x5 c0x6):=callL_le (tt:=tt) (FT:=FT) (SP:=SP) (j:=72) rfl (by kernel_rfl)
theorem U_9 (a0x0:List ByteArray) (a0x1:Int) (a0x2:Int) (a1:Int) (a2:Int):Le ((F_1s a0x0 a0x1 a0x2 0 a1 a2).bind (fun y1=>some (y1.2.2.2.1,y1.1,y1.2.1,y1.2.2.1))) (F_7 a0x0 a0x1 a0x2 a1 a2):=callL_le (tt:=tt) (FT:=FT) (SP:=SP) (j:=73) rfl (by kernel_rfl)
@[simp] noncomputable def J_z (a0x0:List ByteArray) (a0x1:Int) (a0x2:Int) (v3:Bool) (v4:Int) (v5:Int) (v6:Int):Option (Yt6×Int×Int×Int×Int×Int):=
 (bif v3 then
 some (a0x0,a0x1,a0x1,v4,v5,v6)
 else some (a0x0,(IntKind.i64.wrap (a0x1+1)),a0x2,v4,v5,v6))
theorem U_7 (a0x0:List ByteArray) (a0x1:Int) (a0x2:Int) (a1x0x0:Int) (a1x1x0:Int) (a1x2x0:Int):Le ((bif (decide (a0x2≥0)) then
 some (a0x0,a0x1,a0x2,a1x0x0,a1x1x0,a1x2x0)
 else joinK ((bif (a0x1==(a0x0.length:Int)) then
 some (.go (true,a1x0x0,a1x1x0,a1x2x0))
 else(ix a0x0 a0x1).bind (fun z1=>(F_1w z1 a1x0x0 a1x1x0 a1x2x0).bind (fun y2=>some (.go ((!y2.1),y2.2.1,y2.2.2.1,y2.2.2.2))))))
 (fun s=>J_z a0x0 a0x1 a0x2 s.1 s.2.1 s.2.2.1 s.2.2.2))) (F_1s a0x0 a0x1 a0x2 a1x0x0 a1x1x0 a1x2x0):=callL_le (tt:=tt) (FT:=FT) (SP:=SP) (j:=74) rfl (by kernel_rfl)
@[simp] noncomputable def J_29 (c1x0:Int) (c2x0:Int) (y1:Yt21) (v3:Bool):Option (Bool×Int×Int×Int):=
 some (v3,y1.1,c1x0,c2x0)
theorem U_18 (a0:ByteArray) (c0x0:Int) (c1x0:Int) (c2x0:Int):Le ((F_15 a0).bind (fun y1=>joinK ((bif y1.2 then
 (F_5 y1.1 c1x0 c2x0).bind (fun y2=>some (.go y2))
 else some (.go false)))
 (fun s=>J_29 c1x0 c2x0 y1 s))) (F_1w a0 c0x0 c1x0 c2x0):=callL_le (tt:=tt) (FT:=FT) (SP:=SP) (j:=75) rfl (by kernel_rfl)
theorem U_12 (a0:ByteArray):Le (readF a0) (F_15 a0):=callL_sp (tt:=tt) (FT:=FT) (SP:=SP) (j:=76) (v:=(show InVals (FT 76) from((a0,()),(())))) (f:=fun v=>readF v.1.1) rfl
theorem U_a (a0x0:List ByteArray) (a0x1:Int) (a0x2:Int):Le ((F_1r a0x0 a0x1 a0x2 0 false).bind (fun y1=>some (y1.2.2.2.1,y1.2.2.2.2,y1.1,y1.2.1,y1.2.2.1))) (F_s a0x0 a0x1 a0x2):=callL_le (tt:=tt) (FT:=FT) (SP:=SP) (j:=77) rfl (by kernel_rfl)
@[simp] noncomputable def J_e (a0x0:List ByteArray) (a0x1:Int) (a0x2:Int) (v3:Bool) (v4:Int) (v5:Bool):Option (Yt6×Int×Int×Int×Bool):=
 (bif v3 then
 some (a0x0,a0x1,a0x1,v4,v5)
 else some (a0x0,(IntKind.i64.wrap (a0x1+1)),a0x2,v4,v5))
theorem U_6 (a0x0:List ByteArray) (a0x1:Int) (a0x2:Int) (a1x0x0:Int) (a1x1x0:Bool):Le ((bif (decide (a0x2≥0)) then
 some (a0x0,a0x1,a0x2,a1x0x0,a1x1x0)
 else joinK ((bif (a0x1==(a0x0.length:Int)) then
 some (.go (true,a1x0x0,a1x1x0))
 else(ix a0x0 a0x1).bind (fun z1=>(F_18 z1 a1x0x0 a1x1x0).bind (fun y2=>some (.go ((!y2.1),y2.2.1,y2.2.2))))))
 (fun s=>J_e a0x0 a0x1 a0x2 s.1 s.2.1 s.2.2))) (F_1r a0x0 a0x1 a0x2 a1x0x0 a1x1x0):=callL_le (tt:=tt) (FT:=FT) (SP:=SP) (j:=78) rfl (by kernel_rfl)
@[simp] noncomputable def J_28 (a0:ByteArray) (y1:ByteArray) (y2:Yt21) (v3:Bool):Option (Bool×Int×Bool):=
 some (v3,y2.1,(!(y1.toList==a0.toList)))
theorem U_b (a0:ByteArray) (c0x0:Int) (c1x0:Bool):Le ((F_2o a0 (⟨#[36]⟩:ByteArray)).bind (fun y1=>(F_15 y1).bind (fun y2=>joinK ((bif y2.2 then
 (bif (!(!(y1.toList==a0.toList))) then
 some (.go true)
 else some (.go (decide (y2.1≥0))))
 else some (.go false)))
 (fun s=>J_28 a0 y1 y2 s)))) (F_18 a0 c0x0 c1x0):=callL_le (tt:=tt) (FT:=FT) (SP:=SP) (j:=79) rfl (by kernel_rfl)
theorem U_2o (a0:ByteArray) (a1:ByteArray):Le (trimF a0 a1) (F_2o a0 a1):=callL_sp (tt:=tt) (FT:=FT) (SP:=SP) (j:=80) (v:=(show InVals (FT 80) from((a0,a1,()),(())))) (f:=fun v=>trimF v.1.1 v.1.2.1) rfl
theorem U_q (a0:List SNode) (a1:List SNode):Le ((F_23 a0 a1).bind (fun y1=>some y1)) (F_q a0 a1):=callL_le (tt:=tt) (FT:=FT) (SP:=SP) (j:=81) rfl (by kernel_rfl)
noncomputable def L_b (a0:List SNode) (a1:List SNode) (f0:(Bool×Int)→Option Yt14) (v1:Bool) (v2:Int):Option Yt14:=
 (bif (decide (v2<(a0.length:Int))) then
 (ix a0 v2).bind (fun z3=>(ix a1 v2).bind (fun z4=>(F_16 (z3.1,(z3.2.1,(z3.2.2.1,(z3.2.2.2.1,(z3.2.2.2.2.1,(z3.2.2.2.2.2.1,(z3.2.2.2.2.2.2.1,()))))))) (z4.1,(z4.2.1,(z4.2.2.1,(z4.2.2.2.1,(z4.2.2.2.2.1,(z4.2.2.2.2.2.1,(z4.2.2.2.2.2.2.1,())))))))).bind (fun y5=>(bif (!y5) then
 some (.ret false)
 else f0 (v1,(IntKind.i64.wrap (v2+1)))))))
 else some (.go v1))
@[simp] noncomputable def J_17 (v6:Bool):Option Bool:=
 some true
theorem U_1f (a0:List SNode) (a1:List SNode):Le ((bif ((a0.length:Int) != (a1.length:Int)) then
 some false
 else joinK (loopF (fun f s=>L_b a0 a1 f s.1 s.2) (false,0))
 (fun s=>J_17 s))) (F_23 a0 a1):=callL_le (tt:=tt) (FT:=FT) (SP:=SP) (j:=82) rfl (by kernel_rfl)
@[simp] noncomputable def J_m (v2:Bool):Option Bool:=
 some v2
theorem U_i (a0:ByteArray):Le ((F_z a0).bind (fun y1=>joinK ((bif y1.2 then
 some (.go (y1.1.toList==a0.toList))
 else some (.go false)))
 (fun s=>J_m s))) (F_m a0):=callL_le (tt:=tt) (FT:=FT) (SP:=SP) (j:=83) rfl (by kernel_rfl)
theorem U_r (a0:ByteArray):Le ((F_f a0).bind (fun y1=>(bif (decide (y1.2≥0)) then
 some (ByteArray.empty,false)
 else(F_p y1.1).bind (fun y2=>some (y2,true))))) (F_z a0):=callL_le (tt:=tt) (FT:=FT) (SP:=SP) (j:=84) rfl (by kernel_rfl)
@[simp] noncomputable def J_16 (a0:List Int) (v1:List Int) (v2:Int) (f0:(Yt8×Int)→Option (Ex Yt8 Yt8)) (v3:Bool):Option (Ex Yt8 Yt8):=
 (bif v3 then
 (ix a0 v2).bind (fun z4=>(apx v1 ([z4])).bind (fun z5=>f0 (z5,(IntKind.i64.wrap (v2+1)))))
 else some (.go v1))
noncomputable def L_v (a0:List Int) (f0:(Yt8×Int)→Option (Ex Yt8 Yt8)) (v1:List Int) (v2:Int):Option (Ex Yt8 Yt8):=
 joinK ((bif (decide (v2<(a0.length:Int))) then
 some (.go (decide (v2<3000)))
 else some (.go false)))
 (fun s=>J_16 a0 v1 v2 f0 s)
@[simp] noncomputable def J_2c (v6:List Int):Option Yt8:=
 some v6
theorem U_1b (a0:List Int) (a1:Int):Le (joinK (loopF (fun f s=>L_v a0 f s.1 s.2) ([(IntKind.u8.wrap a1)],0))
 (fun s=>J_2c s)) (F_1z a0 a1):=callL_le (tt:=tt) (FT:=FT) (SP:=SP) (j:=85) rfl (by kernel_rfl)
noncomputable def L_w (f0:(Yt8×Yt8×Int×Int)→Option (Ex Yt11 Yt8)) (v4:List Int) (v5:List Int) (v6:Int) (v7:Int):Option (Ex Yt11 Yt8):=
 (F_0 v5 v6 v7 2).bind (fun y8=>(bif (decide ((v4.length:Int)<(IntKind.i64.wrap (2000+y8.1)))) then
 (apx v4 ([32])).bind (fun z9=>f0 (z9,y8.2.1,y8.2.2.1,y8.2.2.2))
 else some (.go v4)))
@[simp] noncomputable def J_2k (v10:List Int):Option Yt11:=
 some (.ret (bsOf v10))
@[simp] noncomputable def J_2j (y2:Yt12) (v11:ByteArray):Option ByteArray:=
 some y2.1
theorem U_1m (a0:List Int):Le ((F_1e a0).bind (fun y1=>(F_2j y1.1 y1.2.1 y1.2.2 a0).bind (fun y2=>joinK ((F_8 y2.2.1 y2.2.2.1 y2.2.2.2 60).bind (fun y3=>(bif y3.1 then
 joinK (loopF (fun f s=>L_w f s.1 s.2.1 s.2.2.1 s.2.2.2) ([],y3.2.1,y3.2.2.1,y3.2.2.2))
 (fun s=>J_2k s)
 else some (.go ByteArray.empty))))
 (fun s=>J_2j y2 s)))) (F_29 a0):=callL_le (tt:=tt) (FT:=FT) (SP:=SP) (j:=86) rfl (by kernel_rfl)
@[simp] noncomputable def J_1w (y3:List ByteArray) (v5:Bool) (v6:List Int) (v7:Int) (v8:Int):Option (Ex Yt12 (Yt6×Yt8×Int×Int)):=
 (bif v5 then
 (F_0 v6 v7 v8 (y3.length:Int)).bind (fun y9=>(F_0 y9.2.1 y9.2.2.1 y9.2.2.2 4).bind (fun y10=>(bif (y10.1==0) then
 (F_1g y10.2.1 y10.2.2.1 y10.2.2.2 ([(⟨#[115,99,97,110]⟩:ByteArray),(⟨#[98,111,116,104]⟩:ByteArray),(⟨#[102,105,108,116,101,114]⟩:ByteArray),(⟨#[48]⟩:ByteArray),(⟨#[45,49]⟩:ByteArray),(⟨#[36,48]⟩:ByteArray),(⟨#[36,45,49]⟩:ByteArray),(⟨#[61]⟩:ByteArray),(⟨#[110,111,110,101]⟩:ByteArray),(⟨#[116,57]⟩:ByteArray),(⟨#[57,84]⟩:ByteArray),(⟨#[54,52]⟩:ByteArray),(⟨#[48,49]⟩:ByteArray),(⟨#[49,48,48,48,48,48,49]⟩:ByteArray),(⟨#[107,101,101,112]⟩:ByteArray)])).bind (fun y11=>(ix y3 y9.1).bind (fun z12=>(stx y3 y9.1 y11.1).bind (fun z13=>some (.go (z13,y11.2.1,y11.2.2.1,y11.2.2.2)))))
 else(bif (y10.1==1) then
 (tkx y3 y9.1).bind (fun z14=>some (.go (z14,y10.2.1,y10.2.2.1,y10.2.2.2)))
 else(bif (y10.1==2) then
 (ix y3 y9.1).bind (fun z15=>(apx y3 ([z15])).bind (fun z16=>some (.go (z16,y10.2.1,y10.2.2.1,y10.2.2.2))))
 else(bif (y10.1==3) then
 (ix y3 y9.1).bind (fun z17=>(addx z17 (⟨#[120]⟩:ByteArray)).bind (fun z18=>(ix y3 y9.1).bind (fun z19=>(stx y3 y9.1 z18).bind (fun z20=>some (.go (z20,y10.2.1,y10.2.2.1,y10.2.2.2))))))
 else some (.go (y3,y10.2.1,y10.2.2.1,y10.2.2.2))))))))
 else some (.go (y3,v6,v7,v8)))
@[simp] noncomputable def J_1x (v21:List ByteArray) (v26:Int) (f0:(ByteArray×Int×Yt8×Int×Int)→Option (Ex Yt12 Yt12)) (v32:ByteArray) (v33:List Int) (v34:Int) (v35:Int):Option (Ex Yt12 Yt12):=
 (ix v21 v26).bind (fun z36=>(addx v32 z36).bind (fun z37=>f0 (z37,(IntKind.i64.wrap (v26+1)),v33,v34,v35)))
noncomputable def L_10 (v21:List ByteArray) (f0:(ByteArray×Int×Yt8×Int×Int)→Option (Ex Yt12 Yt12)) (v25:ByteArray) (v26:Int) (v27:List Int) (v28:Int) (v29:Int):Option (Ex Yt12 Yt12):=
 (bif (decide (v26<(v21.length:Int))) then
 joinK ((bif (decide (v26>0)) then
 (F_1g v27 v28 v29 ([(⟨#[32]⟩:ByteArray),(⟨#[32]⟩:ByteArray),(⟨#[32]⟩:ByteArray),(⟨#[10]⟩:ByteArray),(⟨#[32,32]⟩:ByteArray)])).bind (fun y30=>(addx v25 y30.1).bind (fun z31=>some (.go (z31,y30.2.1,y30.2.2.1,y30.2.2.2))))
 else some (.go (v25,v27,v28,v29))))
 (fun s=>J_1x v21 v26 f0 s.1 s.2.1 s.2.2.1 s.2.2.2)
 else some (.go (v25,v27,v28,v29)))
@[simp] noncomputable def J_37 (v38:ByteArray) (v39:List Int) (v40:Int) (v41:Int):Option Yt12:=
 some (v38,v39,v40,v41)
@[simp] noncomputable def J_1v (v21:List ByteArray) (v22:List Int) (v23:Int) (v24:Int):Option Yt12:=
 joinK (loopF (fun f s=>L_10 v21 f s.1 s.2.1 s.2.2.1 s.2.2.2.1 s.2.2.2.2) (ByteArray.empty,0,v22,v23,v24))
 (fun s=>J_37 s.1 s.2.1 s.2.2.1 s.2.2.2)
theorem U_2e (a0x0:List Int) (a0x1:Int) (a0x2:Int) (a1:List Int):Le ((F_1h a0x0 a0x1 a0x2 a1).bind (fun y1=>(F_v y1.1).bind (fun y2=>(F_1d y2).bind (fun y3=>joinK (joinK ((F_8 y1.2.1 y1.2.2.1 y1.2.2.2 3).bind (fun y4=>(bif y4.1 then
 some (.go ((decide ((y3.length:Int)>0)),y4.2.1,y4.2.2.1,y4.2.2.2))
 else some (.go (false,y4.2.1,y4.2.2.1,y4.2.2.2)))))
 (fun s=>J_1w y3 s.1 s.2.1 s.2.2.1 s.2.2.2))
 (fun s=>J_1v s.1 s.2.1 s.2.2.1 s.2.2.2))))) (F_2j a0x0 a0x1 a0x2 a1):=callL_le (tt:=tt) (FT:=FT) (SP:=SP) (j:=87) rfl (by kernel_rfl)
@[simp] noncomputable def J_2 (v10:List ByteArray):Option (Ex (Ex Yt6 Yt6) (Yt6×ByteArray)):=
 some (.go (v10,ByteArray.empty))
@[simp] noncomputable def J_h (a0:ByteArray) (v1:List ByteArray) (v2:ByteArray) (v3:Int) (v6:Bool):Option (Ex (Ex Yt6 Yt6) (Yt6×ByteArray)):=
 (bif v6 then
 (ssx a0 v3 (IntKind.i64.wrap (v3+1))).bind (fun z7=>(addx v2 z7).bind (fun z8=>some (.go (v1,z8))))
 else joinK ((bif (!(v2.toList==ByteArray.empty.toList)) then
 (apx v1 ([v2])).bind (fun z9=>some (.go z9))
 else some (.go v1)))
 (fun s=>J_2 s))
@[simp] noncomputable def J_g (v3:Int) (f0:(Yt6×ByteArray×Int)→Option (Ex Yt6 Yt6)) (v11:List ByteArray) (v12:ByteArray):Option (Ex Yt6 Yt6):=
 f0 (v11,v12,(IntKind.i64.wrap (v3+1)))
noncomputable def L_s (a0:ByteArray) (f0:(Yt6×ByteArray×Int)→Option (Ex Yt6 Yt6)) (v1:List ByteArray) (v2:ByteArray) (v3:Int):Option (Ex Yt6 Yt6):=
 (bif (decide (v3≤(a0.size:Int))) then
 joinK (joinK ((bif (decide (v3<(a0.size:Int))) then
 (bix a0 v3).bind (fun z4=>(bif (z4 != 32) then
 (bix a0 v3).bind (fun z5=>some (.go (z5 != 10)))
 else some (.go false)))
 else some (.go false)))
 (fun s=>J_h a0 v1 v2 v3 s))
 (fun s=>J_g v3 f0 s.1 s.2)
 else some (.go v1))
@[simp] noncomputable def J_2x (v13:List ByteArray):Option Yt6:=
 some v13
theorem U_1t (a0:ByteArray):Le ((bif (decide ((a0.size:Int)>2000)) then
 some ([])
 else joinK (loopF (fun f s=>L_s a0 f s.1 s.2.1 s.2.2) ([],ByteArray.empty,0))
 (fun s=>J_2x s))) (F_1d a0):=callL_le (tt:=tt) (FT:=FT) (SP:=SP) (j:=88) rfl (by kernel_rfl)
theorem U_23 (a0x0:List Int) (a0x1:Int) (a0x2:Int) (a1:List ByteArray):Le ((F_0 a0x0 a0x1 a0x2 (a1.length:Int)).bind (fun y1=>(ix a1 y1.1).bind (fun z2=>some (z2,y1.2.1,y1.2.2.1,y1.2.2.2)))) (F_1g a0x0 a0x1 a0x2 a1):=callL_le (tt:=tt) (FT:=FT) (SP:=SP) (j:=89) rfl (by kernel_rfl)
noncomputable def L_5 (f0:((List SNode)×Int×Yt6×Int×Bool×(List SNode)×Int)→Option (Ex Yt16 ((List SNode)×Int×Yt6×Int×Bool×(List SNode)))) (v2:List SNode) (v3:Int) (v4:List ByteArray) (v5:Int) (v6:Bool) (v7:List SNode) (v8:Int):Option (Ex Yt16 ((List SNode)×Int×Yt6×Int×Bool×(List SNode))):=
 (bif (decide (v8>0)) then
 (F_2k v4 v5 v6).bind (fun y9=>(bif y9.2.2.2 then
 some (.ret ([],y9.2.2.1))
 else(apx v7 ([(y9.1.1,(y9.1.2.1,(y9.1.2.2.1,(y9.1.2.2.2.1,(y9.1.2.2.2.2.1,(y9.1.2.2.2.2.2.1,(y9.1.2.2.2.2.2.2.1,())))))))])).bind (fun z10=>(F_19 y9.1.1).bind (fun y11=>f0 (v2,v3,y9.2.1,y9.2.2.1,y9.2.2.2,z10,(IntKind.i64.wrap ((IntKind.i64.wrap (v8+y11))-1)))))))
 else some (.go (v2,v3,v4,v5,v6,v7)))
@[simp] noncomputable def J_1a (v12:List SNode) (v13:Int) (v14:List ByteArray) (v15:Int) (v16:Bool) (v17:List SNode):Option Yt16:=
 (bif (decide (v15<(v14.length:Int))) then
 some ([],v15)
 else(F_h v17).bind (fun y18=>(bif (!y18) then
 some ([],(v14.length:Int))
 else some (v17,(-1)))))
theorem U_1q (a0:ByteArray):Le ((bif (decide ((a0.size:Int)>2000)) then
 some ([],0)
 else(F_1d a0).bind (fun y1=>joinK (loopF (fun f s=>L_5 f s.1 s.2.1 s.2.2.1 s.2.2.2.1 s.2.2.2.2.1 s.2.2.2.2.2.1 s.2.2.2.2.2.2) ([],0,y1,0,false,[],1))
 (fun s=>J_1a s.1 s.2.1 s.2.2.1 s.2.2.2.1 s.2.2.2.2.1 s.2.2.2.2.2)))) (F_2b a0):=callL_le (tt:=tt) (FT:=FT) (SP:=SP) (j:=90) rfl (by kernel_rfl)
@[simp] noncomputable def J_5 (y3:Int) (y8:Yt15) (y11:Int) (v13:List ByteArray) (v14:Int) (v15:Bool) (v16:Bool):Option Yt7:=
 (bif v16 then
 (F_4 v13 v14 v15 true).bind (fun y17=>some (.go (y3,ByteArray.empty,y8.1,y11,y17.1,y17.2.1,[],y17.2.2.1,y17.2.2.2.1,y17.2.2.2.2)))
 else some (.go (y3,ByteArray.empty,y8.1,y11,0,false,[],v13,v14,v15)))
@[simp] noncomputable def J_4 (y3:Int) (y8:Yt15) (y11:Int) (v13:List ByteArray) (v14:Int) (v15:Bool):Option Yt7:=
 joinK ((bif (!v15) then
 some (.go (y11 != 3))
 else some (.go false)))
 (fun s=>J_5 y3 y8 y11 v13 v14 v15 s)
@[simp] noncomputable def J_1z (v24:Int) (v25:ByteArray) (v26:Int) (v27:Int) (v28:Int) (v29:Bool) (v30:List Int) (v31:Int) (v32:List ByteArray) (v33:Int) (v34:Bool) (f0:(Int×ByteArray×Int×Int×Int×Bool×Yt8×Int×Yt6×Int×Bool)→Option Yt7) (v35:Bool):Option Yt7:=
 (bif v35 then
 (F_4 v32 v33 v34 false).bind (fun y36=>(apx v30 ([y36.1])).bind (fun z37=>f0 (v24,v25,v26,v27,v28,v29,z37,(IntKind.i64.wrap (v31+1)),y36.2.2.1,y36.2.2.2.1,y36.2.2.2.2)))
 else some (.go (v24,v25,v26,v27,v28,v29,v30,v32,v33,v34)))
noncomputable def L_1 (y18:Yt15) (f0:(Int×ByteArray×Int×Int×Int×Bool×Yt8×Int×Yt6×Int×Bool)→Option Yt7) (v24:Int) (v25:ByteArray) (v26:Int) (v27:Int) (v28:Int) (v29:Bool) (v30:List Int) (v31:Int) (v32:List ByteArray) (v33:Int) (v34:Bool):Option Yt7:=
 joinK ((bif (decide (v31<y18.1)) then
 some (.go (!v34))
 else some (.go false)))
 (fun s=>J_1z v24 v25 v26 v27 v28 v29 v30 v31 v32 v33 v34 f0 s)
@[simp] noncomputable def J_6 (y3:Int) (y18:Yt15) (v21:List ByteArray) (v22:Int) (v23:Bool):Option Yt7:=
 loopF (fun f s=>L_1 y18 f s.1 s.2.1 s.2.2.1 s.2.2.2.1 s.2.2.2.2.1 s.2.2.2.2.2.1 s.2.2.2.2.2.2.1 s.2.2.2.2.2.2.2.1 s.2.2.2.2.2.2.2.2.1 s.2.2.2.2.2.2.2.2.2.1 s.2.2.2.2.2.2.2.2.2.2) (y3,ByteArray.empty,0,0,0,false,[],0,v21,v22,v23)
@[simp] noncomputable def J_1y (v42:Int) (v43:ByteArray) (v44:Int) (v45:Int) (v46:Int) (v47:Bool) (v48:List Int) (v49:List ByteArray) (v50:Int) (v51:Bool):Option (SNode×Yt6×Int×Bool):=
 some ((v42,(v43,(v44,(v45,(v46,(v47,(v48,()))))))),v49,v50,v51)
theorem U_2g (a0x0:List ByteArray) (a0x1:Int) (a0x2:Bool):Le ((F_1k).bind (fun y1=>(F_b a0x0 a0x1 a0x2).bind (fun y2=>(F_k y1 y2.1).bind (fun y3=>(bif (decide (y3<0)) then
 (F_a y2.2.1 y2.2.2.1 y2.2.2.2).bind (fun y4=>some ((y3,(ByteArray.empty,(0,(0,(0,(false,([],()))))))),y4.1,y4.2.1,y4.2.2))
 else joinK ((bif (y3==0) then
 (F_b y2.2.1 y2.2.2.1 y2.2.2.2).bind (fun y5=>(F_1c y5.1).bind (fun y6=>(bif (!y6) then
 (F_a y5.2.1 y5.2.2.1 y5.2.2.2).bind (fun y7=>some (.go (y3,y5.1,0,0,0,false,[],y7.1,y7.2.1,y7.2.2)))
 else some (.go (y3,y5.1,0,0,0,false,[],y5.2.1,y5.2.2.1,y5.2.2.2)))))
 else(bif (y3==1) then
 (F_4 y2.2.1 y2.2.2.1 y2.2.2.2 false).bind (fun y8=>(F_1j).bind (fun y9=>(F_b y8.2.2.1 y8.2.2.2.1 y8.2.2.2.2).bind (fun y10=>(F_k y9 y10.1).bind (fun y11=>joinK ((bif (decide (y11<0)) then
 (F_a y10.2.1 y10.2.2.1 y10.2.2.2).bind (fun y12=>some (.go (y12.1,y12.2.1,y12.2.2)))
 else some (.go (y10.2.1,y10.2.2.1,y10.2.2.2))))
 (fun s=>J_4 y3 y8 y11 s.1 s.2.1 s.2.2)))))
 else(bif (y3==2) then
 (F_4 y2.2.1 y2.2.2.1 y2.2.2.2 false).bind (fun y18=>joinK ((F_1 y18.1 1 6).bind (fun y19=>(bif (!y19) then
 (F_a y18.2.2.1 y18.2.2.2.1 y18.2.2.2.2).bind (fun y20=>some (.go (y20.1,y20.2.1,y20.2.2)))
 else some (.go (y18.2.2.1,y18.2.2.2.1,y18.2.2.2.2)))))
 (fun s=>J_6 y3 y18 s.1 s.2.1 s.2.2))
 else(bif (y3==3) then
 (F_4 y2.2.1 y2.2.2.1 y2.2.2.2 false).bind (fun y38=>(F_4 y38.2.2.1 y38.2.2.2.1 y38.2.2.2.2 false).bind (fun y39=>some (.go (y3,ByteArray.empty,y38.1,0,y39.1,false,[],y39.2.2.1,y39.2.2.2.1,y39.2.2.2.2))))
 else(bif (y3==5) then
 (F_4 y2.2.1 y2.2.2.1 y2.2.2.2 false).bind (fun y40=>some (.go (y3,ByteArray.empty,y40.1,0,0,false,[],y40.2.2.1,y40.2.2.2.1,y40.2.2.2.2)))
 else(bif (y3==6) then
 (F_4 y2.2.1 y2.2.2.1 y2.2.2.2 true).bind (fun y41=>some (.go (y3,ByteArray.empty,0,0,y41.1,y41.2.1,[],y41.2.2.1,y41.2.2.2.1,y41.2.2.2.2)))
 else some (.go (y3,ByteArray.empty,0,0,0,false,[],y2.2.1,y2.2.2.1,y2.2.2.2)))))))))
 (fun s=>J_1y s.1 s.2.1 s.2.2.1 s.2.2.2.1 s.2.2.2.2.1 s.2.2.2.2.2.1 s.2.2.2.2.2.2.1 s.2.2.2.2.2.2.2.1 s.2.2.2.2.2.2.2.2.1 s.2.2.2.2.2.2.2.2.2)))))) (F_2k a0x0 a0x1 a0x2):=callL_le (tt:=tt) (FT:=FT) (SP:=SP) (j:=91) rfl (by kernel_rfl)
@[simp] noncomputable def J_l (a0x0:List ByteArray) (a0x1:Int) (a0x2:Bool) (v1:Bool):Option Yt20:=
 (bif v1 then
 some (ByteArray.empty,a0x0,a0x1,true)
 else(ix a0x0 a0x1).bind (fun z2=>some (z2,a0x0,(IntKind.i64.wrap (a0x1+1)),a0x2)))
theorem U_2 (a0x0:List ByteArray) (a0x1:Int) (a0x2:Bool):Le (joinK ((bif a0x2 then
 some (.go true)
 else some (.go (decide (a0x1≥(a0x0.length:Int))))))
 (fun s=>J_l a0x0 a0x1 a0x2 s)) (F_b a0x0 a0x1 a0x2):=callL_le (tt:=tt) (FT:=FT) (SP:=SP) (j:=92) rfl (by kernel_rfl)
noncomputable def L_m (a0:List ByteArray) (a1:ByteArray) (f0:(Int×Int)→Option (Ex Int Int)) (v1:Int) (v2:Int):Option (Ex Int Int):=
 (bif (decide (v2<(a0.length:Int))) then
 (ix a0 v2).bind (fun z3=>(bif (z3.toList==a1.toList) then
 some (.ret v2)
 else f0 (v1,(IntKind.i64.wrap (v2+1)))))
 else some (.go v1))
@[simp] noncomputable def J_38 (v4:Int):Option Int:=
 some (-1)
theorem U_2f (a0:List ByteArray) (a1:ByteArray):Le (joinK (loopF (fun f s=>L_m a0 a1 f s.1 s.2) (0,0))
 (fun s=>J_38 s)) (F_k a0 a1):=callL_le (tt:=tt) (FT:=FT) (SP:=SP) (j:=93) rfl (by kernel_rfl)
theorem U_g (a0x0:List ByteArray) (a0x1:Int) (a0x2:Bool):Le ((bif (!a0x2) then
 some (a0x0,(IntKind.i64.wrap (a0x1-1)),true)
 else some (a0x0,a0x1,a0x2))) (F_a a0x0 a0x1 a0x2):=callL_le (tt:=tt) (FT:=FT) (SP:=SP) (j:=94) rfl (by kernel_rfl)
@[simp] noncomputable def J_3 (y1:Yt20) (v3:Bool) (y6:Yt21) (v7:Bool):Option Yt15:=
 (bif v7 then
 (F_a y1.2.1 y1.2.2.1 y1.2.2.2).bind (fun y8=>some (0,false,y8.1,y8.2.1,y8.2.2))
 else some (y6.1,v3,y1.2.1,y1.2.2.1,y1.2.2.2))
@[simp] noncomputable def J_b (y1:Yt20) (v3:Bool) (v5:ByteArray):Option Yt15:=
 (F_2d v5).bind (fun y6=>joinK ((bif (!y6.2) then
 some (.go true)
 else(bif v3 then
 some (.go (decide (y6.1<0)))
 else some (.go false))))
 (fun s=>J_3 y1 v3 y6 s))
@[simp] noncomputable def J_k (y1:Yt20) (v3:Bool):Option Yt15:=
 joinK ((bif v3 then
 (ssx y1.1 1 (y1.1.size:Int)).bind (fun z4=>some (.go z4))
 else some (.go y1.1)))
 (fun s=>J_b y1 v3 s)
theorem U_1 (a0x0:List ByteArray) (a0x1:Int) (a0x2:Bool) (a1:Bool):Le ((F_b a0x0 a0x1 a0x2).bind (fun y1=>(bif y1.2.2.2 then
 some (0,false,y1.2.1,y1.2.2.1,y1.2.2.2)
 else joinK ((bif a1 then
 (bix y1.1 0).bind (fun z2=>some (.go (z2==36)))
 else some (.go false)))
 (fun s=>J_k y1 s)))) (F_4 a0x0 a0x1 a0x2 a1):=callL_le (tt:=tt) (FT:=FT) (SP:=SP) (j:=95) rfl (by kernel_rfl)
@[simp] noncomputable def J_9 (a0:ByteArray) (v2:Bool):Option (Ex Yt21 ByteArray):=
 (bif v2 then
 (ssx a0 1 (a0.size:Int)).bind (fun z3=>some (.go z3))
 else some (.go a0))
@[simp] noncomputable def J_1k (v4:ByteArray) (v6:Int) (v7:Bool) (v8:Int) (v9:Int) (f0:(Int×Bool×Int×Int)→Option (Ex Yt21 (Int×Bool×Int))) (v12:Bool):Option (Ex Yt21 (Int×Bool×Int)):=
 (bif v12 then
 some (.ret (0,false))
 else(bix v4 v9).bind (fun z13=>f0 (v6,v7,(IntKind.i64.wrap ((IntKind.i64.wrap ((IntKind.i64.wrap (10*v8))+(IntKind.i64.wrap z13)))-48)),(IntKind.i64.wrap (v9+1)))))
noncomputable def L_6 (v4:ByteArray) (f0:(Int×Bool×Int×Int)→Option (Ex Yt21 (Int×Bool×Int))) (v6:Int) (v7:Bool) (v8:Int) (v9:Int):Option (Ex Yt21 (Int×Bool×Int)):=
 (bif (decide (v9<(v4.size:Int))) then
 joinK ((bix v4 v9).bind (fun z10=>(bif (decide (z10<48)) then
 some (.go true)
 else(bix v4 v9).bind (fun z11=>some (.go (decide (z11>57)))))))
 (fun s=>J_1k v4 v6 v7 v8 v9 f0 s)
 else some (.go (v6,v7,v8)))
@[simp] noncomputable def J_32 (v20:Int) (v21:Bool):Option Yt21:=
 some (v20,v21)
@[simp] noncomputable def J_1l (a0:ByteArray) (v17:Int):Option Yt21:=
 joinK ((F_2 v17).bind (fun y18=>(bif (y18.toList==a0.toList) then
 (F_1f v17).bind (fun y19=>some (.go (v17,y19)))
 else some (.go (v17,false)))))
 (fun s=>J_32 s.1 s.2)
@[simp] noncomputable def J_1j (a0:ByteArray) (v4:ByteArray) (v14:Int) (v15:Bool) (v16:Int):Option Yt21:=
 joinK ((bif (decide ((v4.size:Int)<(a0.size:Int))) then
 some (.go (IntKind.i64.wrap (0-v16)))
 else some (.go v16)))
 (fun s=>J_1l a0 s)
@[simp] noncomputable def J_1i (a0:ByteArray) (v4:ByteArray):Option Yt21:=
 (F_1 (v4.size:Int) 1 7).bind (fun y5=>(bif (!y5) then
 some (0,false)
 else joinK (loopF (fun f s=>L_6 v4 f s.1 s.2.1 s.2.2.1 s.2.2.2) (0,false,0,0))
 (fun s=>J_1j a0 v4 s.1 s.2.1 s.2.2)))
theorem U_24 (a0:ByteArray):Le (joinK (joinK ((bif (decide ((a0.size:Int)>0)) then
 (bix a0 0).bind (fun z1=>some (.go (z1==45)))
 else some (.go false)))
 (fun s=>J_9 a0 s))
 (fun s=>J_1i a0 s)) (F_2d a0):=callL_le (tt:=tt) (FT:=FT) (SP:=SP) (j:=96) rfl (by kernel_rfl)
end Go.Proofs.YtnljlpckjkafgaaGreatDoorX
