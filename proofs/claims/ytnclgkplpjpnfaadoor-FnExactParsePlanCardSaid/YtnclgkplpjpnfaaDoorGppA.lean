/- Printed: for each function that the statement reaches, a plain function, and that it is what the program's function answers. -/
import Derived.Test.YtnclgkplpjpnfaaDoorProg
import Derived.Test.YtnclgkplpjpnfaaDoorTrppD
set_option linter.all false
namespace Go.Proofs.YtnclgkplpjpnfaaDoorX
open Go Go.Proofs Go.Proofs.YtnclgkplpjpnfaaDoorT
set_option maxRecDepth 100000
set_option linter.all false
abbrev SNode:=Int×ByteArray×Int×Int×Int×Bool×(List Int)×Unit
abbrev Sl06Reader:=(List ByteArray)×Int×Bool×Unit
abbrev SwordReader:=(List ByteArray)×Int×Int×Unit
abbrev Yv1:Ty:=.int .i64
abbrev Yv2:Ty:=.sl 9 .str
abbrev Yv4:Ty:=.sl 3 Yv1
abbrev Yv0:Ty:=.pr Yv1 (.pr .str (.pr Yv1 (.pr Yv1 (.pr Yv1 (.pr .bool (.pr Yv4 .un))))))
abbrev Yv3:Ty:=.sl 34 Yv0
abbrev Yt5:Type:=List ByteArray
abbrev Yt6:Type:=Ex (SNode×Yt5×Int×Bool) (Int×ByteArray×Int×Int×Int×Bool×(List Int)×Yt5×Int×Bool)
abbrev Yt7:Type:=Ex Bool (Int×ByteArray×Int×Int×Int×Bool×(List Int)×Bool)
abbrev Yt8:Type:=Ex Bool Bool
abbrev Yt9:Type:=Int×Bool×Yt5×Int×Bool
abbrev Yt10:Type:=(List SNode)×Int
abbrev Yt11:Type:=Ex (Int×Int) (Int×Int×Int×Int)
abbrev Yt12:Type:=ByteArray×Yt5×Int×Bool
abbrev Yt13:Type:=Ex (SNode×Yt5×Int×Int) (Int×ByteArray×Int×Int×Int×Bool×(List Int)×Yt5×Int×Int)
abbrev Yt14:Type:=Int×Bool
abbrev Yt15:Type:=Int×(List SNode)
abbrev Yt16:Type:=Ex ByteArray ByteArray
abbrev Yl0:LT:=⟨false,false,Yv1⟩
abbrev Yl1:LT:=⟨false,false,.bool⟩
abbrev Yl2:LT:=⟨true,true,Yv1⟩
abbrev Yl3:LT:=⟨true,true,Yv2⟩
abbrev Yl4:LT:=⟨true,true,.bool⟩
abbrev Yl5:LT:=⟨false,false,.str⟩
abbrev Yl6:LT:=⟨true,true,Yv3⟩
abbrev Yl7:LT:=⟨true,true,Yv4⟩
abbrev Yl8:LT:=⟨true,true,.str⟩
def ttL:List (Nat×Ty):=[(3,Yv1),
 (4,.bool),
 (5,(.int .u8)),
 (9,.str),
 (22,Yv3),
 (28,Yv2),
 (31,(.pr Yv2 (.pr Yv1 (.pr .bool .un)))),
 (32,Yv4),
 (34,Yv0),
 (41,(.pr Yv2 (.pr Yv1 (.pr Yv1 .un)))),
 (65,(.sl 5 (.int .u8)))]
def tt (T:TypeId):Option Ty:=lkT ttL T
theorem tt_ok:TTok Tryd.prog tt:=lkT_ok (by kernel_rfl)
noncomputable def i_0:Inst:={f:=3,fn:=Tryd.f3,n:=66,pds:=[.rd .str],caps:=[],res:=[Yl1],h:={al:=[24,25,33,36,49,50,58],ca:=[(16,1),(21,20),(26,57),(35,60),(38,63),(46,20),(51,57),(60,63)],code:=(.two .nil (.two .nil (.two .nil (.two .nil (.two (.join ⟨[],[(32,.v Yl1)]⟩ .nil .nil) (.two .nil (.two .nil (.two .nil (.two .nil (.two .nil (.two .nil (.two .nil (.two (.join ⟨[],[(57,.v Yl1)]⟩ .nil .nil) .nil)))))))))))))}}
noncomputable def i_1a:Inst:={f:=4,fn:=Tryd.f4,n:=47,pds:=[.rd .str],caps:=[],res:=[Yl6,Yl0],h:={al:=[40],nn:=[23],ca:=[(12,2),(17,3),(29,15),(41,16)],code:=(.two .nil (.two .nil (.two .nil (.two .nil (.join ⟨[2,3,4,5],[(2,.v Yl6),(3,.v Yl0),(4,.bx 31 [Yl3,Yl2,Yl4]),(5,.v Yl6)]⟩ (.two .nil (.loop ⟨[2,3,4,5,6],[(2,.v Yl6),(3,.v Yl0),(4,.bx 31 [Yl3,Yl2,Yl4]),(5,.v Yl6),(6,.v Yl0)]⟩ .nil)) .nil)))))}}
noncomputable def i_1d:Inst:={f:=9,fn:=Tryd.f9,n:=46,pds:=[.rd .str],caps:=[],res:=[Yl3],h:={code:=(.two .nil (.two .nil (.two .nil (.two .nil (.join ⟨[3,4],[(3,.v Yl3)]⟩ (.two .nil (.loop ⟨[3,4,5],[(3,.v Yl3),(4,.v Yl5),(5,.v Yl0)]⟩ (.two .nil (.join ⟨[3,4],[(3,.v Yl3),(4,.v Yl5)]⟩ (.two (.join ⟨[],[(31,.v Yl1)]⟩ .nil .nil) (.join ⟨[3],[(3,.v Yl3)]⟩ .nil .nil)) .nil)))) .nil)))))}}
noncomputable def i_1n:Inst:={f:=10,fn:=Tryd.f10,n:=135,pds:=[.pt true 31 [Yl3,Yl2,Yl4]],caps:=[],res:=[⟨true,true,Yv0⟩],h:={tk:=[19,98,134],ca:=[(9,4),(11,5),(12,6),(18,7),(25,5),(29,8),(32,7),(37,10),(41,14),(43,5),(44,6),(50,7),(63,10),(72,10),(76,9),(79,7),(94,10),(107,10),(113,10),(121,10),(129,10)],code:=(.two .nil (.two .nil (.two .nil (.join ⟨[0,3,10,14,135],[(3,.bx 34 [Yl2,Yl5,Yl2,Yl2,Yl2,Yl4,Yl7]),(135,.bx 31 [Yl3,Yl2,Yl4])]⟩ (.two .nil (.two .nil (.two .nil (.two .nil (.two (.two .nil (.two .nil (.join ⟨[0,10,36,42,135],[(0,.fix (.eq 135)),(135,.bx 31 [Yl3,Yl2,Yl4])]⟩ .nil (.join ⟨[],[(60,.v Yl1)]⟩ .nil .nil)))) (.two .nil (.two (.two .nil (.join ⟨[0,10,71,135],[(0,.fix (.eq 135)),(135,.bx 31 [Yl3,Yl2,Yl4])]⟩ .nil (.two .nil (.loop ⟨[0,3,6,14,20,135],[(0,.fix (.eq 135)),(3,.bx 34 [Yl2,Yl8,Yl2,Yl2,Yl2,Yl4,Yl7]),(6,.v Yl0),(135,.bx 31 [Yl3,Yl2,Yl4])]⟩ (.two (.join ⟨[],[(89,.v Yl1)]⟩ .nil .nil) .nil))))) .nil))))))) .nil))))}}
noncomputable def i_1p:Inst:={f:=22,fn:=Tryd.f22,n:=2,pds:=[],caps:=[],res:=[Yl3],h:={code:=.nil}}
noncomputable def i_1q:Inst:={f:=23,fn:=Tryd.f23,n:=42,pds:=[.pt true 31 [Yl3,Yl2,Yl4]],caps:=[],res:=[Yl5],h:={code:=(.two .nil (.two (.join ⟨[],[(19,.v Yl1)]⟩ .nil .nil) .nil))}}
noncomputable def i_1l:Inst:={f:=21,fn:=Tryd.f21,n:=19,pds:=[.rd Yv2,.rd .str],caps:=[],res:=[Yl0],h:={code:=(.two .nil (.join ⟨[4],[(4,.v Yl0)]⟩ (.two .nil (.loop ⟨[4,5],[(4,.v Yl0),(5,.v Yl0)]⟩ .nil)) .nil))}}
noncomputable def i_1k:Inst:={f:=24,fn:=Tryd.f24,n:=18,pds:=[.pt true 31 [Yl3,Yl2,Yl4]],caps:=[],res:=[],h:={code:=.nil}}
noncomputable def i_1c:Inst:={f:=25,fn:=Tryd.f25,n:=41,pds:=[.rd .str],caps:=[],res:=[Yl1],h:={ca:=[(6,9)],code:=(.two .nil (.two (.join ⟨[],[(12,.v Yl1)]⟩ .nil .nil) (.join ⟨[2],[(2,.v Yl1)]⟩ (.two .nil (.loop ⟨[2,3],[(2,.v Yl1),(3,.v Yl0)]⟩ (.two .nil (.two (.join ⟨[],[(40,.v Yl1)]⟩ .nil .nil) .nil)))) .nil)))}}
noncomputable def i_1e:Inst:={f:=28,fn:=Tryd.f28,n:=15,pds:=[.rd Yv1,.rd Yv1,.rd Yv1],caps:=[],res:=[Yl1],h:={code:=(.two .nil (.join ⟨[6],[(6,.v Yl1)]⟩ .nil .nil))}}
noncomputable def i_1m:Inst:={f:=26,fn:=Tryd.f26,n:=43,pds:=[.pt true 31 [Yl3,Yl2,Yl4],.rd .bool],caps:=[],res:=[Yl0,Yl1],h:={ca:=[(11,5),(27,11),(40,7)],code:=(.two .nil (.two .nil (.two .nil (.join ⟨[],[(7,.v Yl1)]⟩ .nil (.join ⟨[6],[(6,.v Yl5)]⟩ .nil (.two .nil (.two (.join ⟨[],[(38,.v Yl1)]⟩ .nil .nil) .nil)))))))}}
noncomputable def i_1h:Inst:={f:=47,fn:=Tryd.f47,n:=62,pds:=[.rd .str],caps:=[],res:=[Yl0,Yl1],h:={ca:=[(20,9),(55,12),(60,13)],code:=(.two .nil (.two .nil (.join ⟨[4],[(4,.v Yl5)]⟩ (.join ⟨[],[(15,.v Yl1)]⟩ .nil .nil) (.two .nil (.two .nil (.join ⟨[2,3,5],[(2,.v Yl0),(3,.v Yl1),(5,.v Yl0)]⟩ (.two .nil (.loop ⟨[2,3,5,6],[(2,.v Yl0),(3,.v Yl1),(5,.v Yl0),(6,.v Yl0)]⟩ (.two .nil (.two (.two (.join ⟨[],[(37,.v Yl1)]⟩ .nil .nil) .nil) .nil)))) (.join ⟨[5],[(5,.v Yl0)]⟩ .nil (.join ⟨[2,3],[(2,.v Yl0),(3,.v Yl1)]⟩ .nil .nil))))))))}}
noncomputable def i_1f:Inst:={f:=63,fn:=Tryd.f63,n:=31,pds:=[.rd Yv1],caps:=[],res:=[Yl5],h:={code:=(.two .nil (.two .nil (.two .nil (.two .nil (.join ⟨[0,3],[(3,.v Yl5)]⟩ (.loop ⟨[0,3],[(0,.v Yl0),(3,.v Yl5)]⟩ (.two .nil (.two .nil (.join ⟨[5],[(5,.v Yl0)]⟩ .nil .nil)))) .nil)))))}}
noncomputable def i_1g:Inst:={f:=49,fn:=Tryd.f49,n:=5,pds:=[.rd Yv1],caps:=[],res:=[Yl1],h:={ca:=[(4,9)],code:=.nil}}
noncomputable def i_1o:Inst:={f:=27,fn:=Tryd.f27,n:=2,pds:=[],caps:=[],res:=[Yl3],h:={code:=.nil}}
noncomputable def i_18:Inst:={f:=11,fn:=Tryd.f11,n:=15,pds:=[.rd Yv1],caps:=[],res:=[Yl0],h:={code:=(.two .nil (.two (.two .nil (.two .nil (.two .nil (.join ⟨[],[(6,.v Yl1)]⟩ .nil (.two .nil (.join ⟨[],[(9,.v Yl1)]⟩ .nil .nil)))))) .nil))}}
noncomputable def i_1b:Inst:={f:=12,fn:=Tryd.f12,n:=31,pds:=[.rd Yv3],caps:=[],res:=[Yl1],h:={ca:=[(8,9),(20,17),(24,19)],code:=(.two .nil (.two .nil (.join ⟨[2],[(2,.v Yl1)]⟩ (.two .nil (.loop ⟨[2,3],[(2,.v Yl1),(3,.v Yl0)]⟩ .nil)) .nil)))}}
noncomputable def i_19:Inst:={f:=29,fn:=Tryd.f29,n:=186,pds:=[.rd Yv0],caps:=[],res:=[Yl1],h:={ca:=[(39,9),(49,8),(69,18),(73,9),(78,13),(109,18),(114,9),(134,18),(138,18),(149,18),(168,9)],code:=(.two .nil (.two (.join ⟨[],[(42,.v Yl1)]⟩ .nil .nil) (.join ⟨[2],[(2,.v Yl1)]⟩ (.two .nil (.two .nil (.two (.join ⟨[2],[(2,.v Yl1)]⟩ .nil .nil) (.two .nil (.two (.join ⟨[2],[(2,.v Yl1)]⟩ .nil .nil) (.two .nil (.two (.join ⟨[2],[(2,.v Yl1)]⟩ (.two .nil (.loop ⟨[2,3],[(2,.v Yl1),(3,.v Yl0)]⟩ .nil)) (.join ⟨[2],[(2,.v Yl1)]⟩ .nil .nil)) (.two .nil (.two (.join ⟨[2],[(2,.v Yl1)]⟩ .nil .nil) (.two .nil (.two (.join ⟨[2],[(2,.v Yl1)]⟩ .nil .nil) (.two .nil (.two (.join ⟨[2],[(2,.v Yl1)]⟩ .nil .nil) (.join ⟨[],[(170,.v Yl1)]⟩ .nil (.two (.join ⟨[2],[(2,.v Yl1)]⟩ .nil .nil) .nil))))))))))))))) .nil)))}}
noncomputable def i_1i:Inst:={f:=48,fn:=Tryd.f48,n:=5,pds:=[.rd Yv1],caps:=[],res:=[Yl1],h:={ca:=[(4,9)],code:=.nil}}
noncomputable def i_1j:Inst:={f:=30,fn:=Tryd.f30,n:=51,pds:=[.rd Yv3,.rd Yv1,.rd Yv1],caps:=[],res:=[Yl0,Yl0],h:={ca:=[(29,15),(38,19)],code:=(.two .nil (.two (.join ⟨[],[(20,.v Yl1)]⟩ .nil .nil) (.two .nil (.two .nil (.join ⟨[6,7,8,9],[(6,.v Yl0),(7,.v Yl0),(8,.v Yl0),(9,.v Yl0)]⟩ (.two .nil (.loop ⟨[6,7,8,9,10],[(6,.v Yl0),(7,.v Yl0),(8,.v Yl0),(9,.v Yl0),(10,.v Yl0)]⟩ (.two .nil (.join ⟨[6,7,8,9],[(6,.v Yl0),(7,.v Yl0),(8,.v Yl0),(9,.v Yl0)]⟩ .nil .nil)))) .nil)))))}}
noncomputable def i_4:Inst:={f:=5,fn:=Tryd.f5,n:=62,pds:=[.rd .str],caps:=[],res:=[Yl6,Yl0],h:={al:=[53],nn:=[31],ca:=[(12,21),(20,23),(37,42),(54,43)],code:=(.two .nil (.two .nil (.two .nil (.two .nil (.join ⟨[2,3,4,5,14],[(2,.v Yl6),(3,.v Yl0),(4,.fix (.eq 14)),(5,.v Yl6),(14,.bx 41 [Yl3,Yl2,Yl2])]⟩ (.two .nil (.loop ⟨[2,3,4,5,6,14],[(2,.v Yl6),(3,.v Yl0),(4,.fix (.eq 14)),(5,.v Yl6),(6,.v Yl0),(14,.bx 41 [Yl3,Yl2,Yl2])]⟩ .nil)) .nil)))))}}
noncomputable def i_8:Inst:={f:=13,fn:=Tryd.f13,n:=8,pds:=[.rd .str],caps:=[],res:=[Yl3],h:={ca:=[(7,22)],code:=.nil}}
noncomputable def i_1r:Inst:={f:=31,fn:=Tryd.f31,n:=65,pds:=[.rd .str,.fn 32 []],caps:=[],res:=[Yl3],h:={}}
noncomputable def i_m:Inst:={f:=14,fn:=Tryd.f14,n:=71,pds:=[.pt true 41 [Yl3,Yl2,Yl2]],caps:=[],res:=[⟨true,true,Yv0⟩],h:={tk:=[41,70],ca:=[(5,24),(6,25),(14,29),(18,33),(21,37),(22,25),(29,38),(37,33),(43,33),(51,33),(54,33),(59,33),(65,38)],code:=(.two .nil (.two .nil (.join ⟨[0,3,4,71],[(3,.bx 34 [Yl2,Yl8,Yl2,Yl2,Yl2,Yl4,Yl7]),(71,.bx 41 [Yl3,Yl2,Yl2])]⟩ (.two .nil (.two .nil (.two .nil (.two .nil (.two .nil (.two .nil (.two (.two .nil (.loop ⟨[0,3,4,8,36,38,71],[(0,.fix (.eq 71)),(3,.bx 34 [Yl2,Yl8,Yl2,Yl2,Yl2,Yl4,Yl7]),(38,.v Yl0),(71,.bx 41 [Yl3,Yl2,Yl2])]⟩ .nil)) .nil))))))) .nil)))}}
noncomputable def i_e:Inst:={f:=34,fn:=Tryd.f34,n:=2,pds:=[],caps:=[],res:=[Yl3],h:={code:=.nil}}
noncomputable def i_s:Inst:={f:=33,fn:=Tryd.f33,n:=10,pds:=[.pt true 41 [Yl3,Yl2,Yl2],.rd Yv2],caps:=[],res:=[Yl0],h:={ca:=[(8,26)],code:=.nil}}
noncomputable def i_l:Inst:={f:=35,fn:=Tryd.f35,n:=50,pds:=[.pt true 41 [Yl3,Yl2,Yl2],.fn 50 [(true,28,[⟨false,false,Yv2⟩]),(true,3,[Yl0])]],caps:=[],res:=[],h:={ca:=[(40,27)],code:=(.two .nil (.two .nil (.join ⟨[1,51,52],[(17,.v Yl1),(51,.bx 28 [⟨false,false,Yv2⟩]),(52,.bx 3 [Yl0])]⟩ .nil .nil)))}}
noncomputable def i_t:Inst:={f:=50,fn:=Tryd.f50,n:=10,pds:=[.rd .str],caps:=[(true,28,[⟨false,false,Yv2⟩]),(true,3,[Yl0])],res:=[Yl1],h:={ca:=[(7,28)],code:=.nil}}
noncomputable def i_17:Inst:={f:=51,fn:=Tryd.f51,n:=19,pds:=[.rd Yv2,.rd .str],caps:=[],res:=[Yl0],h:={code:=(.two .nil (.join ⟨[4],[(4,.v Yl0)]⟩ (.two .nil (.loop ⟨[4,8],[(4,.v Yl0),(8,.v Yl0)]⟩ .nil)) .nil))}}
noncomputable def i_i:Inst:={f:=35,fn:=Tryd.f35,n:=50,pds:=[.pt true 41 [Yl3,Yl2,Yl2],.fn 36 [(true,34,[Yl2,Yl8,Yl2,Yl2,Yl2,Yl4,Yl7])]],caps:=[],res:=[],h:={ca:=[(40,30)],code:=(.two .nil (.two .nil (.join ⟨[1,51],[(17,.v Yl1),(51,.bx 34 [Yl2,Yl8,Yl2,Yl2,Yl2,Yl4,Yl7])]⟩ .nil .nil)))}}
noncomputable def i_n:Inst:={f:=36,fn:=Tryd.f36,n:=8,pds:=[.rd .str],caps:=[(true,34,[Yl2,Yl8,Yl2,Yl2,Yl2,Yl4,Yl7])],res:=[Yl1],h:={ca:=[(7,31)],code:=.nil}}
noncomputable def i_7:Inst:={f:=37,fn:=Tryd.f37,n:=38,pds:=[.rd .str],caps:=[],res:=[Yl1],h:={ca:=[(37,32)],code:=(.two .nil (.join ⟨[2],[(2,.v Yl1)]⟩ (.two .nil (.loop ⟨[2,8],[(2,.v Yl1),(8,.v Yl0)]⟩ (.two .nil (.two .nil (.two (.two .nil (.two .nil (.join ⟨[],[(5,.v Yl1)]⟩ .nil (.join ⟨[],[(33,.v Yl1)]⟩ .nil .nil)))) .nil))))) .nil))}}
noncomputable def i_a:Inst:={f:=41,fn:=Tryd.f41,n:=15,pds:=[.rd Yv1,.rd Yv1,.rd Yv1],caps:=[],res:=[Yl1],h:={code:=(.two .nil (.join ⟨[6],[(6,.v Yl1)]⟩ .nil .nil))}}
noncomputable def i_o:Inst:={f:=38,fn:=Tryd.f38,n:=12,pds:=[.pt true 41 [Yl3,Yl2,Yl2],.rd Yv1,.rd Yv1],caps:=[],res:=[Yl0],h:={ca:=[(10,34)],code:=.nil}}
noncomputable def i_k:Inst:={f:=35,fn:=Tryd.f35,n:=50,pds:=[.pt true 41 [Yl3,Yl2,Yl2],.fn 52 [(true,3,[Yl0]),(true,3,[Yl0]),(true,3,[Yl0])]],caps:=[],res:=[],h:={ca:=[(40,35)],code:=(.two .nil (.two .nil (.join ⟨[1,51,52,53],[(17,.v Yl1),(51,.bx 3 [Yl0]),(52,.bx 3 [Yl0]),(53,.bx 3 [Yl0])]⟩ .nil .nil)))}}
noncomputable def i_r:Inst:={f:=52,fn:=Tryd.f52,n:=21,pds:=[.rd .str],caps:=[(true,3,[Yl0]),(true,3,[Yl0]),(true,3,[Yl0])],res:=[Yl1],h:={ca:=[(10,36),(19,32)],code:=(.two .nil (.two .nil (.two .nil (.join ⟨[5],[(5,.v Yl1)]⟩ .nil .nil))))}}
noncomputable def i_g:Inst:={f:=53,fn:=Tryd.f53,n:=25,pds:=[.rd .str],caps:=[],res:=[Yl0,Yl1],h:={}}
noncomputable def i_f:Inst:={f:=39,fn:=Tryd.f39,n:=2,pds:=[],caps:=[],res:=[Yl3],h:={code:=.nil}}
noncomputable def i_p:Inst:={f:=40,fn:=Tryd.f40,n:=11,pds:=[.pt true 41 [Yl3,Yl2,Yl2]],caps:=[],res:=[Yl0,Yl1],h:={ca:=[(8,39)],code:=.nil}}
noncomputable def i_j:Inst:={f:=35,fn:=Tryd.f35,n:=50,pds:=[.pt true 41 [Yl3,Yl2,Yl2],.fn 54 [(true,3,[Yl0]),(true,4,[Yl1])]],caps:=[],res:=[],h:={ca:=[(40,40)],code:=(.two .nil (.two .nil (.join ⟨[1,51,52],[(17,.v Yl1),(51,.bx 3 [Yl0]),(52,.bx 4 [Yl1])]⟩ .nil .nil)))}}
noncomputable def i_q:Inst:={f:=54,fn:=Tryd.f54,n:=28,pds:=[.rd .str],caps:=[(true,3,[Yl0]),(true,4,[Yl1])],res:=[Yl1],h:={ca:=[(9,41),(12,36)],code:=(.two .nil (.two .nil (.two .nil (.two .nil (.join ⟨[4],[(4,.v Yl1)]⟩ .nil .nil)))))}}
noncomputable def i_1s:Inst:={f:=55,fn:=Tryd.f55,n:=8,pds:=[.rd .str,.rd .str],caps:=[],res:=[Yl5],h:={}}
noncomputable def i_1:Inst:={f:=15,fn:=Tryd.f15,n:=15,pds:=[.rd Yv1],caps:=[],res:=[Yl0],h:={code:=(.two .nil (.two (.two .nil (.two .nil (.two .nil (.join ⟨[],[(6,.v Yl1)]⟩ .nil (.two .nil (.join ⟨[],[(9,.v Yl1)]⟩ .nil .nil)))))) .nil))}}
noncomputable def i_5:Inst:={f:=16,fn:=Tryd.f16,n:=16,pds:=[.rd Yv3],caps:=[],res:=[Yl1],h:={ca:=[(5,32),(9,44),(12,56)],code:=(.two .nil (.two (.join ⟨[],[(10,.v Yl1)]⟩ .nil .nil) .nil))}}
noncomputable def i_12:Inst:={f:=42,fn:=Tryd.f42,n:=9,pds:=[.rd Yv3,.fn 43 []],caps:=[],res:=[Yl1],h:={ca:=[(7,45)],code:=.nil}}
noncomputable def i_15:Inst:={f:=56,fn:=Tryd.f56,n:=19,pds:=[.rd Yv3,.fn 43 []],caps:=[],res:=[Yl0],h:={ca:=[(16,46)],code:=(.two .nil (.join ⟨[4],[(4,.v Yl0)]⟩ (.two .nil (.loop ⟨[4,8],[(4,.v Yl0),(8,.v Yl0)]⟩ .nil)) .nil))}}
noncomputable def i_6:Inst:={f:=43,fn:=Tryd.f43,n:=6,pds:=[.rd Yv0],caps:=[],res:=[Yl1],h:={ca:=[(4,47)],code:=.nil}}
noncomputable def i_2:Inst:={f:=44,fn:=Tryd.f44,n:=116,pds:=[.rd Yv0],caps:=[],res:=[Yl1],h:={ca:=[(13,31),(19,48),(23,32),(29,50),(53,49),(64,32),(68,51),(76,48),(80,48),(88,48),(94,32),(102,49),(114,54)],code:=(.two .nil (.two .nil (.two .nil (.two .nil (.join ⟨[3,4,6],[(3,.bx 34 [Yl0,Yl5,Yl0,Yl0,Yl0,Yl1,⟨false,false,Yv4⟩]),(4,.v Yl1)]⟩ (.two .nil (.two .nil (.two .nil (.two .nil (.two (.join ⟨[4],[(4,.v Yl1)]⟩ .nil (.join ⟨[4],[(4,.v Yl1)]⟩ .nil .nil)) (.two .nil (.two (.join ⟨[4],[(4,.v Yl1)]⟩ .nil .nil) (.two .nil (.two (.join ⟨[4],[(4,.v Yl1)]⟩ .nil .nil) (.two .nil (.two .nil (.two .nil (.two (.join ⟨[4],[(4,.v Yl1)]⟩ .nil .nil) (.join ⟨[],[(107,.v Yl1)]⟩ .nil .nil)))))))))))))) (.join ⟨[2],[(2,.v Yl1)]⟩ .nil .nil))))))}}
noncomputable def i_b:Inst:={f:=57,fn:=Tryd.f57,n:=5,pds:=[.rd Yv1],caps:=[],res:=[Yl1],h:={ca:=[(4,32)],code:=.nil}}
noncomputable def i_d:Inst:={f:=58,fn:=Tryd.f58,n:=5,pds:=[.rd Yv1],caps:=[],res:=[Yl1],h:={ca:=[(4,32)],code:=.nil}}
noncomputable def i_c:Inst:={f:=59,fn:=Tryd.f59,n:=5,pds:=[.rd Yv1],caps:=[],res:=[Yl1],h:={ca:=[(4,32)],code:=.nil}}
noncomputable def i_13:Inst:={f:=60,fn:=Tryd.f60,n:=9,pds:=[.rd Yv4,.fn 61 []],caps:=[],res:=[Yl1],h:={ca:=[(7,52)],code:=.nil}}
noncomputable def i_16:Inst:={f:=67,fn:=Tryd.f67,n:=19,pds:=[.rd Yv4,.fn 61 []],caps:=[],res:=[Yl0],h:={ca:=[(16,53)],code:=(.two .nil (.join ⟨[4],[(4,.v Yl0)]⟩ (.two .nil (.loop ⟨[4,8],[(4,.v Yl0),(8,.v Yl0)]⟩ .nil)) .nil))}}
noncomputable def i_3:Inst:={f:=61,fn:=Tryd.f61,n:=6,pds:=[.rd Yv1],caps:=[],res:=[Yl1],h:={ca:=[(4,48)],code:=.nil}}
noncomputable def i_h:Inst:={f:=62,fn:=Tryd.f62,n:=52,pds:=[.rd Yv0,.rd Yv0],caps:=[],res:=[Yl1],h:={ca:=[(50,55)],code:=(.two .nil (.join ⟨[4],[(4,.v Yl1)]⟩ .nil .nil))}}
noncomputable def i_14:Inst:={f:=68,fn:=Tryd.f68,n:=26,pds:=[.rd Yv4,.rd Yv4],caps:=[],res:=[Yl1],h:={code:=(.two .nil (.two .nil (.join ⟨[4],[(4,.v Yl1)]⟩ (.two .nil (.loop ⟨[4,13],[(4,.v Yl1),(13,.v Yl0)]⟩ .nil)) .nil)))}}
noncomputable def i_9:Inst:={f:=45,fn:=Tryd.f45,n:=35,pds:=[.rd Yv3,.rd Yv1,.rd Yv1],caps:=[],res:=[Yl0],h:={ca:=[(23,42),(30,56)],code:=(.two .nil (.two (.join ⟨[],[(15,.v Yl1)]⟩ .nil .nil) (.two .nil (.join ⟨[6,7],[(6,.v Yl0),(7,.v Yl0)]⟩ (.two .nil (.loop ⟨[6,7,24],[(6,.v Yl0),(7,.v Yl0),(24,.v Yl0)]⟩ .nil)) .nil))))}}
noncomputable def i_w:Inst:={f:=6,fn:=Tryd.f6,n:=27,pds:=[.rd Yv3,.rd Yv3],caps:=[],res:=[Yl1],h:={ca:=[(25,58)],code:=(.two .nil (.two .nil (.join ⟨[4],[(4,.v Yl1)]⟩ (.two .nil (.loop ⟨[4,5],[(4,.v Yl1),(5,.v Yl0)]⟩ .nil)) .nil)))}}
noncomputable def i_v:Inst:={f:=17,fn:=Tryd.f17,n:=41,pds:=[.rd Yv0,.rd Yv0],caps:=[],res:=[Yl1],h:={ca:=[(39,59)],code:=.nil}}
noncomputable def i_u:Inst:={f:=46,fn:=Tryd.f46,n:=26,pds:=[.rd Yv4,.rd Yv4],caps:=[],res:=[Yl1],h:={code:=(.two .nil (.two .nil (.join ⟨[4],[(4,.v Yl1)]⟩ (.two .nil (.loop ⟨[4,5],[(4,.v Yl1),(5,.v Yl0)]⟩ .nil)) .nil)))}}
noncomputable def i_10:Inst:={f:=7,fn:=Tryd.f7,n:=65,pds:=[.mu true true 34 Yv0,.rd Yv1],caps:=[],res:=[Yl0],h:={el:=[15,23,30,37,44,53,59],nn:=[61],ca:=[(22,61),(63,62)],code:=(.two .nil (.join ⟨[0,1,65],[(1,.v Yl0),(65,.v Yl6)]⟩ (.two .nil (.loop ⟨[0,1,5,65],[(0,.fix (.eq 65)),(1,.v Yl0),(5,.v Yl0),(65,.v Yl6)]⟩ .nil)) .nil))}}
noncomputable def i_11:Inst:={f:=18,fn:=Tryd.f18,n:=20,pds:=[.rd Yv1],caps:=[],res:=[Yl5],h:={code:=(.two .nil (.two .nil (.two .nil (.join ⟨[0,3],[(3,.v Yl5)]⟩ (.loop ⟨[0,3],[(0,.v Yl0),(3,.v Yl5)]⟩ .nil) .nil))))}}
noncomputable def i_z:Inst:={f:=19,fn:=Tryd.f19,n:=19,pds:=[.mu true true 3 Yv1,.rd Yv1],caps:=[],res:=[Yl0],h:={el:=[15],code:=(.two .nil (.join ⟨[0,1,19],[(1,.v Yl0),(19,.v Yl7)]⟩ (.two .nil (.loop ⟨[0,1,5,19],[(0,.fix (.eq 19)),(1,.v Yl0),(5,.v Yl0),(19,.v Yl7)]⟩ .nil)) .nil))}}
noncomputable def i_y:Inst:={f:=8,fn:=Tryd.f8,n:=79,pds:=[.rd Yv3,.rd Yv1],caps:=[],res:=[Yl0],h:={ca:=[(27,61),(75,64)],code:=(.two .nil (.join ⟨[1,4],[(1,.v Yl0),(4,.v Yl0)]⟩ (.two .nil (.loop ⟨[1,4,5],[(1,.v Yl0),(4,.v Yl0),(5,.v Yl0)]⟩ .nil)) .nil))}}
noncomputable def i_x:Inst:={f:=20,fn:=Tryd.f20,n:=21,pds:=[.rd Yv4,.rd Yv1],caps:=[],res:=[Yl0],h:={code:=(.two .nil (.join ⟨[1,4],[(1,.v Yl0),(4,.v Yl0)]⟩ (.two .nil (.loop ⟨[1,4,5],[(1,.v Yl0),(4,.v Yl0),(5,.v Yl0)]⟩ .nil)) .nil))}}
noncomputable def FTL:List Inst:=[i_0,i_1a,i_1d,i_1n,i_1p,i_1q,i_1l,i_1k,i_1c,i_1e,i_1m,i_1h,i_1f,i_1g,i_1o,i_18,i_1b,i_19,i_1i,i_1j,i_4,i_8,i_1r,i_m,i_e,i_s,i_l,i_t,i_17,i_i,i_n,i_7,i_a,i_o,i_k,i_r,i_g,i_f,i_p,i_j,i_q,i_1s,i_1,i_5,i_12,i_15,i_6,i_2,i_b,i_d,i_c,i_13,i_16,i_3,i_h,i_14,i_9,i_w,i_v,i_u,i_10,i_11,i_z,i_y,i_x]
noncomputable def FT (j:Nat):Inst:=FTL.getD j i_0
noncomputable def SP (j:Nat):Option (InVals (FT j)→Option (Tup (outTys (FT j)))):=if h22:j=22 then some (h22▸(show InVals (FT 22)→Option (Tup (outTys (FT 22))) from fun v=>fieldsF v.1.1)) else if h36:j=36 then some (h36▸(show InVals (FT 36)→Option (Tup (outTys (FT 36))) from fun v=>readF v.1.1)) else if h41:j=41 then some (h41▸(show InVals (FT 41)→Option (Tup (outTys (FT 41))) from fun v=>trimF v.1.1 v.1.2.1)) else none
def lays101_ren:Go.Shelf.Ren:=⟨fun|101=>55|206=>72|208=>66|n=>n,fun|3=>3|4=>4|9=>9|n=>n,fun n=>n⟩
theorem lays101:Go.Proofs.Lays.n101 Tryd.prog lays101_ren:={
 mixed:=by kernel_rfl,
 f101:=Tryd.func55.trans (congrArg some (by kernel_rfl)),
 f206:=Tryd.func72.trans (congrArg some (by kernel_rfl)),
 f208:=Tryd.func66.trans (congrArg some (by kernel_rfl)),
 t3:=Tryd.underlying3,
 a3:=Tryd.isAgg3,
 z3:=Tryd.sizeOf3,
 v3:=Tryd.zeroValue3,
 t4:=Tryd.underlying4,
 a4:=Tryd.isAgg4,
 z4:=Tryd.sizeOf4,
 v4:=Tryd.zeroValue4,
 t9:=Tryd.underlying9,
 a9:=Tryd.isAgg9,
 z9:=Tryd.sizeOf9,
 v9:=Tryd.zeroValue9}
def lays171_ren:Go.Shelf.Ren:=⟨fun|129=>90|171=>71|243=>78|246=>82|283=>85|284=>86|285=>87|286=>88|317=>89|318=>91|319=>92|320=>93|337=>94|338=>95|n=>n,fun|0=>0|2=>2|3=>3|4=>4|5=>5|9=>9|20=>20|37=>65|46=>90|51=>108|53=>87|171=>101|173=>104|212=>107|213=>109|232=>112|233=>113|n=>n,fun|17=>2|18=>3|19=>4|n=>n⟩
theorem lays171:Go.Proofs.LaysM.n171 Tryd.prog lays171_ren:={
 mixed:=by kernel_rfl,
 f129:=Tryd.func90.trans (congrArg some (by kernel_rfl)),
 f171:=Tryd.func71.trans (congrArg some (by kernel_rfl)),
 f243:=Tryd.func78.trans (congrArg some (by kernel_rfl)),
 f246:=Tryd.func82.trans (congrArg some (by kernel_rfl)),
 f283:=Tryd.func85.trans (congrArg some (by kernel_rfl)),
 f284:=Tryd.func86.trans (congrArg some (by kernel_rfl)),
 f285:=Tryd.func87.trans (congrArg some (by kernel_rfl)),
 f286:=Tryd.func88.trans (congrArg some (by kernel_rfl)),
 f317:=Tryd.func89.trans (congrArg some (by kernel_rfl)),
 f318:=Tryd.func91.trans (congrArg some (by kernel_rfl)),
 f319:=Tryd.func92.trans (congrArg some (by kernel_rfl)),
 f320:=Tryd.func93.trans (congrArg some (by kernel_rfl)),
 f337:=Tryd.func94.trans (congrArg some (by kernel_rfl)),
 f338:=Tryd.func95.trans (congrArg some (by kernel_rfl)),
 t0:=Tryd.underlying0,
 a0:=Tryd.isAgg0,
 z0:=Tryd.sizeOf0,
 v0:=Tryd.zeroValue0,
 t2:=Tryd.underlying2,
 a2:=Tryd.isAgg2,
 z2:=Tryd.sizeOf2,
 v2:=Tryd.zeroValue2,
 t3:=Tryd.underlying3,
 a3:=Tryd.isAgg3,
 z3:=Tryd.sizeOf3,
 v3:=Tryd.zeroValue3,
 t4:=Tryd.underlying4,
 a4:=Tryd.isAgg4,
 z4:=Tryd.sizeOf4,
 v4:=Tryd.zeroValue4,
 t5:=Tryd.underlying5,
 a5:=Tryd.isAgg5,
 z5:=Tryd.sizeOf5,
 v5:=Tryd.zeroValue5,
 t9:=Tryd.underlying9,
 a9:=Tryd.isAgg9,
 z9:=Tryd.sizeOf9,
 v9:=Tryd.zeroValue9,
 t20:=Tryd.underlying20,
 a20:=Tryd.isAgg20,
 z20:=Tryd.sizeOf20,
 v20:=Tryd.zeroValue20,
 t37:=Tryd.underlying65,
 a37:=Tryd.isAgg65,
 z37:=Tryd.sizeOf65,
 v37:=Tryd.zeroValue65,
 t46:=Tryd.underlying90,
 a46:=Tryd.isAgg90,
 z46:=Tryd.sizeOf90,
 v46:=Tryd.zeroValue90,
 t51:=Tryd.underlying108,
 a51:=Tryd.isAgg108,
 z51:=Tryd.sizeOf108,
 v51:=Tryd.zeroValue108,
 t53:=Tryd.underlying87,
 a53:=Tryd.isAgg87,
 z53:=Tryd.sizeOf87,
 v53:=Tryd.zeroValue87,
 t171:=Tryd.underlying101,
 a171:=Tryd.isAgg101,
 z171:=Tryd.sizeOf101,
 v171:=Tryd.zeroValue101,
 t173:=Tryd.underlying104,
 a173:=Tryd.isAgg104,
 z173:=Tryd.sizeOf104,
 v173:=Tryd.zeroValue104,
 t212:=Tryd.underlying107,
 a212:=Tryd.isAgg107,
 z212:=Tryd.sizeOf107,
 v212:=Tryd.zeroValue107,
 t213:=Tryd.underlying109,
 a213:=Tryd.isAgg109,
 z213:=Tryd.sizeOf109,
 t232:=Tryd.underlying112,
 a232:=Tryd.isAgg112,
 z232:=Tryd.sizeOf112,
 v232:=Tryd.zeroValue112,
 t233:=Tryd.underlying113,
 a233:=Tryd.isAgg113,
 z233:=Tryd.sizeOf113,
 v233:=Tryd.zeroValue113,
 g17:=by kernel_rfl,
 g18:=by kernel_rfl,
 g19:=by kernel_rfl,
 i0:=by kernel_rfl,
 i2:=by kernel_rfl,
 i3:=by kernel_rfl,
 i4:=by kernel_rfl,
 i5:=by kernel_rfl,
 i9:=by kernel_rfl,
 i20:=by kernel_rfl,
 i37:=by kernel_rfl,
 i46:=by kernel_rfl,
 i51:=by kernel_rfl,
 i53:=by kernel_rfl,
 i171:=by kernel_rfl,
 i173:=by kernel_rfl,
 i212:=by kernel_rfl,
 i232:=by kernel_rfl,
 i233:=by kernel_rfl,
 m17:=by kernel_rfl,
 m18:=by kernel_rfl,
 m19:=by kernel_rfl}
def lays172_ren:Go.Shelf.Ren:=⟨fun|129=>90|171=>71|172=>64|205=>81|243=>78|244=>69|245=>70|246=>82|247=>73|279=>74|280=>75|281=>76|282=>77|283=>85|284=>86|285=>87|286=>88|287=>79|316=>80|317=>89|318=>91|319=>92|320=>93|321=>83|322=>84|337=>94|338=>95|n=>n,fun|0=>0|2=>2|3=>3|4=>4|5=>5|9=>9|20=>20|21=>21|37=>65|46=>90|51=>108|53=>87|75=>75|76=>76|80=>114|85=>82|127=>97|143=>98|145=>100|167=>81|168=>84|171=>101|173=>104|175=>88|210=>93|212=>107|213=>109|232=>112|233=>113|n=>n,fun|15=>0|16=>1|17=>2|18=>3|19=>4|n=>n⟩
theorem lays172:Go.Proofs.LaysC.n172 Tryd.prog lays172_ren:={
 mixed:=by kernel_rfl,
 f129:=Tryd.func90.trans (congrArg some (by kernel_rfl)),
 f171:=Tryd.func71.trans (congrArg some (by kernel_rfl)),
 f172:=Tryd.func64.trans (congrArg some (by kernel_rfl)),
 f205:=Tryd.func81.trans (congrArg some (by kernel_rfl)),
 f243:=Tryd.func78.trans (congrArg some (by kernel_rfl)),
 f244:=Tryd.func69.trans (congrArg some (by kernel_rfl)),
 f245:=Tryd.func70.trans (congrArg some (by kernel_rfl)),
 f246:=Tryd.func82.trans (congrArg some (by kernel_rfl)),
 f247:=Tryd.func73.trans (congrArg some (by kernel_rfl)),
 f279:=Tryd.func74.trans (congrArg some (by kernel_rfl)),
 f280:=Tryd.func75.trans (congrArg some (by kernel_rfl)),
 f281:=Tryd.func76.trans (congrArg some (by kernel_rfl)),
 f282:=Tryd.func77.trans (congrArg some (by kernel_rfl)),
 f283:=Tryd.func85.trans (congrArg some (by kernel_rfl)),
 f284:=Tryd.func86.trans (congrArg some (by kernel_rfl)),
 f285:=Tryd.func87.trans (congrArg some (by kernel_rfl)),
 f286:=Tryd.func88.trans (congrArg some (by kernel_rfl)),
 f287:=Tryd.func79.trans (congrArg some (by kernel_rfl)),
 f316:=Tryd.func80.trans (congrArg some (by kernel_rfl)),
 f317:=Tryd.func89.trans (congrArg some (by kernel_rfl)),
 f318:=Tryd.func91.trans (congrArg some (by kernel_rfl)),
 f319:=Tryd.func92.trans (congrArg some (by kernel_rfl)),
 f320:=Tryd.func93.trans (congrArg some (by kernel_rfl)),
 f321:=Tryd.func83.trans (congrArg some (by kernel_rfl)),
 f322:=Tryd.func84.trans (congrArg some (by kernel_rfl)),
 f337:=Tryd.func94.trans (congrArg some (by kernel_rfl)),
 f338:=Tryd.func95.trans (congrArg some (by kernel_rfl)),
 t0:=Tryd.underlying0,
 a0:=Tryd.isAgg0,
 z0:=Tryd.sizeOf0,
 v0:=Tryd.zeroValue0,
 t2:=Tryd.underlying2,
 a2:=Tryd.isAgg2,
 z2:=Tryd.sizeOf2,
 v2:=Tryd.zeroValue2,
 t3:=Tryd.underlying3,
 a3:=Tryd.isAgg3,
 z3:=Tryd.sizeOf3,
 v3:=Tryd.zeroValue3,
 t4:=Tryd.underlying4,
 a4:=Tryd.isAgg4,
 z4:=Tryd.sizeOf4,
 v4:=Tryd.zeroValue4,
 t5:=Tryd.underlying5,
 a5:=Tryd.isAgg5,
 z5:=Tryd.sizeOf5,
 v5:=Tryd.zeroValue5,
 t9:=Tryd.underlying9,
 a9:=Tryd.isAgg9,
 z9:=Tryd.sizeOf9,
 v9:=Tryd.zeroValue9,
 t20:=Tryd.underlying20,
 a20:=Tryd.isAgg20,
 z20:=Tryd.sizeOf20,
 v20:=Tryd.zeroValue20,
 t21:=Tryd.underlying21,
 a21:=Tryd.isAgg21,
 z21:=Tryd.sizeOf21,
 v21:=Tryd.zeroValue21,
 t37:=Tryd.underlying65,
 a37:=Tryd.isAgg65,
 z37:=Tryd.sizeOf65,
 v37:=Tryd.zeroValue65,
 t46:=Tryd.underlying90,
 a46:=Tryd.isAgg90,
 z46:=Tryd.sizeOf90,
 v46:=Tryd.zeroValue90,
 t51:=Tryd.underlying108,
 a51:=Tryd.isAgg108,
 z51:=Tryd.sizeOf108,
 v51:=Tryd.zeroValue108,
 t53:=Tryd.underlying87,
 a53:=Tryd.isAgg87,
 z53:=Tryd.sizeOf87,
 v53:=Tryd.zeroValue87,
 t75:=Tryd.underlying75,
 a75:=Tryd.isAgg75,
 z75:=Tryd.sizeOf75,
 v75:=Tryd.zeroValue75,
 t76:=Tryd.underlying76,
 a76:=Tryd.isAgg76,
 z76:=Tryd.sizeOf76,
 v76:=Tryd.zeroValue76,
 t85:=Tryd.underlying82,
 a85:=Tryd.isAgg82,
 z85:=Tryd.sizeOf82,
 v85:=Tryd.zeroValue82,
 t127:=Tryd.underlying97,
 a127:=Tryd.isAgg97,
 z127:=Tryd.sizeOf97,
 v127:=Tryd.zeroValue97,
 t143:=Tryd.underlying98,
 a143:=Tryd.isAgg98,
 z143:=Tryd.sizeOf98,
 v143:=Tryd.zeroValue98,
 t145:=Tryd.underlying100,
 a145:=Tryd.isAgg100,
 z145:=Tryd.sizeOf100,
 v145:=Tryd.zeroValue100,
 t167:=Tryd.underlying81,
 a167:=Tryd.isAgg81,
 z167:=Tryd.sizeOf81,
 v167:=Tryd.zeroValue81,
 t168:=Tryd.underlying84,
 a168:=Tryd.isAgg84,
 z168:=Tryd.sizeOf84,
 v168:=Tryd.zeroValue84,
 t171:=Tryd.underlying101,
 a171:=Tryd.isAgg101,
 z171:=Tryd.sizeOf101,
 v171:=Tryd.zeroValue101,
 t173:=Tryd.underlying104,
 a173:=Tryd.isAgg104,
 z173:=Tryd.sizeOf104,
 v173:=Tryd.zeroValue104,
 t175:=Tryd.underlying88,
 a175:=Tryd.isAgg88,
 z175:=Tryd.sizeOf88,
 v175:=Tryd.zeroValue88,
 t210:=Tryd.underlying93,
 a210:=Tryd.isAgg93,
 z210:=Tryd.sizeOf93,
 v210:=Tryd.zeroValue93,
 t212:=Tryd.underlying107,
 a212:=Tryd.isAgg107,
 z212:=Tryd.sizeOf107,
 v212:=Tryd.zeroValue107,
 t213:=Tryd.underlying109,
 a213:=Tryd.isAgg109,
 z213:=Tryd.sizeOf109,
 t232:=Tryd.underlying112,
 a232:=Tryd.isAgg112,
 z232:=Tryd.sizeOf112,
 v232:=Tryd.zeroValue112,
 t233:=Tryd.underlying113,
 a233:=Tryd.isAgg113,
 z233:=Tryd.sizeOf113,
 v233:=Tryd.zeroValue113,
 g15:=by kernel_rfl,
 g16:=by kernel_rfl,
 g17:=by kernel_rfl,
 g18:=by kernel_rfl,
 g19:=by kernel_rfl,
 t80:=Tryd.underlying114,
 a80:=Tryd.isAgg114,
 z80:=Tryd.sizeOf114,
 v80:=Tryd.zeroValue114,
 i0:=by kernel_rfl,
 i2:=by kernel_rfl,
 i3:=by kernel_rfl,
 i4:=by kernel_rfl,
 i5:=by kernel_rfl,
 i9:=by kernel_rfl,
 i20:=by kernel_rfl,
 i21:=by kernel_rfl,
 i37:=by kernel_rfl,
 i46:=by kernel_rfl,
 i51:=by kernel_rfl,
 i53:=by kernel_rfl,
 i75:=by kernel_rfl,
 i76:=by kernel_rfl,
 i80:=by kernel_rfl,
 i85:=by kernel_rfl,
 i127:=by kernel_rfl,
 i143:=by kernel_rfl,
 i145:=by kernel_rfl,
 i167:=by kernel_rfl,
 i168:=by kernel_rfl,
 i171:=by kernel_rfl,
 i173:=by kernel_rfl,
 i175:=by kernel_rfl,
 i210:=by kernel_rfl,
 i212:=by kernel_rfl,
 i232:=by kernel_rfl,
 i233:=by kernel_rfl,
 m15:=by kernel_rfl,
 m16:=by kernel_rfl,
 m17:=by kernel_rfl,
 m18:=by kernel_rfl,
 m19:=by kernel_rfl,
 c0:=by kernel_rfl,
 c2:=by kernel_rfl,
 c3:=by kernel_rfl,
 c4:=by kernel_rfl,
 c5:=by kernel_rfl,
 c9:=by kernel_rfl,
 c20:=by kernel_rfl,
 c21:=by kernel_rfl,
 c37:=by kernel_rfl,
 c46:=by kernel_rfl,
 c51:=by kernel_rfl,
 c53:=by kernel_rfl,
 c75:=by kernel_rfl,
 c76:=by kernel_rfl,
 c80:=by kernel_rfl,
 c85:=by kernel_rfl,
 c127:=by kernel_rfl,
 c143:=by kernel_rfl,
 c145:=by kernel_rfl,
 c167:=by kernel_rfl,
 c168:=by kernel_rfl,
 c171:=by kernel_rfl,
 c173:=by kernel_rfl,
 c175:=by kernel_rfl,
 c210:=by kernel_rfl,
 c212:=by kernel_rfl,
 c213:=by kernel_rfl,
 c232:=by kernel_rfl,
 c233:=by kernel_rfl}
def lays229_ren:Go.Shelf.Ren:=⟨fun|229=>31|n=>n,fun|0=>0|3=>3|4=>4|9=>9|21=>21|31=>28|40=>57|152=>68|154=>70|n=>n,fun n=>n⟩
theorem lays229:Go.Proofs.Lays.n229 Tryd.prog lays229_ren:={
 mixed:=by kernel_rfl,
 f229:=Tryd.func31.trans (congrArg some (by kernel_rfl)),
 t0:=Tryd.underlying0,
 a0:=Tryd.isAgg0,
 z0:=Tryd.sizeOf0,
 v0:=Tryd.zeroValue0,
 t3:=Tryd.underlying3,
 a3:=Tryd.isAgg3,
 z3:=Tryd.sizeOf3,
 v3:=Tryd.zeroValue3,
 t4:=Tryd.underlying4,
 a4:=Tryd.isAgg4,
 z4:=Tryd.sizeOf4,
 v4:=Tryd.zeroValue4,
 t9:=Tryd.underlying9,
 a9:=Tryd.isAgg9,
 z9:=Tryd.sizeOf9,
 v9:=Tryd.zeroValue9,
 t21:=Tryd.underlying21,
 a21:=Tryd.isAgg21,
 z21:=Tryd.sizeOf21,
 v21:=Tryd.zeroValue21,
 t31:=Tryd.underlying28,
 a31:=Tryd.isAgg28,
 z31:=Tryd.sizeOf28,
 v31:=Tryd.zeroValue28,
 t40:=Tryd.underlying57,
 a40:=Tryd.isAgg57,
 z40:=Tryd.sizeOf57,
 v40:=Tryd.zeroValue57,
 t152:=Tryd.underlying68,
 a152:=Tryd.isAgg68,
 z152:=Tryd.sizeOf68,
 v152:=Tryd.zeroValue68,
 t154:=Tryd.underlying70,
 a154:=Tryd.isAgg70,
 z154:=Tryd.sizeOf70,
 v154:=Tryd.zeroValue70}
set_option maxRecDepth 100000 in
theorem sep_gives (w:World) (x:Nat)(hx:x≤1114111):FnGives Tryd.prog 32 #[] #[encR x] (.bool (sepP x)) w:=by
 unfold FnGives encR
 go_enter Tryd.func32,Tryd.ntmps32
 go_wp2
 ·rename_i h
  have hx2:x=32:=by omega
  subst hx2
  go_ret
  exact⟨rfl,0,rfl⟩
 ·go_ret
  refine⟨?_,0,rfl⟩
  unfold sepP
  rw[←beq_nat x 32,←beq_nat x 10]
  rfl
open Go.RowKit Go.Shelf in
set_option maxRecDepth 100000 in
theorem num_calls {n:Int}(h0:-9223372036854775808≤n)(h1:n≤9223372036854775807) (w:World)(hT:Lib.TabIs Tryd.prog w "internal/strconv.uint64pow10" .u64 Lib.pow10Tab) :
  Calls Tryd.prog 65 #[.int .i64 n] w fun e w'=>e=.returned (.string ⟨(Lib.itoa n).toArray⟩)∧Below w.heap.size w w':=by
 go_enter Tryd.func65,Tryd.ntmps65
 go_wp2_with (go_at_call 71;refine(Any.strconv_Itoa lays171 n h0 h1 _ hT).mono ?_;rintro e w' ⟨rfl,k,os,rfl⟩)
 go_ret
 exact⟨rfl,below_grow _ _ _⟩
open Go.RowKit Go.Shelf in
set_option maxRecDepth 100000 in
theorem in_calls (x lo hi:Int) (w:World):Calls Tryd.prog 41 #[.int .i64 x,.int .i64 lo,.int .i64 hi] w fun e w'=>e=.returned (.bool (decide (lo≤x)&&decide (x≤hi)))∧Below w.heap.size w w':=by
 go_enter Tryd.func41,Tryd.ntmps41
 go_wp2
 ·rename_i h
  go_ret
  exact⟨congrArg (fun b=>Ending.returned (.bool b)) (by rw[decide_eq_true h,Bool.true_and]),Below.refl _ _⟩
 ·rename_i h
  go_ret
  exact⟨congrArg (fun b=>Ending.returned (.bool b)) (by rw[decide_eq_false (show¬lo≤x by omega),Bool.false_and]),Below.refl _ _⟩
open Go.RowKit Go.Shelf in
set_option maxRecDepth 100000 in
theorem isNum_calls (x:Int) (w:World):Calls Tryd.prog 59 #[.int .i64 x] w fun e w'=>e=.returned (.bool (decide (-1000000≤x)&&decide (x≤1000000)))∧Below w.heap.size w w':=by
 go_enter Tryd.func59,Tryd.ntmps59
 go_wp2_with (go_at_call 41;refine(in_calls _ _ _ _).mono ?_;rintro e w' ⟨rfl,hb⟩)
 go_ret
 exact⟨rfl,hb⟩
open Go.RowKit Go.Shelf in
set_option maxRecDepth 100000 in
theorem read_calls (s:ByteArray) (w:World) (Z:Nat→Prop)(hs:s.size≤281474976710656)(hg:Gl Tryd.prog w Z)(hz:∀b,Z b→b<w.heap.size) :
  Calls Tryd.prog 53 #[.string s] w fun e w'=>e=.returned (.tuple #[.int .i64 (readV s).1,.bool (readV s).2])∧Below w.heap.size w w':=by
 rcases h:Lib.atoiAll s.data.toList with v|_|_
 ·
  obtain⟨v0,v1⟩:=atoi_range h
  have hr:readV s=if (⟨(Lib.itoa v).toArray⟩:ByteArray)=s∧-1000000≤v∧v≤1000000 then(v,true) else(0,false):=by
   unfold readV readM
   rw[h]
   simp only
   by_cases hc:(⟨(Lib.itoa v).toArray⟩:ByteArray)=s∧-1000000≤v∧v≤1000000
   ·rw[if_pos hc,if_pos hc]
   ·rw[if_neg hc,if_neg hc]
  go_enter Tryd.func53,Tryd.ntmps53
  go_wp2_with (go_at_call 64;refine(Any.strconv_Atoi_ok lays172 s (by omega) v h _).mono ?_;rintro e w' ⟨rfl,hw⟩)
  have hb:Below w.heap.size w w':=by
   rcases hw with rfl|⟨t,rfl⟩
   ·exact Below.refl _ _
   ·exact Lib.bytesWorld_below _ _ _
  have hT:=gl_pow (hg.mono (fun b hb'=>⟨hb',hb.block b (hz b hb')⟩)) (by kernel_rfl)
  go_wp2_with (go_at_call 65;refine(num_calls v0 v1 _ hT).mono ?_;rintro e w2 ⟨rfl,hb2⟩)
  ·have he':(⟨(Lib.itoa v).toArray⟩:ByteArray)=s:=by
    have he:=‹Lib.itoa v=s.toList›
    cases s with
    |mk d=>
     rw[ByteArray.toList_eq] at he
     rw[he]
   go_wp2_with (go_at_call 59;refine(isNum_calls _ _).mono ?_;rintro e w3 ⟨rfl,hb3⟩)
   ·rename_i hor
    go_ret2
    rw[hr,if_neg (fun h'=>by
     obtain⟨-,h2,h3⟩:=h'
     rw[decide_eq_true h2,decide_eq_true h3] at hor
     cases hor with
     |inl k=>cases k
     |inr k=>cases k)]
    exact⟨rfl,hb.trans ((hb2.mono hb.size).trans (hb3.mono (Nat.le_trans hb.size hb2.size)))⟩
   ·rename_i hor
    go_ret2
    rw[hr,if_pos ⟨he',by have:=hor.1;rwa [Bool.not_eq_false',decide_eq_true_eq] at this,by have:=hor.2;rwa [Bool.not_eq_false',decide_eq_true_eq] at this⟩]
    exact⟨rfl,hb.trans ((hb2.mono hb.size).trans (hb3.mono (Nat.le_trans hb.size hb2.size)))⟩
  ·rename_i hne
   go_ret2
   rw[hr,if_neg (fun h'=>hne ?_)]
   ·exact⟨rfl,hb.trans (hb2.mono hb.size)⟩
   ·rw[←h'.1,ByteArray.toList_mk]
 ·
  obtain⟨tp,p,hv⟩:=gl_syn hg (by kernel_rfl)
  have hr:readV s=(0,false):=by unfold readV readM;rw[h]
  go_enter Tryd.func53,Tryd.ntmps53
  go_wp2_with (go_at_call 64;refine(Any.strconv_Atoi_syntax_var lays172 s hs h tp p _ hv).mono ?_;rintro e w' ⟨N,rfl,-,-,hb⟩)
  go_wp2
  go_ret2
  rw[hr]
  exact⟨rfl,hb⟩
 ·
  obtain⟨tp,p,hv⟩:=gl_ran hg (by kernel_rfl)
  have hr:readV s=(0,false):=by unfold readV readM;rw[h]
  go_enter Tryd.func53,Tryd.ntmps53
  go_wp2_with (go_at_call 64;refine(Any.strconv_Atoi_range_var lays172 s hs h tp p _ hv).mono ?_;rintro e w' ⟨N,rfl,-,-,hb⟩)
  go_wp2
  go_ret2
  rw[hr]
  exact⟨rfl,hb⟩
theorem sp_ok:∀j f,SP j=some f→∀v r,f v=some r→RetI Tryd.prog (FT j) v r:=by
 intro j f hf v r hv
 by_cases h22:j=22
 ·subst h22
  have hf2:some (show InVals (FT 22)→Option (Tup (outTys (FT 22))) from fun v=>fieldsF v.1.1)=some f:=hf
  have hf3:=Option.some.inj hf2
  subst hf3
  exact retI_fields lays229 (by kernel_rfl) (by decide) (by kernel_rfl) sep_gives (by kernel_rfl) (by kernel_rfl) (by kernel_rfl) hv
 by_cases h36:j=36
 ·subst h36
  have hf2:some (show InVals (FT 36)→Option (Tup (outTys (FT 36))) from fun v=>readF v.1.1)=some f:=hf
  have hf3:=Option.some.inj hf2
  subst hf3
  exact retI_read (by kernel_rfl) (by decide) read_calls hv
 by_cases h41:j=41
 ·subst h41
  have hf2:some (show InVals (FT 41)→Option (Tup (outTys (FT 41))) from fun v=>trimF v.1.1 v.1.2.1)=some f:=hf
  have hf3:=Option.some.inj hf2
  subst hf3
  exact retI_trim lays101 (by kernel_rfl) (by decide) hv
 unfold SP at hf
 rw[dif_neg h22,dif_neg h36,dif_neg h41] at hf
 cases hf
theorem ft_ok:FTok Tryd.prog tt FT SP:=FTok.of tt_ok (by kernel_rfl) ⟨Tryd.func3,Tryd.func3,Tryd.func4,Tryd.func9,Tryd.func10,Tryd.func22,Tryd.func23,Tryd.func21,Tryd.func24,Tryd.func25,Tryd.func28,Tryd.func26,Tryd.func47,Tryd.func63,Tryd.func49,Tryd.func27,Tryd.func11,Tryd.func12,Tryd.func29,Tryd.func48,Tryd.func30,Tryd.func5,Tryd.func13,Tryd.func31,Tryd.func14,Tryd.func34,Tryd.func33,Tryd.func35,Tryd.func50,Tryd.func51,Tryd.func35,Tryd.func36,Tryd.func37,Tryd.func41,Tryd.func38,Tryd.func35,Tryd.func52,Tryd.func53,Tryd.func39,Tryd.func40,Tryd.func35,Tryd.func54,Tryd.func55,Tryd.func15,Tryd.func16,Tryd.func42,Tryd.func56,Tryd.func43,Tryd.func44,Tryd.func57,Tryd.func58,Tryd.func59,Tryd.func60,Tryd.func67,Tryd.func61,Tryd.func62,Tryd.func68,Tryd.func45,Tryd.func6,Tryd.func17,Tryd.func46,Tryd.func7,Tryd.func18,Tryd.func19,Tryd.func8,Tryd.func20,trivial⟩ (by kernel_rfl) (sp_ok)
noncomputable def F_16 (a0:ByteArray):Option Bool:=callL tt FT SP 0 (show InVals (FT 0) from((a0,()),(())))
noncomputable def F_1j (a0:ByteArray):Option Yt10:=callL tt FT SP 1 (show InVals (FT 1) from((a0,()),(())))
noncomputable def F_1l (a0:ByteArray):Option Yt5:=callL tt FT SP 2 (show InVals (FT 2) from((a0,()),(())))
noncomputable def F_1o (a0x0:List ByteArray) (a0x1:Int) (a0x2:Bool):Option (SNode×Yt5×Int×Bool):=callL tt FT SP 3 (show InVals (FT 3) from(((a0x0,a0x1,a0x2,()),()),(())))
noncomputable def F_1q:Option Yt5:=callL tt FT SP 4 (show InVals (FT 4) from((()),(())))
noncomputable def F_5 (a0x0:List ByteArray) (a0x1:Int) (a0x2:Bool):Option Yt12:=callL tt FT SP 5 (show InVals (FT 5) from(((a0x0,a0x1,a0x2,()),()),(())))
noncomputable def F_9 (a0:List ByteArray) (a1:ByteArray):Option Int:=callL tt FT SP 6 (show InVals (FT 6) from((a0,a1,()),(())))
noncomputable def F_4 (a0x0:List ByteArray) (a0x1:Int) (a0x2:Bool):Option (Yt5×Int×Bool):=callL tt FT SP 7 (show InVals (FT 7) from(((a0x0,a0x1,a0x2,()),()),(())))
noncomputable def F_m (a0:ByteArray):Option Bool:=callL tt FT SP 8 (show InVals (FT 8) from((a0,()),(())))
noncomputable def F_0 (a0:Int) (a1:Int) (a2:Int):Option Bool:=callL tt FT SP 9 (show InVals (FT 9) from((a0,a1,a2,()),(())))
noncomputable def F_1 (a0x0:List ByteArray) (a0x1:Int) (a0x2:Bool) (a1:Bool):Option Yt9:=callL tt FT SP 10 (show InVals (FT 10) from(((a0x0,a0x1,a0x2,()),a1,()),(())))
noncomputable def F_1n (a0:ByteArray):Option Yt14:=callL tt FT SP 11 (show InVals (FT 11) from((a0,()),(())))
noncomputable def F_1m (a0:Int):Option ByteArray:=callL tt FT SP 12 (show InVals (FT 12) from((a0,()),(())))
noncomputable def F_n (a0:Int):Option Bool:=callL tt FT SP 13 (show InVals (FT 13) from((a0,()),(())))
noncomputable def F_1p:Option Yt5:=callL tt FT SP 14 (show InVals (FT 14) from((()),(())))
noncomputable def F_l (a0:Int):Option Int:=callL tt FT SP 15 (show InVals (FT 15) from((a0,()),(())))
noncomputable def F_1k (a0:List SNode):Option Bool:=callL tt FT SP 16 (show InVals (FT 16) from((a0,()),(())))
noncomputable def F_1i (a0:SNode):Option Bool:=callL tt FT SP 17 (show InVals (FT 17) from((a0,()),(())))
noncomputable def F_7 (a0:Int):Option Bool:=callL tt FT SP 18 (show InVals (FT 18) from((a0,()),(())))
noncomputable def F_o (a0:List SNode) (a1:Int) (a2:Int):Option (Int×Int):=callL tt FT SP 19 (show InVals (FT 19) from((a0,a1,a2,()),(())))
noncomputable def F_d (a0:ByteArray):Option Yt10:=callL tt FT SP 20 (show InVals (FT 20) from((a0,()),(())))
noncomputable def F_t (a0:ByteArray):Option Yt5:=callL tt FT SP 21 (show InVals (FT 21) from((a0,()),(())))
noncomputable def F_1r (a0:ByteArray):Option Yt5:=callL tt FT SP 22 (show InVals (FT 22) from((a0,(()),()),(())))
noncomputable def F_12 (a0x0:List ByteArray) (a0x1:Int) (a0x2:Int):Option (SNode×Yt5×Int×Int):=callL tt FT SP 23 (show InVals (FT 23) from(((a0x0,a0x1,a0x2,()),()),(())))
noncomputable def F_v:Option Yt5:=callL tt FT SP 24 (show InVals (FT 24) from((()),(())))
noncomputable def F_b (a0x0:List ByteArray) (a0x1:Int) (a0x2:Int) (a1:List ByteArray):Option (Int×Yt5×Int×Int):=callL tt FT SP 25 (show InVals (FT 25) from(((a0x0,a0x1,a0x2,()),a1,()),(())))
noncomputable def F_11 (a0x0:List ByteArray) (a0x1:Int) (a0x2:Int) (a1x0x0:List ByteArray) (a1x1x0:Int):Option (Yt5×Int×Int×Yt5×Int):=callL tt FT SP 26 (show InVals (FT 26) from(((a0x0,a0x1,a0x2,()),((a1x0x0,()),(a1x1x0,()),()),()),(())))
noncomputable def F_15 (a0:ByteArray) (c0x0:List ByteArray) (c1x0:Int):Option (Bool×Yt5×Int):=callL tt FT SP 27 (show InVals (FT 27) from((a0,()),((c0x0,()),(c1x0,()),())))
noncomputable def F_1h (a0:List ByteArray) (a1:ByteArray):Option Int:=callL tt FT SP 28 (show InVals (FT 28) from((a0,a1,()),(())))
noncomputable def F_y (a0x0:List ByteArray) (a0x1:Int) (a0x2:Int) (a1x0x0:Int) (a1x0x1:ByteArray) (a1x0x2:Int) (a1x0x3:Int) (a1x0x4:Int) (a1x0x5:Bool) (a1x0x6:List Int):Option (Yt5×Int×Int×Int×ByteArray×Int×Int×Int×Bool×(List Int)):=callL tt FT SP 29 (show InVals (FT 29) from(((a0x0,a0x1,a0x2,()),((a1x0x0,a1x0x1,a1x0x2,a1x0x3,a1x0x4,a1x0x5,a1x0x6,()),()),()),(())))
noncomputable def F_13 (a0:ByteArray) (c0x0:Int) (c0x1:ByteArray) (c0x2:Int) (c0x3:Int) (c0x4:Int) (c0x5:Bool) (c0x6:List Int):Option (Bool×Int×ByteArray×Int×Int×Int×Bool×(List Int)):=callL tt FT SP 30 (show InVals (FT 30) from((a0,()),((c0x0,c0x1,c0x2,c0x3,c0x4,c0x5,c0x6,()),())))
noncomputable def F_e (a0:ByteArray):Option Bool:=callL tt FT SP 31 (show InVals (FT 31) from((a0,()),(())))
noncomputable def F_2 (a0:Int) (a1:Int) (a2:Int):Option Bool:=callL tt FT SP 32 (show InVals (FT 32) from((a0,a1,a2,()),(())))
noncomputable def F_3 (a0x0:List ByteArray) (a0x1:Int) (a0x2:Int) (a1:Int) (a2:Int):Option (Int×Yt5×Int×Int):=callL tt FT SP 33 (show InVals (FT 33) from(((a0x0,a0x1,a0x2,()),a1,a2,()),(())))
noncomputable def F_10 (a0x0:List ByteArray) (a0x1:Int) (a0x2:Int) (a1x0x0:Int) (a1x1x0:Int) (a1x2x0:Int):Option (Yt5×Int×Int×Int×Int×Int):=callL tt FT SP 34 (show InVals (FT 34) from(((a0x0,a0x1,a0x2,()),((a1x0x0,()),(a1x1x0,()),(a1x2x0,()),()),()),(())))
noncomputable def F_14 (a0:ByteArray) (c0x0:Int) (c1x0:Int) (c2x0:Int):Option (Bool×Int×Int×Int):=callL tt FT SP 35 (show InVals (FT 35) from((a0,()),((c0x0,()),(c1x0,()),(c2x0,()),())))
noncomputable def F_h (a0:ByteArray):Option Yt14:=callL tt FT SP 36 (show InVals (FT 36) from((a0,()),(())))
noncomputable def F_w:Option Yt5:=callL tt FT SP 37 (show InVals (FT 37) from((()),(())))
noncomputable def F_a (a0x0:List ByteArray) (a0x1:Int) (a0x2:Int):Option (Int×Bool×Yt5×Int×Int):=callL tt FT SP 38 (show InVals (FT 38) from(((a0x0,a0x1,a0x2,()),()),(())))
noncomputable def F_z (a0x0:List ByteArray) (a0x1:Int) (a0x2:Int) (a1x0x0:Int) (a1x1x0:Bool):Option (Yt5×Int×Int×Int×Bool):=callL tt FT SP 39 (show InVals (FT 39) from(((a0x0,a0x1,a0x2,()),((a1x0x0,()),(a1x1x0,()),()),()),(())))
noncomputable def F_i (a0:ByteArray) (c0x0:Int) (c1x0:Bool):Option (Bool×Int×Bool):=callL tt FT SP 40 (show InVals (FT 40) from((a0,()),((c0x0,()),(c1x0,()),())))
noncomputable def F_1s (a0:ByteArray) (a1:ByteArray):Option ByteArray:=callL tt FT SP 41 (show InVals (FT 41) from((a0,a1,()),(())))
noncomputable def F_c (a0:Int):Option Int:=callL tt FT SP 42 (show InVals (FT 42) from((a0,()),(())))
noncomputable def F_r (a0:List SNode):Option Bool:=callL tt FT SP 43 (show InVals (FT 43) from((a0,()),(())))
noncomputable def F_1c (a0:List SNode):Option Bool:=callL tt FT SP 44 (show InVals (FT 44) from((a0,(()),()),(())))
noncomputable def F_1f (a0:List SNode):Option Int:=callL tt FT SP 45 (show InVals (FT 45) from((a0,(()),()),(())))
noncomputable def F_s (a0:SNode):Option Bool:=callL tt FT SP 46 (show InVals (FT 46) from((a0,()),(())))
noncomputable def F_p (a0:SNode):Option Bool:=callL tt FT SP 47 (show InVals (FT 47) from((a0,()),(())))
noncomputable def F_6 (a0:Int):Option Bool:=callL tt FT SP 48 (show InVals (FT 48) from((a0,()),(())))
noncomputable def F_g (a0:Int):Option Bool:=callL tt FT SP 49 (show InVals (FT 49) from((a0,()),(())))
noncomputable def F_u (a0:Int):Option Bool:=callL tt FT SP 50 (show InVals (FT 50) from((a0,()),(())))
noncomputable def F_1d (a0:List Int):Option Bool:=callL tt FT SP 51 (show InVals (FT 51) from((a0,(()),()),(())))
noncomputable def F_1g (a0:List Int):Option Int:=callL tt FT SP 52 (show InVals (FT 52) from((a0,(()),()),(())))
noncomputable def F_q (a0:Int):Option Bool:=callL tt FT SP 53 (show InVals (FT 53) from((a0,()),(())))
noncomputable def F_x (a0:SNode) (a1:SNode):Option Bool:=callL tt FT SP 54 (show InVals (FT 54) from((a0,a1,()),(())))
noncomputable def F_1e (a0:List Int) (a1:List Int):Option Bool:=callL tt FT SP 55 (show InVals (FT 55) from((a0,a1,()),(())))
noncomputable def F_f (a0:List SNode) (a1:Int) (a2:Int):Option Int:=callL tt FT SP 56 (show InVals (FT 56) from((a0,a1,a2,()),(())))
noncomputable def F_j (a0:List SNode) (a1:List SNode):Option Bool:=callL tt FT SP 57 (show InVals (FT 57) from((a0,a1,()),(())))
noncomputable def F_18 (a0:SNode) (a1:SNode):Option Bool:=callL tt FT SP 58 (show InVals (FT 58) from((a0,a1,()),(())))
noncomputable def F_17 (a0:List Int) (a1:List Int):Option Bool:=callL tt FT SP 59 (show InVals (FT 59) from((a0,a1,()),(())))
noncomputable def F_1b (a0:List SNode) (a1:Int):Option Yt15:=callL tt FT SP 60 (show InVals (FT 60) from((a0,a1,()),(())))
noncomputable def F_8 (a0:Int):Option ByteArray:=callL tt FT SP 61 (show InVals (FT 61) from((a0,()),(())))
noncomputable def F_1a (a0:List Int) (a1:Int):Option (Int×(List Int)):=callL tt FT SP 62 (show InVals (FT 62) from((a0,a1,()),(())))
noncomputable def F_k (a0:List SNode) (a1:Int):Option Int:=callL tt FT SP 63 (show InVals (FT 63) from((a0,a1,()),(())))
noncomputable def F_19 (a0:List Int) (a1:Int):Option Int:=callL tt FT SP 64 (show InVals (FT 64) from((a0,a1,()),(())))
@[simp] noncomputable def J_x (y5:Yt15) (v9:Bool):Option Bool:=
 (bif v9 then
 some false
 else(F_k y5.2 1).bind (fun y10=>(bif (decide (y10<0)) then
 some false
 else(bif (y10 != y5.1) then
 some false
 else some true))))
@[simp] noncomputable def J_w (a0:ByteArray) (y1:Yt10) (y2:Yt10) (v4:Bool):Option Bool:=
 (bif v4 then
 some false
 else(F_1b y2.1 1).bind (fun y5=>(F_k y5.2 1).bind (fun y6=>(bif (decide (y6<0)) then
 some false
 else(bif (y6 != y5.1) then
 some false
 else(F_d a0).bind (fun y7=>joinK ((F_j y7.1 y1.1).bind (fun y8=>(bif (!y8) then
 some (.go true)
 else some (.go (y7.2 != y1.2)))))
 (fun s=>J_x y5 s)))))))
theorem U_y (a0:ByteArray):Le ((bif (decide ((a0.size:Int)>1048576)) then
 some true
 else(F_1j a0).bind (fun y1=>(F_d a0).bind (fun y2=>joinK ((F_j y2.1 y1.1).bind (fun y3=>(bif (!y3) then
 some (.go true)
 else some (.go (y2.2 != y1.2)))))
 (fun s=>J_w a0 y1 y2 s))))) (F_16 a0):=callL_le (tt:=tt) (FT:=FT) (SP:=SP) (j:=0) rfl (by kernel_rfl)
noncomputable def L_6 (f0:((List SNode)×Int×Yt5×Int×Bool×(List SNode)×Int)→Option (Ex Yt10 ((List SNode)×Int×Yt5×Int×Bool×(List SNode)))) (v2:List SNode) (v3:Int) (v4:List ByteArray) (v5:Int) (v6:Bool) (v7:List SNode) (v8:Int):Option (Ex Yt10 ((List SNode)×Int×Yt5×Int×Bool×(List SNode))):=
 (bif (decide (v8>0)) then
 (F_1o v4 v5 v6).bind (fun y9=>(bif y9.2.2.2 then
 some (.ret ([],y9.2.2.1))
 else(apx v7 ([(y9.1.1,(y9.1.2.1,(y9.1.2.2.1,(y9.1.2.2.2.1,(y9.1.2.2.2.2.1,(y9.1.2.2.2.2.2.1,(y9.1.2.2.2.2.2.2.1,())))))))])).bind (fun z10=>(F_l y9.1.1).bind (fun y11=>f0 (v2,v3,y9.2.1,y9.2.2.1,y9.2.2.2,z10,(IntKind.i64.wrap ((IntKind.i64.wrap (v8+y11))-1)))))))
 else some (.go (v2,v3,v4,v5,v6,v7)))
@[simp] noncomputable def J_11 (v12:List SNode) (v13:Int) (v14:List ByteArray) (v15:Int) (v16:Bool) (v17:List SNode):Option Yt10:=
 (bif (decide (v15<(v14.length:Int))) then
 some ([],v15)
 else(F_1k v17).bind (fun y18=>(bif (!y18) then
 some ([],(v14.length:Int))
 else some (v17,(-1)))))
theorem U_1e (a0:ByteArray):Le ((bif (decide ((a0.size:Int)>2000)) then
 some ([],0)
 else(F_1l a0).bind (fun y1=>joinK (loopF (fun f s=>L_6 f s.1 s.2.1 s.2.2.1 s.2.2.2.1 s.2.2.2.2.1 s.2.2.2.2.2.1 s.2.2.2.2.2.2) ([],0,y1,0,false,[],1))
 (fun s=>J_11 s.1 s.2.1 s.2.2.1 s.2.2.2.1 s.2.2.2.2.1 s.2.2.2.2.2)))) (F_1j a0):=callL_le (tt:=tt) (FT:=FT) (SP:=SP) (j:=1) rfl (by kernel_rfl)
@[simp] noncomputable def J_1 (v10:List ByteArray):Option (Ex (Ex Yt5 Yt5) (Yt5×ByteArray)):=
 some (.go (v10,ByteArray.empty))
@[simp] noncomputable def J_e (a0:ByteArray) (v1:List ByteArray) (v2:ByteArray) (v3:Int) (v6:Bool):Option (Ex (Ex Yt5 Yt5) (Yt5×ByteArray)):=
 (bif v6 then
 (ssx a0 v3 (IntKind.i64.wrap (v3+1))).bind (fun z7=>(addx v2 z7).bind (fun z8=>some (.go (v1,z8))))
 else joinK ((bif (!(v2.toList==ByteArray.empty.toList)) then
 (apx v1 ([v2])).bind (fun z9=>some (.go z9))
 else some (.go v1)))
 (fun s=>J_1 s))
@[simp] noncomputable def J_d (v3:Int) (f0:(Yt5×ByteArray×Int)→Option (Ex Yt5 Yt5)) (v11:List ByteArray) (v12:ByteArray):Option (Ex Yt5 Yt5):=
 f0 (v11,v12,(IntKind.i64.wrap (v3+1)))
noncomputable def L_n (a0:ByteArray) (f0:(Yt5×ByteArray×Int)→Option (Ex Yt5 Yt5)) (v1:List ByteArray) (v2:ByteArray) (v3:Int):Option (Ex Yt5 Yt5):=
 (bif (decide (v3≤(a0.size:Int))) then
 joinK (joinK ((bif (decide (v3<(a0.size:Int))) then
 (bix a0 v3).bind (fun z4=>(bif (z4 != 32) then
 (bix a0 v3).bind (fun z5=>some (.go (z5 != 10)))
 else some (.go false)))
 else some (.go false)))
 (fun s=>J_e a0 v1 v2 v3 s))
 (fun s=>J_d v3 f0 s.1 s.2)
 else some (.go v1))
@[simp] noncomputable def J_27 (v13:List ByteArray):Option Yt5:=
 some v13
theorem U_1h (a0:ByteArray):Le ((bif (decide ((a0.size:Int)>2000)) then
 some ([])
 else joinK (loopF (fun f s=>L_n a0 f s.1 s.2.1 s.2.2) ([],ByteArray.empty,0))
 (fun s=>J_27 s))) (F_1l a0):=callL_le (tt:=tt) (FT:=FT) (SP:=SP) (j:=2) rfl (by kernel_rfl)
@[simp] noncomputable def J_4 (y3:Int) (y8:Yt9) (y11:Int) (v13:List ByteArray) (v14:Int) (v15:Bool) (v16:Bool):Option Yt6:=
 (bif v16 then
 (F_1 v13 v14 v15 true).bind (fun y17=>some (.go (y3,ByteArray.empty,y8.1,y11,y17.1,y17.2.1,[],y17.2.2.1,y17.2.2.2.1,y17.2.2.2.2)))
 else some (.go (y3,ByteArray.empty,y8.1,y11,0,false,[],v13,v14,v15)))
@[simp] noncomputable def J_3 (y3:Int) (y8:Yt9) (y11:Int) (v13:List ByteArray) (v14:Int) (v15:Bool):Option Yt6:=
 joinK ((bif (!v15) then
 some (.go (y11 != 3))
 else some (.go false)))
 (fun s=>J_4 y3 y8 y11 v13 v14 v15 s)
@[simp] noncomputable def J_1c (v24:Int) (v25:ByteArray) (v26:Int) (v27:Int) (v28:Int) (v29:Bool) (v30:List Int) (v31:Int) (v32:List ByteArray) (v33:Int) (v34:Bool) (f0:(Int×ByteArray×Int×Int×Int×Bool×(List Int)×Int×Yt5×Int×Bool)→Option Yt6) (v35:Bool):Option Yt6:=
 (bif v35 then
 (F_1 v32 v33 v34 false).bind (fun y36=>(apx v30 ([y36.1])).bind (fun z37=>f0 (v24,v25,v26,v27,v28,v29,z37,(IntKind.i64.wrap (v31+1)),y36.2.2.1,y36.2.2.2.1,y36.2.2.2.2)))
 else some (.go (v24,v25,v26,v27,v28,v29,v30,v32,v33,v34)))
noncomputable def L_1 (y18:Yt9) (f0:(Int×ByteArray×Int×Int×Int×Bool×(List Int)×Int×Yt5×Int×Bool)→Option Yt6) (v24:Int) (v25:ByteArray) (v26:Int) (v27:Int) (v28:Int) (v29:Bool) (v30:List Int) (v31:Int) (v32:List ByteArray) (v33:Int) (v34:Bool):Option Yt6:=
 joinK ((bif (decide (v31<y18.1)) then
 some (.go (!v34))
 else some (.go false)))
 (fun s=>J_1c v24 v25 v26 v27 v28 v29 v30 v31 v32 v33 v34 f0 s)
@[simp] noncomputable def J_5 (y3:Int) (y18:Yt9) (v21:List ByteArray) (v22:Int) (v23:Bool):Option Yt6:=
 loopF (fun f s=>L_1 y18 f s.1 s.2.1 s.2.2.1 s.2.2.2.1 s.2.2.2.2.1 s.2.2.2.2.2.1 s.2.2.2.2.2.2.1 s.2.2.2.2.2.2.2.1 s.2.2.2.2.2.2.2.2.1 s.2.2.2.2.2.2.2.2.2.1 s.2.2.2.2.2.2.2.2.2.2) (y3,ByteArray.empty,0,0,0,false,[],0,v21,v22,v23)
@[simp] noncomputable def J_1b (v42:Int) (v43:ByteArray) (v44:Int) (v45:Int) (v46:Int) (v47:Bool) (v48:List Int) (v49:List ByteArray) (v50:Int) (v51:Bool):Option (SNode×Yt5×Int×Bool):=
 some ((v42,(v43,(v44,(v45,(v46,(v47,(v48,()))))))),v49,v50,v51)
theorem U_1o (a0x0:List ByteArray) (a0x1:Int) (a0x2:Bool):Le ((F_1q).bind (fun y1=>(F_5 a0x0 a0x1 a0x2).bind (fun y2=>(F_9 y1 y2.1).bind (fun y3=>(bif (decide (y3<0)) then
 (F_4 y2.2.1 y2.2.2.1 y2.2.2.2).bind (fun y4=>some ((y3,(ByteArray.empty,(0,(0,(0,(false,([],()))))))),y4.1,y4.2.1,y4.2.2))
 else joinK ((bif (y3==0) then
 (F_5 y2.2.1 y2.2.2.1 y2.2.2.2).bind (fun y5=>(F_m y5.1).bind (fun y6=>(bif (!y6) then
 (F_4 y5.2.1 y5.2.2.1 y5.2.2.2).bind (fun y7=>some (.go (y3,y5.1,0,0,0,false,[],y7.1,y7.2.1,y7.2.2)))
 else some (.go (y3,y5.1,0,0,0,false,[],y5.2.1,y5.2.2.1,y5.2.2.2)))))
 else(bif (y3==1) then
 (F_1 y2.2.1 y2.2.2.1 y2.2.2.2 false).bind (fun y8=>(F_1p).bind (fun y9=>(F_5 y8.2.2.1 y8.2.2.2.1 y8.2.2.2.2).bind (fun y10=>(F_9 y9 y10.1).bind (fun y11=>joinK ((bif (decide (y11<0)) then
 (F_4 y10.2.1 y10.2.2.1 y10.2.2.2).bind (fun y12=>some (.go (y12.1,y12.2.1,y12.2.2)))
 else some (.go (y10.2.1,y10.2.2.1,y10.2.2.2))))
 (fun s=>J_3 y3 y8 y11 s.1 s.2.1 s.2.2)))))
 else(bif (y3==2) then
 (F_1 y2.2.1 y2.2.2.1 y2.2.2.2 false).bind (fun y18=>joinK ((F_0 y18.1 1 6).bind (fun y19=>(bif (!y19) then
 (F_4 y18.2.2.1 y18.2.2.2.1 y18.2.2.2.2).bind (fun y20=>some (.go (y20.1,y20.2.1,y20.2.2)))
 else some (.go (y18.2.2.1,y18.2.2.2.1,y18.2.2.2.2)))))
 (fun s=>J_5 y3 y18 s.1 s.2.1 s.2.2))
 else(bif (y3==3) then
 (F_1 y2.2.1 y2.2.2.1 y2.2.2.2 false).bind (fun y38=>(F_1 y38.2.2.1 y38.2.2.2.1 y38.2.2.2.2 false).bind (fun y39=>some (.go (y3,ByteArray.empty,y38.1,0,y39.1,false,[],y39.2.2.1,y39.2.2.2.1,y39.2.2.2.2))))
 else(bif (y3==5) then
 (F_1 y2.2.1 y2.2.2.1 y2.2.2.2 false).bind (fun y40=>some (.go (y3,ByteArray.empty,y40.1,0,0,false,[],y40.2.2.1,y40.2.2.2.1,y40.2.2.2.2)))
 else(bif (y3==6) then
 (F_1 y2.2.1 y2.2.2.1 y2.2.2.2 true).bind (fun y41=>some (.go (y3,ByteArray.empty,0,0,y41.1,y41.2.1,[],y41.2.2.1,y41.2.2.2.1,y41.2.2.2.2)))
 else some (.go (y3,ByteArray.empty,0,0,0,false,[],y2.2.1,y2.2.2.1,y2.2.2.2)))))))))
 (fun s=>J_1b s.1 s.2.1 s.2.2.1 s.2.2.2.1 s.2.2.2.2.1 s.2.2.2.2.2.1 s.2.2.2.2.2.2.1 s.2.2.2.2.2.2.2.1 s.2.2.2.2.2.2.2.2.1 s.2.2.2.2.2.2.2.2.2)))))) (F_1o a0x0 a0x1 a0x2):=callL_le (tt:=tt) (FT:=FT) (SP:=SP) (j:=3) rfl (by kernel_rfl)
theorem U_1q:Le (some ([(⟨#[115,99,97,110]⟩:ByteArray),(⟨#[102,105,108,116,101,114]⟩:ByteArray),(⟨#[107,101,101,112]⟩:ByteArray),(⟨#[106,111,105,110]⟩:ByteArray),(⟨#[98,111,116,104]⟩:ByteArray),(⟨#[115,111,114,116]⟩:ByteArray),(⟨#[108,105,109,105,116]⟩:ByteArray),(⟨#[111,110,99,101]⟩:ByteArray)])) (F_1q):=callL_le (tt:=tt) (FT:=FT) (SP:=SP) (j:=4) rfl (by kernel_rfl)
@[simp] noncomputable def J_h (a0x0:List ByteArray) (a0x1:Int) (a0x2:Bool) (v1:Bool):Option Yt12:=
 (bif v1 then
 some (ByteArray.empty,a0x0,a0x1,true)
 else(ix a0x0 a0x1).bind (fun z2=>some (z2,a0x0,(IntKind.i64.wrap (a0x1+1)),a0x2)))
theorem U_1 (a0x0:List ByteArray) (a0x1:Int) (a0x2:Bool):Le (joinK ((bif a0x2 then
 some (.go true)
 else some (.go (decide (a0x1≥(a0x0.length:Int))))))
 (fun s=>J_h a0x0 a0x1 a0x2 s)) (F_5 a0x0 a0x1 a0x2):=callL_le (tt:=tt) (FT:=FT) (SP:=SP) (j:=5) rfl (by kernel_rfl)
noncomputable def L_g (a0:List ByteArray) (a1:ByteArray) (f0:(Int×Int)→Option (Ex Int Int)) (v1:Int) (v2:Int):Option (Ex Int Int):=
 (bif (decide (v2<(a0.length:Int))) then
 (ix a0 v2).bind (fun z3=>(bif (z3.toList==a1.toList) then
 some (.ret v2)
 else f0 (v1,(IntKind.i64.wrap (v2+1)))))
 else some (.go v1))
@[simp] noncomputable def J_2a (v4:Int):Option Int:=
 some (-1)
theorem U_1n (a0:List ByteArray) (a1:ByteArray):Le (joinK (loopF (fun f s=>L_g a0 a1 f s.1 s.2) (0,0))
 (fun s=>J_2a s)) (F_9 a0 a1):=callL_le (tt:=tt) (FT:=FT) (SP:=SP) (j:=6) rfl (by kernel_rfl)
theorem U_c (a0x0:List ByteArray) (a0x1:Int) (a0x2:Bool):Le ((bif (!a0x2) then
 some (a0x0,(IntKind.i64.wrap (a0x1-1)),true)
 else some (a0x0,a0x1,a0x2))) (F_4 a0x0 a0x1 a0x2):=callL_le (tt:=tt) (FT:=FT) (SP:=SP) (j:=7) rfl (by kernel_rfl)
@[simp] noncomputable def J_14 (v4:Bool) (v5:Int) (f0:(Bool×Int)→Option Yt8) (v12:Bool):Option Yt8:=
 (bif v12 then
 some (.ret false)
 else f0 (v4,(IntKind.i64.wrap (v5+1))))
noncomputable def L_f (a0:ByteArray) (f0:(Bool×Int)→Option Yt8) (v4:Bool) (v5:Int):Option Yt8:=
 (bif (decide (v5<(a0.size:Int))) then
 joinK ((bix a0 v5).bind (fun z6=>(bif (decide (z6<97)) then
 (bix a0 v5).bind (fun z7=>(bif (decide (z7<48)) then
 some (.go true)
 else(bix a0 v5).bind (fun z8=>some (.go (decide (z8>57))))))
 else(bix a0 v5).bind (fun z9=>(bif (decide (z9>122)) then
 (bix a0 v5).bind (fun z10=>(bif (decide (z10<48)) then
 some (.go true)
 else(bix a0 v5).bind (fun z11=>some (.go (decide (z11>57))))))
 else some (.go false))))))
 (fun s=>J_14 v4 v5 f0 s)
 else some (.go v4))
@[simp] noncomputable def J_26 (v13:Bool):Option Bool:=
 some true
@[simp] noncomputable def J_13 (a0:ByteArray) (v3:Bool):Option Bool:=
 (bif v3 then
 some false
 else joinK (loopF (fun f s=>L_f a0 f s.1 s.2) (false,0))
 (fun s=>J_26 s))
theorem U_1g (a0:ByteArray):Le (joinK ((F_0 (a0.size:Int) 1 12).bind (fun y1=>(bif (!y1) then
 some (.go true)
 else(bix a0 0).bind (fun z2=>some (.go (decide (z2<97)))))))
 (fun s=>J_13 a0 s)) (F_m a0):=callL_le (tt:=tt) (FT:=FT) (SP:=SP) (j:=8) rfl (by kernel_rfl)
@[simp] noncomputable def J_28 (v1:Bool):Option Bool:=
 some v1
theorem U_1i (a0:Int) (a1:Int) (a2:Int):Le (joinK ((bif (decide (a1≤a0)) then
 some (.go (decide (a0≤a2)))
 else some (.go false)))
 (fun s=>J_28 s)) (F_0 a0 a1 a2):=callL_le (tt:=tt) (FT:=FT) (SP:=SP) (j:=9) rfl (by kernel_rfl)
@[simp] noncomputable def J_2 (y1:Yt12) (v3:Bool) (y6:Yt14) (v7:Bool):Option Yt9:=
 (bif v7 then
 (F_4 y1.2.1 y1.2.2.1 y1.2.2.2).bind (fun y8=>some (0,false,y8.1,y8.2.1,y8.2.2))
 else some (y6.1,v3,y1.2.1,y1.2.2.1,y1.2.2.2))
@[simp] noncomputable def J_a (y1:Yt12) (v3:Bool) (v5:ByteArray):Option Yt9:=
 (F_1n v5).bind (fun y6=>joinK ((bif (!y6.2) then
 some (.go true)
 else(bif v3 then
 some (.go (decide (y6.1<0)))
 else some (.go false))))
 (fun s=>J_2 y1 v3 y6 s))
@[simp] noncomputable def J_g (y1:Yt12) (v3:Bool):Option Yt9:=
 joinK ((bif v3 then
 (ssx y1.1 1 (y1.1.size:Int)).bind (fun z4=>some (.go z4))
 else some (.go y1.1)))
 (fun s=>J_a y1 v3 s)
theorem U_0 (a0x0:List ByteArray) (a0x1:Int) (a0x2:Bool) (a1:Bool):Le ((F_5 a0x0 a0x1 a0x2).bind (fun y1=>(bif y1.2.2.2 then
 some (0,false,y1.2.1,y1.2.2.1,y1.2.2.2)
 else joinK ((bif a1 then
 (bix y1.1 0).bind (fun z2=>some (.go (z2==36)))
 else some (.go false)))
 (fun s=>J_g y1 s)))) (F_1 a0x0 a0x1 a0x2 a1):=callL_le (tt:=tt) (FT:=FT) (SP:=SP) (j:=10) rfl (by kernel_rfl)
@[simp] noncomputable def J_8 (a0:ByteArray) (v2:Bool):Option (Ex Yt14 ByteArray):=
 (bif v2 then
 (ssx a0 1 (a0.size:Int)).bind (fun z3=>some (.go z3))
 else some (.go a0))
@[simp] noncomputable def J_18 (v4:ByteArray) (v6:Int) (v7:Bool) (v8:Int) (v9:Int) (f0:(Int×Bool×Int×Int)→Option (Ex Yt14 (Int×Bool×Int))) (v12:Bool):Option (Ex Yt14 (Int×Bool×Int)):=
 (bif v12 then
 some (.ret (0,false))
 else(bix v4 v9).bind (fun z13=>f0 (v6,v7,(IntKind.i64.wrap ((IntKind.i64.wrap ((IntKind.i64.wrap (10*v8))+(IntKind.i64.wrap z13)))-48)),(IntKind.i64.wrap (v9+1)))))
noncomputable def L_7 (v4:ByteArray) (f0:(Int×Bool×Int×Int)→Option (Ex Yt14 (Int×Bool×Int))) (v6:Int) (v7:Bool) (v8:Int) (v9:Int):Option (Ex Yt14 (Int×Bool×Int)):=
 (bif (decide (v9<(v4.size:Int))) then
 joinK ((bix v4 v9).bind (fun z10=>(bif (decide (z10<48)) then
 some (.go true)
 else(bix v4 v9).bind (fun z11=>some (.go (decide (z11>57)))))))
 (fun s=>J_18 v4 v6 v7 v8 v9 f0 s)
 else some (.go (v6,v7,v8)))
@[simp] noncomputable def J_29 (v20:Int) (v21:Bool):Option Yt14:=
 some (v20,v21)
@[simp] noncomputable def J_19 (a0:ByteArray) (v17:Int):Option Yt14:=
 joinK ((F_1m v17).bind (fun y18=>(bif (y18.toList==a0.toList) then
 (F_n v17).bind (fun y19=>some (.go (v17,y19)))
 else some (.go (v17,false)))))
 (fun s=>J_29 s.1 s.2)
@[simp] noncomputable def J_17 (a0:ByteArray) (v4:ByteArray) (v14:Int) (v15:Bool) (v16:Int):Option Yt14:=
 joinK ((bif (decide ((v4.size:Int)<(a0.size:Int))) then
 some (.go (IntKind.i64.wrap (0-v16)))
 else some (.go v16)))
 (fun s=>J_19 a0 s)
@[simp] noncomputable def J_16 (a0:ByteArray) (v4:ByteArray):Option Yt14:=
 (F_0 (v4.size:Int) 1 7).bind (fun y5=>(bif (!y5) then
 some (0,false)
 else joinK (loopF (fun f s=>L_7 v4 f s.1 s.2.1 s.2.2.1 s.2.2.2) (0,false,0,0))
 (fun s=>J_17 a0 v4 s.1 s.2.1 s.2.2)))
theorem U_1l (a0:ByteArray):Le (joinK (joinK ((bif (decide ((a0.size:Int)>0)) then
 (bix a0 0).bind (fun z1=>some (.go (z1==45)))
 else some (.go false)))
 (fun s=>J_8 a0 s))
 (fun s=>J_16 a0 s)) (F_1n a0):=callL_le (tt:=tt) (FT:=FT) (SP:=SP) (j:=11) rfl (by kernel_rfl)
@[simp] noncomputable def J_7 (v1:Int) (v2:ByteArray) (f0:(Int×ByteArray)→Option Yt16) (v4:Int):Option Yt16:=
 (addx (bsOf ([(IntKind.u8.wrap (IntKind.i64.wrap (48+v4)))])) v2).bind (fun z5=>(quox v1 10).bind (fun z6=>f0 (z6,z5)))
noncomputable def L_o (f0:(Int×ByteArray)→Option Yt16) (v1:Int) (v2:ByteArray):Option Yt16:=
 (bif (v1 != 0) then
 (remx v1 10).bind (fun z3=>joinK ((bif (decide (z3<0)) then
 some (.go (IntKind.i64.wrap (0-z3)))
 else some (.go z3)))
 (fun s=>J_7 v1 v2 f0 s))
 else some (.go v2))
@[simp] noncomputable def J_15 (a0:Int) (v7:ByteArray):Option ByteArray:=
 (bif (decide (a0<0)) then
 (addx (⟨#[45]⟩:ByteArray) v7).bind (fun z8=>some z8)
 else some v7)
theorem U_1j (a0:Int):Le ((bif (a0==0) then
 some (⟨#[48]⟩:ByteArray)
 else joinK (loopF (fun f s=>L_o f s.1 s.2) (a0,ByteArray.empty))
 (fun s=>J_15 a0 s))) (F_1m a0):=callL_le (tt:=tt) (FT:=FT) (SP:=SP) (j:=12) rfl (by kernel_rfl)
theorem U_1k (a0:Int):Le ((F_0 a0 (-1000000) 1000000).bind (fun y1=>some y1)) (F_n a0):=callL_le (tt:=tt) (FT:=FT) (SP:=SP) (j:=13) rfl (by kernel_rfl)
theorem U_1p:Le (some ([(⟨#[61]⟩:ByteArray),(⟨#[60]⟩:ByteArray),(⟨#[62]⟩:ByteArray),(⟨#[110,111,110,101]⟩:ByteArray)])) (F_1p):=callL_le (tt:=tt) (FT:=FT) (SP:=SP) (j:=14) rfl (by kernel_rfl)
@[simp] noncomputable def J_1w (v2:Bool):Option Int:=
 (bif v2 then
 some 1
 else some (-1))
@[simp] noncomputable def J_1v (a0:Int) (v1:Bool):Option Int:=
 (bif v1 then
 some 2
 else joinK ((bif (a0==1) then
 some (.go true)
 else(bif (a0==2) then
 some (.go true)
 else(bif (a0==5) then
 some (.go true)
 else(bif (a0==6) then
 some (.go true)
 else some (.go (a0==7)))))))
 (fun s=>J_1w s))
theorem U_1c (a0:Int):Le ((bif (a0==0) then
 some 0
 else joinK ((bif (a0==3) then
 some (.go true)
 else some (.go (a0==4))))
 (fun s=>J_1v a0 s))) (F_l a0):=callL_le (tt:=tt) (FT:=FT) (SP:=SP) (j:=15) rfl (by kernel_rfl)
noncomputable def L_e (a0:List SNode) (f0:(Bool×Int)→Option Yt8) (v2:Bool) (v3:Int):Option Yt8:=
 (bif (decide (v3<(a0.length:Int))) then
 (ix a0 v3).bind (fun z4=>(F_1i z4).bind (fun y5=>(bif (!y5) then
 some (.ret false)
 else f0 (v2,(IntKind.i64.wrap (v3+1))))))
 else some (.go v2))
@[simp] noncomputable def J_12 (a0:List SNode) (v6:Bool):Option Bool:=
 (F_o a0 0 10).bind (fun y7=>some (y7.1==(a0.length:Int)))
theorem U_1f (a0:List SNode):Le ((F_0 (a0.length:Int) 1 40).bind (fun y1=>(bif (!y1) then
 some false
 else joinK (loopF (fun f s=>L_e a0 f s.1 s.2) (false,0))
 (fun s=>J_12 a0 s)))) (F_1k a0):=callL_le (tt:=tt) (FT:=FT) (SP:=SP) (j:=16) rfl (by kernel_rfl)
@[simp] noncomputable def J_1z (v11:Bool):Option Yt8:=
 some (.ret v11)
@[simp] noncomputable def J_20 (v15:Bool):Option Yt8:=
 some (.ret v15)
noncomputable def L_d (a0:SNode) (f0:(Bool×Int)→Option (Ex Yt8 Bool)) (v16:Bool) (v17:Int):Option (Ex Yt8 Bool):=
 (bif (decide (v17<(a0.2.2.2.2.2.2.1.length:Int))) then
 (ix a0.2.2.2.2.2.2.1 v17).bind (fun z18=>(F_7 z18).bind (fun y19=>(bif (!y19) then
 some (.ret (.ret false))
 else f0 (v16,(IntKind.i64.wrap (v17+1))))))
 else some (.go v16))
@[simp] noncomputable def J_21 (v22:Bool):Option Yt8:=
 some (.ret v22)
@[simp] noncomputable def J_10 (a0:SNode) (v20:Bool):Option Yt8:=
 joinK ((F_0 (a0.2.2.2.2.2.2.1.length:Int) 1 6).bind (fun y21=>(bif y21 then
 (bif (a0.2.2.1==0) then
 (bif (a0.2.2.2.2.1==0) then
 some (.go (!a0.2.2.2.2.2.1))
 else some (.go false))
 else some (.go false))
 else some (.go false))))
 (fun s=>J_21 s)
@[simp] noncomputable def J_22 (v25:Bool):Option Yt8:=
 some (.ret v25)
@[simp] noncomputable def J_23 (v27:Bool):Option Yt8:=
 some (.ret v27)
@[simp] noncomputable def J_24 (v29:Bool):Option Yt8:=
 some (.ret v29)
@[simp] noncomputable def J_1y (v31:Bool):Option Yt8:=
 some (.ret v31)
@[simp] noncomputable def J_25 (a0:SNode) (v30:Bool):Option Yt8:=
 (bif v30 then
 joinK ((bif (a0.2.2.1==0) then
 (bif (a0.2.2.2.2.1==0) then
 some (.go (!a0.2.2.2.2.2.1))
 else some (.go false))
 else some (.go false)))
 (fun s=>J_1y s)
 else some (.go false))
@[simp] noncomputable def J_1x (v32:Bool):Option Bool:=
 some false
@[simp] noncomputable def J_z (a0:SNode) (v9:Bool):Option Bool:=
 (bif v9 then
 some false
 else joinK ((bif (a0.1==0) then
 joinK ((F_m a0.2.1).bind (fun y10=>(bif y10 then
 (bif (a0.2.2.1==0) then
 (bif (a0.2.2.2.2.1==0) then
 some (.go (!a0.2.2.2.2.2.1))
 else some (.go false))
 else some (.go false))
 else some (.go false))))
 (fun s=>J_1z s)
 else(bif (a0.1==1) then
 joinK ((F_7 a0.2.2.1).bind (fun y12=>(bif y12 then
 (F_0 a0.2.2.2.1 0 3).bind (fun y13=>(bif y13 then
 (F_n a0.2.2.2.2.1).bind (fun y14=>(bif y14 then
 (bif (a0.2.2.2.1 != 3) then
 some (.go true)
 else(bif (a0.2.2.2.2.1==0) then
 some (.go (!a0.2.2.2.2.2.1))
 else some (.go false)))
 else some (.go false)))
 else some (.go false)))
 else some (.go false))))
 (fun s=>J_20 s)
 else(bif (a0.1==2) then
 joinK (loopF (fun f s=>L_d a0 f s.1 s.2) (false,0))
 (fun s=>J_10 a0 s)
 else(bif (a0.1==3) then
 joinK ((F_7 a0.2.2.1).bind (fun y23=>(bif y23 then
 (F_7 a0.2.2.2.2.1).bind (fun y24=>(bif y24 then
 some (.go (!a0.2.2.2.2.2.1))
 else some (.go false)))
 else some (.go false))))
 (fun s=>J_22 s)
 else(bif (a0.1==5) then
 joinK ((F_7 a0.2.2.1).bind (fun y26=>(bif y26 then
 (bif (a0.2.2.2.2.1==0) then
 some (.go (!a0.2.2.2.2.2.1))
 else some (.go false))
 else some (.go false))))
 (fun s=>J_23 s)
 else(bif (a0.1==6) then
 joinK ((bif (a0.2.2.1==0) then
 (F_0 a0.2.2.2.2.1 0 1000000).bind (fun y28=>some (.go y28))
 else some (.go false)))
 (fun s=>J_24 s)
 else joinK ((bif (a0.1==4) then
 some (.go true)
 else some (.go (a0.1==7))))
 (fun s=>J_25 a0 s))))))))
 (fun s=>J_1x s))
theorem U_1d (a0:SNode):Le (joinK ((bif (a0.1 != 0) then
 (bif (!(a0.2.1.toList==ByteArray.empty.toList)) then
 some (.go true)
 else(bif (a0.1 != 2) then
 (bif (decide ((a0.2.2.2.2.2.2.1.length:Int)>0)) then
 some (.go true)
 else(bif (a0.1 != 1) then
 (bif (a0.2.2.2.1 != 0) then
 some (.go true)
 else(bif a0.2.2.2.2.2.1 then
 (F_0 a0.2.2.2.2.1 0 39).bind (fun y1=>some (.go (!y1)))
 else some (.go false)))
 else(bif a0.2.2.2.2.2.1 then
 (F_0 a0.2.2.2.2.1 0 39).bind (fun y2=>some (.go (!y2)))
 else some (.go false))))
 else(bif (a0.1 != 1) then
 (bif (a0.2.2.2.1 != 0) then
 some (.go true)
 else(bif a0.2.2.2.2.2.1 then
 (F_0 a0.2.2.2.2.1 0 39).bind (fun y3=>some (.go (!y3)))
 else some (.go false)))
 else(bif a0.2.2.2.2.2.1 then
 (F_0 a0.2.2.2.2.1 0 39).bind (fun y4=>some (.go (!y4)))
 else some (.go false)))))
 else(bif (a0.1 != 2) then
 (bif (decide ((a0.2.2.2.2.2.2.1.length:Int)>0)) then
 some (.go true)
 else(bif (a0.1 != 1) then
 (bif (a0.2.2.2.1 != 0) then
 some (.go true)
 else(bif a0.2.2.2.2.2.1 then
 (F_0 a0.2.2.2.2.1 0 39).bind (fun y5=>some (.go (!y5)))
 else some (.go false)))
 else(bif a0.2.2.2.2.2.1 then
 (F_0 a0.2.2.2.2.1 0 39).bind (fun y6=>some (.go (!y6)))
 else some (.go false))))
 else(bif (a0.1 != 1) then
 (bif (a0.2.2.2.1 != 0) then
 some (.go true)
 else(bif a0.2.2.2.2.2.1 then
 (F_0 a0.2.2.2.2.1 0 39).bind (fun y7=>some (.go (!y7)))
 else some (.go false)))
 else(bif a0.2.2.2.2.2.1 then
 (F_0 a0.2.2.2.2.1 0 39).bind (fun y8=>some (.go (!y8)))
 else some (.go false))))))
 (fun s=>J_z a0 s)) (F_1i a0):=callL_le (tt:=tt) (FT:=FT) (SP:=SP) (j:=17) rfl (by kernel_rfl)
theorem U_1m (a0:Int):Le ((F_0 a0 0 63).bind (fun y1=>some y1)) (F_7 a0):=callL_le (tt:=tt) (FT:=FT) (SP:=SP) (j:=18) rfl (by kernel_rfl)
@[simp] noncomputable def J_1a (v6:Int) (f0:(Int×Int×Int×Int×Int)→Option Yt11) (v10:Int) (v11:Int) (v12:Int) (v13:Int):Option Yt11:=
 f0 (v10,v11,v12,v13,(IntKind.i64.wrap (v6+1)))
noncomputable def L_3 (a0:List SNode) (a1:Int) (a2:Int) (f0:(Int×Int×Int×Int×Int)→Option Yt11) (v2:Int) (v3:Int) (v4:Int) (v5:Int) (v6:Int):Option Yt11:=
 (ix a0 a1).bind (fun z7=>(F_l z7.1).bind (fun y8=>(bif (decide (v6<y8)) then
 joinK ((F_o a0 v4 (IntKind.i64.wrap (a2-1))).bind (fun y9=>(bif (decide (y9.1<0)) then
 some (.ret (.ret ((-1),0)))
 else(bif (decide (y9.2>v5)) then
 some (.go (v2,v3,y9.1,y9.2))
 else some (.go (v2,v3,y9.1,v5))))))
 (fun s=>J_1a v6 f0 s.1 s.2.1 s.2.2.1 s.2.2.2)
 else some (.go (v2,v3,v4,v5)))))
@[simp] noncomputable def J_9 (v14:Int) (v15:Int) (v16:Int) (v17:Int):Option (Int×Int):=
 some (v16,(IntKind.i64.wrap (v17+1)))
@[simp] noncomputable def J_f (a0:List SNode) (a1:Int) (a2:Int) (v1:Bool):Option (Int×Int):=
 (bif v1 then
 some ((-1),0)
 else joinK (loopF (fun f s=>L_3 a0 a1 a2 f s.1 s.2.1 s.2.2.1 s.2.2.2.1 s.2.2.2.2) (0,0,(IntKind.i64.wrap (a1+1)),0,0))
 (fun s=>J_9 s.1 s.2.1 s.2.2.1 s.2.2.2))
theorem U_b (a0:List SNode) (a1:Int) (a2:Int):Le (joinK ((bif (decide (a1≥(a0.length:Int))) then
 some (.go true)
 else some (.go (a2==0))))
 (fun s=>J_f a0 a1 a2 s)) (F_o a0 a1 a2):=callL_le (tt:=tt) (FT:=FT) (SP:=SP) (j:=19) rfl (by kernel_rfl)
noncomputable def L_4 (f0:((List SNode)×Int×(List SNode)×Int×Yt5×Int×Int)→Option (Ex Yt10 ((List SNode)×Int×(List SNode)×Yt5×Int×Int))) (v2:List SNode) (v3:Int) (v4:List SNode) (v5:Int) (v6:List ByteArray) (v7:Int) (v8:Int):Option (Ex Yt10 ((List SNode)×Int×(List SNode)×Yt5×Int×Int)):=
 (bif (decide (v5>0)) then
 (F_12 v6 v7 v8).bind (fun y9=>(bif (decide (y9.2.2.2≥0)) then
 some (.ret ([],y9.2.2.2))
 else(apx v4 ([(y9.1.1,(y9.1.2.1,(y9.1.2.2.1,(y9.1.2.2.2.1,(y9.1.2.2.2.2.1,(y9.1.2.2.2.2.2.1,(y9.1.2.2.2.2.2.2.1,())))))))])).bind (fun z10=>(F_c y9.1.1).bind (fun y11=>f0 (v2,v3,z10,(IntKind.i64.wrap ((IntKind.i64.wrap (v5+y11))-1)),y9.2.1,y9.2.2.1,y9.2.2.2)))))
 else some (.go (v2,v3,v4,v6,v7,v8)))
@[simp] noncomputable def J_o (v12:List SNode) (v13:Int) (v14:List SNode) (v15:List ByteArray) (v16:Int) (v17:Int):Option Yt10:=
 (bif (decide (v16<(v15.length:Int))) then
 some ([],v16)
 else(F_r v14).bind (fun y18=>(bif (!y18) then
 some ([],(v15.length:Int))
 else some (v14,(-1)))))
theorem U_g (a0:ByteArray):Le ((bif (decide ((a0.size:Int)>2000)) then
 some ([],0)
 else(F_t a0).bind (fun y1=>joinK (loopF (fun f s=>L_4 f s.1 s.2.1 s.2.2.1 s.2.2.2.1 s.2.2.2.2.1 s.2.2.2.2.2.1 s.2.2.2.2.2.2) ([],0,[],1,y1,0,(-1)))
 (fun s=>J_o s.1 s.2.1 s.2.2.1 s.2.2.2.1 s.2.2.2.2.1 s.2.2.2.2.2)))) (F_d a0):=callL_le (tt:=tt) (FT:=FT) (SP:=SP) (j:=20) rfl (by kernel_rfl)
theorem U_k (a0:ByteArray):Le ((bif (decide ((a0.size:Int)>2000)) then
 some ([])
 else(F_1r a0).bind (fun y1=>some y1))) (F_t a0):=callL_le (tt:=tt) (FT:=FT) (SP:=SP) (j:=21) rfl (by kernel_rfl)
theorem U_1r (a0:ByteArray):Le (fieldsF a0) (F_1r a0):=callL_sp (tt:=tt) (FT:=FT) (SP:=SP) (j:=22) (v:=(show InVals (FT 22) from((a0,(()),()),(())))) (f:=fun v=>fieldsF v.1.1) rfl
noncomputable def L_0 (y8:(Int×Yt5×Int×Int)) (f0:(Int×ByteArray×Int×Int×Int×Bool×(List Int)×Int×Yt5×Int×Int)→Option Yt13) (v9:Int) (v10:ByteArray) (v11:Int) (v12:Int) (v13:Int) (v14:Bool) (v15:List Int) (v16:Int) (v17:List ByteArray) (v18:Int) (v19:Int):Option Yt13:=
 (bif (decide (v16<y8.1)) then
 (F_3 v17 v18 v19 (-1000000) 1000000).bind (fun y20=>(apx v15 ([y20.1])).bind (fun z21=>f0 (v9,v10,v11,v12,v13,v14,z21,(IntKind.i64.wrap (v16+1)),y20.2.1,y20.2.2.1,y20.2.2.2)))
 else some (.go (v9,v10,v11,v12,v13,v14,v15,v17,v18,v19)))
@[simp] noncomputable def J_v (v26:Int) (v27:ByteArray) (v28:Int) (v29:Int) (v30:Int) (v31:Bool) (v32:List Int) (v33:List ByteArray) (v34:Int) (v35:Int):Option (SNode×Yt5×Int×Int):=
 some ((v26,(v27,(v28,(v29,(v30,(v31,(v32,()))))))),v33,v34,v35)
theorem U_u (a0x0:List ByteArray) (a0x1:Int) (a0x2:Int):Le ((F_v).bind (fun y1=>(F_b a0x0 a0x1 a0x2 y1).bind (fun y2=>joinK ((bif (y2.1==0) then
 (F_y y2.2.1 y2.2.2.1 y2.2.2.2 y2.1 ByteArray.empty 0 0 0 false ([])).bind (fun y3=>some (.go (y3.2.2.2.1,y3.2.2.2.2.1,y3.2.2.2.2.2.1,y3.2.2.2.2.2.2.1,y3.2.2.2.2.2.2.2.1,y3.2.2.2.2.2.2.2.2.1,y3.2.2.2.2.2.2.2.2.2,y3.1,y3.2.1,y3.2.2.1)))
 else(bif (y2.1==1) then
 (F_3 y2.2.1 y2.2.2.1 y2.2.2.2 (-1000000) 1000000).bind (fun y4=>(F_w).bind (fun y5=>(F_b y4.2.1 y4.2.2.1 y4.2.2.2 y5).bind (fun y6=>(bif (y6.1 != 3) then
 (F_a y6.2.1 y6.2.2.1 y6.2.2.2).bind (fun y7=>some (.go (y2.1,ByteArray.empty,y4.1,y6.1,y7.1,y7.2.1,[],y7.2.2.1,y7.2.2.2.1,y7.2.2.2.2)))
 else some (.go (y2.1,ByteArray.empty,y4.1,y6.1,0,false,[],y6.2.1,y6.2.2.1,y6.2.2.2))))))
 else(bif (y2.1==2) then
 (F_3 y2.2.1 y2.2.2.1 y2.2.2.2 1 6).bind (fun y8=>loopF (fun f s=>L_0 y8 f s.1 s.2.1 s.2.2.1 s.2.2.2.1 s.2.2.2.2.1 s.2.2.2.2.2.1 s.2.2.2.2.2.2.1 s.2.2.2.2.2.2.2.1 s.2.2.2.2.2.2.2.2.1 s.2.2.2.2.2.2.2.2.2.1 s.2.2.2.2.2.2.2.2.2.2) (y2.1,ByteArray.empty,0,0,0,false,[],0,y8.2.1,y8.2.2.1,y8.2.2.2))
 else(bif (y2.1==3) then
 (F_3 y2.2.1 y2.2.2.1 y2.2.2.2 (-1000000) 1000000).bind (fun y22=>(F_3 y22.2.1 y22.2.2.1 y22.2.2.2 (-1000000) 1000000).bind (fun y23=>some (.go (y2.1,ByteArray.empty,y22.1,0,y23.1,false,[],y23.2.1,y23.2.2.1,y23.2.2.2))))
 else(bif (y2.1==5) then
 (F_3 y2.2.1 y2.2.2.1 y2.2.2.2 (-1000000) 1000000).bind (fun y24=>some (.go (y2.1,ByteArray.empty,y24.1,0,0,false,[],y24.2.1,y24.2.2.1,y24.2.2.2)))
 else(bif (y2.1==6) then
 (F_a y2.2.1 y2.2.2.1 y2.2.2.2).bind (fun y25=>some (.go (y2.1,ByteArray.empty,0,0,y25.1,y25.2.1,[],y25.2.2.1,y25.2.2.2.1,y25.2.2.2.2)))
 else some (.go (y2.1,ByteArray.empty,0,0,0,false,[],y2.2.1,y2.2.2.1,y2.2.2.2)))))))))
 (fun s=>J_v s.1 s.2.1 s.2.2.1 s.2.2.2.1 s.2.2.2.2.1 s.2.2.2.2.2.1 s.2.2.2.2.2.2.1 s.2.2.2.2.2.2.2.1 s.2.2.2.2.2.2.2.2.1 s.2.2.2.2.2.2.2.2.2)))) (F_12 a0x0 a0x1 a0x2):=callL_le (tt:=tt) (FT:=FT) (SP:=SP) (j:=23) rfl (by kernel_rfl)
theorem U_p:Le (some ([(⟨#[115,99,97,110]⟩:ByteArray),(⟨#[102,105,108,116,101,114]⟩:ByteArray),(⟨#[107,101,101,112]⟩:ByteArray),(⟨#[106,111,105,110]⟩:ByteArray),(⟨#[98,111,116,104]⟩:ByteArray),(⟨#[115,111,114,116]⟩:ByteArray),(⟨#[108,105,109,105,116]⟩:ByteArray),(⟨#[111,110,99,101]⟩:ByteArray)])) (F_v):=callL_le (tt:=tt) (FT:=FT) (SP:=SP) (j:=24) rfl (by kernel_rfl)
theorem U_9 (a0x0:List ByteArray) (a0x1:Int) (a0x2:Int) (a1:List ByteArray):Le ((F_11 a0x0 a0x1 a0x2 a1 (-1)).bind (fun y1=>some (y1.2.2.2.2,y1.1,y1.2.1,y1.2.2.1))) (F_b a0x0 a0x1 a0x2 a1):=callL_le (tt:=tt) (FT:=FT) (SP:=SP) (j:=25) rfl (by kernel_rfl)
@[simp] noncomputable def J_u (a0x0:List ByteArray) (a0x1:Int) (a0x2:Int) (v3:Bool) (v4:List ByteArray) (v5:Int):Option (Yt5×Int×Int×Yt5×Int):=
 (bif v3 then
 some (a0x0,a0x1,a0x1,v4,v5)
 else some (a0x0,(IntKind.i64.wrap (a0x1+1)),a0x2,v4,v5))
theorem U_5 (a0x0:List ByteArray) (a0x1:Int) (a0x2:Int) (a1x0x0:List ByteArray) (a1x1x0:Int):Le ((bif (decide (a0x2≥0)) then
 some (a0x0,a0x1,a0x2,a1x0x0,a1x1x0)
 else joinK ((bif (a0x1==(a0x0.length:Int)) then
 some (.go (true,a1x0x0,a1x1x0))
 else(ix a0x0 a0x1).bind (fun z1=>(F_15 z1 a1x0x0 a1x1x0).bind (fun y2=>some (.go ((!y2.1),y2.2.1,y2.2.2))))))
 (fun s=>J_u a0x0 a0x1 a0x2 s.1 s.2.1 s.2.2))) (F_11 a0x0 a0x1 a0x2 a1x0x0 a1x1x0):=callL_le (tt:=tt) (FT:=FT) (SP:=SP) (j:=26) rfl (by kernel_rfl)
theorem U_x (a0:ByteArray) (c0x0:List ByteArray) (c1x0:Int):Le ((F_1h c0x0 a0).bind (fun y1=>some ((decide (y1≥0)),c0x0,y1))) (F_15 a0 c0x0 c1x0):=callL_le (tt:=tt) (FT:=FT) (SP:=SP) (j:=27) rfl (by kernel_rfl)
noncomputable def L_c (a0:List ByteArray) (a1:ByteArray) (f0:(Int×Int)→Option (Ex Int Int)) (v1:Int) (v2:Int):Option (Ex Int Int):=
 (bif (decide (v2<(a0.length:Int))) then
 (ix a0 v2).bind (fun z3=>(bif (a1.toList==z3.toList) then
 some (.ret v2)
 else f0 (v1,(IntKind.i64.wrap (v2+1)))))
 else some (.go v1))
@[simp] noncomputable def J_1u (v4:Int):Option Int:=
 some (-1)
theorem U_1b (a0:List ByteArray) (a1:ByteArray):Le (joinK (loopF (fun f s=>L_c a0 a1 f s.1 s.2) (0,0))
 (fun s=>J_1u s)) (F_1h a0 a1):=callL_le (tt:=tt) (FT:=FT) (SP:=SP) (j:=28) rfl (by kernel_rfl)
@[simp] noncomputable def J_s (a0x0:List ByteArray) (a0x1:Int) (a0x2:Int) (v3:Bool) (v4:Int) (v5:ByteArray) (v6:Int) (v7:Int) (v8:Int) (v9:Bool) (v10:List Int):Option (Yt5×Int×Int×Int×ByteArray×Int×Int×Int×Bool×(List Int)):=
 (bif v3 then
 some (a0x0,a0x1,a0x1,v4,v5,v6,v7,v8,v9,v10)
 else some (a0x0,(IntKind.i64.wrap (a0x1+1)),a0x2,v4,v5,v6,v7,v8,v9,v10))
theorem U_t (a0x0:List ByteArray) (a0x1:Int) (a0x2:Int) (a1x0x0:Int) (a1x0x1:ByteArray) (a1x0x2:Int) (a1x0x3:Int) (a1x0x4:Int) (a1x0x5:Bool) (a1x0x6:List Int):Le ((bif (decide (a0x2≥0)) then
 some (a0x0,a0x1,a0x2,a1x0x0,a1x0x1,a1x0x2,a1x0x3,a1x0x4,a1x0x5,a1x0x6)
 else joinK ((bif (a0x1==(a0x0.length:Int)) then
 some (.go (true,a1x0x0,a1x0x1,a1x0x2,a1x0x3,a1x0x4,a1x0x5,a1x0x6))
 else(ix a0x0 a0x1).bind (fun z1=>(F_13 z1 a1x0x0 a1x0x1 a1x0x2 a1x0x3 a1x0x4 a1x0x5 a1x0x6).bind (fun y2=>some (.go ((!y2.1),y2.2.1,y2.2.2.1,y2.2.2.2.1,y2.2.2.2.2.1,y2.2.2.2.2.2.1,y2.2.2.2.2.2.2.1,y2.2.2.2.2.2.2.2))))))
 (fun s=>J_s a0x0 a0x1 a0x2 s.1 s.2.1 s.2.2.1 s.2.2.2.1 s.2.2.2.2.1 s.2.2.2.2.2.1 s.2.2.2.2.2.2.1 s.2.2.2.2.2.2.2))) (F_y a0x0 a0x1 a0x2 a1x0x0 a1x0x1 a1x0x2 a1x0x3 a1x0x4 a1x0x5 a1x0x6):=callL_le (tt:=tt) (FT:=FT) (SP:=SP) (j:=29) rfl (by kernel_rfl)
theorem U_v (a0:ByteArray) (c0x0:Int) (c0x1:ByteArray) (c0x2:Int) (c0x3:Int) (c0x4:Int) (c0x5:Bool) (c0x6:List Int):Le ((F_e a0).bind (fun y1=>some (y1,c0x0,a0,c0x2,c0x3,c0x4,c0x5,c0x6))) (F_13 a0 c0x0 c0x1 c0x2 c0x3 c0x4 c0x5 c0x6):=callL_le (tt:=tt) (FT:=FT) (SP:=SP) (j:=30) rfl (by kernel_rfl)
@[simp] noncomputable def J_r (v1:Bool) (v2:Int) (f0:(Bool×Int)→Option Yt8) (v5:Bool):Option Yt8:=
 (bif v5 then
 some (.ret false)
 else f0 (v1,(IntKind.i64.wrap (v2+1))))
@[simp] noncomputable def J_q (v1:Bool) (v2:Int) (z3:Int) (f0:(Bool×Int)→Option Yt8) (v4:Bool):Option Yt8:=
 joinK ((bif (!v4) then
 (bif (v2==0) then
 some (.go true)
 else(bif (decide (z3<48)) then
 some (.go true)
 else some (.go (decide (z3>57)))))
 else some (.go false)))
 (fun s=>J_r v1 v2 f0 s)
noncomputable def L_8 (a0:ByteArray) (f0:(Bool×Int)→Option Yt8) (v1:Bool) (v2:Int):Option Yt8:=
 (bif (decide (v2<(a0.size:Int))) then
 (bix a0 v2).bind (fun z3=>joinK ((bif (decide (z3≥97)) then
 some (.go (decide (z3≤122)))
 else some (.go false)))
 (fun s=>J_q v1 v2 z3 f0 s))
 else some (.go v1))
@[simp] noncomputable def J_1g (a0:ByteArray) (v6:Bool):Option Bool:=
 (F_2 (a0.size:Int) 1 12).bind (fun y7=>some y7)
theorem U_j (a0:ByteArray):Le (joinK (loopF (fun f s=>L_8 a0 f s.1 s.2) (false,0))
 (fun s=>J_1g a0 s)) (F_e a0):=callL_le (tt:=tt) (FT:=FT) (SP:=SP) (j:=31) rfl (by kernel_rfl)
@[simp] noncomputable def J_1h (v1:Bool):Option Bool:=
 some v1
theorem U_l (a0:Int) (a1:Int) (a2:Int):Le (joinK ((bif (decide (a0≥a1)) then
 some (.go (decide (a0≤a2)))
 else some (.go false)))
 (fun s=>J_1h s)) (F_2 a0 a1 a2):=callL_le (tt:=tt) (FT:=FT) (SP:=SP) (j:=32) rfl (by kernel_rfl)
theorem U_6 (a0x0:List ByteArray) (a0x1:Int) (a0x2:Int) (a1:Int) (a2:Int):Le ((F_10 a0x0 a0x1 a0x2 0 a1 a2).bind (fun y1=>some (y1.2.2.2.1,y1.1,y1.2.1,y1.2.2.1))) (F_3 a0x0 a0x1 a0x2 a1 a2):=callL_le (tt:=tt) (FT:=FT) (SP:=SP) (j:=33) rfl (by kernel_rfl)
@[simp] noncomputable def J_t (a0x0:List ByteArray) (a0x1:Int) (a0x2:Int) (v3:Bool) (v4:Int) (v5:Int) (v6:Int):Option (Yt5×Int×Int×Int×Int×Int):=
 (bif v3 then
 some (a0x0,a0x1,a0x1,v4,v5,v6)
 else some (a0x0,(IntKind.i64.wrap (a0x1+1)),a0x2,v4,v5,v6))
theorem U_4 (a0x0:List ByteArray) (a0x1:Int) (a0x2:Int) (a1x0x0:Int) (a1x1x0:Int) (a1x2x0:Int):Le ((bif (decide (a0x2≥0)) then
 some (a0x0,a0x1,a0x2,a1x0x0,a1x1x0,a1x2x0)
 else joinK ((bif (a0x1==(a0x0.length:Int)) then
 some (.go (true,a1x0x0,a1x1x0,a1x2x0))
 else(ix a0x0 a0x1).bind (fun z1=>(F_14 z1 a1x0x0 a1x1x0 a1x2x0).bind (fun y2=>some (.go ((!y2.1),y2.2.1,y2.2.2.1,y2.2.2.2))))))
 (fun s=>J_t a0x0 a0x1 a0x2 s.1 s.2.1 s.2.2.1 s.2.2.2))) (F_10 a0x0 a0x1 a0x2 a1x0x0 a1x1x0 a1x2x0):=callL_le (tt:=tt) (FT:=FT) (SP:=SP) (j:=34) rfl (by kernel_rfl)
@[simp] noncomputable def J_1k (c1x0:Int) (c2x0:Int) (y1:Yt14) (v3:Bool):Option (Bool×Int×Int×Int):=
 some (v3,y1.1,c1x0,c2x0)
theorem U_w (a0:ByteArray) (c0x0:Int) (c1x0:Int) (c2x0:Int):Le ((F_h a0).bind (fun y1=>joinK ((bif y1.2 then
 (F_2 y1.1 c1x0 c2x0).bind (fun y2=>some (.go y2))
 else some (.go false)))
 (fun s=>J_1k c1x0 c2x0 y1 s))) (F_14 a0 c0x0 c1x0 c2x0):=callL_le (tt:=tt) (FT:=FT) (SP:=SP) (j:=35) rfl (by kernel_rfl)
theorem U_r (a0:ByteArray):Le (readF a0) (F_h a0):=callL_sp (tt:=tt) (FT:=FT) (SP:=SP) (j:=36) (v:=(show InVals (FT 36) from((a0,()),(())))) (f:=fun v=>readF v.1.1) rfl
theorem U_q:Le (some ([(⟨#[61]⟩:ByteArray),(⟨#[60]⟩:ByteArray),(⟨#[62]⟩:ByteArray),(⟨#[110,111,110,101]⟩:ByteArray)])) (F_w):=callL_le (tt:=tt) (FT:=FT) (SP:=SP) (j:=37) rfl (by kernel_rfl)
theorem U_7 (a0x0:List ByteArray) (a0x1:Int) (a0x2:Int):Le ((F_z a0x0 a0x1 a0x2 0 false).bind (fun y1=>some (y1.2.2.2.1,y1.2.2.2.2,y1.1,y1.2.1,y1.2.2.1))) (F_a a0x0 a0x1 a0x2):=callL_le (tt:=tt) (FT:=FT) (SP:=SP) (j:=38) rfl (by kernel_rfl)
@[simp] noncomputable def J_c (a0x0:List ByteArray) (a0x1:Int) (a0x2:Int) (v3:Bool) (v4:Int) (v5:Bool):Option (Yt5×Int×Int×Int×Bool):=
 (bif v3 then
 some (a0x0,a0x1,a0x1,v4,v5)
 else some (a0x0,(IntKind.i64.wrap (a0x1+1)),a0x2,v4,v5))
theorem U_3 (a0x0:List ByteArray) (a0x1:Int) (a0x2:Int) (a1x0x0:Int) (a1x1x0:Bool):Le ((bif (decide (a0x2≥0)) then
 some (a0x0,a0x1,a0x2,a1x0x0,a1x1x0)
 else joinK ((bif (a0x1==(a0x0.length:Int)) then
 some (.go (true,a1x0x0,a1x1x0))
 else(ix a0x0 a0x1).bind (fun z1=>(F_i z1 a1x0x0 a1x1x0).bind (fun y2=>some (.go ((!y2.1),y2.2.1,y2.2.2))))))
 (fun s=>J_c a0x0 a0x1 a0x2 s.1 s.2.1 s.2.2))) (F_z a0x0 a0x1 a0x2 a1x0x0 a1x1x0):=callL_le (tt:=tt) (FT:=FT) (SP:=SP) (j:=39) rfl (by kernel_rfl)
@[simp] noncomputable def J_1j (a0:ByteArray) (y1:ByteArray) (y2:Yt14) (v3:Bool):Option (Bool×Int×Bool):=
 some (v3,y2.1,(!(y1.toList==a0.toList)))
theorem U_8 (a0:ByteArray) (c0x0:Int) (c1x0:Bool):Le ((F_1s a0 (⟨#[36]⟩:ByteArray)).bind (fun y1=>(F_h y1).bind (fun y2=>joinK ((bif y2.2 then
 (bif (!(!(y1.toList==a0.toList))) then
 some (.go true)
 else some (.go (decide (y2.1≥0))))
 else some (.go false)))
 (fun s=>J_1j a0 y1 y2 s)))) (F_i a0 c0x0 c1x0):=callL_le (tt:=tt) (FT:=FT) (SP:=SP) (j:=40) rfl (by kernel_rfl)
theorem U_1s (a0:ByteArray) (a1:ByteArray):Le (trimF a0 a1) (F_1s a0 a1):=callL_sp (tt:=tt) (FT:=FT) (SP:=SP) (j:=41) (v:=(show InVals (FT 41) from((a0,a1,()),(())))) (f:=fun v=>trimF v.1.1 v.1.2.1) rfl
@[simp] noncomputable def J_1e (v2:Bool):Option Int:=
 (bif v2 then
 some 1
 else some (-1))
@[simp] noncomputable def J_1d (a0:Int) (v1:Bool):Option Int:=
 (bif v1 then
 some 2
 else joinK ((bif (a0==1) then
 some (.go true)
 else(bif (a0==2) then
 some (.go true)
 else(bif (a0==5) then
 some (.go true)
 else(bif (a0==6) then
 some (.go true)
 else some (.go (a0==7)))))))
 (fun s=>J_1e s))
theorem U_d (a0:Int):Le ((bif (a0==0) then
 some 0
 else joinK ((bif (a0==3) then
 some (.go true)
 else some (.go (a0==4))))
 (fun s=>J_1d a0 s))) (F_c a0):=callL_le (tt:=tt) (FT:=FT) (SP:=SP) (j:=42) rfl (by kernel_rfl)
@[simp] noncomputable def J_p (a0:List SNode) (v3:Bool):Option Bool:=
 (bif v3 then
 some false
 else(F_f a0 0 1).bind (fun y4=>some (y4==(a0.length:Int))))
theorem U_h (a0:List SNode):Le (joinK ((F_2 (a0.length:Int) 1 40).bind (fun y1=>(bif (!y1) then
 some (.go true)
 else(F_1c a0).bind (fun y2=>some (.go y2)))))
 (fun s=>J_p a0 s)) (F_r a0):=callL_le (tt:=tt) (FT:=FT) (SP:=SP) (j:=43) rfl (by kernel_rfl)
theorem U_16 (a0:List SNode):Le ((F_1f a0).bind (fun y1=>some (decide (y1≥0)))) (F_1c a0):=callL_le (tt:=tt) (FT:=FT) (SP:=SP) (j:=44) rfl (by kernel_rfl)
noncomputable def L_a (a0:List SNode) (f0:(Int×Int)→Option (Ex Int Int)) (v1:Int) (v2:Int):Option (Ex Int Int):=
 (bif (decide (v2<(a0.length:Int))) then
 (ix a0 v2).bind (fun z3=>(F_s z3).bind (fun y4=>(bif y4 then
 some (.ret v2)
 else f0 (v1,(IntKind.i64.wrap (v2+1))))))
 else some (.go v1))
@[simp] noncomputable def J_1s (v5:Int):Option Int:=
 some (-1)
theorem U_19 (a0:List SNode):Le (joinK (loopF (fun f s=>L_a a0 f s.1 s.2) (0,0))
 (fun s=>J_1s s)) (F_1f a0):=callL_le (tt:=tt) (FT:=FT) (SP:=SP) (j:=45) rfl (by kernel_rfl)
theorem U_i (a0:SNode):Le ((F_p (a0.1,(a0.2.1,(a0.2.2.1,(a0.2.2.2.1,(a0.2.2.2.2.1,(a0.2.2.2.2.2.1,(a0.2.2.2.2.2.2.1,())))))))).bind (fun y1=>some (!y1))) (F_s a0):=callL_le (tt:=tt) (FT:=FT) (SP:=SP) (j:=46) rfl (by kernel_rfl)
@[simp] noncomputable def J_j (a0:SNode) (v7:Bool):Option Yt7:=
 some (.go (0,a0.2.1,0,0,0,false,a0.2.2.2.2.2.2.1,v7))
@[simp] noncomputable def J_i (a0:SNode) (v4:Bool):Option Yt7:=
 joinK ((bif (a0.2.2.2.1==3) then
 (bif v4 then
 (bif (a0.2.2.2.2.1==0) then
 some (.go (!a0.2.2.2.2.2.1))
 else some (.go false))
 else some (.go false))
 else(bif a0.2.2.2.2.2.1 then
 (bif v4 then
 (F_g a0.2.2.2.2.1).bind (fun y5=>some (.go y5))
 else some (.go false))
 else(bif v4 then
 (F_u a0.2.2.2.2.1).bind (fun y6=>some (.go y6))
 else some (.go false)))))
 (fun s=>J_j a0 s)
@[simp] noncomputable def J_k (a0:SNode) (v10:Bool):Option Yt7:=
 some (.go (0,a0.2.1,a0.2.2.1,a0.2.2.2.1,a0.2.2.2.2.1,a0.2.2.2.2.2.1,[],v10))
@[simp] noncomputable def J_l (a0:SNode) (v13:Bool):Option Yt7:=
 some (.go (0,a0.2.1,0,a0.2.2.2.1,0,a0.2.2.2.2.2.1,a0.2.2.2.2.2.2.1,v13))
@[simp] noncomputable def J_m (a0:SNode) (v17:Bool):Option Yt7:=
 some (.go (0,a0.2.1,a0.2.2.1,a0.2.2.2.1,0,false,a0.2.2.2.2.2.2.1,v17))
@[simp] noncomputable def J_n (a0:SNode) (v18:Bool):Option Yt7:=
 (bif v18 then
 some (.go (0,a0.2.1,a0.2.2.1,a0.2.2.2.1,a0.2.2.2.2.1,a0.2.2.2.2.2.1,a0.2.2.2.2.2.2.1,true))
 else some (.go (0,a0.2.1,a0.2.2.1,a0.2.2.2.1,a0.2.2.2.2.1,a0.2.2.2.2.2.1,a0.2.2.2.2.2.2.1,false)))
@[simp] noncomputable def J_1f (v28:Bool):Option Bool:=
 some v28
@[simp] noncomputable def J_0 (v19:Int) (v20:ByteArray) (v21:Int) (v22:Int) (v23:Int) (v24:Bool) (v25:List Int) (v26:Bool):Option Bool:=
 joinK ((bif v26 then
 (F_x (v19,(v20,(v21,(v22,(v23,(v24,(v25,()))))))) (0,(ByteArray.empty,(0,(0,(0,(false,([],())))))))).bind (fun y27=>some (.go y27))
 else some (.go false)))
 (fun s=>J_1f s)
theorem U_e (a0:SNode):Le (joinK ((bif (a0.1==0) then
 (F_e a0.2.1).bind (fun y1=>some (.go (0,ByteArray.empty,a0.2.2.1,a0.2.2.2.1,a0.2.2.2.2.1,a0.2.2.2.2.2.1,a0.2.2.2.2.2.2.1,y1)))
 else(bif (a0.1==1) then
 joinK ((F_6 a0.2.2.1).bind (fun y2=>(bif y2 then
 (F_2 a0.2.2.2.1 0 3).bind (fun y3=>some (.go y3))
 else some (.go false))))
 (fun s=>J_i a0 s)
 else(bif (a0.1==2) then
 joinK ((F_2 (a0.2.2.2.2.2.2.1.length:Int) 1 6).bind (fun y8=>(bif y8 then
 (F_1d a0.2.2.2.2.2.2.1).bind (fun y9=>some (.go (!y9)))
 else some (.go false))))
 (fun s=>J_k a0 s)
 else(bif (a0.1==3) then
 joinK ((F_6 a0.2.2.1).bind (fun y11=>(bif y11 then
 (F_6 a0.2.2.2.2.1).bind (fun y12=>some (.go y12))
 else some (.go false))))
 (fun s=>J_l a0 s)
 else(bif (a0.1==5) then
 (F_6 a0.2.2.1).bind (fun y14=>some (.go (0,a0.2.1,0,a0.2.2.2.1,a0.2.2.2.2.1,a0.2.2.2.2.2.1,a0.2.2.2.2.2.2.1,y14)))
 else(bif (a0.1==6) then
 joinK ((F_2 a0.2.2.2.2.1 0 1000000).bind (fun y15=>(bif y15 then
 (bif (!a0.2.2.2.2.2.1) then
 some (.go true)
 else(F_g a0.2.2.2.2.1).bind (fun y16=>some (.go y16)))
 else some (.go false))))
 (fun s=>J_m a0 s)
 else joinK ((bif (a0.1==4) then
 some (.go true)
 else some (.go (a0.1==7))))
 (fun s=>J_n a0 s))))))))
 (fun s=>J_0 s.1 s.2.1 s.2.2.1 s.2.2.2.1 s.2.2.2.2.1 s.2.2.2.2.2.1 s.2.2.2.2.2.2.1 s.2.2.2.2.2.2.2)) (F_p a0):=callL_le (tt:=tt) (FT:=FT) (SP:=SP) (j:=47) rfl (by kernel_rfl)
theorem U_m (a0:Int):Le ((F_2 a0 0 63).bind (fun y1=>some y1)) (F_6 a0):=callL_le (tt:=tt) (FT:=FT) (SP:=SP) (j:=48) rfl (by kernel_rfl)
theorem U_o (a0:Int):Le ((F_2 a0 0 39).bind (fun y1=>some y1)) (F_g a0):=callL_le (tt:=tt) (FT:=FT) (SP:=SP) (j:=49) rfl (by kernel_rfl)
theorem U_n (a0:Int):Le ((F_2 a0 (-1000000) 1000000).bind (fun y1=>some y1)) (F_u a0):=callL_le (tt:=tt) (FT:=FT) (SP:=SP) (j:=50) rfl (by kernel_rfl)
theorem U_17 (a0:List Int):Le ((F_1g a0).bind (fun y1=>some (decide (y1≥0)))) (F_1d a0):=callL_le (tt:=tt) (FT:=FT) (SP:=SP) (j:=51) rfl (by kernel_rfl)
noncomputable def L_b (a0:List Int) (f0:(Int×Int)→Option (Ex Int Int)) (v1:Int) (v2:Int):Option (Ex Int Int):=
 (bif (decide (v2<(a0.length:Int))) then
 (ix a0 v2).bind (fun z3=>(F_q z3).bind (fun y4=>(bif y4 then
 some (.ret v2)
 else f0 (v1,(IntKind.i64.wrap (v2+1))))))
 else some (.go v1))
@[simp] noncomputable def J_1t (v5:Int):Option Int:=
 some (-1)
theorem U_1a (a0:List Int):Le (joinK (loopF (fun f s=>L_b a0 f s.1 s.2) (0,0))
 (fun s=>J_1t s)) (F_1g a0):=callL_le (tt:=tt) (FT:=FT) (SP:=SP) (j:=52) rfl (by kernel_rfl)
theorem U_f (a0:Int):Le ((F_6 a0).bind (fun y1=>some (!y1))) (F_q a0):=callL_le (tt:=tt) (FT:=FT) (SP:=SP) (j:=53) rfl (by kernel_rfl)
@[simp] noncomputable def J_1i (v2:Bool):Option Bool:=
 some v2
theorem U_s (a0:SNode) (a1:SNode):Le (joinK ((bif (a0.1==a1.1) then
 (bif (a0.2.1.toList==a1.2.1.toList) then
 (bif (a0.2.2.1==a1.2.2.1) then
 (bif (a0.2.2.2.1==a1.2.2.2.1) then
 (bif (a0.2.2.2.2.1==a1.2.2.2.2.1) then
 (bif (a0.2.2.2.2.2.1==a1.2.2.2.2.2.1) then
 (F_1e a0.2.2.2.2.2.2.1 a1.2.2.2.2.2.2.1).bind (fun y1=>some (.go y1))
 else some (.go false))
 else some (.go false))
 else some (.go false))
 else some (.go false))
 else some (.go false))
 else some (.go false)))
 (fun s=>J_1i s)) (F_x a0 a1):=callL_le (tt:=tt) (FT:=FT) (SP:=SP) (j:=54) rfl (by kernel_rfl)
noncomputable def L_9 (a0:List Int) (a1:List Int) (f0:(Bool×Int)→Option Yt8) (v1:Bool) (v2:Int):Option Yt8:=
 (bif (decide (v2<(a0.length:Int))) then
 (ix a0 v2).bind (fun z3=>(ix a1 v2).bind (fun z4=>(bif (z3 != z4) then
 some (.ret false)
 else f0 (v1,(IntKind.i64.wrap (v2+1))))))
 else some (.go v1))
@[simp] noncomputable def J_1r (v5:Bool):Option Bool:=
 some true
theorem U_18 (a0:List Int) (a1:List Int):Le ((bif ((a0.length:Int) != (a1.length:Int)) then
 some false
 else joinK (loopF (fun f s=>L_9 a0 a1 f s.1 s.2) (false,0))
 (fun s=>J_1r s))) (F_1e a0 a1):=callL_le (tt:=tt) (FT:=FT) (SP:=SP) (j:=55) rfl (by kernel_rfl)
noncomputable def L_2 (a0:List SNode) (a2:Int) (y3:Int) (f0:(Int×Int×Int)→Option (Ex Int (Int×Int))) (v4:Int) (v5:Int) (v6:Int):Option (Ex Int (Int×Int)):=
 (bif (decide (v6<y3)) then
 (F_f a0 v5 (IntKind.i64.wrap (a2+1))).bind (fun y7=>(bif (decide (y7<0)) then
 some (.ret (-1))
 else f0 (v4,y7,(IntKind.i64.wrap (v6+1)))))
 else some (.go (v4,v5)))
@[simp] noncomputable def J_6 (v8:Int) (v9:Int):Option Int:=
 some v9
@[simp] noncomputable def J_b (a0:List SNode) (a1:Int) (a2:Int) (v1:Bool):Option Int:=
 (bif v1 then
 some (-1)
 else joinK ((ix a0 a1).bind (fun z2=>(F_c z2.1).bind (fun y3=>loopF (fun f s=>L_2 a0 a2 y3 f s.1 s.2.1 s.2.2) (0,(IntKind.i64.wrap (a1+1)),0))))
 (fun s=>J_6 s.1 s.2))
theorem U_2 (a0:List SNode) (a1:Int) (a2:Int):Le (joinK ((bif (decide (a1≥(a0.length:Int))) then
 some (.go true)
 else some (.go (decide (a2>10)))))
 (fun s=>J_b a0 a1 a2 s)) (F_f a0 a1 a2):=callL_le (tt:=tt) (FT:=FT) (SP:=SP) (j:=56) rfl (by kernel_rfl)
noncomputable def L_i (a0:List SNode) (a1:List SNode) (f0:(Bool×Int)→Option Yt8) (v1:Bool) (v2:Int):Option Yt8:=
 (bif (decide (v2<(a0.length:Int))) then
 (ix a0 v2).bind (fun z3=>(ix a1 v2).bind (fun z4=>(F_18 z3 z4).bind (fun y5=>(bif (!y5) then
 some (.ret false)
 else f0 (v1,(IntKind.i64.wrap (v2+1)))))))
 else some (.go v1))
@[simp] noncomputable def J_1m (v6:Bool):Option Bool:=
 some true
theorem U_11 (a0:List SNode) (a1:List SNode):Le ((bif ((a0.length:Int) != (a1.length:Int)) then
 some false
 else joinK (loopF (fun f s=>L_i a0 a1 f s.1 s.2) (false,0))
 (fun s=>J_1m s))) (F_j a0 a1):=callL_le (tt:=tt) (FT:=FT) (SP:=SP) (j:=57) rfl (by kernel_rfl)
theorem U_10 (a0:SNode) (a1:SNode):Le ((bif (a0.1 != a1.1) then
 some false
 else(bif (!(a0.2.1.toList==a1.2.1.toList)) then
 some false
 else(bif (a0.2.2.1 != a1.2.2.1) then
 some false
 else(bif (a0.2.2.2.1 != a1.2.2.2.1) then
 some false
 else(bif (a0.2.2.2.2.1 != a1.2.2.2.2.1) then
 some false
 else(bif (a0.2.2.2.2.2.1 != a1.2.2.2.2.2.1) then
 some false
 else(F_17 a0.2.2.2.2.2.2.1 a1.2.2.2.2.2.2.1).bind (fun y1=>(bif (!y1) then
 some false
 else some true))))))))) (F_18 a0 a1):=callL_le (tt:=tt) (FT:=FT) (SP:=SP) (j:=58) rfl (by kernel_rfl)
noncomputable def L_h (a0:List Int) (a1:List Int) (f0:(Bool×Int)→Option Yt8) (v1:Bool) (v2:Int):Option Yt8:=
 (bif (decide (v2<(a0.length:Int))) then
 (ix a0 v2).bind (fun z3=>(ix a1 v2).bind (fun z4=>(bif (z3 != z4) then
 some (.ret false)
 else f0 (v1,(IntKind.i64.wrap (v2+1))))))
 else some (.go v1))
@[simp] noncomputable def J_1l (v5:Bool):Option Bool:=
 some true
theorem U_z (a0:List Int) (a1:List Int):Le ((bif ((a0.length:Int) != (a1.length:Int)) then
 some false
 else joinK (loopF (fun f s=>L_h a0 a1 f s.1 s.2) (false,0))
 (fun s=>J_1l s))) (F_17 a0 a1):=callL_le (tt:=tt) (FT:=FT) (SP:=SP) (j:=59) rfl (by kernel_rfl)
noncomputable def L_m (f0:(Int×Int×(List SNode))→Option (Ex Yt15 Yt15)) (v1:Int) (v2:Int) (v3:List SNode):Option (Ex Yt15 Yt15):=
 (bif (decide (v2<(v3.length:Int))) then
 (ix v3 v2).bind (fun z4=>(ix v3 v2).bind (fun z5=>(F_8 (IntKind.i64.wrap (v1+1))).bind (fun y6=>(ix (v3.set (v2).toNat (v1,z5.2)) v2).bind (fun z7=>(ix (v3.set (v2).toNat (v1,z5.2)) v2).bind (fun z8=>(ix ((v3.set (v2).toNat (v1,z5.2)).set (v2).toNat (z8.1,(y6,z8.2.2))) v2).bind (fun z9=>(ix ((v3.set (v2).toNat (v1,z5.2)).set (v2).toNat (z8.1,(y6,z8.2.2))) v2).bind (fun z10=>(ix (((v3.set (v2).toNat (v1,z5.2)).set (v2).toNat (z8.1,(y6,z8.2.2))).set (v2).toNat (z10.1,(z10.2.1,((IntKind.i64.wrap ((IntKind.i64.wrap (v1+1))+1)),z10.2.2.2)))) v2).bind (fun z11=>(ix (((v3.set (v2).toNat (v1,z5.2)).set (v2).toNat (z8.1,(y6,z8.2.2))).set (v2).toNat (z10.1,(z10.2.1,((IntKind.i64.wrap ((IntKind.i64.wrap (v1+1))+1)),z10.2.2.2)))) v2).bind (fun z12=>(ix ((((v3.set (v2).toNat (v1,z5.2)).set (v2).toNat (z8.1,(y6,z8.2.2))).set (v2).toNat (z10.1,(z10.2.1,((IntKind.i64.wrap ((IntKind.i64.wrap (v1+1))+1)),z10.2.2.2)))).set (v2).toNat (z12.1,(z12.2.1,(z12.2.2.1,((IntKind.i64.wrap ((IntKind.i64.wrap ((IntKind.i64.wrap (v1+1))+1))+1)),z12.2.2.2.2))))) v2).bind (fun z13=>(ix ((((v3.set (v2).toNat (v1,z5.2)).set (v2).toNat (z8.1,(y6,z8.2.2))).set (v2).toNat (z10.1,(z10.2.1,((IntKind.i64.wrap ((IntKind.i64.wrap (v1+1))+1)),z10.2.2.2)))).set (v2).toNat (z12.1,(z12.2.1,(z12.2.2.1,((IntKind.i64.wrap ((IntKind.i64.wrap ((IntKind.i64.wrap (v1+1))+1))+1)),z12.2.2.2.2))))) v2).bind (fun z14=>(remx (IntKind.i64.wrap ((IntKind.i64.wrap ((IntKind.i64.wrap ((IntKind.i64.wrap ((IntKind.i64.wrap (v1+1))+1))+1))+1))+1)) 3).bind (fun z15=>(ix (((((v3.set (v2).toNat (v1,z5.2)).set (v2).toNat (z8.1,(y6,z8.2.2))).set (v2).toNat (z10.1,(z10.2.1,((IntKind.i64.wrap ((IntKind.i64.wrap (v1+1))+1)),z10.2.2.2)))).set (v2).toNat (z12.1,(z12.2.1,(z12.2.2.1,((IntKind.i64.wrap ((IntKind.i64.wrap ((IntKind.i64.wrap (v1+1))+1))+1)),z12.2.2.2.2))))).set (v2).toNat (z14.1,(z14.2.1,(z14.2.2.1,(z14.2.2.2.1,((IntKind.i64.wrap ((IntKind.i64.wrap ((IntKind.i64.wrap ((IntKind.i64.wrap (v1+1))+1))+1))+1)),z14.2.2.2.2.2)))))) v2).bind (fun z16=>(ix (((((v3.set (v2).toNat (v1,z5.2)).set (v2).toNat (z8.1,(y6,z8.2.2))).set (v2).toNat (z10.1,(z10.2.1,((IntKind.i64.wrap ((IntKind.i64.wrap (v1+1))+1)),z10.2.2.2)))).set (v2).toNat (z12.1,(z12.2.1,(z12.2.2.1,((IntKind.i64.wrap ((IntKind.i64.wrap ((IntKind.i64.wrap (v1+1))+1))+1)),z12.2.2.2.2))))).set (v2).toNat (z14.1,(z14.2.1,(z14.2.2.1,(z14.2.2.2.1,((IntKind.i64.wrap ((IntKind.i64.wrap ((IntKind.i64.wrap ((IntKind.i64.wrap (v1+1))+1))+1))+1)),z14.2.2.2.2.2)))))) v2).bind (fun z17=>(ix ((((((v3.set (v2).toNat (v1,z5.2)).set (v2).toNat (z8.1,(y6,z8.2.2))).set (v2).toNat (z10.1,(z10.2.1,((IntKind.i64.wrap ((IntKind.i64.wrap (v1+1))+1)),z10.2.2.2)))).set (v2).toNat (z12.1,(z12.2.1,(z12.2.2.1,((IntKind.i64.wrap ((IntKind.i64.wrap ((IntKind.i64.wrap (v1+1))+1))+1)),z12.2.2.2.2))))).set (v2).toNat (z14.1,(z14.2.1,(z14.2.2.1,(z14.2.2.2.1,((IntKind.i64.wrap ((IntKind.i64.wrap ((IntKind.i64.wrap ((IntKind.i64.wrap (v1+1))+1))+1))+1)),z14.2.2.2.2.2)))))).set (v2).toNat (z17.1,(z17.2.1,(z17.2.2.1,(z17.2.2.2.1,(z17.2.2.2.2.1,((z15==0),z17.2.2.2.2.2.2))))))) v2).bind (fun z18=>(ix ((((((v3.set (v2).toNat (v1,z5.2)).set (v2).toNat (z8.1,(y6,z8.2.2))).set (v2).toNat (z10.1,(z10.2.1,((IntKind.i64.wrap ((IntKind.i64.wrap (v1+1))+1)),z10.2.2.2)))).set (v2).toNat (z12.1,(z12.2.1,(z12.2.2.1,((IntKind.i64.wrap ((IntKind.i64.wrap ((IntKind.i64.wrap (v1+1))+1))+1)),z12.2.2.2.2))))).set (v2).toNat (z14.1,(z14.2.1,(z14.2.2.1,(z14.2.2.2.1,((IntKind.i64.wrap ((IntKind.i64.wrap ((IntKind.i64.wrap ((IntKind.i64.wrap (v1+1))+1))+1))+1)),z14.2.2.2.2.2)))))).set (v2).toNat (z17.1,(z17.2.1,(z17.2.2.1,(z17.2.2.2.1,(z17.2.2.2.2.1,((z15==0),z17.2.2.2.2.2.2))))))) v2).bind (fun z19=>(bind2 (ix ((((((v3.set (v2).toNat (v1,z5.2)).set (v2).toNat (z8.1,(y6,z8.2.2))).set (v2).toNat (z10.1,(z10.2.1,((IntKind.i64.wrap ((IntKind.i64.wrap (v1+1))+1)),z10.2.2.2)))).set (v2).toNat (z12.1,(z12.2.1,(z12.2.2.1,((IntKind.i64.wrap ((IntKind.i64.wrap ((IntKind.i64.wrap (v1+1))+1))+1)),z12.2.2.2.2))))).set (v2).toNat (z14.1,(z14.2.1,(z14.2.2.1,(z14.2.2.2.1,((IntKind.i64.wrap ((IntKind.i64.wrap ((IntKind.i64.wrap ((IntKind.i64.wrap (v1+1))+1))+1))+1)),z14.2.2.2.2.2)))))).set (v2).toNat (z17.1,(z17.2.1,(z17.2.2.1,(z17.2.2.2.1,(z17.2.2.2.2.1,((z15==0),z17.2.2.2.2.2.2))))))) v2) (fun z20=>F_1a z20.2.2.2.2.2.2.1 (IntKind.i64.wrap ((IntKind.i64.wrap ((IntKind.i64.wrap ((IntKind.i64.wrap ((IntKind.i64.wrap ((IntKind.i64.wrap (v1+1))+1))+1))+1))+1))+1)))).bind (fun y21=>f0 (y21.2.1,(IntKind.i64.wrap (v2+1)),(((((((v3.set (v2).toNat (v1,z5.2)).set (v2).toNat (z8.1,(y6,z8.2.2))).set (v2).toNat (z10.1,(z10.2.1,((IntKind.i64.wrap ((IntKind.i64.wrap (v1+1))+1)),z10.2.2.2)))).set (v2).toNat (z12.1,(z12.2.1,(z12.2.2.1,((IntKind.i64.wrap ((IntKind.i64.wrap ((IntKind.i64.wrap (v1+1))+1))+1)),z12.2.2.2.2))))).set (v2).toNat (z14.1,(z14.2.1,(z14.2.2.1,(z14.2.2.2.1,((IntKind.i64.wrap ((IntKind.i64.wrap ((IntKind.i64.wrap ((IntKind.i64.wrap (v1+1))+1))+1))+1)),z14.2.2.2.2.2)))))).set (v2).toNat (z17.1,(z17.2.1,(z17.2.2.1,(z17.2.2.2.1,(z17.2.2.2.2.1,((z15==0),z17.2.2.2.2.2.2))))))).set (v2).toNat (y21.1.1,(y21.1.2.1,(y21.1.2.2.1,(y21.1.2.2.2.1,(y21.1.2.2.2.2.1,(y21.1.2.2.2.2.2.1,(y21.2.2,y21.1.2.2.2.2.2.2.2))))))))))))))))))))))))))
 else some (.go (v1,v3)))
@[simp] noncomputable def J_1q (v22:Int) (v23:List SNode):Option Yt15:=
 some (v22,v23)
theorem U_15 (a0:List SNode) (a1:Int):Le (joinK (loopF (fun f s=>L_m f s.1 s.2.1 s.2.2) (a1,0,a0))
 (fun s=>J_1q s.1 s.2)) (F_1b a0 a1):=callL_le (tt:=tt) (FT:=FT) (SP:=SP) (j:=60) rfl (by kernel_rfl)
noncomputable def L_5 (f0:(Int×ByteArray)→Option Yt16) (v1:Int) (v2:ByteArray):Option Yt16:=
 (bif (decide (v1>0)) then
 (remx v1 10).bind (fun z3=>(addx (bsOf ([(IntKind.u8.wrap (IntKind.i64.wrap (48+z3)))])) v2).bind (fun z4=>(quox v1 10).bind (fun z5=>f0 (z5,z4))))
 else some (.go v2))
@[simp] noncomputable def J_y (v6:ByteArray):Option ByteArray:=
 (addx (⟨#[109]⟩:ByteArray) v6).bind (fun z7=>some z7)
theorem U_a (a0:Int):Le ((bif (decide (a0≤0)) then
 some (⟨#[109,48]⟩:ByteArray)
 else joinK (loopF (fun f s=>L_5 f s.1 s.2) (a0,ByteArray.empty))
 (fun s=>J_y s))) (F_8 a0):=callL_le (tt:=tt) (FT:=FT) (SP:=SP) (j:=61) rfl (by kernel_rfl)
noncomputable def L_l (f0:(Int×Int×(List Int))→Option (Ex (Int×(List Int)) (Int×(List Int)))) (v1:Int) (v2:Int) (v3:List Int):Option (Ex (Int×(List Int)) (Int×(List Int))):=
 (bif (decide (v2<(v3.length:Int))) then
 (ix v3 v2).bind (fun z4=>(stx v3 v2 v1).bind (fun z5=>f0 ((IntKind.i64.wrap (v1+1)),(IntKind.i64.wrap (v2+1)),z5)))
 else some (.go (v1,v3)))
@[simp] noncomputable def J_1p (v6:Int) (v7:List Int):Option (Int×(List Int)):=
 some (v6,v7)
theorem U_14 (a0:List Int) (a1:Int):Le (joinK (loopF (fun f s=>L_l f s.1 s.2.1 s.2.2) (a1,0,a0))
 (fun s=>J_1p s.1 s.2)) (F_1a a0 a1):=callL_le (tt:=tt) (FT:=FT) (SP:=SP) (j:=62) rfl (by kernel_rfl)
noncomputable def L_k (a0:List SNode) (f0:(Int×Int×Int)→Option (Ex Int (Int×Int))) (v1:Int) (v2:Int) (v3:Int):Option (Ex Int (Int×Int)):=
 (bif (decide (v3<(a0.length:Int))) then
 (ix a0 v3).bind (fun z4=>(bif (z4.1 != v1) then
 some (.ret (-1))
 else(ix a0 v3).bind (fun z5=>(F_8 (IntKind.i64.wrap (v1+1))).bind (fun y6=>(bif (!(z5.2.1.toList==y6.toList)) then
 some (.ret (-1))
 else(ix a0 v3).bind (fun z7=>(bif (z7.2.2.1 != (IntKind.i64.wrap ((IntKind.i64.wrap (v1+1))+1))) then
 some (.ret (-1))
 else(ix a0 v3).bind (fun z8=>(bif (z8.2.2.2.1 != (IntKind.i64.wrap ((IntKind.i64.wrap ((IntKind.i64.wrap (v1+1))+1))+1))) then
 some (.ret (-1))
 else(ix a0 v3).bind (fun z9=>(bif (z9.2.2.2.2.1 != (IntKind.i64.wrap ((IntKind.i64.wrap ((IntKind.i64.wrap ((IntKind.i64.wrap (v1+1))+1))+1))+1))) then
 some (.ret (-1))
 else(ix a0 v3).bind (fun z10=>(remx (IntKind.i64.wrap ((IntKind.i64.wrap ((IntKind.i64.wrap ((IntKind.i64.wrap ((IntKind.i64.wrap (v1+1))+1))+1))+1))+1)) 3).bind (fun z11=>(bif (z10.2.2.2.2.2.1 != (z11==0)) then
 some (.ret (-1))
 else(ix a0 v3).bind (fun z12=>(F_19 z12.2.2.2.2.2.2.1 (IntKind.i64.wrap ((IntKind.i64.wrap ((IntKind.i64.wrap ((IntKind.i64.wrap ((IntKind.i64.wrap ((IntKind.i64.wrap (v1+1))+1))+1))+1))+1))+1))).bind (fun y13=>(bif (decide (y13<0)) then
 some (.ret (-1))
 else f0 (y13,v2,(IntKind.i64.wrap (v3+1))))))))))))))))))))
 else some (.go (v1,v2)))
@[simp] noncomputable def J_1o (v14:Int) (v15:Int):Option Int:=
 some v14
theorem U_13 (a0:List SNode) (a1:Int):Le (joinK (loopF (fun f s=>L_k a0 f s.1 s.2.1 s.2.2) (a1,0,0))
 (fun s=>J_1o s.1 s.2)) (F_k a0 a1):=callL_le (tt:=tt) (FT:=FT) (SP:=SP) (j:=63) rfl (by kernel_rfl)
noncomputable def L_j (a0:List Int) (f0:(Int×Int×Int)→Option (Ex Int (Int×Int))) (v1:Int) (v2:Int) (v3:Int):Option (Ex Int (Int×Int)):=
 (bif (decide (v3<(a0.length:Int))) then
 (ix a0 v3).bind (fun z4=>(bif (z4 != v1) then
 some (.ret (-1))
 else f0 ((IntKind.i64.wrap (v1+1)),v2,(IntKind.i64.wrap (v3+1)))))
 else some (.go (v1,v2)))
@[simp] noncomputable def J_1n (v5:Int) (v6:Int):Option Int:=
 some v5
theorem U_12 (a0:List Int) (a1:Int):Le (joinK (loopF (fun f s=>L_j a0 f s.1 s.2.1 s.2.2) (a1,0,0))
 (fun s=>J_1n s.1 s.2)) (F_19 a0 a1):=callL_le (tt:=tt) (FT:=FT) (SP:=SP) (j:=64) rfl (by kernel_rfl)
end Go.Proofs.YtnclgkplpjpnfaaDoorX
