/- The plain law: the plain functions answer as the statement says. -/
import Derived.Test.YtnclgkplpjpnfaaDoorGppA
set_option linter.all false
namespace Go.Proofs.YtnclgkplpjpnfaaDoorX
open Go Go.Proofs.YtnclgkplpjpnfaaDoorT
set_option linter.all false
@[simp] theorem V_2 (x lo hi:Int):F_0 x lo hi=some (okIn x lo hi):=(U_1i x lo hi).out (by
 simp[okIn];grind)
@[simp] theorem V_4 (x lo hi:Int):F_2 x lo hi=some (okIn x lo hi):=(U_l x lo hi).out (by
 simp[okIn];grind)
@[simp] theorem V_q (x:Int):F_6 x=some (okIn x 0 63):=(U_m x).out (by simp)
@[simp] theorem V_c (x:Int):F_g x=some (okIn x 0 39):=(U_o x).out (by simp)
@[simp] theorem V_b (x:Int):F_u x=some (okIn x (-1000000) 1000000):=(U_n x).out (by simp)
@[simp] theorem V_g (x:Int):F_7 x=some (okIn x 0 63):=(U_1m x).out (by simp)
@[simp] theorem V_f (x:Int):F_n x=some (okIn x (-1000000) 1000000):=(U_1k x).out (by simp)
@[simp] theorem V_1 (k:Int):F_l k=some (arity k):=(U_1c k).out (by
 simp[arity];grind)
@[simp] theorem V_7 (k:Int):F_c k=some (arity k):=(U_d k).out (by
 simp[arity];grind)
theorem V_9 {w:ByteArray}(hw:w.size≤2147483648):F_e w=some (wordOk w):=(U_j w).out (by
 have e:=loop_chk (f:=fun f s=>L_8 w f s.1 s.2) (bl w) (fun i c=>okIn c 97 122||(!(decide (i=0))&&okIn c 48 57)) false
  (fun i x a g hx=>by
   have hl:=(List.getElem?_eq_some_iff.1 hx).1
   rw[bl_len] at hl
   have h1:decide ((i:Int)<(w.size:Int))=true:=by simpa using hl
   simp only[L_8,h1,cond_true,bix_some hx,Option.bind_some,wrap_nat (show i<9223372036854775807 by omega),okIn,J_q,J_r,joinK_bif,joinK_go,joinK_ret]
   grind)
  (fun a g=>by simp[L_8,bl_len]) false
 rw[e]
 simp only[wordOk,wordOkL,bl_len]
 cases allI (fun i c=>okIn c 97 122||(!(decide (i=0))&&okIn c 48 57)) (bl w) 0 <;> simp)
theorem wordOk_len {w:ByteArray}(h:wordOk w=true):1≤w.size∧w.size≤12:=by
 simp only[wordOk,wordOkL,Bool.and_eq_true,bl_len,okIn_iff] at h
 omega
theorem V_3 (w:ByteArray):F_m w=some (wordOk w):=(U_1g w).out (by
 by_cases hw:okIn w.size 1 12=true
 ·have hw':=okIn_iff.1 hw
  have hb:0<(bl w).length:=by rw[bl_len];omega
  have hx0:(bl w)[0]?=some (bl w)[0]:=List.getElem?_eq_getElem hb
  have e0:=bix_some hx0
  simp only[V_2,Option.bind_some,hw,Bool.not_true,cond_false]
  rw[show(0:Int)=((0:Nat):Int) from rfl,e0]
  simp only[Option.bind_some,joinK_go,J_13]
  have e:=loop_chk (f:=fun f s=>L_f w f s.1 s.2) (bl w) (fun i c=>okIn c 97 122||okIn c 48 57) false
   (fun i x a g hx=>by
    have hl:=(List.getElem?_eq_some_iff.1 hx).1
    rw[bl_len] at hl
    have h1:decide ((i:Int)<(w.size:Int))=true:=by simpa using hl
    simp only[L_f,h1,cond_true,bix_some hx,Option.bind_some,wrap_nat (show i<9223372036854775807 by omega),okIn,J_14,joinK_bif,joinK_go,joinK_ret]
    grind)
   (fun a g=>by simp[L_f,bl_len]) false
  rw[e]
  have hlen:okIn ((bl w).length:Int) 1 12=true:=by rw[bl_len];exact hw
  simp only[wordOk,wordOkL,hlen,Bool.and_true]
  generalize bl w=l at hb
  match l,hb with
  |c::l,_=>
   have key:∀(l:List Int) (i:Nat),i≠0→allI (fun i c=>okIn c 97 122||(!(decide (i=0))&&okIn c 48 57)) l i=allI (fun i c=>okIn c 97 122||okIn c 48 57) l i:=by
    intro l
    induction l with
    |nil=>intro i _;rfl
    |cons x xs ih=>intro i hi;simp[allI,hi,ih (i+1) (by omega)]
   simp only[allI,key l 1 (by omega),List.getElem_cons_zero]
   cases allI (fun i c=>okIn c 97 122||okIn c 48 57) l (0+1) <;> simp[okIn] <;> grind
 ·have hw':okIn w.size 1 12=false:=by simpa using hw
  simp[hw',wordOk,wordOkL,bl_len])
end Go.Proofs.YtnclgkplpjpnfaaDoorX
namespace Go.Proofs.YtnclgkplpjpnfaaDoorX
open Go Go.Proofs.YtnclgkplpjpnfaaDoorT
set_option linter.all false
theorem V_u {a b:List Int}(ha:a.length≤2147483648):F_1e a b=some (decide (a=b)):=(U_18 a b).out (by
 by_cases hl:a.length=b.length
 ·have h0:((a.length:Int) != (b.length:Int))=false:=by simp[hl]
  rw[h0]
  have e:=loop_chk (f:=fun f s=>L_9 a b f s.1 s.2) (a.zip b) (fun _ x=>decide (x.1=x.2)) false
   (fun i x v g hx=>by
    obtain⟨h1,h2⟩:=List.getElem?_zip_eq_some.1 hx
    have l1:=(List.getElem?_eq_some_iff.1 h1).1
    simp only[L_9,lt_nat h1,cond_true,ix_some h1,ix_some h2,Option.bind_some,wrap_nat (show i<9223372036854775807 by omega)]
    by_cases h:x.1=x.2 <;> simp[h,bne_dec])
   (fun v g=>by simp[L_9,hl]) false
  rw[e,allI_const]
  have:(a.zip b).all (fun x=>decide (x.1=x.2))=decide (a=b):=by
   clear e h0 ha
   induction a generalizing b with
   |nil=>cases b <;> simp_all
   |cons x xs ih=>
    cases b with
    |nil=>simp at hl
    |cons y ys=>
     simp only[List.length_cons,Nat.add_right_cancel_iff] at hl
     simp only[List.zip_cons_cons,List.all_cons,ih hl,List.cons.injEq]
     by_cases h1:x=y <;> by_cases h2:xs=ys <;> simp[h1,h2]
  rw[this]
  cases decide (a=b) <;> simp
 ·have h0:((a.length:Int) != (b.length:Int))=true:=by simp[bne];omega
  have:a≠b:=fun e=>hl (by rw[e])
  simp[h0,this])
theorem V_0 {a b:SNode}(ha:a.2.2.2.2.2.2.1.length≤2147483648):F_x a b=some (decide (a=b)):=(U_s a b).out (by
 obtain⟨k,name,col,op,num,slot,cols,u⟩:=a
 obtain⟨k',name',col',op',num',slot',cols',u'⟩:=b
 simp only[V_u ha,beq_toList]
 simp only[Prod.mk.injEq,beq_iff_eq]
 by_cases h1:k=k' <;> by_cases h2:name=name' <;> by_cases h3:col=col' <;> by_cases h4:op=op' <;> by_cases h5:num=num' <;> cases slot <;> cases slot' <;> simp[h1,h2,h3,h4,h5,beq_dec])
@[simp] theorem V_m (x:Int):F_q x=some (!okIn x 0 63):=(U_f x).out (by simp)
theorem findI_ge {T:Type}{p:T→Bool}{l:List T}:(match findI p l 0 with|some j=>decide ((j:Int)≥0)|none=>decide ((-1:Int)≥0))=l.any p:=by
 cases h:findI p l 0 with
 |none=>rw[findI_none.1 h];rfl
 |some j=>
  have:l.any p=true:=by
   cases ha:l.any p with
   |true=>rfl
   |false=>rw[findI_none.2 ha] at h;cases h
  rw[this];simp
def fint (o:Option Nat):Int:=match o with|some j=>j|none=>-1
@[simp] theorem fint_neg (o:Option Nat):decide (fint o<0)=o.isNone:=by
 cases o with
 |none=>rfl
 |some j=>exact nat_neg
@[simp] theorem fint_some (j:Nat):fint (some j)=(j:Int):=rfl
@[simp] theorem fint_none:fint none=-1:=rfl
theorem V_w {l:List Int}(hl:l.length≤2147483648):F_1g l=some (fint (findI (fun x=>!okIn x 0 63) l 0)):=(U_1a l).out (by
 have e:=loop_find (f:=fun f s=>L_b l f s.1 s.2) l (fun x=>!okIn x 0 63) (fun i=>(i:Int))
  (fun i x v g hx=>by
   have l1:=(List.getElem?_eq_some_iff.1 hx).1
   simp only[L_b,lt_nat hx,cond_true,ix_some hx,Option.bind_some,V_m,wrap_nat (show i<9223372036854775807 by omega)])
  (fun v g=>by simp[L_b]) 0
 rw[e]
 cases findI (fun x=>!okIn x 0 63) l 0 <;> simp[fint])
theorem fint_ge {T:Type}{p:T→Bool}{l:List T}:decide (fint (findI p l 0)≥0)=l.any p:=by
 rw[←findI_ge]
 cases findI p l 0 <;> rfl
theorem V_t {l:List Int}(hl:l.length≤2147483648):F_1d l=some (l.any fun x=>!okIn x 0 63):=(U_17 l).out (by
 simp only[V_w hl,Option.bind_some,fint_ge])
theorem all_not_any {T:Type}(p:T→Bool):∀l:List T,(!l.any fun x=>!p x)=l.all p
 |[]=>rfl
 |x::xs=>by simp[←all_not_any p xs]
structure BNode (n:Nd):Prop where
 name:n.2.1.size≤2147483648
 cols:n.2.2.2.2.2.2.1.length≤2147483648
theorem V_l {n:SNode}(hb:BNode n):F_p n=some (nodeOk n):=(U_e n).out (by
 obtain⟨k,name,col,op,num,slot,cols,u⟩:=n
 obtain⟨hn,hc⟩:=hb
 simp only at hn hc
 simp only[V_9 hn,V_q,V_4,V_c,V_b,V_t hc,Option.bind_some,all_not_any]
 by_cases h0:k=0
 ·subst h0
  simp only[nodeOk,beq_self_eq_true,cond_true,joinK_go,J_0]
  simp only[V_0 (a:=(0,ByteArray.empty,col,op,num,slot,cols,())) hc]
  cases wordOk name <;> cases slot <;> simp <;> grind
 have e0:(k==0)=false:=by simpa using h0
 by_cases h1:k=1
 ·subst h1
  simp only[nodeOk,e0,beq_self_eq_true,cond_true,cond_false,joinK_bif,joinK_go,J_0,J_i,J_j,V_c,V_b,Option.bind_some]
  simp only[V_0 (a:=(0,name,0,0,0,false,cols,())) hc]
  simp only[okIn,Prod.mk.injEq,Bool.decide_and]
  generalize decide (name=ByteArray.empty)=dn
  generalize decide (cols=[])=dc
  by_cases hz:num=0
  ·subst hz
   by_cases h2:op=3 <;> cases slot <;> cases dn <;> cases dc <;> simp[h2] <;> grind
  ·by_cases h2:op=3 <;> cases slot <;> cases dn <;> cases dc <;> simp[h2,hz] <;> grind
 have e1:(k==1)=false:=by simpa using h1
 by_cases h2:k=2
 ·subst h2
  simp only[nodeOk,e0,e1,beq_self_eq_true,cond_true,cond_false,joinK_bif,joinK_go,J_0,J_k,Option.bind_some]
  simp only[V_0 (a:=(0,name,col,op,num,slot,[],())) (by simp)]
  cases cols.all (fun c=>okIn c 0 63) <;> cases okIn cols.length 1 6 <;> cases slot <;> simp <;> grind
 have e2:(k==2)=false:=by simpa using h2
 by_cases h3:k=3
 ·subst h3
  simp only[nodeOk,e0,e1,e2,beq_self_eq_true,cond_true,cond_false,joinK_bif,joinK_go,J_0,J_l,Option.bind_some]
  simp only[V_0 (a:=(0,name,0,op,0,slot,cols,())) hc]
  cases okIn col 0 63 <;> cases okIn num 0 63 <;> cases slot <;> simp <;> grind
 have e3:(k==3)=false:=by simpa using h3
 by_cases h5:k=5
 ·subst h5
  simp only[nodeOk,e0,e1,e2,e3,beq_self_eq_true,cond_true,cond_false,joinK_bif,joinK_go,J_0,Option.bind_some]
  simp only[V_0 (a:=(0,name,0,op,num,slot,cols,())) hc]
  cases okIn col 0 63 <;> cases slot <;> simp <;> grind
 have e5:(k==5)=false:=by simpa using h5
 by_cases h6:k=6
 ·subst h6
  simp only[nodeOk,e0,e1,e2,e3,e5,beq_self_eq_true,cond_true,cond_false,joinK_bif,joinK_go,J_0,J_m,Option.bind_some]
  simp only[V_0 (a:=(0,name,col,op,0,false,cols,())) hc]
  cases okIn num 0 1000000 <;> cases okIn num 0 39 <;> cases slot <;> simp <;> grind
 have e6:(k==6)=false:=by simpa using h6
 simp only[nodeOk,e0,e1,e2,e3,e5,e6,h0,h1,h2,h3,h5,h6,cond_false,joinK_bif,joinK_go,J_n,if_false]
 by_cases h4:k=4
 ·subst h4
  simp only[beq_self_eq_true,cond_true,joinK_go,J_0,V_0 (a:=(0,name,col,op,num,slot,cols,())) hc]
  cases slot <;> simp <;> grind
 have e4:(k==4)=false:=by simpa using h4
 by_cases h7:k=7
 ·subst h7
  simp only[e4,beq_self_eq_true,cond_true,cond_false,joinK_go,J_0,V_0 (a:=(0,name,col,op,num,slot,cols,())) hc]
  cases slot <;> simp <;> grind
 have e7:(k==7)=false:=by simpa using h7
 simp[e4,e7,h4,h7])
theorem V_y {n:SNode}(hb:BNode n):F_1i n=some (nodeOk n):=(U_1d n).out (by
 obtain⟨k,name,col,op,num,slot,cols,u⟩:=n
 obtain⟨hn,hc⟩:=hb
 simp only at hn hc
 have hlen:decide ((cols.length:Int)>0)=!decide (cols=[]):=by cases cols <;> simp <;> omega
 have e:=loop_chk (f:=fun f s=>L_d (k,name,col,op,num,slot,cols,u) f s.1 s.2) cols (fun _ x=>okIn x 0 63) (Ex.ret false)
   (fun i x v g hx=>by
    have l1:=(List.getElem?_eq_some_iff.1 hx).1
    simp only[L_d,lt_nat hx,cond_true,ix_some hx,Option.bind_some,V_g,wrap_nat (show i<9223372036854775807 by omega)]
    cases okIn x 0 63 <;> rfl)
   (fun v g=>by simp[L_d]) false
 rw[allI_const] at e
 simp only[V_2,Option.bind_some,beq_toList,hlen,J_z,J_10,V_3,V_g,V_f,e]
 simp only[nodeOk]
 have hne:∀a b:Int,(a != b)=!decide (a=b):=fun _ _=>rfl
 have heq:∀a b:Int,(a==b)=decide (a=b):=fun _ _=>rfl
 simp only[hne,heq]
 generalize decide (name=ByteArray.empty)=dn
 generalize decide (cols=[])=dc
 by_cases h0:k=0
 ·subst h0
  cases dn <;> cases dc <;> cases slot <;> cases wordOk name <;> simp <;> grind
 by_cases h1:k=1
 ·subst h1
  cases dn <;> cases dc <;> cases slot <;> simp[okIn] <;> grind
 by_cases h2:k=2
 ·subst h2
  cases dn <;> cases dc <;> cases slot <;> cases cols.all (fun c=>okIn c 0 63) <;> cases okIn cols.length 1 6 <;> simp <;> grind
 by_cases h3:k=3
 ·subst h3
  cases dn <;> cases dc <;> cases slot <;> simp[okIn] <;> grind
 by_cases h5:k=5
 ·subst h5
  cases dn <;> cases dc <;> cases slot <;> simp[okIn] <;> grind
 by_cases h6:k=6
 ·subst h6
  cases dn <;> cases dc <;> cases slot <;> simp[okIn] <;> grind
 by_cases h4:k=4
 ·subst h4
  cases dn <;> cases dc <;> cases slot <;> simp[okIn] <;> grind
 by_cases h7:k=7
 ·subst h7
  cases dn <;> cases dc <;> cases slot <;> simp[okIn] <;> grind
 cases dn <;> cases dc <;> cases slot <;> simp[h0,h1,h2,h3,h4,h5,h6,h7] <;> grind)
end Go.Proofs.YtnclgkplpjpnfaaDoorX
namespace Go.Proofs.YtnclgkplpjpnfaaDoorX
open Go Go.Proofs.YtnclgkplpjpnfaaDoorT PT
set_option linter.all false
structure BPlan (p:List Nd):Prop where
 len:p.length≤1073741824
 nodes:∀n∈p,BNode n
theorem mem_of_get {T:Type}{l:List T}{i:Nat}{x:T}(h:l[i]?=some x):x∈l:=List.mem_of_getElem? h
theorem V_o {n:SNode}(hb:BNode n):F_s n=some (!nodeOk n):=(U_i n).out (by
 obtain⟨k,name,col,op,num,slot,cols,u⟩:=n
 have hb':BNode (k,name,col,op,num,slot,cols,()):=hb
 simp only[V_l hb',Option.bind_some])
theorem V_v {l:List SNode}(hb:BPlan l):F_1f l=some (fint (findI (fun x=>!nodeOk x) l 0)):=(U_19 l).out (by
 have e:=loop_find (f:=fun f s=>L_a l f s.1 s.2) l (fun x=>!nodeOk x) (fun i=>(i:Int))
  (fun i x v g hx=>by
   have l1:=(List.getElem?_eq_some_iff.1 hx).1
   have:=hb.len
   simp only[L_a,lt_nat hx,cond_true,ix_some hx,Option.bind_some,V_o (hb.nodes x (mem_of_get hx)),wrap_nat (show i<9223372036854775807 by omega)])
  (fun v g=>by simp[L_a]) 0
 rw[e]
 cases findI (fun x=>!nodeOk x) l 0 <;> simp[fint])
theorem V_s {l:List SNode}(hb:BPlan l):F_1c l=some (l.any fun x=>!nodeOk x):=(U_16 l).out (by
 simp only[V_v hb,Option.bind_some,fint_ge])
theorem parse_len:∀{r:Nat}{l:List Nd}{t:PT}{q:List Nd},parse r l=some (t,q)→q.length<l.length
 |0,_,_,_,h=>by simp[parse] at h
 |r+1,[],_,_,h=>by simp[parse] at h
 |r+1,n::l,t,q,h=>by
  simp only[parse] at h
  split at h
  ·split at h
   ·rename_i a q1 hp
    cases h
    have:=parse_len hp
    simp;omega
   ·cases h
  ·split at h
   ·split at h
    ·rename_i a q1 hp
     have:=parse_len hp
     split at h
     ·rename_i b q2 hp2
      cases h
      have:=parse_len hp2
      simp;omega
     ·cases h
    ·cases h
   ·cases h;simp
theorem parse_drop {r:Nat}{l:List Nd}{t:PT}{q:List Nd}(h:parse r l=some (t,q)):q=l.drop (l.length-q.length):=by
 suffices ∃u,l=u++q by
  obtain⟨u,rfl⟩:=this
  simp
 induction r generalizing l t q with
 |zero=>simp[parse] at h
 |succ r ih=>
  cases l with
  |nil=>simp[parse] at h
  |cons n l=>
   simp only[parse] at h
   split at h
   ·split at h
    ·rename_i a q1 hp
     cases h
     obtain⟨u,rfl⟩:=ih hp
     exact⟨n::u,by simp⟩
    ·cases h
   ·split at h
    ·split at h
     ·rename_i a q1 hp
      split at h
      ·rename_i b q2 hp2
       cases h
       obtain⟨u,rfl⟩:=ih hp
       obtain⟨v,rfl⟩:=ih hp2
       exact⟨n::(u++v),by simp⟩
      ·cases h
     ·cases h
    ·cases h;exact⟨[n],rfl⟩
def endM (p:List Nd) (r k:Nat):Int:=match parse r (p.drop k) with
 |some (_,q)=>(p.length:Int)-q.length
 |none=>-1
theorem endM_some {p:List Nd}{r k:Nat}{t:PT}{q:List Nd}(h:parse r (p.drop k)=some (t,q)):∃j:Nat,endM p r k=(j:Int)∧k<j∧j≤p.length∧q=p.drop j:=by
 have h1:=parse_len h
 have h2:=parse_drop h
 simp only[List.length_drop] at h1 h2
 refine⟨p.length-q.length,?_,by omega,by omega,?_⟩
 ·simp only[endM,h];omega
 ·rw[List.drop_drop,show k+(p.length-k-q.length)=p.length-q.length by omega] at h2
  exact h2
theorem wrap_sml {x:Int}(h:-9223372036854775808≤x) (h':x≤9223372036854775807):IntKind.i64.wrap x=x:=by
 rw[IntKind.wrap_i64];omega
theorem arity_cases {k:Int}(h:0≤arity k):arity k=0∨arity k=1∨arity k=2:=by
 revert h
 unfold arity
 repeat' split
 all_goals simp
theorem V_a {p:List SNode}(hp:p.length≤1073741824)(ha:∀n∈p,0≤arity n.1):∀(r:Nat) (k:Nat) (d:Int),r≤11→d=11-r→F_f p k d=some (endM p r k)
 |0,k,d,_,hd=>(U_2 p k d).out (by
  subst hd
  have:endM p 0 k=-1:=rfl
  rw[this]
  simp)
 |r+1,k,d,hr,hd=>(U_2 p k d).out (by
  have hd2:decide (d>10)=false:=by simp;omega
  by_cases hk:k<p.length
  ·have hx:p[k]?=some p[k]:=List.getElem?_eq_getElem hk
   have h1:decide ((k:Int)≥(p.length:Int))=false:=by simp;omega
   have hdr:p.drop k=p[k]::p.drop (k+1):=List.drop_eq_getElem_cons hk
   simp only[h1,cond_false,hd2,joinK_go,J_b,ix_some hx,Option.bind_some,V_7,wrap_nat (show k<9223372036854775807 by omega)]
   have ha':=ha p[k] (mem_of_get hx)
   have ih:=fun k=>V_a hp ha r k (IntKind.i64.wrap (d+1)) (by omega) (by rw[wrap_sml (by omega) (by omega)];omega)
   rcases arity_cases ha' with h|h|h
   ·rw[h]
    rw[loopF_of (r:=.go (0,((k+1:Nat):Int))) 1 (by
     intro n hn
     obtain⟨m,rfl⟩:∃m,n=m+1:=⟨n-1,by omega⟩
     simp[loopK,L_2])]
    simp only[joinK_go,J_6,endM,hdr,parse,h]
    simp;omega
   ·rw[h]
    cases hq:parse r (p.drop (k+1)) with
    |none=>
     have e1:endM p r (k+1)=-1:=by simp only[endM,hq]
     rw[loopF_of (r:=.ret (-1)) 1 (by
      intro n hn
      obtain⟨m,rfl⟩:∃m,n=m+1:=⟨n-1,by omega⟩
      simp only[loopK,L_2,ih,Option.bind_some,e1]
      simp)]
     simp only[joinK_ret,endM,hdr,parse,h,hq]
     simp
    |some x=>
     obtain⟨t,q⟩:=x
     obtain⟨j,e1,hj,hj2,hj3⟩:=endM_some hq
     rw[loopF_of (r:=.go (0,(j:Int))) 2 (by
      intro n hn
      obtain⟨m,rfl⟩:∃m,n=m+2:=⟨n-2,by omega⟩
      simp only[loopK,L_2,ih,Option.bind_some,e1]
      simp)]
     simp only[joinK_go,J_6,endM,hdr,parse,h,hq,if_true]
     rw[←e1];simp only[endM,hq]
   ·rw[h]
    cases hq:parse r (p.drop (k+1)) with
    |none=>
     have e1:endM p r (k+1)=-1:=by simp only[endM,hq]
     rw[loopF_of (r:=.ret (-1)) 1 (by
      intro n hn
      obtain⟨m,rfl⟩:∃m,n=m+1:=⟨n-1,by omega⟩
      simp only[loopK,L_2,ih,Option.bind_some,e1]
      simp)]
     simp only[joinK_ret,endM,hdr,parse,h,hq]
     simp
    |some x=>
     obtain⟨t,q⟩:=x
     obtain⟨j,e1,hj,hj2,hj3⟩:=endM_some hq
     subst hj3
     cases hq2:parse r (p.drop j) with
     |none=>
      have e2:endM p r j=-1:=by simp only[endM,hq2]
      rw[loopF_of (r:=.ret (-1)) 2 (by
       intro n hn
       obtain⟨m,rfl⟩:∃m,n=m+2:=⟨n-2,by omega⟩
       simp only[loopK,L_2,ih,Option.bind_some,e1,e2]
       simp)]
      simp only[joinK_ret,endM,hdr,parse,h,hq,hq2]
      simp
     |some x=>
      obtain⟨t2,q2⟩:=x
      obtain⟨j2,e2,hj2,hj22,hj23⟩:=endM_some hq2
      rw[loopF_of (r:=.go (0,(j2:Int))) 3 (by
       intro n hn
       obtain⟨m,rfl⟩:∃m,n=m+3:=⟨n-3,by omega⟩
       have w:IntKind.i64.wrap (1+1)=2:=by rw[wrap_sml] <;> omega
       simp only[loopK,L_2,ih,Option.bind_some,e1,e2]
       simp[w])]
      simp only[joinK_go,J_6,endM,hdr,parse,h,hq,hq2,if_true]
      rw[←e2];simp only[endM,hq2]
      simp
  ·have h1:decide ((k:Int)≥(p.length:Int))=true:=by simp;omega
   have hdr:p.drop k=[]:=List.drop_eq_nil_of_le (by omega)
   simp only[h1,cond_true,joinK_go,J_b,endM,hdr,parse])
end Go.Proofs.YtnclgkplpjpnfaaDoorX
namespace Go.Proofs.YtnclgkplpjpnfaaDoorX
open Go Go.Proofs.YtnclgkplpjpnfaaDoorT PT
set_option linter.all false
def endD (p:List Nd) (r k:Nat):Int:=match parse r (p.drop k) with
 |some (t,_)=>t.depth
 |none=>0
theorem parse_depth:∀{r:Nat}{l:List Nd}{t:PT}{q:List Nd},parse r l=some (t,q)→t.depth≤r
 |0,_,_,_,h=>by simp[parse] at h
 |r+1,[],_,_,h=>by simp[parse] at h
 |r+1,n::l,t,q,h=>by
  simp only[parse] at h
  split at h
  ·split at h
   ·rename_i a q1 hp
    cases h
    have:=parse_depth hp
    simp[PT.depth];omega
   ·cases h
  ·split at h
   ·split at h
    ·rename_i a q1 hp
     have:=parse_depth hp
     split at h
     ·rename_i b q2 hp2
      cases h
      have:=parse_depth hp2
      simp[PT.depth];omega
     ·cases h
    ·cases h
   ·cases h;simp[PT.depth]
theorem V_h {p:List SNode}(hp:p.length≤1073741824)(ha:∀n∈p,0≤arity n.1):∀(r:Nat) (k:Nat) (d:Int),r≤11→d=r→F_o p k d=some (endM p r k,endD p r k)
 |0,k,d,_,hd=>(U_b p k d).out (by
  subst hd
  have h1:endM p 0 k=-1:=rfl
  have h2:endD p 0 k=0:=rfl
  rw[h1,h2]
  simp)
 |r+1,k,d,hr,hd=>(U_b p k d).out (by
  have hd2:(d==0)=false:=by simp;omega
  by_cases hk:k<p.length
  ·have hx:p[k]?=some p[k]:=List.getElem?_eq_getElem hk
   have h1:decide ((k:Int)≥(p.length:Int))=false:=by simp;omega
   have hdr:p.drop k=p[k]::p.drop (k+1):=List.drop_eq_getElem_cons hk
   simp only[h1,cond_false,hd2,joinK_go,J_f,wrap_nat (show k<9223372036854775807 by omega)]
   have ha':=ha p[k] (mem_of_get hx)
   have ih:=fun k=>V_h hp ha r k (IntKind.i64.wrap (d-1)) (by omega) (by rw[wrap_sml (by omega) (by omega)];omega)
   rcases arity_cases ha' with h|h|h
   ·rw[loopF_of (r:=.go (0,0,((k+1:Nat):Int),0)) 1 (by
     intro n hn
     obtain⟨m,rfl⟩:∃m,n=m+1:=⟨n-1,by omega⟩
     simp only[loopK,L_3,ix_some hx,Option.bind_some,V_1,h]
     simp)]
    simp only[joinK_go,J_9,endM,endD,hdr,parse,h]
    simp[PT.depth];omega
   ·cases hq:parse r (p.drop (k+1)) with
    |none=>
     have e1:endM p r (k+1)=-1:=by simp only[endM,hq]
     rw[loopF_of (r:=.ret ((-1),0)) 1 (by
      intro n hn
      obtain⟨m,rfl⟩:∃m,n=m+1:=⟨n-1,by omega⟩
      simp only[loopK,L_3,ix_some hx,Option.bind_some,V_1,h,ih,e1]
      simp)]
     simp only[joinK_ret,endM,endD,hdr,parse,h,hq]
     simp
    |some x=>
     obtain⟨t,q⟩:=x
     obtain⟨j,e1,hj,hj2,hj3⟩:=endM_some hq
     have e1d:endD p r (k+1)=(t.depth:Int):=by simp only[endD,hq]
     have hdp:=parse_depth hq
     have hpos:=t.depth_pos
     have hgt:decide ((t.depth:Int)>0)=true:=by simp;omega
     rw[loopF_of (r:=.go (0,0,(j:Int),(t.depth:Int))) 2 (by
      intro n hn
      obtain⟨m,rfl⟩:∃m,n=m+2:=⟨n-2,by omega⟩
      simp only[loopK,L_3,ix_some hx,Option.bind_some,V_1,h,ih,e1,e1d,hgt,cond_true]
      simp)]
     simp only[joinK_go,J_9,endM,endD,hdr,parse,h,hq,if_true,PT.depth]
     rw[←e1,wrap_nat (by omega)];simp only[endM,hq]
   ·cases hq:parse r (p.drop (k+1)) with
    |none=>
     have e1:endM p r (k+1)=-1:=by simp only[endM,hq]
     rw[loopF_of (r:=.ret ((-1),0)) 1 (by
      intro n hn
      obtain⟨m,rfl⟩:∃m,n=m+1:=⟨n-1,by omega⟩
      simp only[loopK,L_3,ix_some hx,Option.bind_some,V_1,h,ih,e1]
      simp)]
     simp only[joinK_ret,endM,endD,hdr,parse,h,hq]
     simp
    |some x=>
     obtain⟨t,q⟩:=x
     obtain⟨j,e1,hj,hj2,hj3⟩:=endM_some hq
     have e1d:endD p r (k+1)=(t.depth:Int):=by simp only[endD,hq]
     have hdp:=parse_depth hq
     have hpos:=t.depth_pos
     have hgt:decide ((t.depth:Int)>0)=true:=by simp;omega
     subst hj3
     cases hq2:parse r (p.drop j) with
     |none=>
      have e2:endM p r j=-1:=by simp only[endM,hq2]
      rw[loopF_of (r:=.ret ((-1),0)) 2 (by
       intro n hn
       obtain⟨m,rfl⟩:∃m,n=m+2:=⟨n-2,by omega⟩
       simp only[loopK,L_3,ix_some hx,Option.bind_some,V_1,h,ih,e1,e2,e1d,hgt,cond_true]
       simp[ih,e2])]
      simp only[joinK_ret,endM,endD,hdr,parse,h,hq,hq2]
      simp
     |some x=>
      obtain⟨t2,q2⟩:=x
      obtain⟨j2,e2,hj2,hj22,hj23⟩:=endM_some hq2
      have e2d:endD p r j=(t2.depth:Int):=by simp only[endD,hq2]
      have hdp2:=parse_depth hq2
      rw[loopF_of (r:=.go (0,0,(j2:Int),((max t.depth t2.depth:Nat):Int))) 3 (by
       intro n hn
       obtain⟨m,rfl⟩:∃m,n=m+3:=⟨n-3,by omega⟩
       have w:IntKind.i64.wrap (1+1)=2:=by rw[wrap_sml] <;> omega
       simp only[loopK,L_3,ix_some hx,Option.bind_some,V_1,h,ih,e1,e1d,hgt,cond_true]
       simp only[ih,e2,e2d,joinK_go,J_1a,joinK_bind,joinK_bif,Option.bind_some,nat_neg,cond_false]
       by_cases hm:t2.depth>t.depth
       ·have hmd:decide ((t2.depth:Int)>(t.depth:Int))=true:=by simp;omega
        rw[hmd,show max t.depth t2.depth=t2.depth by omega]
        simp[w]
       ·have hmd:decide ((t2.depth:Int)>(t.depth:Int))=false:=by simp;omega
        rw[hmd,show max t.depth t2.depth=t.depth by omega]
        simp[w])]
      simp only[joinK_go,J_9,endM,endD,hdr,parse,h,hq,hq2,if_true,PT.depth]
      rw[←e2,wrap_nat (by omega)];simp only[endM,hq2]
      simp[PT.depth]
  ·have h1:decide ((k:Int)≥(p.length:Int))=true:=by simp;omega
   have hdr:p.drop k=[]:=List.drop_eq_nil_of_le (by omega)
   simp only[h1,cond_true,joinK_go,J_f,endM,endD,hdr,parse])
theorem planOk_eq (p:List Nd)(hn:p.all nodeOk=true):(decide (endM p 10 0=(p.length:Int))&&okIn p.length 1 40)=planOk p:=by
 cases hl:okIn p.length 1 40 with
 |false=>simp[planOk,planT,hl]
 |true=>
  simp only[planOk,planT,hl,hn,and_self,if_true,Bool.and_true,endM,List.drop_zero]
  have hl':=okIn_iff.1 hl
  cases h:parse 10 p with
  |none=>simp
  |some x=>
   obtain⟨t,q⟩:=x
   have:=parse_len h
   cases q with
   |nil=>simp
   |cons a q=>simp at this ⊢;omega
theorem planOk_not {p:List Nd}(h:okIn p.length 1 40=false∨p.all nodeOk=false):planOk p=false:=by
 rcases h with h|h <;> simp[planOk,planT,h]
theorem V_n {p:List SNode}(hb:BPlan p):F_r p=some (planOk p):=(U_h p).out (by
 simp only[V_4,Option.bind_some,V_s hb,joinK_bif,joinK_go,J_p]
 cases hl:okIn p.length 1 40 with
 |false=>simp[planOk_not (.inl hl)]
 |true=>
  rw[←Bool.not_not (p.any _),all_not_any]
  cases hn:p.all nodeOk with
  |false=>simp[planOk_not (.inr hn)]
  |true=>
   have e:=V_a (p:=p) hb.len (fun n hm=>nodeOk_arity (by have:=List.all_eq_true.1 hn n hm;simpa using this)) 10 0 1 (by omega) (by omega)
   rw[show((0:Nat):Int)=0 from rfl] at e
   simp only[e,Option.bind_some,Bool.not_true,cond_false,beq_dec,←planOk_eq p hn,hl,Bool.and_true])
theorem V_10 {p:List SNode}(hb:BPlan p):F_1k p=some (planOk p):=(U_1f p).out (by
 simp only[V_2,Option.bind_some]
 have e:=loop_chk (f:=fun f s=>L_e p f s.1 s.2) p (fun _ x=>nodeOk x) false
  (fun i x v g hx=>by
   have l1:=(List.getElem?_eq_some_iff.1 hx).1
   have:=hb.len
   simp only[L_e,lt_nat hx,cond_true,ix_some hx,Option.bind_some,V_y (hb.nodes x (mem_of_get hx)),wrap_nat (show i<9223372036854775807 by omega)]
   cases nodeOk x <;> rfl)
  (fun v g=>by simp[L_e]) false
 rw[e,allI_const]
 cases hl:okIn p.length 1 40 with
 |false=>simp[planOk_not (.inl hl)]
 |true=>
  cases hn:p.all nodeOk with
  |false=>simp[planOk_not (.inr hn)]
  |true=>
   have e:=V_h (p:=p) hb.len (fun n hm=>nodeOk_arity (by have:=List.all_eq_true.1 hn n hm;simpa using this)) 10 0 10 (by omega) (by omega)
   rw[show((0:Nat):Int)=0 from rfl] at e
   simp only[e,Option.bind_some,Bool.not_true,cond_false,cond_true,joinK_go,J_12,beq_dec,←planOk_eq p hn,hl,Bool.and_true])
structure Good (t:PT):Prop where
 ok:t.ok
 deep:t.depth≤10
 nodes:∀n∈t.flat,nodeOk n=true
theorem PlanT.good {t:PT}(h:PlanT t):Good t:=⟨h.ok,h.deep,h.nodes⟩
theorem Good.c1 {n:Nd}{a:PT}(h:Good (.n1 n a)):Good a:=⟨h.ok.2,by have:=h.deep;simp[PT.depth] at this;omega,fun m hm=>h.nodes m (by simp[PT.flat,hm])⟩
theorem Good.l2 {n:Nd}{a b:PT}(h:Good (.n2 n a b)):Good a:=⟨h.ok.2.1,by have:=h.deep;simp[PT.depth] at this;omega,fun m hm=>h.nodes m (by simp[PT.flat,hm])⟩
theorem Good.r2 {n:Nd}{a b:PT}(h:Good (.n2 n a b)):Good b:=⟨h.ok.2.2,by have:=h.deep;simp[PT.depth] at this;omega,fun m hm=>h.nodes m (by simp[PT.flat,hm])⟩
theorem Good.hd {t:PT}(h:Good t):nodeOk t.hd=true:=h.nodes _ (by cases t <;> simp[PT.flat,PT.hd])
structure Pl (p:List Nd):Prop where
 len:p.length≤1073741824
 ar:∀n∈p,0≤arity n.1
theorem PlanT.pl {t:PT}(h:PlanT t):Pl t.flat:=⟨by have:=h.size;simp only[len_flat];omega,fun n hn=>nodeOk_arity (h.nodes n hn)⟩
theorem At.endM {p:List Nd}{k:Nat}{t:PT}(h:At p k t) (g:Good t):endM p 10 k=((k+t.size:Nat):Int):=by
 have hp:parse 10 (p.drop k)=some (t,p.drop (k+t.size)):=by rw[h.rest];exact flat_parse g.ok g.deep
 have:=h.le
 simp only[_root_.Go.Proofs.YtnclgkplpjpnfaaDoorX.endM,hp,List.length_drop]
 omega
theorem At.endD {p:List Nd}{k:Nat}{t:PT}(h:At p k t) (g:Good t):endD p 10 k=(t.depth:Int):=by
 have hp:parse 10 (p.drop k)=some (t,p.drop (k+t.size)):=by rw[h.rest];exact flat_parse g.ok g.deep
 simp only[_root_.Go.Proofs.YtnclgkplpjpnfaaDoorX.endD,hp]
end Go.Proofs.YtnclgkplpjpnfaaDoorX
namespace Go.Proofs.YtnclgkplpjpnfaaDoorX
open Go Go.Proofs.YtnclgkplpjpnfaaDoorT PT
set_option linter.all false
structure BSch (s:List Tb):Prop where
 len:s.length≤1073741824
 names:∀t∈s,t.1.size≤2147483648
def schP (s:List Tb) (i:Nat) (x:Tb):Bool:=wordOk x.1&&okIn x.2.1 1 6&&(decide (i=0)||match s[i-1]? with|some y=>less y.1 x.1|none=>true)
def schemaOk (s:List Tb):Bool:=allI (schP s) s 0&&decide (s.length≤8)
theorem allI_get {T:Type}{p:Nat→T→Bool}:∀{l:List T}{k:Nat},allI p l k=true→∀{i:Nat}{x:T},l[i]?=some x→p (k+i) x=true
 |[],_,_,_,_,h=>by simp at h
 |y::l,k,h,i,x,hx=>by
  simp only[allI,Bool.and_eq_true] at h
  cases i with
  |zero=>simp at hx;subst hx;exact h.1
  |succ i=>
   have:=allI_get h.2 (i:=i) (x:=x) (by simpa using hx)
   rw[show k+(i+1)=k+1+i by omega];exact this
def tabAt (s:List Tb) (name:ByteArray):Option Nat:=findI (fun t=>decide (t.1=name)) s 0
def oint (o:Option Int):Int:=match o with|some x=>x|none=>-1
def wT (s:List Tb):PT→Option Int
 |.n0 n=>match tabAt s n.2.1 with
  |some j=>match s[j]? with
   |some t=>some t.2.1
   |none=>none
  |none=>none
 |.n1 n a=>match wT s a with
  |none=>none
  |some w=>if n.1=2 then(if n.2.2.2.2.2.2.1.all (fun c=>decide (c<w))=true then some n.2.2.2.2.2.2.1.length else none)
   else if n.1=1∨n.1=5 then(if n.2.2.1<w then some w else none) else some w
 |.n2 n a b=>match wT s a,wT s b with
  |some w,some v=>if n.1=3 then(if n.2.2.1<w∧n.2.2.2.2.1<v∧w+v≤64 then some (w+v) else none) else if w=v then some w else none
  |_,_=>none
theorem nodeOk_keep {n:Nd}(h:nodeOk n=true)(hk:n.1=2):1≤n.2.2.2.2.2.2.1.length∧n.2.2.2.2.2.2.1.length≤6∧∀c∈n.2.2.2.2.2.2.1,0≤c∧c≤63:=by
 obtain⟨k,name,col,op,num,slot,cols,u⟩:=n
 simp only at hk
 subst hk
 simp[nodeOk,okIn] at h
 refine⟨by simp only;omega,by simp only;omega,?_⟩
 intro c hc
 exact h.2.1.1.1.1 c hc
end Go.Proofs.YtnclgkplpjpnfaaDoorX
namespace Go.Proofs.YtnclgkplpjpnfaaDoorX
open Go Go.Proofs.YtnclgkplpjpnfaaDoorT PT
set_option linter.all false
def widthOf (s:List Tb) (p:List Nd):Option Int:=if schemaOk s=true then(planT p).bind (wT s) else none
def typedOk (s:List Tb) (p:List Nd):Bool:=(widthOf s p).isSome
structure Typed (s:List Tb) (t:PT):Prop where
 plan:PlanT t
 sch:schemaOk s=true
 w:(wT s t).isSome=true
theorem typedOk_iff {s:List Tb}{p:List Nd}:typedOk s p=true↔∃t,p=t.flat∧Typed s t:=by
 unfold typedOk widthOf
 constructor
 ·intro h
  split at h
  ·rename_i hs
   cases hp:planT p with
   |none=>simp[hp] at h
   |some t=>
    simp only[hp,Option.bind_some] at h
    exact⟨t,(planT_some hp).2,(planT_some hp).1,hs,h⟩
  ·cases h
 ·rintro⟨t,rfl,h1,h2,h3⟩
  rw[if_pos h2,planT_flat h1]
  exact h3
end Go.Proofs.YtnclgkplpjpnfaaDoorX
namespace Go.Proofs.YtnclgkplpjpnfaaDoorX
open Go Go.Proofs.YtnclgkplpjpnfaaDoorT PT
set_option linter.all false
def sizesOk (s:List Tb) (sizes:List Int):Bool:=decide (sizes.length=s.length)&&sizes.all (fun x=>okIn x 0 1000)
def good (s:List Tb) (sizes:List Int) (p:List Nd):Bool:=typedOk s p&&sizesOk s sizes
theorem wT_c1 {s:List Tb}{n:Nd}{a:PT}(h:(wT s (.n1 n a)).isSome=true):(wT s a).isSome=true:=by
 simp only[wT] at h
 split at h
 ·cases h
 ·rename_i h';rw[h'];rfl
theorem wT_l2 {s:List Tb}{n:Nd}{a b:PT}(h:(wT s (.n2 n a b)).isSome=true):(wT s a).isSome=true:=by
 simp only[wT] at h
 split at h
 ·rename_i h' _;rw[h'];rfl
 ·cases h
theorem wT_r2 {s:List Tb}{n:Nd}{a b:PT}(h:(wT s (.n2 n a b)).isSome=true):(wT s b).isSome=true:=by
 simp only[wT] at h
 split at h
 ·rename_i _ h';rw[h'];rfl
 ·cases h
theorem quox_some {a b:Int}(h0:0≤a)(h1:a≤9223372036854775807)(hb:1≤b):quox a b=some (a / b):=by
 unfold quox
 have hb0:(b==0)=false:=by simp;omega
 rw[hb0,Int.tdiv_eq_ediv_of_nonneg h0]
 have:0≤a / b:=Int.ediv_nonneg h0 (by omega)
 have:a / b≤a:=Int.ediv_le_self _ h0
 rw[wrap_sml (by omega) (by omega)]
 rfl
end Go.Proofs.YtnclgkplpjpnfaaDoorX
namespace Go.Proofs.YtnclgkplpjpnfaaDoorX
open Go Go.Proofs.YtnclgkplpjpnfaaDoorT PT
set_option linter.all false
def subs:PT→List PT
 |.n0 n=>[.n0 n]
 |.n1 n a=>.n1 n a::subs a
 |.n2 n a b=>.n2 n a b::(subs a++subs b)
@[simp] theorem subs_len:∀t:PT,(subs t).length=t.size
 |.n0 _=>rfl
 |.n1 _ a=>by simp[subs,PT.size,subs_len a]
 |.n2 _ a b=>by simp[subs,PT.size,subs_len a,subs_len b]
theorem subs_at {p:List Nd}:∀{t:PT}{k:Nat},At p k t→∀{i:Nat}{u:PT},(subs t)[i]?=some u→At p (k+i) u
 |.n0 n,k,h,i,u,hu=>by
  cases i with
  |zero=>simp[subs] at hu;subst hu;exact h
  |succ i=>simp[subs] at hu
 |.n1 n a,k,h,i,u,hu=>by
  cases i with
  |zero=>simp[subs] at hu;subst hu;exact h
  |succ i=>
   have:=subs_at h.c1 (i:=i) (u:=u) (by simpa[subs] using hu)
   rwa [show k+(i+1)=k+1+i by omega]
 |.n2 n a b,k,h,i,u,hu=>by
  cases i with
  |zero=>simp[subs] at hu;subst hu;exact h
  |succ i=>
   have hu:(subs a++subs b)[i]?=some u:=by simpa[subs] using hu
   by_cases hi:i<a.size
   ·rw[List.getElem?_append_left (by simpa using hi)] at hu
    have:=subs_at h.l2 hu
    rwa [show k+(i+1)=k+1+i by omega]
   ·rw[List.getElem?_append_right (by simp;omega)] at hu
    have:=subs_at h.r2 hu
    rw[subs_len] at this
    rwa [show k+(i+1)=k+1+a.size+(i-a.size) by omega]
theorem subs_good:∀{t:PT},Good t→∀{u:PT},u∈subs t→Good u
 |.n0 n,g,u,hu=>by simp[subs] at hu;subst hu;exact g
 |.n1 n a,g,u,hu=>by
  simp only[subs,List.mem_cons] at hu
  rcases hu with rfl|hu
  ·exact g
  ·exact subs_good g.c1 hu
 |.n2 n a b,g,u,hu=>by
  simp only[subs,List.mem_cons,List.mem_append] at hu
  rcases hu with rfl|hu|hu
  ·exact g
  ·exact subs_good g.l2 hu
  ·exact subs_good g.r2 hu
theorem subs_w {s:List Tb}:∀{t:PT},(wT s t).isSome=true→∀{u:PT},u∈subs t→(wT s u).isSome=true
 |.n0 n,g,u,hu=>by simp[subs] at hu;subst hu;exact g
 |.n1 n a,g,u,hu=>by
  simp only[subs,List.mem_cons] at hu
  rcases hu with rfl|hu
  ·exact g
  ·exact subs_w (wT_c1 g) hu
 |.n2 n a b,g,u,hu=>by
  simp only[subs,List.mem_cons,List.mem_append] at hu
  rcases hu with rfl|hu|hu
  ·exact g
  ·exact subs_w (wT_l2 g) hu
  ·exact subs_w (wT_r2 g) hu
end Go.Proofs.YtnclgkplpjpnfaaDoorX
namespace Go.Proofs.YtnclgkplpjpnfaaDoorX
open Go Go.Proofs.YtnclgkplpjpnfaaDoorT PT
set_option linter.all false
def ovr (r:Int):Int×Int:=if r=0 then(1,1) else if r=1 then(1,5) else if r=2 then(6,6) else if r=3 then(5,5) else if r=4 then(1,4) else if r=5∨r=6 then(1,3) else if r=7 then(7,7) else if r=8 then(2,2) else if r=9 then(6,2) else if r=10 then(1,2) else if r=11 then(7,5) else(-1,-1)
theorem rules {r:Int}(h:okIn r 0 11=true):r=0∨r=1∨r=2∨r=3∨r=4∨r=5∨r=6∨r=7∨r=8∨r=9∨r=10∨r=11:=by
 have:=okIn_iff.1 h;omega
theorem ovr_out {r:Int}(h:okIn r 0 11=false):ovr r=(-1,-1):=by
 have h:¬(0≤r∧r≤11):=fun h'=>by rw[okIn_iff.2 h'] at h;cases h
 unfold ovr
 repeat' split
 all_goals first
  |rfl
  |omega
def limN (n m:Nd):Nd:=(n.1,n.2.1,n.2.2.1,n.2.2.2.1,min n.2.2.2.2.1 m.2.2.2.2.1,n.2.2.2.2.2.1,n.2.2.2.2.2.2.1,())
def colN (n:Nd) (c:Int):Nd:=(n.1,n.2.1,c,n.2.2.2.1,n.2.2.2.2.1,n.2.2.2.2.2.1,n.2.2.2.2.2.2.1,())
def colsN (n:Nd) (cs:List Int):Nd:=(n.1,n.2.1,n.2.2.1,n.2.2.2.1,n.2.2.2.2.1,n.2.2.2.2.2.1,cs,())
def pick (l:List Int) (c:Int):Int:=(l[c.toNat]?).getD 0
def turnC (s:List Tb) (r:Int) (n:Nd):PT→Option PT
 |.n0 _=>none
 |.n1 m d=>if r=2 then(if n.2.2.2.2.2.1=true∨m.2.2.2.2.2.1=true then none else some (.n1 (limN n m) d))
  else if r=3 then(if n.2.2.1=m.2.2.1 then some (.n1 m d) else none)
  else if r=7 then some (.n1 m d)
  else if r=8 then some (.n1 (colsN m (n.2.2.2.2.2.2.1.map (pick m.2.2.2.2.2.2.1))) d)
  else if r=10 then some (.n1 m (.n1 (colN n (pick m.2.2.2.2.2.2.1 n.2.2.1)) d))
  else some (.n1 m (.n1 n d))
 |.n2 m d e=>if r=4 then some (.n2 m (.n1 n d) (.n1 n e))
  else if r=5 then(if n.2.2.1<oint (wT s d) then some (.n2 m (.n1 n d) e) else none)
  else if n.2.2.1<oint (wT s d) then none else some (.n2 m d (.n1 (colN n (n.2.2.1-oint (wT s d))) e))
def turn (s:List Tb) (r:Int):PT→Option PT
 |.n1 n c=>if n.1=(ovr r).1∧c.hd.1=(ovr r).2 then turnC s r n c else none
 |_=>none
theorem kind_good {u:PT}(g:Good u):0≤arity u.hd.1:=nodeOk_arity g.hd
theorem nodeOk_filter {n:Nd}(h:nodeOk n=true)(hk:n.1=1):0≤n.2.2.1∧n.2.2.1≤63:=by
 obtain⟨k,name,col,op,num,slot,cols,u⟩:=n
 simp only at hk
 subst hk
 simp[nodeOk,okIn] at h
 simp only
 omega
theorem pick_some {l:List Int}{c:Int}(h0:0≤c)(h1:c<l.length):ix l c=some (pick l c):=by
 obtain⟨k,rfl⟩:∃k:Nat,c=k:=⟨c.toNat,by omega⟩
 rw[ix_nat]
 unfold pick
 simp only[Int.toNat_natCast]
 rw[List.getElem?_eq_getElem (by omega)];rfl
theorem ovr_one {r:Int}(h:okIn r 0 11=true)(h4:r≠4)(h5:r≠5)(h6:r≠6):arity (ovr r).2=1:=by
 rcases rules h with rfl|rfl|rfl|rfl|rfl|rfl|rfl|rfl|rfl|rfl|rfl|rfl <;> first
  |rfl
  |omega
theorem ovr_two {r:Int}(h:r=4∨r=5∨r=6):arity (ovr r).2=2:=by
 rcases h with rfl|rfl|rfl <;> rfl
theorem shapes {n:Nd}{c:PT}(g:Good (.n1 n c)):(∃m,c=.n0 m∧arity m.1=0)∨(∃m d,c=.n1 m d∧arity m.1=1)∨(∃m d e,c=.n2 m d e∧arity m.1=2):=by
 cases c with
 |n0 m=>exact .inl ⟨m,rfl,g.c1.ok⟩
 |n1 m d=>exact .inr (.inl ⟨m,d,rfl,g.c1.ok.1⟩)
 |n2 m d e=>exact .inr (.inr ⟨m,d,e,rfl,g.c1.ok.1⟩)
end Go.Proofs.YtnclgkplpjpnfaaDoorX
namespace Go.Proofs.YtnclgkplpjpnfaaDoorX
open Go Go.Proofs.YtnclgkplpjpnfaaDoorT PT
set_option linter.all false
theorem neg_kind {u:PT}(g:Good u):u.hd.1≠-1:=by
 intro h
 have:=kind_good g
 rw[h] at this
 revert this
 decide
end Go.Proofs.YtnclgkplpjpnfaaDoorX
namespace Go.Proofs.YtnclgkplpjpnfaaDoorX
open Go Go.Proofs.YtnclgkplpjpnfaaDoorT PT
set_option linter.all false
theorem bnode_ok {n:Nd}(h:nodeOk n=true):n.2.1.size≤12∧n.2.2.2.2.2.2.1.length≤6:=by
 obtain⟨k,name,col,op,num,slot,cols,u⟩:=n
 simp only[nodeOk,Bool.and_eq_true,Bool.or_eq_true,decide_eq_true_eq] at h
 obtain⟨⟨⟨⟨h1,h2⟩,_⟩,_⟩,h3⟩:=h
 have hn:name.size≤12:=by
  rcases h1 with h1|h1
  ·rw[if_pos h1] at h3
   simp only[Bool.and_eq_true] at h3
   exact(wordOk_len h3.1.1.1).2
  ·subst h1;simp
 refine⟨hn,?_⟩
 rcases h2 with h2|h2
 ·subst h2
  simp[okIn] at h3
  simp only
  omega
 ·subst h2;simp
theorem bnode_of {n:Nd}(h:nodeOk n=true):BNode n:=⟨by have:=(bnode_ok h).1;omega,by have:=(bnode_ok h).2;omega⟩
theorem Good.bn {t:PT}(g:Good t):∀n∈t.flat,BNode n:=fun n hn=>bnode_of (g.nodes n hn)
end Go.Proofs.YtnclgkplpjpnfaaDoorX
namespace Go.Proofs.YtnclgkplpjpnfaaDoorX
open Go Go.Proofs.YtnclgkplpjpnfaaDoorT PT
set_option linter.all false
def applyM (s:List Tb) (p:List Nd) (x:Sp):List Nd×Bool:=
 if 0≤x.2.1 then match planT p with
  |none=>(p,false)
  |some t=>match (subs t)[x.2.1.toNat]? with
   |none=>(p,false)
   |some u=>match turn s x.1 u with
    |none=>(p,false)
    |some u'=>if planOk (p.take x.2.1.toNat++(u'.flat++p.drop (x.2.1.toNat+u.size)))=true then(p.take x.2.1.toNat++(u'.flat++p.drop (x.2.1.toNat+u.size)),true) else(p,false)
 else(p,false)
end Go.Proofs.YtnclgkplpjpnfaaDoorX
namespace Go.Proofs.YtnclgkplpjpnfaaDoorX
open Go Go.Proofs.YtnclgkplpjpnfaaDoorT PT
set_option linter.all false
def put:PT→Nat→PT→PT
 |_,0,v=>v
 |.n0 n,_+1,_=>.n0 n
 |.n1 n a,k+1,v=>.n1 n (put a k v)
 |.n2 n a b,k+1,v=>if k<a.size then .n2 n (put a k v) b else .n2 n a (put b (k-a.size) v)
theorem put_flat:∀{t:PT}{k:Nat}{u v:PT},(subs t)[k]?=some u→(put t k v).flat=t.flat.take k++(v.flat++t.flat.drop (k+u.size))
 |.n0 n,0,u,v,h=>by simp[subs] at h;subst h;simp[put,PT.size,flat]
 |.n1 n a,0,u,v,h=>by simp[subs] at h;subst h;simp[put,PT.size,flat]
 |.n2 n a b,0,u,v,h=>by
  simp[subs] at h;subst h
  simp only[put,PT.size,flat,List.take_zero,List.nil_append]
  rw[List.drop_eq_nil_of_le (by simp)];simp
 |.n0 n,k+1,u,v,h=>by simp[subs] at h
 |.n1 n a,k+1,u,v,h=>by
  have h':(subs a)[k]?=some u:=by simpa[subs] using h
  simp only[put,flat,put_flat h',List.take_succ_cons,List.cons_append]
  rw[show k+1+u.size=(k+u.size)+1 by omega,List.drop_succ_cons]
 |.n2 n a b,k+1,u,v,h=>by
  have h':(subs a++subs b)[k]?=some u:=by simpa[subs] using h
  simp only[put]
  by_cases hk:k<a.size
  ·rw[if_pos hk]
   rw[List.getElem?_append_left (by simpa using hk)] at h'
   have hle:=(subs_at (At.root a) h').le
   simp only[len_flat,Nat.zero_add] at hle
   simp only[flat,put_flat h',List.take_succ_cons,List.cons_append]
   rw[show k+1+u.size=(k+u.size)+1 by omega,List.drop_succ_cons,List.take_append_of_le_length (by simp;omega),List.drop_append_of_le_length (by simp;omega)]
   simp
  ·rw[if_neg hk]
   rw[List.getElem?_append_right (by simp;omega),subs_len] at h'
   simp only[flat,put_flat h',List.take_succ_cons,List.cons_append]
   rw[show k+1+u.size=(k+u.size)+1 by omega,List.drop_succ_cons,List.take_append,List.drop_append]
   simp only[len_flat]
   rw[List.take_of_length_le (l:=a.flat) (by simp;omega),List.drop_eq_nil_of_le (show a.flat.length≤k+u.size by simp;omega)]
   rw[show k+u.size-a.size=k-a.size+u.size by omega]
   simp
theorem put_ok:∀{t:PT}{k:Nat}{v:PT},t.ok→v.ok→(put t k v).ok
 |_,0,v,_,hv=>by simpa[put] using hv
 |.n0 n,k+1,v,h,hv=>by simpa[put] using h
 |.n1 n a,k+1,v,h,hv=>⟨h.1,put_ok h.2 hv⟩
 |.n2 n a b,k+1,v,h,hv=>by
  simp only[put]
  split
  ·exact⟨h.1,put_ok h.2.1 hv,h.2.2⟩
  ·exact⟨h.1,h.2.1,put_ok h.2.2 hv⟩
theorem put_w {s:List Tb}:∀{t:PT}{k:Nat}{u v:PT},(subs t)[k]?=some u→wT s v=wT s u→wT s (put t k v)=wT s t
 |.n0 n,0,u,v,h,hw=>by simp[subs] at h;subst h;simpa[put] using hw
 |.n1 n a,0,u,v,h,hw=>by simp[subs] at h;subst h;simpa[put] using hw
 |.n2 n a b,0,u,v,h,hw=>by simp[subs] at h;subst h;simpa[put] using hw
 |.n0 n,k+1,u,v,h,_=>by simp[subs] at h
 |.n1 n a,k+1,u,v,h,hw=>by
  have h':(subs a)[k]?=some u:=by simpa[subs] using h
  simp only[put,wT,put_w h' hw]
 |.n2 n a b,k+1,u,v,h,hw=>by
  have h':(subs a++subs b)[k]?=some u:=by simpa[subs] using h
  simp only[put]
  by_cases hk:k<a.size
  ·rw[if_pos hk]
   rw[List.getElem?_append_left (by simpa using hk)] at h'
   simp only[wT,put_w h' hw]
  ·rw[if_neg hk]
   rw[List.getElem?_append_right (by simp;omega),subs_len] at h'
   simp only[wT,put_w h' hw]
theorem pick_lt {l:List Int}{w:Int}(h:l.all (fun c=>decide (c<w))=true){c:Int}(h0:0≤c)(h1:c<l.length):pick l c<w:=by
 have:=pick_some h0 h1
 obtain⟨k,rfl⟩:∃k:Nat,c=k:=⟨c.toNat,by omega⟩
 rw[ix_nat] at this
 simpa using List.all_eq_true.1 h _ (mem_of_get this)
theorem turn_w {s:List Tb}{r:Int}{u u':PT}(g:Good u) (w:(wT s u).isSome=true)(h:turn s r u=some u'):u'.ok∧wT s u'=wT s u:=by
 cases u with
 |n0 n=>cases h
 |n2 n a b=>cases h
 |n1 n c=>
  simp only[turn] at h
  split at h
  rotate_left
  ·cases h
  rename_i hk
  obtain⟨hm,hm2⟩:=hk
  have hr:okIn r 0 11=true:=by
   cases hr:okIn r 0 11 with
   |true=>rfl
   |false=>rw[ovr_out hr] at hm;exact absurd hm (neg_kind g)
  have hg:=g.ok
  rcases shapes g with⟨m,rfl,har⟩|⟨m,d,rfl,har⟩|⟨m,d,e,rfl,har⟩
  ·cases h
  ·have hd:=g.c1.ok.2
   simp only[PT.hd] at hm2
   have hgn:=g.ok.1
   have hgm:=g.c1.ok.1
   cases hwd:wT s d with
   |none=>simp only[wT,hwd] at w;cases w
   |some x=>
   rcases rules hr with rfl|rfl|rfl|rfl|rfl|rfl|rfl|rfl|rfl|rfl|rfl|rfl
   ·have hk:n.1=1:=hm
    have hk2:m.1=1:=hm2
    cases h
    refine⟨⟨hgm,hgn,hd⟩,?_⟩
    by_cases h1:n.2.2.1<x <;> by_cases h2:m.2.2.1<x <;> simp[wT,hwd,hk,hk2,h1,h2]
   ·have hk:n.1=1:=hm
    have hk2:m.1=5:=hm2
    cases h
    refine⟨⟨hgm,hgn,hd⟩,?_⟩
    by_cases h1:n.2.2.1<x <;> by_cases h2:m.2.2.1<x <;> simp[wT,hwd,hk,hk2,h1,h2]
   ·have hk:n.1=6:=hm
    have hk2:m.1=6:=hm2
    simp[turnC] at h
    obtain⟨_,rfl⟩:=h
    exact⟨⟨hgn,hd⟩,by simp[wT,hwd,hk,hk2,limN]⟩
   ·have hk:n.1=5:=hm
    have hk2:m.1=5:=hm2
    simp[turnC] at h
    obtain⟨hc,rfl⟩:=h
    refine⟨⟨hgm,hd⟩,?_⟩
    by_cases h2:m.2.2.1<x <;> simp[wT,hwd,hk,hk2,h2,hc]
   ·have:=ovr_two (r:=4) (by simp);rw[←hm2] at this;omega
   ·have:=ovr_two (r:=5) (by simp);rw[←hm2] at this;omega
   ·have:=ovr_two (r:=6) (by simp);rw[←hm2] at this;omega
   ·have hk:n.1=7:=hm
    have hk2:m.1=7:=hm2
    simp[turnC] at h
    subst h
    exact⟨⟨hgm,hd⟩,by simp[wT,hwd,hk,hk2]⟩
   ·have hk:n.1=2:=hm
    have hk2:m.1=2:=hm2
    simp[turnC] at h
    subst h
    refine⟨⟨hgm,hd⟩,?_⟩
    have hn:=nodeOk_keep g.hd hk
    simp only[PT.hd] at hn
    simp only[wT,hwd,hk,hk2,if_true,colsN] at w ⊢
    by_cases ha:m.2.2.2.2.2.2.1.all (fun c=>decide (c<x))=true
    ·rw[if_pos ha] at w ⊢
     simp only at w ⊢
     by_cases hb:n.2.2.2.2.2.2.1.all (fun c=>decide (c<(m.2.2.2.2.2.2.1.length:Int)))=true
     ·rw[if_pos hb]
      have:(n.2.2.2.2.2.2.1.map (pick m.2.2.2.2.2.2.1)).all (fun c=>decide (c<x))=true:=by
       simp only[List.all_map,List.all_eq_true,Function.comp,decide_eq_true_eq]
       intro c hc
       exact pick_lt ha (hn.2.2 c hc).1 (by simpa using List.all_eq_true.1 hb c hc)
      rw[if_pos this];simp
     ·rw[if_neg hb] at w;cases w
    ·rw[if_neg ha] at w;cases w
   ·have hk:n.1=6:=hm
    have hk2:m.1=2:=hm2
    cases h
    exact⟨⟨hgm,hgn,hd⟩,by simp[wT,hwd,hk,hk2];split <;> simp_all⟩
   ·have hk:n.1=1:=hm
    have hk2:m.1=2:=hm2
    cases h
    refine⟨⟨hgm,by simpa[colN] using hgn,hd⟩,?_⟩
    have hn:=nodeOk_filter g.hd hk
    simp only[PT.hd] at hn
    simp only[wT,hwd,hk,hk2,if_true,colN] at w ⊢
    by_cases ha:m.2.2.2.2.2.2.1.all (fun c=>decide (c<x))=true
    ·rw[if_pos ha] at w ⊢
     by_cases hb:n.2.2.1<(m.2.2.2.2.2.2.1.length:Int)
     ·have:=pick_lt ha hn.1 hb
      simp[hb,this,ha]
     ·simp[hb] at w
    ·rw[if_neg ha] at w;cases w
   ·have hk:n.1=7:=hm
    have hk2:m.1=5:=hm2
    cases h
    exact⟨⟨hgm,hgn,hd⟩,by by_cases h2:m.2.2.1<x <;> simp[wT,hwd,hk,hk2,h2]⟩
  ·have hd:=g.c1.ok.2.1
   have he:=g.c1.ok.2.2
   simp only[PT.hd] at hm2
   have hgn:=g.ok.1
   have hgm:=g.c1.ok.1
   cases hwd:wT s d with
   |none=>simp only[wT,hwd] at w;cases w
   |some x=>
   cases hwe:wT s e with
   |none=>simp only[wT,hwd,hwe] at w;cases w
   |some y=>
   rcases rules hr with rfl|rfl|rfl|rfl|rfl|rfl|rfl|rfl|rfl|rfl|rfl|rfl
   ·have:=ovr_one (r:=0) rfl (by simp) (by simp) (by simp);rw[←hm2] at this;omega
   ·have:=ovr_one (r:=1) rfl (by simp) (by simp) (by simp);rw[←hm2] at this;omega
   ·have:=ovr_one (r:=2) rfl (by simp) (by simp) (by simp);rw[←hm2] at this;omega
   ·have:=ovr_one (r:=3) rfl (by simp) (by simp) (by simp);rw[←hm2] at this;omega
   ·have hk:n.1=1:=hm
    have hk2:m.1=4:=hm2
    cases h
    refine⟨⟨hgm,⟨hgn,hd⟩,hgn,he⟩,?_⟩
    by_cases h1:x=y
    ·subst h1
     by_cases h2:n.2.2.1<x <;> simp[wT,hwd,hwe,hk,hk2,h2]
    ·simp[wT,hwd,hwe,hk,hk2,h1] at w
   ·have hk:n.1=1:=hm
    have hk2:m.1=3:=hm2
    simp[turnC,hwd,oint] at h
    obtain⟨hc,rfl⟩:=h
    refine⟨⟨hgm,⟨hgn,hd⟩,he⟩,?_⟩
    by_cases h1:m.2.2.1<x∧m.2.2.2.2.1<y∧x+y≤64
    ·by_cases h2:n.2.2.1<x+y
     ·simp[wT,hwd,hwe,hk,hk2,h1,h2,hc]
     ·simp[wT,hwd,hwe,hk,hk2,h1,h2] at w
    ·simp[wT,hwd,hwe,hk,hk2,h1] at w
   ·have hk:n.1=1:=hm
    have hk2:m.1=3:=hm2
    simp[turnC,hwd,oint] at h
    obtain⟨hc,rfl⟩:=h
    refine⟨⟨hgm,hd,by simpa[colN] using hgn,he⟩,?_⟩
    by_cases h1:m.2.2.1<x∧m.2.2.2.2.1<y∧x+y≤64
    ·by_cases h2:n.2.2.1<x+y
     ·have h3:n.2.2.1-x<y:=by omega
      simp[wT,hwd,hwe,hk,hk2,h1,h2,h3,colN]
     ·simp[wT,hwd,hwe,hk,hk2,h1,h2] at w
    ·simp[wT,hwd,hwe,hk,hk2,h1] at w
   ·have:=ovr_one (r:=7) rfl (by simp) (by simp) (by simp);rw[←hm2] at this;omega
   ·have:=ovr_one (r:=8) rfl (by simp) (by simp) (by simp);rw[←hm2] at this;omega
   ·have:=ovr_one (r:=9) rfl (by simp) (by simp) (by simp);rw[←hm2] at this;omega
   ·have:=ovr_one (r:=10) rfl (by simp) (by simp) (by simp);rw[←hm2] at this;omega
   ·have:=ovr_one (r:=11) rfl (by simp) (by simp) (by simp);rw[←hm2] at this;omega
theorem applyM_tree {s:List Tb}{t:PT}(ht:Typed s t){x:Sp}{q:List Nd}(h:applyM s t.flat x=(q,true)) :
  ∃(k:Nat) (u u':PT),x.2.1=k∧(subs t)[k]?=some u∧turn s x.1 u=some u'∧q=(put t k u').flat∧PlanT (put t k u')∧Typed s (put t k u')∧wT s (put t k u')=wT s t:=by
 unfold applyM at h
 split at h
 rotate_left
 ·cases h
 rename_i h0
 simp only[planT_flat ht.plan] at h
 split at h
 ·cases h
 rename_i u hu
 split at h
 ·cases h
 rename_i u' hu'
 split at h
 rotate_left
 ·cases h
 rename_i hpk
 cases h
 have hm:=mem_of_get hu
 have g:=subs_good ht.plan.good hm
 have w:=subs_w ht.w hm
 obtain⟨hok,hw⟩:=turn_w g w hu'
 obtain⟨t',ht',e⟩:=planOk_iff.1 hpk
 have hpf:=put_flat (v:=u') hu
 rw[←hpf] at e
 have hput:=put_ok (k:=x.2.1.toNat) ht.plan.ok hok
 have:=(flat_inj (q:=[]) (r:=[]) hput ht'.ok (by simpa using e)).1
 have hwp:=put_w hu hw
 refine⟨x.2.1.toNat,u,u',by omega,hu,hu',hpf.symm,this▸ht',⟨this▸ht',ht.sch,?_⟩,hwp⟩
 rw[hwp];exact ht.w
end Go.Proofs.YtnclgkplpjpnfaaDoorX
namespace Go.Proofs.YtnclgkplpjpnfaaDoorX
open Go Go.Proofs.YtnclgkplpjpnfaaDoorT PT
set_option linter.all false
def hasR (rules:List Int) (x:Sp):Bool:=rules.any fun y=>decide (y=x.1)
end Go.Proofs.YtnclgkplpjpnfaaDoorX
namespace Go.Proofs.YtnclgkplpjpnfaaDoorX
open Go Go.Proofs.YtnclgkplpjpnfaaDoorT PT
set_option linter.all false
abbrev Opn:=Int×List Nd×List Nd×List Sp×Unit
structure BOp (o:Opn):Prop where
 qb:BPlan o.2.1
 ob:BPlan o.2.2.1
 sb:o.2.2.2.1.length≤1073741824
end Go.Proofs.YtnclgkplpjpnfaaDoorX
namespace Go.Proofs.YtnclgkplpjpnfaaDoorX
open Go Go.Proofs.YtnclgkplpjpnfaaDoorT
set_option linter.all false
def kc (c:Int) (r:List Int):Int:=r.getD c.toNat 0
end Go.Proofs.YtnclgkplpjpnfaaDoorX
namespace Go.Proofs.YtnclgkplpjpnfaaDoorX
open Go Go.Proofs.YtnclgkplpjpnfaaDoorT
set_option linter.all false
inductive BL (key:List Int→Int) (bs:Nat):List (List Int)→List (List Int)→Prop where
 |last (xs:List (List Int)):xs.length≤bs→BL key bs xs (srt key xs)
 |step (A xs ys:List (List Int)):A.length=bs→BL key bs xs ys→BL key bs (A++xs) (srt key A++ys)
theorem BL.len {key:List Int→Int}{bs:Nat}{xs ys:List (List Int)}(h:BL key bs xs ys):ys.length=xs.length:=by
 induction h with
 |last xs _=>exact srt_len xs
 |step A xs ys _ _ ih=>simp[srt_len,ih]
theorem BL.all {key:List Int→Int}{bs:Nat}{xs ys:List (List Int)}(h:BL key bs xs ys)(hl:xs.length≤bs):ys=srt key xs:=by
 cases h with
 |last _ h=>rfl
 |step A x y h1 h2=>
  simp at hl
  have hx:x=[]:=List.length_eq_zero_iff.1 (by omega)
  subst hx
  have:=h2.len
  have hy:y=[]:=List.length_eq_zero_iff.1 (by simpa using this)
  subst hy
  simp
end Go.Proofs.YtnclgkplpjpnfaaDoorX
namespace Go.Proofs.YtnclgkplpjpnfaaDoorX
open Go Go.Proofs.YtnclgkplpjpnfaaDoorT PT
set_option linter.all false
abbrev Rows:=List (List Int)
structure BRows (x:List Rows):Prop where
 len:x.length≤1073741824
 tabs:∀t∈x,t.length≤1073741824
 rows:∀t∈x,∀r∈t,r.length≤1073741824
def valOk (x:Int):Bool:=okIn x (-1000000) 1000000||decide (x=-2000000)
def rowP (w:Int) (r:List Int):Bool:=decide ((r.length:Int)=w)&&r.all valOk
def storeP (s:List Tb) (i:Nat) (t:Rows):Bool:=match s[i]? with
 |some tb=>decide (t.length≤40)&&t.all (rowP tb.2.1)
 |none=>false
def storeOk (s:List Tb) (x:List Rows):Bool:=schemaOk s&&decide (x.length=s.length)&&allI (storeP s) x 0
end Go.Proofs.YtnclgkplpjpnfaaDoorX
namespace Go.Proofs.YtnclgkplpjpnfaaDoorX
open Go Go.Proofs.YtnclgkplpjpnfaaDoorT PT
set_option linter.all false
def holds (n:Nd) (v:Int):Bool:=if v=-2000000 then decide (n.2.2.2.1=3) else if n.2.2.2.1=0 then decide (v=n.2.2.2.2.1) else if n.2.2.2.1=1 then decide (v<n.2.2.2.2.1) else if n.2.2.2.1=2 then decide (v>n.2.2.2.2.1) else false
def filterR (n:Nd) (x:Rows):Rows:=x.flatMap fun r=>bif holds n (kc n.2.2.1 r) then[r] else[]
def keepR (n:Nd) (x:Rows):Rows:=x.map fun r=>n.2.2.2.2.2.2.1.map fun c=>kc c r
def joinR (n:Nd) (x y:Rows):Rows:=x.flatMap fun l=>y.flatMap fun r=>bif !(decide (kc n.2.2.1 l=-2000000))&&decide (kc n.2.2.1 l=kc n.2.2.2.2.1 r) then[l++r] else[]
def cnt (a:Rows) (x:List Int):Nat:=a.countP fun r=>decide (r=x)
def onceR (x:Rows):Rows:=x.foldl (fun a r=>bif decide (cnt a r=0) then a++[r] else a) []
end Go.Proofs.YtnclgkplpjpnfaaDoorX
namespace Go.Proofs.YtnclgkplpjpnfaaDoorX
open Go Go.Proofs.YtnclgkplpjpnfaaDoorT PT
set_option linter.all false
structure RW (w:Int) (x:Rows):Prop where
 len:x.length≤200
 row:∀r∈x,(r.length:Int)=w
end Go.Proofs.YtnclgkplpjpnfaaDoorX
namespace Go.Proofs.YtnclgkplpjpnfaaDoorX
open Go Go.Proofs.YtnclgkplpjpnfaaDoorT PT
set_option linter.all false
def op1 (n:Nd) (x:Rows):Rows:=if n.1=1 then filterR n x else if n.1=2 then keepR n x else if n.1=5 then srt (kc n.2.2.1) x else if n.1=6 then x.take n.2.2.2.2.1.toNat else onceR x
def op2 (n:Nd) (x y:Rows):Rows:=if n.1=3 then joinR n x y else x++y
theorem node_col {n:Nd}(h:nodeOk n=true)(hk:n.1=1∨n.1=3∨n.1=5):0≤n.2.2.1:=by
 obtain⟨k,name,col,op,num,slot,cols,u⟩:=n
 simp only at hk
 rcases hk with hk|hk|hk <;> subst hk <;> simp[nodeOk,okIn] at h <;> simp only <;> omega
theorem storeOk_tab {s:List Tb}{st:List Rows}(h:storeOk s st=true){j:Nat}{tb:Tb}(hj:s[j]?=some tb):∃t,st[j]?=some t∧RW tb.2.1 t∧t.length≤40:=by
 simp only[storeOk,Bool.and_eq_true,decide_eq_true_eq] at h
 have l1:=(List.getElem?_eq_some_iff.1 hj).1
 have hx:st[j]?=some st[j]:=List.getElem?_eq_getElem (by omega)
 have:=allI_get h.2 hx
 simp only[storeP,Nat.zero_add,hj,Bool.and_eq_true,decide_eq_true_eq,List.all_eq_true,rowP] at this
 exact⟨_,hx,⟨by omega,fun r hr=>(this.2 r hr).1⟩,this.1⟩
theorem onceR_sub (x:Rows):(∀r∈onceR x,r∈x)∧(onceR x).length≤x.length:=by
 have:∀(x a:Rows),(∀r∈x.foldl (fun a r=>bif decide (cnt a r=0) then a++[r] else a) a,r∈a∨r∈x)∧(x.foldl (fun a r=>bif decide (cnt a r=0) then a++[r] else a) a).length≤a.length+x.length:=by
  intro x
  induction x with
  |nil=>intro a;simp
  |cons y x ih=>
   intro a
   simp only[List.foldl_cons]
   cases decide (cnt a y=0) with
   |true=>
    obtain⟨h1,h2⟩:=ih (a++[y])
    refine⟨fun r hr=>?_,by simp at h2 ⊢;omega⟩
    have:=h1 r hr
    simp at this ⊢
    grind
   |false=>
    obtain⟨h1,h2⟩:=ih a
    refine⟨fun r hr=>?_,by simp at h2 ⊢;omega⟩
    have:=h1 r hr
    simp at this ⊢
    grind
 obtain⟨h1,h2⟩:=this x []
 exact⟨fun r hr=>by have:=h1 r hr;simpa using this,by simp only[List.length_nil,Nat.zero_add] at h2;exact h2⟩
end Go.Proofs.YtnclgkplpjpnfaaDoorX
namespace Go.Proofs.YtnclgkplpjpnfaaDoorX
open Go Go.Proofs.YtnclgkplpjpnfaaDoorT PT
set_option linter.all false
structure SmallR (x:Rows):Prop where
 len:x.length≤200
 row:∀r∈x,r.length≤64
theorem SmallR.nil:SmallR []:=⟨by simp,by simp⟩
end Go.Proofs.YtnclgkplpjpnfaaDoorX
namespace Go.Proofs.YtnclgkplpjpnfaaDoorX
open Go Go.Proofs.YtnclgkplpjpnfaaDoorT PT
set_option linter.all false
def vb (n:Nat):List Int:=if n<128 then[(n:Int)] else((128+n % 128:Nat):Int)::vb (n / 128)
termination_by n
decreasing_by omega
def zig (x:Int):Nat:=if x<0 then(-2*x-1).toNat else(2*x).toNat
def numB (x:Int):List Int:=if okIn x (-1000000) 1000000=true then vb (zig x) else[]
end Go.Proofs.YtnclgkplpjpnfaaDoorX
namespace Go.Proofs.YtnclgkplpjpnfaaDoorX
open Go Go.Proofs.YtnclgkplpjpnfaaDoorT PT
set_option linter.all false
def chkS (s c:Int):Int:=(IntKind.i64.wrap ((IntKind.i64.wrap (269*s))+(IntKind.i64.wrap c))).tmod 999983
def chk (b:List Int):Int:=b.foldl chkS 5
def frame (b:List Int):List Int×Bool:=if b.length≤4000 then([80,83]++numB b.length++b++numB (chk b),true) else([],false)
end Go.Proofs.YtnclgkplpjpnfaaDoorX
namespace Go.Proofs.YtnclgkplpjpnfaaDoorX
open Go Go.Proofs.YtnclgkplpjpnfaaDoorT PT
set_option linter.all false
structure BP2 (p:List Nd):Prop where
 len:p.length≤1073741824
 cols:∀n∈p,n.2.2.2.2.2.2.1.length≤1073741824
end Go.Proofs.YtnclgkplpjpnfaaDoorX
namespace Go.Proofs.YtnclgkplpjpnfaaDoorX
open Go Go.Proofs.YtnclgkplpjpnfaaDoorT PT
set_option linter.all false
abbrev En:=Int×List Nd×List Nd×Int×Int×Unit
abbrev Shf:=Int×List Tb×List En×Int×Int×Int×Int×Int×Int×Unit
structure BShelf (h:Shf):Prop where
 sch:BSch h.2.1
 len:h.2.2.1.length≤1073741824
 tpl:∀e∈h.2.2.1,BPlan e.2.1∧BP2 e.2.1
 pln:∀e∈h.2.2.1,BPlan e.2.2.1
end Go.Proofs.YtnclgkplpjpnfaaDoorX
namespace Go.Proofs.YtnclgkplpjpnfaaDoorX
open Go Go.Proofs.YtnclgkplpjpnfaaDoorT PT
set_option linter.all false
def evR (s:List Tb) (st:List Rows):PT→Rows
 |.n0 n=>match tabAt s n.2.1 with
  |some j=>(st[j]?).getD []
  |none=>[]
 |.n1 n a=>op1 n (evR s st a)
 |.n2 n a b=>op2 n (evR s st a) (evR s st b)
def WR (w:Int) (x:Rows):Prop:=∀r∈x,(r.length:Int)=w
theorem filterR_eq (n:Nd) (x:Rows):filterR n x=x.filter fun r=>holds n (kc n.2.2.1 r):=by
 unfold filterR
 induction x with
 |nil=>rfl
 |cons r x ih=>
  simp only[List.flatMap_cons,ih,List.filter_cons]
  cases holds n (kc n.2.2.1 r) <;> simp
theorem evR_w {s:List Tb}{st:List Rows}(h:storeOk s st=true):∀{t:PT}{w:Int},wT s t=some w→WR w (evR s st t)
 |.n0 n,w,hw=>by
  simp only[wT] at hw
  simp only[evR]
  split at hw
  ·rename_i j hj
   split at hw
   ·rename_i tb htb
    cases hw
    obtain⟨t,h1,h2,_⟩:=storeOk_tab h htb
    simp only[hj,h1,Option.getD_some]
    exact h2.row
   ·cases hw
  ·cases hw
 |.n1 n a,w,hw=>by
  simp only[wT] at hw
  simp only[evR]
  split at hw
  ·cases hw
  ·rename_i v hv
   have ih:=evR_w h hv
   intro r hr
   simp only[op1] at hr
   split at hw
   ·rename_i hk
    split at hw
    ·cases hw
     rw[if_neg (by omega),if_pos hk] at hr
     simp only[keepR,List.mem_map] at hr
     obtain⟨q,_,rfl⟩:=hr
     simp
    ·cases hw
   ·rename_i hk2
    have hvw:v=w:=by
     split at hw
     ·split at hw
      ·cases hw;rfl
      ·cases hw
     ·cases hw;rfl
    subst hvw
    refine ih r ?_
    split at hr
    ·rw[filterR_eq] at hr;exact(List.mem_filter.1 hr).1
    ·split at hr
     ·exact srt_mem.1 hr
     ·split at hr
      ·exact List.mem_of_mem_take hr
      ·exact(onceR_sub _).1 r hr
 |.n2 n a b,w,hw=>by
  simp only[wT] at hw
  simp only[evR]
  split at hw
  ·rename_i wa wb hwa hwb
   have ih1:=evR_w h hwa
   have ih2:=evR_w h hwb
   intro r hr
   simp only[op2] at hr
   split at hw
   ·rename_i hk
    split at hw
    ·cases hw
     rw[if_pos hk] at hr
     simp only[joinR,List.mem_flatMap] at hr
     obtain⟨l,hl,q,hq,hr⟩:=hr
     have e1:=ih1 l hl
     have e2:=ih2 q hq
     cases hh:(!decide (kc n.2.2.1 l=-2000000)&&decide (kc n.2.2.1 l=kc n.2.2.2.2.1 q)) <;> rw[hh] at hr <;> simp at hr
     rw[hr];simp;omega
    ·cases hw
   ·rename_i hk
    split at hw
    ·rename_i hww
     cases hw
     rw[if_neg hk] at hr
     rcases List.mem_append.1 hr with hr|hr
     ·exact ih1 r hr
     ·have:=ih2 r hr;omega
    ·cases hw
  ·cases hw
def stepO (a:Rows) (r:List Int):Rows:=bif decide (cnt a r=0) then a++[r] else a
theorem onceR_def (x:Rows):onceR x=x.foldl stepO []:=rfl
theorem cnt_zero {a:Rows}{r:List Int}:cnt a r=0↔r∉a:=by
 unfold cnt
 rw[List.countP_eq_zero]
 constructor
 ·intro h hm;have:=h r hm;simp at this
 ·intro h q hq hd
  simp only[decide_eq_true_eq] at hd
  exact h (hd▸hq)
theorem stepO_in {a:Rows}{r:List Int}(h:r∈a):stepO a r=a:=by
 have:¬cnt a r=0:=fun e=>cnt_zero.1 e h
 simp[stepO,this]
theorem stepO_out {a:Rows}{r:List Int}(h:r∉a):stepO a r=a++[r]:=by
 have:cnt a r=0:=cnt_zero.2 h
 simp[stepO,this]
theorem foldO_filter (p:List Int→Bool):∀(x a:Rows),(x.foldl stepO a).filter p=(x.filter p).foldl stepO (a.filter p)
 |[],a=>rfl
 |r::x,a=>by
  simp only[List.foldl_cons]
  rw[foldO_filter p x]
  by_cases hm:r∈a
  ·rw[stepO_in hm]
   cases hp:p r with
   |true=>
    rw[List.filter_cons_of_pos hp,List.foldl_cons,stepO_in (List.mem_filter.2 ⟨hm,hp⟩)]
   |false=>rw[List.filter_cons_of_neg (by simp[hp])]
  ·rw[stepO_out hm]
   cases hp:p r with
   |true=>
    rw[List.filter_cons_of_pos hp,List.foldl_cons,stepO_out (fun h=>hm (List.mem_filter.1 h).1),List.filter_append]
    simp[hp]
   |false=>
    rw[List.filter_cons_of_neg (by simp[hp]),List.filter_append]
    simp[hp]
theorem onceR_filter (p:List Int→Bool) (x:Rows):(onceR x).filter p=onceR (x.filter p):=by
 rw[onceR_def,onceR_def,foldO_filter];rfl
theorem foldO_sub:∀(x a:Rows),(x.foldl stepO a).Sublist (a++x)
 |[],a=>by simp
 |r::x,a=>by
  simp only[List.foldl_cons]
  by_cases hm:r∈a
  ·rw[stepO_in hm]
   exact(foldO_sub x a).trans (List.Sublist.append (List.Sublist.refl a) (List.sublist_cons_self r x))
  ·rw[stepO_out hm]
   have:=foldO_sub x (a++[r])
   simpa using this
theorem onceR_sublist (x:Rows):(onceR x).Sublist x:=by have:=foldO_sub x [];simpa[onceR_def] using this
theorem foldO_nodup:∀(x a:Rows),a.Nodup→(x.foldl stepO a).Nodup
 |[],a,h=>h
 |r::x,a,h=>by
  simp only[List.foldl_cons]
  by_cases hm:r∈a
  ·rw[stepO_in hm];exact foldO_nodup x a h
  ·rw[stepO_out hm]
   refine foldO_nodup x _ ?_
   rw[List.nodup_append]
   exact⟨h,by simp,fun p hp q hq=>by simp at hq;rintro rfl;exact hm (hq▸hp)⟩
theorem foldO_self:∀(x a:Rows),(a++x).Nodup→x.foldl stepO a=a++x
 |[],a,_=>by simp
 |r::x,a,h=>by
  simp only[List.foldl_cons]
  have hm:r∉a:=fun hm=>by
   rw[List.nodup_append] at h
   exact h.2.2 r hm r (by simp) rfl
  rw[stepO_out hm,foldO_self x (a++[r]) (by simpa using h)]
  simp
theorem onceR_self (x:Rows):onceR (onceR x)=onceR x:=by
 have h1:=foldO_nodup x [] List.nodup_nil
 have h2:=foldO_self (onceR x) [] (by simpa[onceR_def] using h1)
 rw[onceR_def (onceR x),h2];rfl
theorem filter_filterR (n m:Nd) (z:Rows):filterR n (filterR m z)=filterR m (filterR n z):=by
 simp only[filterR_eq,List.filter_filter]
 congr 1
 funext r
 exact Bool.and_comm _ _
theorem srt_filter (k:List Int→Int) (p:List Int→Bool) (z:Rows):(srt k z).filter p=srt k (z.filter p):=by
 obtain⟨h1,h2,_⟩:=srt_ok (key:=k) z
 refine srt_of (List.Pairwise.filter p h1) (fun v=>?_)
 have:=h2 v
 rw[List.filter_filter,List.filter_filter]
 have e:∀l:Rows,l.filter (fun x=>(k x==v)&&p x)=(l.filter (fun x=>k x==v)).filter p:=fun l=>by
  rw[List.filter_filter]
  congr 1
  funext x
  exact Bool.and_comm _ _
 rw[e,e,this]
theorem once_srt (k:List Int→Int) (z:Rows):onceR (srt k z)=srt k (onceR z):=by
 obtain⟨h1,h2,_⟩:=srt_ok (key:=k) z
 refine srt_of (List.Pairwise.sublist (onceR_sublist _) h1) (fun v=>?_)
 rw[onceR_filter,onceR_filter,h2 v]
theorem flatMap_bif {T:Type}(p:T→Bool) (f:T→Rows):∀z:List T,z.flatMap (fun r=>bif p r then f r else[])=(z.filter p).flatMap f
 |[]=>rfl
 |r::z=>by
  simp only[List.flatMap_cons,List.filter_cons,flatMap_bif p f z]
  cases p r <;> simp
theorem kc_left {c:Int}{l r:List Int}(h0:0≤c)(h:c<l.length):kc c (l++r)=kc c l:=by
 unfold kc
 rw[List.getD_eq_getElem?_getD,List.getD_eq_getElem?_getD,List.getElem?_append_left (by omega)]
theorem kc_right {c:Int}{l r:List Int}(h0:(l.length:Int)≤c):kc c (l++r)=kc (c-l.length) r:=by
 unfold kc
 rw[List.getD_eq_getElem?_getD,List.getD_eq_getElem?_getD,List.getElem?_append_right (by omega)]
 congr 2
 omega
theorem filter_flatMap {T:Type}(p:List Int→Bool) (f:T→Rows):∀z:List T,(z.flatMap f).filter p=z.flatMap fun t=>(f t).filter p
 |[]=>rfl
 |t::z=>by simp only[List.flatMap_cons,List.filter_append,filter_flatMap p f z]
theorem flatMap_congr2 {T:Type}{f g:T→Rows}:∀{z:List T},(∀t∈z,f t=g t)→z.flatMap f=z.flatMap g
 |[],_=>rfl
 |t::z,h=>by
  simp only[List.flatMap_cons]
  rw[h t (by simp),flatMap_congr2 (fun u hu=>h u (by simp[hu]))]
theorem filter_joinL {n m:Nd}{x y:Rows}{w:Int}(hx:WR w x)(h0:0≤n.2.2.1)(h1:n.2.2.1<w):filterR n (joinR m x y)=joinR m (filterR n x) y:=by
 have e:joinR m (filterR n x) y=x.flatMap fun l=>bif holds n (kc n.2.2.1 l) then(y.flatMap fun r=>bif !(decide (kc m.2.2.1 l=-2000000))&&decide (kc m.2.2.1 l=kc m.2.2.2.2.1 r) then[l++r] else[]) else[]:=by
  unfold joinR
  rw[filterR_eq,flatMap_bif]
 rw[e,filterR_eq]
 unfold joinR
 rw[filter_flatMap]
 refine flatMap_congr2 (fun l hl=>?_)
 have hw:=hx l hl
 rw[filter_flatMap]
 have e2:∀r:List Int,(bif !(decide (kc m.2.2.1 l=-2000000))&&decide (kc m.2.2.1 l=kc m.2.2.2.2.1 r) then[l++r] else[]).filter (fun q=>holds n (kc n.2.2.1 q)) =
   bif holds n (kc n.2.2.1 l) then(bif !(decide (kc m.2.2.1 l=-2000000))&&decide (kc m.2.2.1 l=kc m.2.2.2.2.1 r) then[l++r] else[]) else[]:=by
  intro r
  have hk:=kc_left (c:=n.2.2.1) (l:=l) (r:=r) h0 (by omega)
  cases hb:(!(decide (kc m.2.2.1 l=-2000000))&&decide (kc m.2.2.1 l=kc m.2.2.2.2.1 r)) <;> cases hh:holds n (kc n.2.2.1 l) <;> simp[hk,hh]
 rw[flatMap_congr2 (fun r _=>e2 r)]
 cases holds n (kc n.2.2.1 l) <;> simp
theorem filter_joinR {n m:Nd}{x y:Rows}{w:Int}(hx:WR w x)(h0:w≤n.2.2.1):filterR n (joinR m x y)=joinR m x (filterR (colN n (n.2.2.1-w)) y):=by
 rw[filterR_eq]
 unfold joinR
 rw[filter_flatMap]
 refine flatMap_congr2 (fun l hl=>?_)
 have hw:=hx l hl
 rw[filter_flatMap,filterR_eq,←flatMap_bif]
 refine flatMap_congr2 (fun r _=>?_)
 have hk:=kc_right (c:=n.2.2.1) (l:=l) (r:=r) (by omega)
 rw[hw] at hk
 have hh:∀v,holds (colN n (n.2.2.1-w)) v=holds n v:=fun v=>rfl
 have hc:(colN n (n.2.2.1-w)).2.2.1=n.2.2.1-w:=rfl
 rw[hh,hc]
 cases hb:(!(decide (kc m.2.2.1 l=-2000000))&&decide (kc m.2.2.1 l=kc m.2.2.2.2.1 r)) <;> cases h2:holds n (kc (n.2.2.1-w) r) <;> simp[hk,h2]
theorem kc_map {l:List Int}{c:Int}(r:List Int)(h:c<l.length)(h0:0≤c):kc c (l.map fun c=>kc c r)=kc (pick l c) r:=by
 have hl:c.toNat<l.length:=by omega
 unfold pick
 have e:kc c (l.map fun c=>kc c r)=((l.map fun c=>kc c r)[c.toNat]?).getD 0:=by unfold kc;rw[List.getD_eq_getElem?_getD]
 rw[e,List.getElem?_map,List.getElem?_eq_getElem hl]
 rfl
theorem turn_evR {s:List Tb}{st:List Rows}(hst:storeOk s st=true){r:Int}{u u':PT}(g:Good u) (w:(wT s u).isSome=true)(h:turn s r u=some u'):evR s st u'=evR s st u:=by
 cases u with
 |n0 n=>cases h
 |n2 n a b=>cases h
 |n1 n c=>
  simp only[turn] at h
  split at h
  rotate_left
  ·cases h
  rename_i hk
  obtain⟨hm,hm2⟩:=hk
  have hr:okIn r 0 11=true:=by
   cases hr:okIn r 0 11 with
   |true=>rfl
   |false=>rw[ovr_out hr] at hm;exact absurd hm (neg_kind g)
  have hn:=g.nodes n (by simp[PT.flat])
  rcases shapes g with⟨m,rfl,har⟩|⟨m,d,rfl,har⟩|⟨m,d,e,rfl,har⟩
  ·cases h
  ·simp only[PT.hd] at hm2
   have hmo:=g.nodes m (by simp[PT.flat])
   cases hwd:wT s d with
   |none=>simp only[wT,hwd] at w;cases w
   |some x=>
   rcases rules hr with rfl|rfl|rfl|rfl|rfl|rfl|rfl|rfl|rfl|rfl|rfl|rfl
   ·have hk:n.1=1:=hm
    have hk2:m.1=1:=hm2
    cases h
    simp only[evR,op1,hk,hk2,if_true]
    exact filter_filterR m n _
   ·have hk:n.1=1:=hm
    have hk2:m.1=5:=hm2
    cases h
    simp only[evR,op1,hk,hk2,if_true,show¬(5:Int)=1 by omega,show¬(5:Int)=2 by omega,if_false]
    rw[filterR_eq,filterR_eq,srt_filter]
   ·have hk:n.1=6:=hm
    have hk2:m.1=6:=hm2
    simp[turnC] at h
    obtain⟨_,rfl⟩:=h
    have hk3:(limN n m).1=6:=hk
    have e:(limN n m).2.2.2.2.1=min n.2.2.2.2.1 m.2.2.2.2.1:=rfl
    simp only[evR,op1,hk,hk2,hk3,e,show¬(6:Int)=1 by omega,show¬(6:Int)=2 by omega,show¬(6:Int)=5 by omega,if_false,if_true]
    rw[List.take_take]
    congr 1
    omega
   ·have hk:n.1=5:=hm
    have hk2:m.1=5:=hm2
    simp[turnC] at h
    obtain⟨hc,rfl⟩:=h
    simp only[evR,op1,hk,hk2,show¬(5:Int)=1 by omega,show¬(5:Int)=2 by omega,if_false,if_true,hc]
    exact(srt_self (srt_ok _).1).symm
   ·have:=ovr_two (r:=4) (by simp);rw[←hm2] at this;omega
   ·have:=ovr_two (r:=5) (by simp);rw[←hm2] at this;omega
   ·have:=ovr_two (r:=6) (by simp);rw[←hm2] at this;omega
   ·have hk:n.1=7:=hm
    have hk2:m.1=7:=hm2
    simp[turnC] at h
    subst h
    simp only[evR,op1,hk,hk2,show¬(7:Int)=1 by omega,show¬(7:Int)=2 by omega,show¬(7:Int)=5 by omega,show¬(7:Int)=6 by omega,if_false]
    exact(onceR_self _).symm
   ·have hk:n.1=2:=hm
    have hk2:m.1=2:=hm2
    simp[turnC] at h
    subst h
    have hk3:(colsN m (n.2.2.2.2.2.2.1.map (pick m.2.2.2.2.2.2.1))).1=2:=hk2
    simp only[evR,op1,hk,hk2,hk3,show¬(2:Int)=1 by omega,if_false,if_true]
    have hall:∀c∈n.2.2.2.2.2.2.1,c<(m.2.2.2.2.2.2.1.length:Int):=by
     simp only[wT,hwd,hk,hk2,if_true] at w
     split at w
     ·cases w
     ·rename_i v hv
      split at hv
      ·cases hv
       split at w
       ·rename_i h1
        intro c hc
        have:=List.all_eq_true.1 h1 c hc
        simpa using this
       ·cases w
      ·cases hv
    have hc0:=(nodeOk_keep hn hk).2.2
    simp only[keepR,List.map_map]
    refine List.map_congr_left (fun q _=>?_)
    show(n.2.2.2.2.2.2.1.map (pick m.2.2.2.2.2.2.1)).map (fun c=>kc c q)=n.2.2.2.2.2.2.1.map fun c=>kc c (m.2.2.2.2.2.2.1.map fun c=>kc c q)
    rw[List.map_map]
    refine List.map_congr_left (fun c hc=>?_)
    exact(kc_map q (hall c hc) (hc0 c hc).1).symm
   ·have hk:n.1=6:=hm
    have hk2:m.1=2:=hm2
    simp[turnC] at h
    subst h
    simp only[evR,op1,hk,hk2,show¬(2:Int)=1 by omega,show¬(6:Int)=1 by omega,show¬(6:Int)=2 by omega,show¬(6:Int)=5 by omega,if_false,if_true]
    simp only[keepR,List.map_take]
   ·have hk:n.1=1:=hm
    have hk2:m.1=2:=hm2
    simp[turnC] at h
    subst h
    have hk3:(colN n (pick m.2.2.2.2.2.2.1 n.2.2.1)).1=1:=hk
    simp only[evR,op1,hk,hk2,hk3,show¬(2:Int)=1 by omega,if_false,if_true]
    have hc0:=node_col hn (.inl hk)
    have hlt:n.2.2.1<(m.2.2.2.2.2.2.1.length:Int):=by
     simp only[wT,hwd,hk,hk2,if_true,show¬(1:Int)=2 by omega,if_false,true_or] at w
     split at w
     ·cases w
     ·rename_i v hv
      split at hv
      ·cases hv
       split at w
       ·rename_i h1;exact h1
       ·cases w
      ·cases hv
    rw[filterR_eq,filterR_eq]
    simp only[keepR,List.filter_map]
    congr 1
    refine List.filter_congr (fun q _=>?_)
    simp only[Function.comp]
    rw[kc_map q hlt hc0]
    rfl
   ·have hk:n.1=7:=hm
    have hk2:m.1=5:=hm2
    simp[turnC] at h
    subst h
    simp only[evR,op1,hk,hk2,show¬(5:Int)=1 by omega,show¬(5:Int)=2 by omega,show¬(7:Int)=1 by omega,show¬(7:Int)=2 by omega,show¬(7:Int)=5 by omega,show¬(7:Int)=6 by omega,if_false,if_true]
    exact(once_srt _ _).symm
  ·simp only[PT.hd] at hm2
   cases hwd:wT s d with
   |none=>simp only[wT,hwd] at w;cases w
   |some x=>
   cases hwe:wT s e with
   |none=>simp only[wT,hwd,hwe] at w;cases w
   |some y=>
   have hx:=evR_w hst hwd
   rcases rules hr with rfl|rfl|rfl|rfl|rfl|rfl|rfl|rfl|rfl|rfl|rfl|rfl
   ·have:=ovr_one (r:=0) rfl (by simp) (by simp) (by simp);rw[←hm2] at this;omega
   ·have:=ovr_one (r:=1) rfl (by simp) (by simp) (by simp);rw[←hm2] at this;omega
   ·have:=ovr_one (r:=2) rfl (by simp) (by simp) (by simp);rw[←hm2] at this;omega
   ·have:=ovr_one (r:=3) rfl (by simp) (by simp) (by simp);rw[←hm2] at this;omega
   ·have hk:n.1=1:=hm
    have hk2:m.1=4:=hm2
    simp[turnC] at h
    subst h
    simp only[evR,op1,op2,hk,hk2,show¬(4:Int)=3 by omega,if_false,if_true]
    rw[filterR_eq,filterR_eq,filterR_eq,List.filter_append]
   ·have hk:n.1=1:=hm
    have hk2:m.1=3:=hm2
    simp[turnC,hwd,oint] at h
    obtain⟨hc,rfl⟩:=h
    simp only[evR,op1,op2,hk,hk2,if_true]
    exact(filter_joinL hx (node_col hn (.inl hk)) hc).symm
   ·have hk:n.1=1:=hm
    have hk2:m.1=3:=hm2
    simp[turnC,hwd,oint] at h
    obtain⟨hc,rfl⟩:=h
    have hk3:(colN n (n.2.2.1-x)).1=1:=hk
    simp only[evR,op1,op2,hk,hk2,hk3,if_true]
    exact(filter_joinR hx hc).symm
   ·have:=ovr_one (r:=7) rfl (by simp) (by simp) (by simp);rw[←hm2] at this;omega
   ·have:=ovr_one (r:=8) rfl (by simp) (by simp) (by simp);rw[←hm2] at this;omega
   ·have:=ovr_one (r:=9) rfl (by simp) (by simp) (by simp);rw[←hm2] at this;omega
   ·have:=ovr_one (r:=10) rfl (by simp) (by simp) (by simp);rw[←hm2] at this;omega
   ·have:=ovr_one (r:=11) rfl (by simp) (by simp) (by simp);rw[←hm2] at this;omega
theorem put_evR {s:List Tb}{st:List Rows}:∀{t:PT}{k:Nat}{u v:PT},(subs t)[k]?=some u→evR s st v=evR s st u→evR s st (put t k v)=evR s st t
 |.n0 n,0,u,v,h,hw=>by simp[subs] at h;subst h;simpa[put] using hw
 |.n1 n a,0,u,v,h,hw=>by simp[subs] at h;subst h;simpa[put] using hw
 |.n2 n a b,0,u,v,h,hw=>by simp[subs] at h;subst h;simpa[put] using hw
 |.n0 n,k+1,u,v,h,_=>by simp[subs] at h
 |.n1 n a,k+1,u,v,h,hw=>by
  have h':(subs a)[k]?=some u:=by simpa[subs] using h
  simp only[put,evR,put_evR h' hw]
 |.n2 n a b,k+1,u,v,h,hw=>by
  have h':(subs a++subs b)[k]?=some u:=by simpa[subs] using h
  simp only[put]
  by_cases hk:k<a.size
  ·rw[if_pos hk]
   rw[List.getElem?_append_left (by simpa using hk)] at h'
   simp only[evR,put_evR h' hw]
  ·rw[if_neg hk]
   rw[List.getElem?_append_right (by simp;omega),subs_len] at h'
   simp only[evR,put_evR h' hw]
def rowsM (s:List Tb) (st:List Rows) (p:List Nd):Rows:=match planT p with
 |some t=>evR s st t
 |none=>[]
theorem step_rows {s:List Tb}{st:List Rows}(hst:storeOk s st=true){p q:List Nd}(hp:typedOk s p=true){x:Sp}(h:applyM s p x=(q,true)):rowsM s st q=rowsM s st p:=by
 obtain⟨t,rfl,ht⟩:=typedOk_iff.1 hp
 obtain⟨k,u,u',_,hu,hu',rfl,h1,h2,h3⟩:=applyM_tree ht h
 unfold rowsM
 rw[planT_flat h1,planT_flat ht.plan]
 have hm:=mem_of_get hu
 exact put_evR hu (turn_evR hst (subs_good ht.plan.good hm) (subs_w ht.w hm) hu')
end Go.Proofs.YtnclgkplpjpnfaaDoorX
namespace Go.Proofs.YtnclgkplpjpnfaaDoorX
open Go Go.Proofs.YtnclgkplpjpnfaaDoorT PT
set_option linter.all false
structure Cu (b:List Int) (i:Int):Prop where
 len:b.length≤1073741824
 lo:0≤i
end Go.Proofs.YtnclgkplpjpnfaaDoorX
namespace Go.Proofs.YtnclgkplpjpnfaaDoorX
open Go Go.Proofs.YtnclgkplpjpnfaaDoorT PT
set_option linter.all false
structure Sm (N c:Nat) (p:List Nd):Prop where
 len:p.length≤N
 nodes:∀n∈p,n.2.1.size≤100∧n.2.2.2.2.2.2.1.length≤c
theorem Sm.mono {N M c d:Nat}{p:List Nd}(h:Sm N c p)(h1:N≤M)(h2:c≤d):Sm M d p:=⟨Nat.le_trans h.len h1,fun n hn=>⟨(h.nodes n hn).1,Nat.le_trans (h.nodes n hn).2 h2⟩⟩
theorem Sm.one {c:Nat}{n:Nd}(h1:n.2.1.size≤100)(h2:n.2.2.2.2.2.2.1.length≤c):Sm 1 c [n]:=⟨by simp,fun m hm=>by rw[List.mem_singleton.1 hm];exact⟨h1,h2⟩⟩
theorem Sm.app {N M c:Nat}{p q:List Nd}(h:Sm N c p) (k:Sm M c q):Sm (N+M) c (p++q):=⟨by have:=h.len;have:=k.len;simp;omega,fun n hn=>(List.mem_append.1 hn).elim (h.nodes n) (k.nodes n)⟩
end Go.Proofs.YtnclgkplpjpnfaaDoorX
namespace Go.Proofs.YtnclgkplpjpnfaaDoorX
open Go Go.Proofs.YtnclgkplpjpnfaaDoorT PT
set_option linter.all false
theorem Sm.set {N c:Nat}{p:List Nd}(h:Sm N c p) (k:Nat){n:Nd}(hn:n.2.1.size≤100∧n.2.2.2.2.2.2.1.length≤c):Sm N c (p.set k n):=⟨by simpa using h.len,fun m hm=>(List.mem_or_eq_of_mem_set hm).elim (h.nodes m) (fun e=>e▸hn)⟩
end Go.Proofs.YtnclgkplpjpnfaaDoorX
namespace Go.Proofs.YtnclgkplpjpnfaaDoorX
open Go Go.Proofs.YtnclgkplpjpnfaaDoorT PT
set_option linter.all false
structure Ss (N c:Nat) (s:List Tb):Prop where
 len:s.length≤N
 names:∀t∈s,t.1.size≤c
theorem Ss.mono {N M c d:Nat}{p:List Tb}(h:Ss N c p)(h1:N≤M)(h2:c≤d):Ss M d p:=⟨Nat.le_trans h.len h1,fun n hn=>Nat.le_trans (h.names n hn) h2⟩
theorem Ss.set {N c:Nat}{p:List Tb}(h:Ss N c p) (k:Nat){n:Tb}(hn:n.1.size≤c):Ss N c (p.set k n):=⟨by simpa using h.len,fun m hm=>(List.mem_or_eq_of_mem_set hm).elim (h.names m) (fun e=>e▸hn)⟩
end Go.Proofs.YtnclgkplpjpnfaaDoorX
namespace Go.Proofs.YtnclgkplpjpnfaaDoorX
open Go Go.Proofs.YtnclgkplpjpnfaaDoorT PT
set_option linter.all false
inductive Chain (s:List Tb) (rules:List Int):List Nd→List Sp→List Nd→Prop where
 |nil (p:List Nd):Chain s rules p [] p
 |cons {p p' q:List Nd}{x:Sp}{xs:List Sp}(hp:typedOk s p=true)(ha:applyM s p x=(p',true))(hr:hasR rules x=true)(h:Chain s rules p' xs q):Chain s rules p (x::xs) q
theorem Chain.rows {s:List Tb}{rules:List Int}{st:List Rows}(hst:storeOk s st=true){p q:List Nd}{xs:List Sp}(h:Chain s rules p xs q):rowsM s st q=rowsM s st p:=by
 induction h with
 |nil p=>rfl
 |cons hp ha hr h ih=>rw[ih,step_rows hst hp ha]
end Go.Proofs.YtnclgkplpjpnfaaDoorX
namespace Go.Proofs.YtnclgkplpjpnfaaDoorX
open Go Go.Proofs.YtnclgkplpjpnfaaDoorT
set_option linter.all false
def bA (l:List UInt8):ByteArray:=⟨l.toArray⟩
theorem bA_app (a b:List UInt8):bA a++bA b=bA (a++b):=by
 apply ByteArray.ext
 simp[bA]
theorem bA_size (a:List UInt8):(bA a).size=a.length:=by simp[bA,ByteArray.size]
theorem bA_data (t:ByteArray):bA t.data.toList=t:=by apply ByteArray.ext;simp[bA]
theorem digit_byte {u:Nat}(h:u<10):bsOf [IntKind.u8.wrap (IntKind.i64.wrap (48+(u:Int)))]=bA [UInt8.ofNat (48+u)]:=by
 have h1:IntKind.i64.wrap (48+(u:Int))=48+u:=wrap_sml (by omega) (by omega)
 have h2:IntKind.u8.wrap (48+(u:Int))=48+u:=by
  have:u=0∨u=1∨u=2∨u=3∨u=4∨u=5∨u=6∨u=7∨u=8∨u=9:=by omega
  rcases this with rfl|rfl|rfl|rfl|rfl|rfl|rfl|rfl|rfl|rfl <;> rfl
 rw[h1,h2]
 have h3:(48+(u:Int)).toNat=48+u:=by omega
 apply ByteArray.ext
 simp[bsOf,bA,h3]
theorem decDigits_small {u:Nat}(h:u<10):Lib.decDigits u=[UInt8.ofNat (48+u)]:=by rw[Lib.decDigits,dif_pos h]
theorem decDigits_big {u:Nat}(h:¬u<10):Lib.decDigits u=Lib.decDigits (u / 10)++[UInt8.ofNat (48+u % 10)]:=by rw[Lib.decDigits,dif_neg h]
def digs (u:Nat) (t:List UInt8):List UInt8:=if u=0 then t else Lib.decDigits u++t
theorem digs_step {u:Nat}(h:u≠0) (t:List UInt8):digs (u / 10) (UInt8.ofNat (48+u % 10)::t)=digs u t:=by
 unfold digs
 rw[if_neg h]
 by_cases hs:u<10
 ·rw[if_pos (by omega),decDigits_small hs,Nat.mod_eq_of_lt hs];rfl
 ·rw[if_neg (by omega),decDigits_big hs];simp
theorem addx_bA {a b:List UInt8}(h:a.length+b.length≤4611686018427387904):addx (bA a) (bA b)=some (bA (a++b)):=by
 unfold addx
 rw[bA_size,bA_size,Nat.ble_eq_true_of_le h,cond_true,bA_app]
theorem tmod_abs (v:Int):v.tmod 10=if v<0 then -((v.natAbs % 10:Nat):Int) else((v.natAbs % 10:Nat):Int):=by
 by_cases h:v<0
 ·rw[if_pos h]
  obtain⟨u,rfl⟩:∃u:Nat,v=-(u:Int):=⟨v.natAbs,by omega⟩
  rw[Int.neg_tmod]
  simp[Int.natAbs_neg]
  rfl
 ·rw[if_neg h]
  obtain⟨u,rfl⟩:∃u:Nat,v=(u:Int):=⟨v.natAbs,by omega⟩
  rfl
theorem tdiv_abs (v:Int):(v.tdiv 10).natAbs=v.natAbs / 10:=by
 rw[Int.natAbs_tdiv];rfl
theorem num_loop (v:Int) (t:ByteArray) (k:Nat)(h0:-9223372036854775808≤v)(h1:v≤9223372036854775807)(hk:v.natAbs<10 ^ k)(ht:t.size+k≤100) :
  loopF (fun f s=>L_o f s.1 s.2) (v,t)=some (.go (bA (digs v.natAbs t.data.toList))):=by
 refine loopF_ind (S:=Int×ByteArray) (A:=Ex ByteArray ByteArray) (fun s=>s.1.natAbs) (fun s=>-9223372036854775808≤s.1∧s.1≤9223372036854775807∧∃k,s.1.natAbs<10 ^ k∧s.2.size+k≤100) (fun s=>.go (bA (digs s.1.natAbs s.2.data.toList))) ?_ (v,t) ⟨h0,h1,k,hk,ht⟩
 rintro⟨v,t⟩ ⟨h0,h1,k,hk,ht⟩ g hg
 simp only at h0 h1 hk ht ⊢
 unfold L_o
 by_cases hv:v=0
 ·subst hv
  simp[digs,bA_data]
 ·have hb:(v != 0)=true:=bne_iff_ne.2 hv
  have hk1:k≠0:=by rintro rfl;simp at hk;omega
  obtain⟨k',rfl⟩:=Nat.exists_eq_succ_of_ne_zero hk1
  have hu:v.natAbs % 10<10:=Nat.mod_lt _ (by decide)
  have hrem:remx v 10=some (v.tmod 10):=rfl
  have hd:(joinK (bif decide (v.tmod 10<0) then some (Ex.go (R:=Ex ByteArray ByteArray) (IntKind.i64.wrap (0-v.tmod 10))) else some (.go (v.tmod 10))) fun s=>J_7 v t g s)=J_7 v t g ((v.natAbs % 10:Nat):Int):=by
   rw[tmod_abs]
   by_cases hn:v<0
   ·rw[if_pos hn]
    by_cases hz:v.natAbs % 10=0
    ·simp[hz]
    ·have:decide (-((v.natAbs % 10:Nat):Int)<0)=true:=by simp;omega
     rw[this,cond_true,joinK_go,show 0 - -((v.natAbs % 10:Nat):Int)=((v.natAbs % 10:Nat):Int) by omega,wrap_sml (by omega) (by omega)]
   ·rw[if_neg hn]
    have:decide (((v.natAbs % 10:Nat):Int)<0)=false:=by simp;omega
    rw[this,cond_false,joinK_go]
  have hq:quox v 10=some (v.tdiv 10):=by
   unfold quox
   have hab:=tdiv_abs v
   rw[show((10:Int)==0)=false from rfl,cond_false,wrap_sml (by omega) (by omega)]
  have hpw:10 ^ (k'+1)=10*10 ^ k':=by rw[Nat.pow_succ];omega
  have hab:=tdiv_abs v
  rw[hb,cond_true,hrem,Option.bind_some,hd]
  unfold J_7
  rw[digit_byte hu]
  have ha:addx (bA [UInt8.ofNat (48+v.natAbs % 10)]) t=some (bA (UInt8.ofNat (48+v.natAbs % 10)::t.data.toList)):=by
   have:=addx_bA (a:=[UInt8.ofNat (48+v.natAbs % 10)]) (b:=t.data.toList) (by simp;have:t.data.size=t.size:=rfl;omega)
   rw[bA_data] at this
   exact this
  rw[ha,hq]
  simp only[Option.bind_some]
  rw[hg _ ⟨by simp only;omega,by simp only;omega,k',by simp only;omega,by simp only[bA_size,List.length_cons,Array.length_toList];have:t.data.size=t.size:=rfl;omega⟩ (by simp only;omega)]
  simp only[hab]
  rw[show(bA (UInt8.ofNat (48+v.natAbs % 10)::t.data.toList)).data.toList=UInt8.ofNat (48+v.natAbs % 10)::t.data.toList by simp[bA],digs_step (by omega)]
theorem nDigits_le:∀(k u:Nat),u<10 ^ (k+1)→Lib.nDigits u≤k+1
 |0,u,h=>by rw[Lib.nDigits_small (by simpa using h)];omega
 |k+1,u,h=>by
  by_cases hs:u<10
  ·rw[Lib.nDigits_small hs];omega
  ·rw[Lib.nDigits_big hs]
   have:10 ^ (k+1+1)=10*10 ^ (k+1):=by rw[Nat.pow_succ];omega
   have:=nDigits_le k (u / 10) (by omega)
   omega
theorem dec_len {u:Nat}(h:u<100000000000000000000):(Lib.decDigits u).length≤20:=by
 rw[Lib.decDigits_length]
 exact nDigits_le 19 u h
def numT (a:Int):ByteArray:=bA (Lib.itoa a)
theorem V_12 {a:Int}(h0:-9223372036854775808≤a)(h1:a≤9223372036854775807):F_1m a=some (numT a):=(U_1j a).out (by
 unfold numT Lib.itoa
 by_cases ha:a=0
 ·subst ha
  simp[decDigits_small]
  rfl
 ·have hb:(a==0)=false:=by simp[ha]
  rw[hb,cond_false,num_loop a ByteArray.empty 19 h0 h1 (by omega) (by decide),joinK_go]
  unfold J_15 digs
  have hn:¬a.natAbs=0:=by omega
  rw[if_neg hn]
  have he:ByteArray.empty.data.toList=[]:=rfl
  rw[he,List.append_nil]
  by_cases hneg:a<0
  ·have hm:(⟨#[45]⟩:ByteArray)=bA [45]:=rfl
   have hl:(Lib.decDigits a.natAbs).length≤20:=dec_len (by omega)
   rw[decide_eq_true hneg,cond_true,if_pos hneg,hm,addx_bA (by simp;omega)]
   rfl
  ·rw[decide_eq_false hneg,cond_false,if_neg hneg,show a.toNat=a.natAbs by omega])
end Go.Proofs.YtnclgkplpjpnfaaDoorX
namespace Go.Proofs.YtnclgkplpjpnfaaDoorX
open Go Go.Proofs.YtnclgkplpjpnfaaDoorT PT
set_option linter.all false
def cellT (v:Int):List UInt8:=if v=-2000000 then[45] else Lib.itoa v
def rowT (row:List Int):List UInt8:=if row=[] then[40,41] else Lib.join (row.map cellT) [44]
def VB (r:List Int):Prop:=∀v∈r,-2000000≤v∧v≤1000000
def VR (x:Rows):Prop:=∀r∈x,VB r
theorem vb_kc {c:Int}{r:List Int}(h:VB r):-2000000≤kc c r∧kc c r≤1000000:=by
 unfold kc
 rw[List.getD_eq_getElem?_getD]
 cases hx:r[c.toNat]? with
 |none=>simp
 |some v=>simpa using h v (List.mem_of_getElem? hx)
theorem VR.op1 {n:Nd}{x:Rows}(h:VR x):VR (op1 n x):=by
 unfold Go.Proofs.YtnclgkplpjpnfaaDoorX.op1
 split
 ·rw[filterR_eq];exact fun r hr=>h r (List.mem_filter.1 hr).1
 ·split
  ·intro r hr
   unfold keepR at hr
   obtain⟨r',hr',rfl⟩:=List.mem_map.1 hr
   intro v hv
   obtain⟨c,_,rfl⟩:=List.mem_map.1 hv
   exact vb_kc (h r' hr')
  ·split
   ·exact fun r hr=>h r (srt_mem.1 hr)
   ·split
    ·exact fun r hr=>h r (List.mem_of_mem_take hr)
    ·exact fun r hr=>h r ((onceR_sublist x).subset hr)
theorem VR.op2 {n:Nd}{x y:Rows}(h:VR x) (k:VR y):VR (op2 n x y):=by
 unfold Go.Proofs.YtnclgkplpjpnfaaDoorX.op2
 split
 ·intro r hr
  unfold joinR at hr
  obtain⟨a,ha,hr⟩:=List.mem_flatMap.1 hr
  obtain⟨b,hb,hr⟩:=List.mem_flatMap.1 hr
  cases hc:!(decide (kc n.2.2.1 a=-2000000))&&decide (kc n.2.2.1 a=kc n.2.2.2.2.1 b) with
  |false=>rw[hc] at hr;simp at hr
  |true=>
   rw[hc] at hr
   simp at hr
   subst hr
   intro v hv
   rcases List.mem_append.1 hv with hv|hv
   ·exact h a ha v hv
   ·exact k b hb v hv
 ·intro r hr
  rcases List.mem_append.1 hr with hr|hr
  ·exact h r hr
  ·exact k r hr
end Go.Proofs.YtnclgkplpjpnfaaDoorX
namespace Go.Proofs.YtnclgkplpjpnfaaDoorX
open Go Go.Proofs.YtnclgkplpjpnfaaDoorT
set_option linter.all false
@[simp] theorem bA_list (l:List UInt8):(bA l).data.toList=l:=by simp[bA]
end Go.Proofs.YtnclgkplpjpnfaaDoorX
namespace Go.Proofs.YtnclgkplpjpnfaaDoorX
open Go Go.Proofs.YtnclgkplpjpnfaaDoorT
set_option linter.all false
structure RSm (x:Rows):Prop where
 len:x.length≤40
 row:∀r∈x,VB r∧r.length≤6
theorem RSm.take {x:Rows}(h:RSm x) (k:Nat):RSm (x.take k):=⟨by rw[List.length_take];have:=h.len;omega,fun r hr=>h.row r (List.mem_of_mem_take hr)⟩
end Go.Proofs.YtnclgkplpjpnfaaDoorX
namespace Go.Proofs.YtnclgkplpjpnfaaDoorX
open Go Go.Proofs.YtnclgkplpjpnfaaDoorT PT
set_option linter.all false
def fillN (v:List Int) (n:Nd):Nd:=if n.2.2.2.2.2.1=true then(n.1,n.2.1,n.2.2.1,n.2.2.2.1,pick v n.2.2.2.2.1,false,n.2.2.2.2.2.2.1,()) else n
def fillT (v:List Int):PT→PT
 |.n0 n=>.n0 (fillN v n)
 |.n1 n a=>.n1 (fillN v n) (fillT v a)
 |.n2 n a b=>.n2 (fillN v n) (fillT v a) (fillT v b)
theorem fillN_kind (v:List Int) (n:Nd):(fillN v n).1=n.1:=by unfold fillN;split <;> rfl
theorem fillN_name (v:List Int) (n:Nd):(fillN v n).2.1=n.2.1:=by unfold fillN;split <;> rfl
theorem fillN_col (v:List Int) (n:Nd):(fillN v n).2.2.1=n.2.2.1:=by unfold fillN;split <;> rfl
theorem fillN_cols (v:List Int) (n:Nd):(fillN v n).2.2.2.2.2.2.1=n.2.2.2.2.2.2.1:=by unfold fillN;split <;> rfl
theorem fillN_off {v:List Int}{n:Nd}(h:n.2.2.2.2.2.1=false):fillN v n=n:=by unfold fillN;rw[if_neg (by rw[h];decide)]
theorem fillN_colN (v:List Int) (n:Nd) (c:Int):fillN v (colN n c)=colN (fillN v n) c:=by
 unfold fillN colN
 simp only
 split <;> rfl
theorem fillN_colsN (v:List Int) (n:Nd) (c:List Int):fillN v (colsN n c)=colsN (fillN v n) c:=by
 unfold fillN colsN
 simp only
 split <;> rfl
theorem fillT_flat (v:List Int):∀t:PT,(fillT v t).flat=t.flat.map (fillN v)
 |.n0 n=>rfl
 |.n1 n a=>by simp[fillT,PT.flat,fillT_flat v a]
 |.n2 n a b=>by simp[fillT,PT.flat,fillT_flat v a,fillT_flat v b]
theorem fillT_size (v:List Int):∀t:PT,(fillT v t).size=t.size
 |.n0 n=>rfl
 |.n1 n a=>by simp[fillT,PT.size,fillT_size v a]
 |.n2 n a b=>by simp[fillT,PT.size,fillT_size v a,fillT_size v b]
theorem fillT_depth (v:List Int):∀t:PT,(fillT v t).depth=t.depth
 |.n0 n=>rfl
 |.n1 n a=>by simp[fillT,PT.depth,fillT_depth v a]
 |.n2 n a b=>by simp[fillT,PT.depth,fillT_depth v a,fillT_depth v b]
theorem fillT_ok (v:List Int):∀{t:PT},t.ok→(fillT v t).ok
 |.n0 n,h=>by simp only[fillT,PT.ok,fillN_kind];exact h
 |.n1 n a,h=>⟨by rw[fillN_kind];exact h.1,fillT_ok v h.2⟩
 |.n2 n a b,h=>⟨by rw[fillN_kind];exact h.1,fillT_ok v h.2.1,fillT_ok v h.2.2⟩
theorem fillT_hd (v:List Int) (t:PT):(fillT v t).hd=fillN v t.hd:=by cases t <;> rfl
theorem nodeOk_slot2 {n:Nd}(h:nodeOk n=true)(hs:n.2.2.2.2.2.1=true):(n.1=1∨n.1=6)∧0≤n.2.2.2.2.1∧n.2.2.2.2.1≤39:=by
 obtain⟨k,name,col,op,num,slot,cols,u⟩:=n
 simp only at hs
 subst hs
 simp only[nodeOk] at h
 simp only[Bool.and_eq_true] at h
 obtain⟨⟨_,h4⟩,h5⟩:=h
 have:=okIn_iff.1 (show okIn num 0 39=true by simpa using h4)
 refine⟨?_,this⟩
 by_cases k0:k=0
 ·subst k0;simp at h5
 ·by_cases k1:k=1
  ·exact .inl k1
  ·by_cases k6:k=6
   ·exact .inr k6
   ·exfalso
    rw[if_neg k0,if_neg k1] at h5
    by_cases k2:k=2
    ·subst k2;simp at h5
    ·rw[if_neg k2] at h5
     by_cases k3:k=3
     ·subst k3;simp at h5
     ·rw[if_neg k3] at h5
      by_cases k5:k=5
      ·subst k5;simp at h5
      ·rw[if_neg k5,if_neg k6] at h5
       by_cases k4:k=4∨k=7
       ·rw[if_pos k4] at h5;simp at h5
       ·rw[if_neg k4] at h5;cases h5
theorem nodeOk_fill {v:List Int}(hv:∀x∈v,0≤x∧x≤4){n:Nd}(h:nodeOk n=true):nodeOk (fillN v n)=true:=by
 cases hs:n.2.2.2.2.2.1 with
 |false=>rw[fillN_off hs];exact h
 |true=>
  obtain⟨hk,_⟩:=nodeOk_slot2 h hs
  have hp:0≤pick v n.2.2.2.2.1∧pick v n.2.2.2.2.1≤4:=by
   unfold pick
   cases hx:v[n.2.2.2.2.1.toNat]? with
   |none=>simp
   |some x=>simpa using hv x (List.mem_of_getElem? hx)
  obtain⟨k,name,col,op,num,slot,cols,u⟩:=n
  simp only at hs hk hp
  subst hs
  unfold fillN
  simp only[if_true]
  generalize pick v num=w at hp
  simp only[nodeOk] at h ⊢
  simp only[Bool.and_eq_true] at h ⊢
  obtain⟨⟨⟨⟨a,b⟩,c⟩,d⟩,e⟩:=h
  refine⟨⟨⟨⟨a,b⟩,c⟩,by simp⟩,?_⟩
  rcases hk with rfl|rfl
  ·rw[if_neg (by decide),if_pos rfl] at e ⊢
   simp only[Bool.and_eq_true] at e ⊢
   obtain⟨⟨⟨e1,e2⟩,e3⟩,e4⟩:=e
   refine⟨⟨⟨e1,e2⟩,okIn_iff.2 ⟨by omega,by omega⟩⟩,?_⟩
   have:op≠3:=by rintro rfl;simp at e4
   simp[this]
  ·simp only[show¬((6:Int)=0) by decide,show¬((6:Int)=1) by decide,show¬((6:Int)=2) by decide,show¬((6:Int)=3) by decide,show¬((6:Int)=5) by decide,if_false,if_true] at e ⊢
   simp only[Bool.and_eq_true] at e ⊢
   exact⟨e.1,okIn_iff.2 ⟨by omega,by omega⟩⟩
theorem fill_plan {v:List Int}(hv:∀x∈v,0≤x∧x≤4){t:PT}(h:PlanT t):PlanT (fillT v t):=
 ⟨fillT_ok v h.ok,by rw[fillT_depth];exact h.deep,by rw[fillT_size];exact h.size,fun n hn=>by
  rw[fillT_flat] at hn
  obtain⟨m,hm,rfl⟩:=List.mem_map.1 hn
  exact nodeOk_fill hv (h.nodes m hm)⟩
theorem fill_w {s:List Tb}(v:List Int):∀{t:PT},Good t→wT s (fillT v t)=wT s t
 |.n0 n,g=>by simp only[fillT,wT,fillN_name]
 |.n1 n a,g=>by simp only[fillT,wT,fill_w v g.c1,fillN_kind,fillN_col,fillN_cols]
 |.n2 n a b,g=>by
  have hn:nodeOk n=true:=g.nodes n (by simp[PT.flat])
  have hs:n.2.2.2.2.2.1=false:=by
   cases hs:n.2.2.2.2.2.1 with
   |false=>rfl
   |true=>
    obtain⟨hk,_⟩:=nodeOk_slot2 hn hs
    have:=g.ok.1
    rcases hk with hk|hk <;> rw[hk] at this <;> exact absurd this (by decide)
  simp only[fillT,wT,fill_w v g.l2,fill_w v g.r2,fillN_off hs]
theorem fill_typed {s:List Tb}{v:List Int}(hv:∀x∈v,0≤x∧x≤4){t:PT}(h:Typed s t):Typed s (fillT v t):=⟨fill_plan hv h.plan,h.sch,by rw[fill_w v h.plan.good];exact h.w⟩
theorem fill_turn {s:List Tb}{v:List Int}{r:Int}{u u':PT}(g:Good u)(h:turn s r u=some u'):turn s r (fillT v u)=some (fillT v u'):=by
 cases u with
 |n0 n=>cases h
 |n2 n a b=>cases h
 |n1 n c=>
  simp only[turn,fillT] at h ⊢
  split at h
  rotate_left
  ·cases h
  rename_i hk
  rw[fillT_hd,fillN_kind,fillN_kind,if_pos hk]
  cases c with
  |n0 m=>cases h
  |n1 m d=>
   simp only[turnC,fillT] at h ⊢
   split at h
   ·rename_i hr
    rw[if_pos hr]
    split at h
    ·cases h
    ·rename_i hns
     cases h
     have h1:n.2.2.2.2.2.1=false:=by cases hx:n.2.2.2.2.2.1 with|false=>rfl|true=>exact absurd (.inl hx) hns
     have h2:m.2.2.2.2.2.1=false:=by cases hx:m.2.2.2.2.2.1 with|false=>rfl|true=>exact absurd (.inr hx) hns
     rw[fillN_off h1,fillN_off h2,if_neg hns,fillT,fillN_off (n:=limN n m) h1]
   ·rename_i hr
    rw[if_neg hr]
    split at h
    ·rename_i hr3
     rw[if_pos hr3]
     split at h
     ·rename_i hc
      cases h
      rw[fillN_col,fillN_col,if_pos hc]
      rfl
     ·cases h
    ·rename_i hr3
     rw[if_neg hr3]
     split at h
     ·rename_i hr7
      rw[if_pos hr7]
      cases h
      rfl
     ·rename_i hr7
      rw[if_neg hr7]
      split at h
      ·rename_i hr8
       rw[if_pos hr8]
       cases h
       simp only[fillT,fillN_colsN,fillN_cols]
      ·rename_i hr8
       rw[if_neg hr8]
       split at h
       ·rename_i hr10
        rw[if_pos hr10]
        cases h
        simp only[fillT,fillN_colN,fillN_cols,fillN_col]
       ·rename_i hr10
        rw[if_neg hr10]
        cases h
        rfl
  |n2 m d e=>
   have gd:Good d:=g.c1.l2
   simp only[turnC,fillT] at h ⊢
   rw[fill_w v gd,fillN_col]
   split at h
   ·rename_i hr
    rw[if_pos hr]
    cases h
    rfl
   ·rename_i hr
    rw[if_neg hr]
    split at h
    ·rename_i hr5
     rw[if_pos hr5]
     split at h
     ·rename_i hc
      rw[if_pos hc]
      cases h
      rfl
     ·cases h
    ·rename_i hr5
     rw[if_neg hr5]
     split at h
     ·cases h
     ·rename_i hc
      rw[if_neg hc]
      cases h
      simp only[fillT,fillN_colN]
theorem fill_put (v:List Int):∀(t:PT) (k:Nat) (u:PT),put (fillT v t) k (fillT v u)=fillT v (put t k u)
 |t,0,u=>by cases t <;> simp[put,fillT]
 |.n0 n,k+1,u=>rfl
 |.n1 n a,k+1,u=>by simp[put,fillT,fill_put v a k u]
 |.n2 n a b,k+1,u=>by
  simp only[put,fillT,fillT_size]
  split
  ·simp[fillT,fill_put v a k u]
  ·simp[fillT,fill_put v b _ u]
theorem fill_subs (v:List Int):∀t:PT,subs (fillT v t)=(subs t).map (fillT v)
 |.n0 n=>rfl
 |.n1 n a=>by simp[subs,fillT,fill_subs v a]
 |.n2 n a b=>by simp[subs,fillT,fill_subs v a,fill_subs v b]
theorem fill_apply {s:List Tb}{v:List Int}(hv:∀x∈v,0≤x∧x≤4){p q:List Nd}(hp:typedOk s p=true){x:Sp}(h:applyM s p x=(q,true)) :
  typedOk s (p.map (fillN v))=true∧applyM s (p.map (fillN v)) x=(q.map (fillN v),true):=by
 obtain⟨t,rfl,ht⟩:=typedOk_iff.1 hp
 obtain⟨k,u,u',hk,hu,hu',rfl,h1,h2,h3⟩:=applyM_tree ht h
 rw[←fillT_flat,←fillT_flat]
 have hT:=fill_typed hv ht
 refine⟨typedOk_iff.2 ⟨_,rfl,hT⟩,?_⟩
 have g:=subs_good ht.plan.good (mem_of_get hu)
 have hus:(subs (fillT v t))[k]?=some (fillT v u):=by rw[fill_subs,List.getElem?_map,hu];rfl
 have hP:=fill_plan hv h1
 unfold applyM
 simp only[hk,Int.natCast_nonneg,if_true,planT_flat hT.plan,Int.toNat_natCast,hus,fill_turn g hu']
 rw[←put_flat hus,fill_put,if_pos (planOk_iff.2 ⟨_,hP,rfl⟩)]
theorem Chain.fill {s:List Tb}{rules:List Int}{v:List Int}(hv:∀x∈v,0≤x∧x≤4){p q:List Nd}{xs:List Sp}(h:Chain s rules p xs q):Chain s rules (p.map (fillN v)) xs (q.map (fillN v)):=by
 induction h with
 |nil p=>exact .nil _
 |cons hp ha hr h ih=>
  obtain⟨h1,h2⟩:=fill_apply hv hp ha
  exact .cons h1 h2 hr ih
end Go.Proofs.YtnclgkplpjpnfaaDoorX
namespace Go.Proofs.YtnclgkplpjpnfaaDoorX
open Go Go.Proofs.YtnclgkplpjpnfaaDoorT
set_option linter.all false
def sepB (b:UInt8):Bool:=b.toNat==32||b.toNat==10
def wordsL:List UInt8→List UInt8→List (List UInt8)
 |[],w=>if w=[] then[] else[w]
 |b::l,w=>bif sepB b then(if w=[] then wordsL l [] else w::wordsL l []) else wordsL l (w++[b])
theorem wordsL_app:∀(bs l w:List UInt8),(∀b∈bs,sepB b=false)→wordsL (bs++l) w=wordsL l (w++bs)
 |[],l,w,_=>by simp
 |b::bs,l,w,h=>by
  have hb:=h b (by simp)
  simp only[List.cons_append,wordsL,hb,cond_false]
  rw[wordsL_app bs l (w++[b]) (fun x hx=>h x (by simp[hx]))]
  simp
theorem get_at (s:ByteArray) (i:Nat):(s.get! i).toNat=(s.data.toList.getD i 0).toNat:=by rw[Lib.getD_get!']
theorem decode_low {s:ByteArray}{i:Nat}(h:(s.get! i).toNat<128):Utf8.decode s i=((s.get! i).toNat,1):=by
 unfold Utf8.decode
 simp only[Nat.add_zero]
 rw[if_pos h]
theorem decode_high {s:ByteArray}{i:Nat}(hi:i<s.size)(h:¬(s.get! i).toNat<128):128≤(Utf8.decode s i).1∧1≤(Utf8.decode s i).2∧i+(Utf8.decode s i).2≤s.size∧∀k,k<(Utf8.decode s i).2→128≤(s.get! (i+k)).toNat:=by
 have one:∀r:Nat,128≤r→128≤(r,1).1∧1≤(r,1).2∧i+(r,1).2≤s.size∧∀k,k<(r,1).2→128≤(s.get! (i+k)).toNat:=by
  intro r hr
  refine⟨hr,Nat.le_refl _,by simp only;omega,fun k hk=>?_⟩
  have:k=0:=by simp only at hk;omega
  subst this
  simpa using h
 unfold Utf8.decode
 simp only[Nat.add_zero]
 rw[if_neg h]
 have cont:∀k,(decide (i+k<s.size)&&(s.get! (i+k)).toNat / 64==2)=true→i+k<s.size∧128≤(s.get! (i+k)).toNat:=by
  intro k hk
  simp only[Bool.and_eq_true,decide_eq_true_eq,beq_iff_eq] at hk
  omega
 split
 ·rename_i hc
  rw[Bool.and_eq_true] at hc
  have c1:=cont 1 hc.2
  split
  ·rename_i hr
   refine⟨hr,by simp,by simp only;omega,fun k hk=>?_⟩
   have:k=0∨k=1:=by simp only at hk;omega
   rcases this with rfl|rfl
   ·simpa using h
   ·exact c1.2
  ·exact one _ (by decide)
 ·split
  ·rename_i hc
   simp only[Bool.and_eq_true] at hc
   have c1:=cont 1 (by simpa using hc.1.2)
   have c2:=cont 2 (by simpa using hc.2)
   split
   ·rename_i hr
    rw[Bool.and_eq_true] at hr
    have:=of_decide_eq_true hr.1
    refine⟨by simp only;omega,by simp,by simp only;omega,fun k hk=>?_⟩
    have:k=0∨k=1∨k=2:=by simp only at hk;omega
    rcases this with rfl|rfl|rfl
    ·simpa using h
    ·exact c1.2
    ·exact c2.2
   ·exact one _ (by decide)
  ·split
   ·rename_i hc
    simp only[Bool.and_eq_true] at hc
    have c1:=cont 1 (by simpa using hc.1.1.2)
    have c2:=cont 2 (by simpa using hc.1.2)
    have c3:=cont 3 (by simpa using hc.2)
    split
    ·rename_i hr
     rw[Bool.and_eq_true] at hr
     have:=of_decide_eq_true hr.1
     refine⟨by simp only;omega,by simp,by simp only;omega,fun k hk=>?_⟩
     have:k=0∨k=1∨k=2∨k=3:=by simp only at hk;omega
     rcases this with rfl|rfl|rfl|rfl
     ·simpa using h
     ·exact c1.2
     ·exact c2.2
     ·exact c3.2
    ·exact one _ (by decide)
   ·exact one _ (by decide)
def spanB (s:ByteArray) (x:Nat×Nat):List UInt8:=(s.data.toList.take x.2).drop x.1
theorem extract_bA (s:ByteArray) (x:Nat×Nat):s.extract x.1 x.2=bA (spanB s x):=by
 apply ByteArray.ext
 apply Array.toList_inj.1
 simp[bA,spanB,ByteArray.data_extract,List.extract_eq_drop_take,List.drop_take]
theorem span_snoc {s:ByteArray}{a pos n:Nat}(h:a≤pos):spanB s (a,pos+n)=spanB s (a,pos)++((s.data.toList.drop pos).take n):=by
 unfold spanB
 simp only
 rw[List.take_add,List.drop_append]
 by_cases hp:pos≤s.data.toList.length
 ·rw[List.length_take,Nat.min_eq_left hp,show a-pos=0 by omega,List.drop_zero]
 ·have:s.data.toList.drop pos=[]:=List.drop_eq_nil_of_le (by omega)
  simp[this]
theorem fields_go (s:ByteArray):∀(f pos:Nat) (st:Option Nat) (acc:List (Nat×Nat)),s.size-pos≤f→pos≤s.size→(∀a,st=some a→a<pos)→
  (Lib.closeSpans s (Lib.spansFromP sepP s f pos st acc)).map (spanB s)=acc.map (spanB s)++wordsL (s.data.toList.drop pos) (match st with|none=>[]|some a=>spanB s (a,pos)):=by
 have hsz:s.data.toList.length=s.size:=by rw[Array.length_toList];rfl
 have ended:∀(f pos:Nat) (st:Option Nat) (acc:List (Nat×Nat)),pos=s.size→(∀a,st=some a→a<pos)→
   (Lib.closeSpans s (Lib.spansFromP sepP s f pos st acc)).map (spanB s)=acc.map (spanB s)++wordsL (s.data.toList.drop pos) (match st with|none=>[]|some a=>spanB s (a,pos)):=by
  intro f pos st acc hp ha
  rw[Lib.spansFromP_end _ _ _ _ _ _ (by omega)]
  have hd:s.data.toList.drop pos=[]:=List.drop_eq_nil_of_le (by omega)
  rw[hd]
  cases st with
  |none=>simp[Lib.closeSpans,wordsL]
  |some a=>
   have:=ha a rfl
   have hne:spanB s (a,pos)≠[]:=by
    intro e
    have:=congrArg List.length e
    simp only[spanB,List.length_drop,List.length_take,List.length_nil] at this
    omega
   simp[Lib.closeSpans,wordsL,hne,hp]
   rw[hp] at hne
   simp[hne]
 intro f
 induction f with
 |zero=>intro pos st acc hf hp ha;exact ended 0 pos st acc (by omega) ha
 |succ f ih=>
  intro pos st acc hf hp ha
  by_cases hlt:pos<s.size
  ·have hx:s.data.toList[pos]?=some s.data.toList[pos]:=List.getElem?_eq_getElem (by omega)
   have hg:(s.get! pos).toNat=s.data.toList[pos].toNat:=by rw[get_at,List.getD_eq_getElem?_getD,hx];rfl
   have hdrop:s.data.toList.drop pos=s.data.toList[pos]::s.data.toList.drop (pos+1):=List.drop_eq_getElem_cons (by omega)
   by_cases hb:sepB s.data.toList[pos]=true
   ·have hlow:(s.get! pos).toNat<128:=by
     rw[hg]
     unfold sepB at hb
     simp only[Bool.or_eq_true,beq_iff_eq] at hb
     omega
    have hd:=decode_low hlow
    have hp1:sepP (Utf8.decode s pos).1=true:=by rw[hd];unfold sepP;rw[hg];exact hb
    unfold Lib.spansFromP
    rw[if_pos hlt,if_pos hp1,hd]
    cases st with
    |none=>
     simp only
     rw[ih (pos+1) none acc (by omega) (by omega) (fun a h=>by cases h),hdrop]
     simp only[wordsL,hb,cond_true,if_true]
    |some a=>
     have hap:=ha a rfl
     have hne:spanB s (a,pos)≠[]:=by
      intro e
      have:=congrArg List.length e
      simp only[spanB,List.length_drop,List.length_take,List.length_nil] at this
      omega
     simp only
     rw[ih (pos+1) none _ (by omega) (by omega) (fun a h=>by cases h),hdrop]
     simp only[wordsL,hb,cond_true,if_neg hne,List.map_append,List.map_cons,List.map_nil,List.append_assoc,List.cons_append,List.nil_append]
   ·have hb':sepB s.data.toList[pos]=false:=by simpa using hb
    have key:sepP (Utf8.decode s pos).1=false∧1≤(Utf8.decode s pos).2∧pos+(Utf8.decode s pos).2≤s.size∧∀k,k<(Utf8.decode s pos).2→∀b,s.data.toList[pos+k]?=some b→sepB b=false:=by
     by_cases hlow:(s.get! pos).toNat<128
     ·rw[decode_low hlow]
      refine⟨by unfold sepP;rw[hg];exact hb',Nat.le_refl _,by simp only;omega,fun k hk b hkb=>?_⟩
      have:k=0:=by simp only at hk;omega
      subst this
      rw[Nat.add_zero,hx] at hkb
      cases hkb
      exact hb'
     ·obtain⟨h1,h2,h3,h4⟩:=decode_high hlt hlow
      refine⟨?_,h2,h3,fun k hk b hkb=>?_⟩
      ·unfold sepP
       simp only[Bool.or_eq_false_iff,beq_eq_false_iff_ne]
       omega
      ·have:=h4 k hk
       rw[get_at,List.getD_eq_getElem?_getD,hkb] at this
       unfold sepB
       simp only[Option.getD_some] at this
       simp only[Bool.or_eq_false_iff,beq_eq_false_iff_ne]
       omega
    obtain⟨h1,h2,h3,h4⟩:=key
    generalize hn:(Utf8.decode s pos).2=n at h2 h3 h4
    have hbs:∀b∈(s.data.toList.drop pos).take n,sepB b=false:=by
     intro b hb
     obtain⟨k,hk⟩:=List.getElem?_of_mem hb
     have hkl:=(List.getElem?_eq_some_iff.1 hk).1
     have hkn:k<n:=by simp only[List.length_take,List.length_drop] at hkl;omega
     rw[List.getElem?_take_of_lt hkn,List.getElem?_drop] at hk
     exact h4 k hkn b hk
    have hsplit:s.data.toList.drop pos=(s.data.toList.drop pos).take n++s.data.toList.drop (pos+n):=by
     rw[←List.drop_drop,List.take_append_drop]
    unfold Lib.spansFromP
    rw[if_pos hlt,if_neg (by rw[h1];decide),hn]
    have step:∀w,wordsL (s.data.toList.drop pos) w=wordsL (s.data.toList.drop (pos+n)) (w++(s.data.toList.drop pos).take n):=by
     intro w
     conv=>lhs;rw[hsplit]
     exact wordsL_app _ _ _ hbs
    cases st with
    |none=>
     simp only
     rw[ih (pos+n) (some pos) acc (by omega) h3 (fun a h=>by cases h;omega),step]
     congr 2
     simp only[List.nil_append]
     rw[span_snoc (Nat.le_refl _)]
     have:spanB s (pos,pos)=[]:=by unfold spanB;exact List.drop_eq_nil_of_le (by simp only[List.length_take];omega)
     rw[this,List.nil_append]
    |some a=>
     have hap:=ha a rfl
     simp only
     rw[ih (pos+n) (some a) acc (by omega) h3 (fun b h=>by cases h;omega),step]
     simp only
     rw[span_snoc (by omega)]
  ·exact ended (f+1) pos st acc (by omega) ha
def wordsOf (s:ByteArray):List ByteArray:=(wordsL s.data.toList []).map bA
theorem goFields_words (s:ByteArray):Lib.goFieldsP sepP s=wordsOf s:=by
 have h:=fields_go s s.size 0 none [] (by omega) (by omega) (fun a h=>by cases h)
 unfold wordsOf Lib.goFieldsP Lib.spansOfP
 simp only[List.map_nil,List.nil_append,List.drop_zero] at h
 rw[←h,List.map_map]
 exact List.map_congr_left fun x _=>extract_bA s x
end Go.Proofs.YtnclgkplpjpnfaaDoorX
namespace Go.Proofs.YtnclgkplpjpnfaaDoorX
open Go Go.Proofs.YtnclgkplpjpnfaaDoorT
set_option linter.all false
def digB (c:UInt8):Prop:=48≤c.toNat∧c.toNat≤57
def valL (acc:Nat) (l:List UInt8):Nat:=l.foldl (fun a c=>a*10+(c.toNat-48)) acc
theorem valL_ge:∀(l:List UInt8) (acc:Nat),acc≤valL acc l
 |[],acc=>Nat.le_refl _
 |c::l,acc=>by
  have:=valL_ge l (acc*10+(c.toNat-48))
  simp only[valL,List.foldl_cons] at this ⊢
  omega
theorem ofNat_dig {u:Nat}(h:u<10):(UInt8.ofNat (48+u)).toNat=48+u:=by
 rw[UInt8.toNat_ofNat']
 exact Nat.mod_eq_of_lt (by omega)
theorem dec_digits:∀(u:Nat),(∀c∈Lib.decDigits u,digB c)∧valL 0 (Lib.decDigits u)=u∧Lib.decDigits u≠[]:=by
 intro u
 induction u using Nat.strongRecOn with
 |ind u ih=>
  by_cases h:u<10
  ·rw[decDigits_small h]
   refine⟨fun c hc=>?_,?_,by simp⟩
   ·rw[List.mem_singleton.1 hc]
    unfold digB
    rw[ofNat_dig h]
    omega
   ·simp only[valL,List.foldl_cons,List.foldl_nil,ofNat_dig h]
    omega
  ·obtain⟨h1,h2,h3⟩:=ih (u / 10) (by omega)
   have hm:u % 10<10:=Nat.mod_lt _ (by decide)
   rw[decDigits_big h]
   refine⟨fun c hc=>?_,?_,by simp⟩
   ·rcases List.mem_append.1 hc with hc|hc
    ·exact h1 c hc
    ·rw[List.mem_singleton.1 hc]
     unfold digB
     rw[ofNat_dig hm]
     omega
   ·unfold valL at h2 ⊢
    rw[List.foldl_append,h2]
    simp only[List.foldl_cons,List.foldl_nil,ofNat_dig hm]
    omega
theorem parse_val:∀(l:List UInt8) (acc:Nat),(∀c∈l,digB c)→valL acc l<18446744073709551616→Lib.parseUint10 acc l=.ok (valL acc l)
 |[],acc,_,_=>rfl
 |c::l,acc,h,hv=>by
  have hc:=h c (by simp)
  unfold digB at hc
  have e:valL acc (c::l)=valL (acc*10+(c.toNat-48)) l:=rfl
  rw[e] at hv ⊢
  have:=valL_ge l (acc*10+(c.toNat-48))
  unfold Lib.parseUint10
  rw[if_pos hc,if_neg (by omega),if_neg (by omega)]
  exact parse_val l _ (fun x hx=>h x (by simp[hx])) hv
theorem mag_dec {u:Nat}(h:u<18446744073709551616):Lib.parseMag (Lib.decDigits u)=.ok u:=by
 obtain⟨h1,h2,h3⟩:=dec_digits u
 unfold Lib.parseMag
 rw[if_neg h3,parse_val _ 0 h1 (by rw[h2];exact h),h2]
theorem atoi_itoa {v:Int}(h0:-9223372036854775808≤v)(h1:v≤9223372036854775807):Lib.atoiAll (Lib.itoa v)=.ok v:=by
 unfold Lib.itoa
 split
 ·rename_i hn
  unfold Lib.atoiAll
  simp only[show(45:UInt8).toNat=45 from rfl]
  rw[if_pos (by right;trivial),mag_dec (by omega)]
  simp only[not_true_eq_false,false_and,if_false,true_and,if_true]
  rw[if_neg (by omega)]
  congr 1
  omega
 ·rename_i hn
  obtain⟨d1,d2,d3⟩:=dec_digits v.toNat
  have hm:=mag_dec (u:=v.toNat) (by omega)
  cases hd:Lib.decDigits v.toNat with
  |nil=>exact absurd hd d3
  |cons c r=>
   rw[hd] at d1 hm
   have hc:=d1 c (by simp)
   unfold digB at hc
   unfold Lib.atoiAll
   simp only
   rw[if_neg (by omega),hm]
   have hneg:¬c.toNat=45:=by omega
   simp only[hneg,not_false_eq_true,true_and,false_and,if_false]
   rw[if_neg (by omega)]
   congr 1
   omega
theorem readM_iff {s:ByteArray}{v:Int}:readM s=some v↔numT v=s∧-1000000≤v∧v≤1000000:=by
 unfold readM
 constructor
 ·intro h
  split at h
  ·rename_i w hw
   split at h
   ·rename_i hc
    cases h
    exact hc
   ·cases h
  ·cases h
 ·rintro⟨rfl,h0,h1⟩
  have:(numT v).data.toList=Lib.itoa v:=by simp[numT,bA]
  rw[this,atoi_itoa (by omega) (by omega)]
  simp only
  rw[if_pos ⟨rfl,h0,h1⟩]
end Go.Proofs.YtnclgkplpjpnfaaDoorX
namespace Go.Proofs.YtnclgkplpjpnfaaDoorX
open Go Go.Proofs.YtnclgkplpjpnfaaDoorT
set_option linter.all false
theorem V_p {s:ByteArray}(hs:s.size≤2000):F_t s=some (wordsOf s):=(U_k s).out (by
 have h:decide ((s.size:Int)>2000)=false:=by simp;omega
 have e:F_1r s=some (wordsOf s):=(U_1r s).out (by
  unfold fieldsF
  rw[Nat.ble_eq_true_of_le (by omega),cond_true,goFields_words])
 rw[h,cond_false,e]
 rfl)
theorem drop_at {s:ByteArray}{i:Nat}(h:i<s.size):∃b,s.data.toList[i]?=some b∧s.data.toList.drop i=b::s.data.toList.drop (i+1)∧(bl s)[i]?=some (b.toNat:Int)∧ssx s (i:Int) ((i+1:Nat):Int)=some (bA [b]):=by
 have hl:i<s.data.toList.length:=by rw[Array.length_toList];exact h
 have hd:=List.drop_eq_getElem_cons hl
 refine⟨s.data.toList[i],List.getElem?_eq_getElem hl,hd,?_,?_⟩
 ·unfold bl
  rw[List.getElem?_map,List.getElem?_eq_getElem hl]
  rfl
 ·unfold ssx
  have hc:(decide (0≤(i:Int))&&decide ((i:Int)≤((i+1:Nat):Int))&&decide (((i+1:Nat):Int)≤(s.size:Int)))=true:=by
   simp only[Bool.and_eq_true,decide_eq_true_eq]
   omega
  rw[hc,cond_true,Int.toNat_natCast,Int.toNat_natCast]
  have:=extract_bA s (i,i+1)
  simp only at this
  rw[this]
  congr 2
  unfold spanB
  simp only
  rw[List.drop_take,show i+1-i=1 by omega,hd]
  rfl
theorem bA_nil:bA []=ByteArray.empty:=rfl
theorem bA_eq_nil {l:List UInt8}:(bA l=ByteArray.empty)↔l=[]:=by
 constructor
 ·intro h
  have:=bA_size l
  rw[h] at this
  exact List.eq_nil_of_length_eq_zero this.symm
 ·rintro rfl;rfl
theorem V_11 {s:ByteArray}(hs:s.size≤2000):F_1l s=some (wordsOf s):=(U_1h s).out (by
 have h:decide ((s.size:Int)>2000)=false:=by simp;omega
 rw[h,cond_false]
 have hsz:s.data.toList.length=s.size:=by rw[Array.length_toList];rfl
 have key:=loopF_ind (S:=List ByteArray×ByteArray×Int) (A:=Ex (List ByteArray) (List ByteArray)) (f:=fun f t=>L_n s f t.1 t.2.1 t.2.2)
  (fun t=>s.size+1-t.2.2.toNat)
  (fun t=>∃(out:List ByteArray) (w:List UInt8) (i:Nat),t=(out,bA w,(i:Int))∧out.length≤i∧w.length≤i∧i≤s.size+1∧(i=s.size+1→w=[]))
  (fun t=>.go (t.1++(wordsL (s.data.toList.drop t.2.2.toNat) t.2.1.data.toList).map bA))
  (by
   rintro t ⟨out,w,i,rfl,ho,hw,hi,hl⟩ g hg
   simp only[Int.toNat_natCast] at hg ⊢
   have hwd:(bA w).data.toList=w:=by simp[bA]
   rw[hwd]
   unfold L_n
   by_cases h1:i≤s.size
   ·rw[decide_eq_true (show(i:Int)≤(s.size:Int) by omega),cond_true]
    by_cases h2:i<s.size
    ·obtain⟨b,hb1,hb2,hb3,hb4⟩:=drop_at h2
     rw[decide_eq_true (show(i:Int)<(s.size:Int) by omega),cond_true]
     simp only[bix_some hb3,Option.bind_some]
     rw[hb2]
     have hsep:(bif ((b.toNat:Int) != 32) then some (Ex.go (R:=Ex (Ex (List ByteArray) (List ByteArray)) (List ByteArray×ByteArray)) ((b.toNat:Int) != 10)) else some (Ex.go false))=some (Ex.go (!sepB b)):=by
      unfold sepB
      by_cases h32:b.toNat=32
      ·simp[h32]
      ·by_cases h10:b.toNat=10
       ·simp[h10]
       ·have e1:((b.toNat:Int) != 32)=true:=by simp;omega
        have e2:((b.toNat:Int) != 10)=true:=by simp;omega
        simp[e1,e2,h32,h10]
     rw[hsep]
     simp only[joinK_go,J_e,J_d,wrap_nat (show i<9223372036854775807 by omega)]
     cases hs1:sepB b with
     |false=>
      simp only[Bool.not_false,cond_true,hb4,Option.bind_some,addx_bA (show w.length+[b].length≤4611686018427387904 by simp;omega),joinK_go]
      rw[hg _ ⟨out,w++[b],i+1,rfl,by omega,by simp;omega,by omega,fun h=>absurd h (by omega)⟩ (by simp only[Int.toNat_natCast];omega)]
      simp only[Int.toNat_natCast,wordsL,hs1,cond_false]
      rw[show(bA (w++[b])).data.toList=w++[b] by simp[bA]]
     |true=>
      simp only[Bool.not_true,cond_false,beq_toList]
      by_cases hw0:w=[]
      ·subst hw0
       rw[bA_nil]
       simp only[decide_true,Bool.not_true,cond_false,joinK_go,J_1]
       rw[hg (out,ByteArray.empty,((i+1:Nat):Int)) ⟨out,[],i+1,rfl,by omega,by simp,by omega,fun _=>rfl⟩ (by simp only[Int.toNat_natCast];omega)]
       simp only[Int.toNat_natCast,wordsL,hs1,cond_true,if_true]
       rfl
      ·have hne:decide (bA w=ByteArray.empty)=false:=by simp[bA_eq_nil,hw0]
       rw[hne]
       simp only[Bool.not_false,cond_true,apx_some (show out.length+[bA w].length≤2147483648 by simp;omega),Option.bind_some,joinK_go,J_1]
       rw[hg (out++[bA w],ByteArray.empty,((i+1:Nat):Int)) ⟨out++[bA w],[],i+1,rfl,by simp;omega,by simp,by omega,fun _=>rfl⟩ (by simp only[Int.toNat_natCast];omega)]
       simp only[Int.toNat_natCast,wordsL,hs1,cond_true,if_neg hw0,List.map_cons,List.append_assoc,List.cons_append,List.nil_append]
       rfl
    ·have hi2:i=s.size:=by omega
     subst hi2
     have hd:s.data.toList.drop s.size=[]:=List.drop_eq_nil_of_le (by omega)
     rw[hd,decide_eq_false (show¬(s.size:Int)<(s.size:Int) by omega),cond_false]
     simp only[joinK_go,J_e,J_d,wrap_nat (show s.size<9223372036854775807 by omega),cond_false,beq_toList]
     have hd1:s.data.toList.drop (s.size+1)=[]:=List.drop_eq_nil_of_le (by omega)
     by_cases hw0:w=[]
     ·subst hw0
      rw[bA_nil]
      simp only[decide_true,Bool.not_true,cond_false,joinK_go,J_1]
      rw[hg (out,ByteArray.empty,((s.size+1:Nat):Int)) ⟨out,[],s.size+1,rfl,by omega,by simp,by omega,fun _=>rfl⟩ (by simp only[Int.toNat_natCast];omega)]
      simp only[Int.toNat_natCast,hd1]
      rfl
     ·have hne:decide (bA w=ByteArray.empty)=false:=by simp[bA_eq_nil,hw0]
      rw[hne]
      simp only[Bool.not_false,cond_true,apx_some (show out.length+[bA w].length≤2147483648 by simp;omega),Option.bind_some,joinK_go,J_1]
      rw[hg (out++[bA w],ByteArray.empty,((s.size+1:Nat):Int)) ⟨out++[bA w],[],s.size+1,rfl,by simp;omega,by simp,by omega,fun _=>rfl⟩ (by simp only[Int.toNat_natCast];omega)]
      simp only[Int.toNat_natCast,hd1,wordsL,if_neg hw0,List.map_cons,List.append_assoc,List.cons_append,List.nil_append]
      rfl
   ·have hi2:i=s.size+1:=by omega
    subst hi2
    rw[decide_eq_false (show¬((s.size+1:Nat):Int)≤(s.size:Int) by omega),cond_false,hl rfl,List.drop_eq_nil_of_le (show s.data.toList.length≤s.size+1 by omega)]
    simp[wordsL]) ([],ByteArray.empty,0) ⟨[],[],0,rfl,by simp,by simp,by omega,fun h=>absurd h (by omega)⟩
 rw[key,joinK_go]
 rfl)
theorem wordsL_ne:∀(l w:List UInt8),∀x∈wordsL l w,x≠[]
 |[],w,x,h=>by
  unfold wordsL at h
  split at h
  ·cases h
  ·rw[List.mem_singleton.1 h];assumption
 |b::l,w,x,h=>by
  unfold wordsL at h
  cases hs:sepB b with
  |true=>
   rw[hs,cond_true] at h
   split at h
   ·exact wordsL_ne l [] x h
   ·rcases List.mem_cons.1 h with h|h
    ·rw[h];assumption
    ·exact wordsL_ne l [] x h
  |false=>
   rw[hs,cond_false] at h
   exact wordsL_ne l _ x h
theorem wordsL_len:∀(l w:List UInt8),(wordsL l w).length≤l.length+1∧∀x∈wordsL l w,x.length≤l.length+w.length
 |[],w=>by
  unfold wordsL
  split
  ·simp
  ·simp
 |b::l,w=>by
  obtain⟨h1,h2⟩:=wordsL_len l []
  obtain⟨h3,h4⟩:=wordsL_len l (w++[b])
  unfold wordsL
  cases sepB b with
  |true=>
   rw[cond_true]
   split
   ·refine⟨by simp only[List.length_cons];omega,fun x hx=>?_⟩
    have:=h2 x hx
    simp only[List.length_cons,List.length_nil] at this ⊢
    omega
   ·refine⟨by simp only[List.length_cons];omega,fun x hx=>?_⟩
    rcases List.mem_cons.1 hx with h|h
    ·rw[h];omega
    ·have:=h2 x h
     simp only[List.length_cons,List.length_nil] at this ⊢
     omega
  |false=>
   rw[cond_false]
   refine⟨by simp only[List.length_cons];omega,fun x hx=>?_⟩
   have:=h4 x hx
   simp only[List.length_append,List.length_cons,List.length_nil] at this ⊢
   omega
structure Wds (W:List ByteArray):Prop where
 len:W.length≤2001
 ne:∀w∈W,1≤w.size
 sz:∀w∈W,w.size≤2000
theorem wds_of {s:ByteArray}(hs:s.size≤2000):Wds (wordsOf s):=by
 have hsz:s.data.toList.length=s.size:=by rw[Array.length_toList];rfl
 obtain⟨h1,h2⟩:=wordsL_len s.data.toList []
 refine⟨by unfold wordsOf;rw[List.length_map];omega,fun w hw=>?_,fun w hw=>?_⟩
 ·obtain⟨x,hx,rfl⟩:=List.mem_map.1 hw
  have:=List.length_pos_iff.2 (wordsL_ne _ _ x hx)
  rw[bA_size]
  omega
 ·obtain⟨x,hx,rfl⟩:=List.mem_map.1 hw
  have:=h2 x hx
  simp only[List.length_nil] at this
  rw[bA_size]
  omega
end Go.Proofs.YtnclgkplpjpnfaaDoorX
namespace Go.Proofs.YtnclgkplpjpnfaaDoorX
open Go Go.Proofs.YtnclgkplpjpnfaaDoorT
set_option linter.all false
def digb (c:UInt8):Bool:=decide (48≤c.toNat)&&decide (c.toNat≤57)
theorem digb_iff {c:UInt8}:digb c=true↔digB c:=by
 unfold digb digB
 simp
theorem val_step {a:Nat}{c:UInt8}{m:Nat}(hc:digb c=true)(hm:a<10 ^ m):a*10+(c.toNat-48)<10 ^ (m+1):=by
 have:=digb_iff.1 hc
 unfold digB at this
 rw[Nat.pow_succ]
 omega
theorem val_bound:∀(l:List UInt8) (a m:Nat),(∀c∈l,digb c=true)→a<10 ^ m→valL a l<10 ^ (m+l.length)
 |[],a,m,_,h=>h
 |c::l,a,m,hl,h=>by
  have:=val_bound l (a*10+(c.toNat-48)) (m+1) (fun x hx=>hl x (by simp[hx])) (val_step (hl c (by simp)) h)
  rw[show m+(c::l).length=m+1+l.length by simp;omega]
  exact this
theorem read_forE:∀(l:List UInt8) (i:Nat) (a:Nat),(∀c∈l,digb c=true)∨¬(∀c∈l,digb c=true)→
  forE (T:=UInt8) (A:=Int×Bool) (S:=Int×Bool×Int) (fun _ c s=>if digb c=true then Ex.go (0,false,s.2.2*10+(c.toNat:Int)-48) else Ex.ret (0,false)) l i ((0:Int),false,(a:Int)) Ex.go Ex.ret
   = if l.all digb=true then Ex.go ((0:Int),false,(valL a l:Int)) else Ex.ret ((0:Int),false)
 |[],i,a,_=>rfl
 |c::l,i,a,_=>by
  unfold forE
  simp only
  by_cases hc:digb c=true
  ·rw[if_pos hc]
   simp only
   have:=digb_iff.1 hc
   unfold digB at this
   rw[show(a:Int)*10+(c.toNat:Int)-48=((a*10+(c.toNat-48):Nat):Int) by omega,read_forE l (i+1) _ (Decidable.em _),List.all_cons,hc,Bool.true_and]
   rfl
  ·rw[if_neg hc]
   have hn:¬(c::l).all digb=true:=by rw[List.all_cons];simp[hc]
   rw[if_neg hn]
theorem read_loop {s:ByteArray}(hs:s.size≤7):loopF (fun f t=>L_7 s f t.1 t.2.1 t.2.2.1 t.2.2.2) ((0:Int),false,(0:Int),(0:Int))
  = some (if s.data.toList.all digb=true then Ex.go ((0:Int),false,(valL 0 s.data.toList:Int)) else Ex.ret ((0:Int),false)):=by
 have hsz:s.data.toList.length=s.size:=by rw[Array.length_toList];rfl
 have h:=loopF_for (T:=UInt8) (S:=Int×Bool×Int) (R:=Int×Bool) (f:=fun f t=>L_7 s f t.1 t.2.1 t.2.2.1 t.2.2.2) (l:=s.data.toList) (st:=fun i a=>(a.1,a.2.1,a.2.2,(i:Int)))
  (fun i a=>a.1=0∧a.2.1=false∧0≤a.2.2∧a.2.2<((10 ^ i:Nat):Int)∧i≤7)
  (fun _ c t=>if digb c=true then Ex.go (0,false,t.2.2*10+(c.toNat:Int)-48) else Ex.ret (0,false))
  (by
   rintro i c ⟨v,b,n⟩ g hx ⟨h1,h2,h3,h4,h5⟩
   simp only at h1 h2 h3 h4 ⊢
   subst h1 h2
   have hi:=(List.getElem?_eq_some_iff.1 hx).1
   have hbl:(bl s)[i]?=some (c.toNat:Int):=by unfold bl;rw[List.getElem?_map,hx];rfl
   have hp:(10:Nat) ^ i≤10 ^ 7:=Nat.pow_le_pow_right (by decide) h5
   have h255:c.toNat<256:=c.toNat_lt
   have w1:IntKind.i64.wrap (c.toNat:Int)=c.toNat:=wrap_sml (by omega) (by omega)
   have w2:IntKind.i64.wrap (10*n)=10*n:=wrap_sml (by omega) (by omega)
   have w3:IntKind.i64.wrap (10*n+(c.toNat:Int))=10*n+c.toNat:=wrap_sml (by omega) (by omega)
   have w4:IntKind.i64.wrap (10*n+(c.toNat:Int)-48)=10*n+(c.toNat:Int)-48:=wrap_sml (by omega) (by omega)
   unfold L_7
   rw[decide_eq_true (show(i:Int)<(s.size:Int) by omega),cond_true]
   simp only[bix_some hbl,Option.bind_some,J_18,w1,w2,w3,w4,wrap_nat (show i<9223372036854775807 by omega)]
   by_cases hlo:c.toNat<48
   ·rw[decide_eq_true (show(c.toNat:Int)<48 by omega),cond_true,joinK_go,if_neg (by unfold digb;simp;omega)]
    rfl
   ·by_cases hhi:57<c.toNat
    ·rw[decide_eq_false (show¬(c.toNat:Int)<48 by omega),cond_false,decide_eq_true (show(c.toNat:Int)>57 by omega),joinK_go,if_neg (by unfold digb;simp;omega)]
     rfl
    ·rw[decide_eq_false (show¬(c.toNat:Int)<48 by omega),cond_false,decide_eq_false (show¬(c.toNat:Int)>57 by omega),joinK_go,if_pos (by unfold digb;simp;omega),cond_false]
     rw[show n*10+(c.toNat:Int)-48=10*n+c.toNat-48 by omega])
  (by
   rintro i c ⟨v,b,n⟩ a' hx ⟨h1,h2,h3,h4,h5⟩ he
   simp only at h1 h2 h3 h4 he
   have hi:=(List.getElem?_eq_some_iff.1 hx).1
   by_cases hc:digb c=true
   ·rw[if_pos hc] at he
    have:=digb_iff.1 hc
    unfold digB at this
    injection he with he
    subst he
    refine⟨rfl,rfl,by simp only;omega,?_,by omega⟩
    simp only
    rw[Nat.pow_succ]
    omega
   ·rw[if_neg hc] at he
    cases he)
  (by
   rintro⟨v,b,n⟩ g _
   unfold L_7
   simp only
   rw[hsz,decide_eq_false (show¬(s.size:Int)<(s.size:Int) by omega)]
   rfl)
  ((0:Int),false,(0:Int)) ⟨rfl,rfl,by simp,by simp,by omega⟩
 simp only at h
 rw[←read_forE s.data.toList 0 0 (Decidable.em _)]
 exact h
def isMin (s:ByteArray):Bool:=match s.data.toList with
 |c::_=>c.toNat==45
 |[]=>false
def digsOf (s:ByteArray):List UInt8:=bif isMin s then s.data.toList.tail else s.data.toList
def readS (s:ByteArray):Int×Bool:=
 if 1≤(digsOf s).length∧(digsOf s).length≤7∧(digsOf s).all digb=true then
  (let n:Int:=if isMin s=true then -(valL 0 (digsOf s):Int) else valL 0 (digsOf s);if numT n=s then(n,okIn n (-1000000) 1000000) else(n,false))
 else(0,false)
theorem tail_at {s:ByteArray}(h:0<s.size):∃c,s.data.toList=c::s.data.toList.tail∧(bl s)[0]?=some (c.toNat:Int)∧ssx s 1 (s.size:Int)=some (bA s.data.toList.tail):=by
 have hsz:s.data.toList.length=s.size:=by rw[Array.length_toList];rfl
 obtain⟨c,h1,h2,h3,-⟩:=drop_at h
 refine⟨c,by simpa using h2,h3,?_⟩
 unfold ssx
 have hc:(decide ((0:Int)≤1)&&decide ((1:Int)≤(s.size:Int))&&decide ((s.size:Int)≤(s.size:Int)))=true:=by
  simp only[Bool.and_eq_true,decide_eq_true_eq]
  omega
 rw[hc,cond_true]
 have:=extract_bA s (1,s.size)
 simp only at this
 rw[show(1:Int).toNat=1 from rfl,Int.toNat_natCast,this]
 congr 2
 unfold spanB
 simp only
 rw[←hsz,List.take_length,List.drop_one]
theorem V_6 {s:ByteArray}(hs:s.size≤2000):F_1n s=some (readS s):=(U_1l s).out (by
 have hsz:s.data.toList.length=s.size:=by rw[Array.length_toList];rfl
 have hm:(joinK (bif (decide ((s.size:Int)>0)) then(bix s 0).bind (fun z1=>some (Ex.go (R:=Ex (Int×Bool) ByteArray) (z1==45))) else some (.go false)) (fun b=>J_8 s b))=some (.go (bA (digsOf s))):=by
  by_cases h0:0<s.size
  ·obtain⟨c,h1,h2,h3⟩:=tail_at h0
   rw[decide_eq_true (show(s.size:Int)>0 by omega),cond_true,show(0:Int)=((0:Nat):Int) from rfl,bix_some h2,Option.bind_some,joinK_go]
   unfold J_8 digsOf isMin
   rw[h3]
   rw[h1]
   simp only
   by_cases hc:c.toNat=45
   ·rw[show((c.toNat:Int)==45)=true by simp;omega,show(c.toNat==45)=true by simp[hc]]
    simp
   ·rw[show((c.toNat:Int)==45)=false by simp;omega,show(c.toNat==45)=false by simp[hc]]
    simp only[cond_false]
    rw[←h1,bA_data]
  ·rw[decide_eq_false (show¬(s.size:Int)>0 by omega),cond_false,joinK_go]
   have hn:s.data.toList=[]:=List.eq_nil_of_length_eq_zero (by omega)
   unfold J_8 digsOf isMin
   rw[hn,cond_false]
   simp only[cond_false]
   rw[←hn,bA_data]
 rw[hm,joinK_go]
 have hlen:(digsOf s).length=if isMin s=true then s.size-1 else s.size:=by
  unfold digsOf
  cases isMin s <;> simp[hsz]
 have hmin:isMin s=true→0<s.size:=by
  intro h
  unfold isMin at h
  cases hd:s.data.toList with
  |nil=>rw[hd] at h;cases h
  |cons c r=>rw[hd] at hsz;simp at hsz;omega
 unfold J_16 readS
 rw[V_2,Option.bind_some,bA_size]
 by_cases h7:1≤(digsOf s).length∧(digsOf s).length≤7
 ·rw[show okIn ((digsOf s).length:Int) 1 7=true by rw[okIn_iff];omega,Bool.not_true,cond_false,read_loop (by rw[bA_size];omega),show(bA (digsOf s)).data.toList=digsOf s by simp[bA]]
  by_cases hd:(digsOf s).all digb=true
  ·rw[if_pos hd,joinK_go,if_pos ⟨h7.1,h7.2,hd⟩]
   have hb:=val_bound (digsOf s) 0 0 (List.all_eq_true.1 hd) (by simp)
   have hb2:10 ^ (0+(digsOf s).length)≤10 ^ 7:=Nat.pow_le_pow_right (by decide) (by omega)
   unfold J_17
   rw[bA_size]
   have hn:(bif decide (((digsOf s).length:Int)<(s.size:Int)) then some (Ex.go (R:=Int×Bool) (IntKind.i64.wrap (0-(valL 0 (digsOf s):Int)))) else some (.go (valL 0 (digsOf s):Int)))
     = some (.go (if isMin s=true then -(valL 0 (digsOf s):Int) else valL 0 (digsOf s))):=by
    by_cases hi:isMin s=true
    ·have:=hmin hi
     rw[if_pos hi] at hlen ⊢
     rw[decide_eq_true (by omega),cond_true,wrap_sml (by omega) (by omega)]
     simp
    ·rw[if_neg hi] at hlen ⊢
     rw[decide_eq_false (by omega),cond_false]
   simp only at hn ⊢
   rw[hn,joinK_go]
   unfold J_19
   have hx:-10000000≤(if isMin s=true then -(valL 0 (digsOf s):Int) else valL 0 (digsOf s))∧(if isMin s=true then -(valL 0 (digsOf s):Int) else valL 0 (digsOf s))≤10000000:=by split <;> omega
   generalize (if isMin s=true then -(valL 0 (digsOf s):Int) else valL 0 (digsOf s))=n at hx
   rw[V_12 (by omega) (by omega),Option.bind_some,beq_toList]
   by_cases he:numT n=s
   ·rw[decide_eq_true he,cond_true,V_f,if_pos he]
    rfl
   ·rw[decide_eq_false he,cond_false,if_neg he]
    rfl
  ·rw[if_neg hd,joinK_ret,if_neg (fun h=>hd h.2.2)]
 ·rw[show okIn ((digsOf s).length:Int) 1 7=false by rw[←Bool.not_eq_true,okIn_iff];omega,Bool.not_false,cond_true,if_neg (fun h=>h7 ⟨h.1,h.2.1⟩)])
theorem readS_ok {s:ByteArray}{v:Int}(h:readM s=some v):readS s=(v,true):=by
 obtain⟨h1,h2,h3⟩:=readM_iff.1 h
 have hl:s.data.toList=Lib.itoa v:=by rw[←h1];simp[numT,bA]
 have hd:isMin s=decide (v<0)∧digsOf s=Lib.decDigits v.natAbs:=by
  unfold digsOf isMin
  rw[hl]
  unfold Lib.itoa
  by_cases hn:v<0
  ·rw[if_pos hn,decide_eq_true hn]
   simp only
   constructor
   ·rfl
   ·rfl
  ·rw[if_neg hn,decide_eq_false hn]
   obtain⟨d1,d2,d3⟩:=dec_digits v.toNat
   have hnn:v.toNat=v.natAbs:=by omega
   cases hd:Lib.decDigits v.toNat with
   |nil=>exact absurd hd d3
   |cons c r=>
    rw[hd] at d1
    have hc:=d1 c (by simp)
    unfold digB at hc
    have:(c.toNat==45)=false:=by simp;omega
    simp only[this,cond_false]
    rw[←hnn,hd]
    simp
 obtain⟨d1,d2,d3⟩:=dec_digits v.natAbs
 have hlen:(Lib.decDigits v.natAbs).length≤7:=by
  rw[Lib.decDigits_length]
  exact nDigits_le 6 _ (by omega)
 unfold readS
 rw[hd.1,hd.2,if_pos ⟨List.length_pos_iff.2 d3,hlen,List.all_eq_true.2 fun c hc=>digb_iff.2 (d1 c hc)⟩]
 simp only[d2]
 have hv:(if decide (v<0)=true then -(v.natAbs:Int) else(v.natAbs:Int))=v:=by
  by_cases hn:v<0
  ·rw[decide_eq_true hn,if_pos rfl];omega
  ·rw[decide_eq_false hn,if_neg (by simp)];omega
 rw[hv,if_pos h1,okIn_iff.2 ⟨h2,h3⟩]
theorem readS_no {s:ByteArray}(h:readM s=none):(readS s).2=false:=by
 unfold readS
 split
 ·simp only
  generalize (if isMin s=true then -(valL 0 (digsOf s):Int) else valL 0 (digsOf s))=n
  by_cases h2:numT n=s
  ·rw[if_pos h2]
   cases hk:okIn n (-1000000) 1000000 with
   |false=>rfl
   |true=>
    have:=readM_iff.2 ⟨h2,(okIn_iff.1 hk).1,(okIn_iff.1 hk).2⟩
    rw[h] at this
    cases this
  ·rw[if_neg h2]
 ·rfl
end Go.Proofs.YtnclgkplpjpnfaaDoorX
namespace Go.Proofs.YtnclgkplpjpnfaaDoorX
open Go Go.Proofs.YtnclgkplpjpnfaaDoorT PT
set_option linter.all false
theorem ok_loop1 {A S:Type}{Q:A→Prop}{f:(S→Option A)→S→Option A}(μ:S→Nat) (I:S→Prop)
  (h:∀s,I s→(∃r,(∀g,f g s=some r)∧Q r)∨(∃s',I s'∧μ s'<μ s∧∀g,f g s=g s')):∀s,I s→Ok (loopF f s) Q:=
 Ok.loop μ I fun s hs G hG=>by
  rcases h s hs with⟨r,h1,h2⟩|⟨s',h1,h2,h3⟩
  ·exact⟨r,fun g _=>h1 g,h2⟩
  ·obtain⟨a,h4,h5⟩:=hG s' h1 h2
   exact⟨a,fun g hg=>by dsimp only;rw[h3 g];exact h4 g hg,h5⟩
def verbs:List ByteArray:=[⟨#[115,99,97,110]⟩,⟨#[102,105,108,116,101,114]⟩,⟨#[107,101,101,112]⟩,⟨#[106,111,105,110]⟩,⟨#[98,111,116,104]⟩,⟨#[115,111,114,116]⟩,⟨#[108,105,109,105,116]⟩,⟨#[111,110,99,101]⟩]
def opsW:List ByteArray:=[⟨#[61]⟩,⟨#[60]⟩,⟨#[62]⟩,⟨#[110,111,110,101]⟩]
def inW (l:List ByteArray) (w:ByteArray):Option Nat:=findI (fun y=>decide (y=w)) l 0
def rWord {A:Type}(W:List ByteArray) (f:ByteArray→Option A) (k:Nat):Except Nat (A×Nat):=match W[k]? with
 |some w=>match f w with
  |some a=>.ok (a,k+1)
  |none=>.error k
 |none=>.error k
def thn {A B:Type}(m:Except Nat (A×Nat)) (g:A→Nat→Except Nat (B×Nat)):Except Nat (B×Nat):=match m with
 |.ok x=>g x.1 x.2
 |.error e=>.error e
def rNum (W:List ByteArray) (k:Nat):Except Nat (Int×Nat):=rWord W readM k
def isDollar (w:ByteArray):Bool:=match w.data.toList with
 |c::_=>c.toNat==36
 |[]=>false
def slotM (w:ByteArray):Option (Int×Bool):=bif isDollar w then(match readM (bA w.data.toList.tail) with|some v=>if 0≤v then some (v,true) else none|none=>none) else(match readM w with|some v=>some (v,false)|none=>none)
def wordM (w:ByteArray):Option ByteArray:=if wordOk w=true then some w else none
def numIn (lo hi:Int) (w:ByteArray):Option Int:=match readM w with
 |some v=>if okIn v lo hi=true then some v else none
 |none=>none
def rCols (W:List ByteArray):Nat→Nat→List Int→List Int×Nat×Bool
 |0,k,cs=>(cs,k,true)
 |n+1,k,cs=>match rNum W k with
  |.ok x=>rCols W n x.2 (cs++[x.1])
  |.error e=>(cs,e,false)
def rNode (W:List ByteArray) (k:Nat):Except Nat (Nd×Nat):=thn (rWord W (inW verbs) k) fun v k=>
 if v=0 then thn (rWord W wordM k) fun w k=>.ok ((0,w,0,0,0,false,[],()),k)
 else if v=1 then thn (rNum W k) fun c k=>thn (rWord W (inW opsW) k) fun o k=>
  if o=3 then .ok ((1,ByteArray.empty,c,3,0,false,[],()),k) else thn (rWord W slotM k) fun x k=>.ok ((1,ByteArray.empty,c,(o:Int),x.1,x.2,[],()),k)
 else if v=2 then thn (rWord W (numIn 1 6) k) fun n k=>if (rCols W n.toNat k []).2.2=true then .ok ((2,ByteArray.empty,0,0,0,false,(rCols W n.toNat k []).1,()),(rCols W n.toNat k []).2.1) else .error (rCols W n.toNat k []).2.1
 else if v=3 then thn (rNum W k) fun c k=>thn (rNum W k) fun m k=>.ok ((3,ByteArray.empty,c,0,m,false,[],()),k)
 else if v=5 then thn (rNum W k) fun c k=>.ok ((5,ByteArray.empty,c,0,0,false,[],()),k)
 else if v=6 then thn (rWord W slotM k) fun x k=>.ok ((6,ByteArray.empty,0,0,x.1,x.2,[],()),k)
 else .ok (((v:Int),ByteArray.empty,0,0,0,false,[],()),k)
def rPlan (W:List ByteArray):Nat→Nat→Nat→List Nd→Except Nat (List Nd×Nat)
 |0,_,k,_=>.error k
 |f+1,want,k,acc=>if want=0 then .ok (acc,k) else match rNode W k with
  |.error e=>.error e
  |.ok x=>rPlan W f (want-1+(arity x.1.1).toNat) x.2 (acc++[x.1])
def parsePlan (text:ByteArray):List Nd×Int:=
 if text.size>2000 then([],0) else match rPlan (wordsOf text) ((wordsOf text).length+1) 1 0 [] with
 |.error k=>([],k)
 |.ok (p,k)=>if k<(wordsOf text).length then([],k) else if planOk p=true then(p,-1) else([],(wordsOf text).length)
theorem rWord_ok {A:Type}{W:List ByteArray}{f:ByteArray→Option A}{k k':Nat}{a:A}(h:rWord W f k=.ok (a,k')):k'=k+1∧k<W.length∧∃w,W[k]?=some w∧f w=some a:=by
 unfold rWord at h
 cases hw:W[k]? with
 |none=>rw[hw] at h;cases h
 |some w=>
  rw[hw] at h
  simp only at h
  cases hf:f w with
  |none=>rw[hf] at h;cases h
  |some b=>
   rw[hf] at h
   injection h with h
   injection h with h1 h2
   exact⟨h2.symm,(List.getElem?_eq_some_iff.1 hw).1,w,rfl,by rw[hf,h1]⟩
theorem rWord_err {A:Type}{W:List ByteArray}{f:ByteArray→Option A}{k e:Nat}(h:rWord W f k=.error e):e=k∧(W.length≤k∨∃w,W[k]?=some w∧f w=none):=by
 unfold rWord at h
 cases hw:W[k]? with
 |none=>
  rw[hw] at h
  injection h with h
  exact⟨h.symm,.inl (List.getElem?_eq_none_iff.1 hw)⟩
 |some w=>
  rw[hw] at h
  simp only at h
  cases hf:f w with
  |none=>
   rw[hf] at h
   injection h with h
   exact⟨h.symm,.inr ⟨w,rfl,hf⟩⟩
  |some b=>rw[hf] at h;cases h
theorem inW_lt {l:List ByteArray}{w:ByteArray}{v:Nat}(h:inW l w=some v):v<l.length:=by
 obtain⟨h1,x,h2,h3⟩:=findI_some h
 have:=(List.getElem?_eq_some_iff.1 h2).1
 omega
theorem rCols_facts (W:List ByteArray):∀(n k:Nat) (cs:List Int),k≤W.length→k≤(rCols W n k cs).2.1∧(rCols W n k cs).2.1≤W.length∧(rCols W n k cs).1.length≤cs.length+n
 |0,k,cs,h=>⟨Nat.le_refl _,h,Nat.le_refl _⟩
 |n+1,k,cs,h=>by
  unfold rCols
  cases hr:rNum W k with
  |error e=>
   have:=rWord_err hr
   simp only
   omega
  |ok x=>
   obtain⟨v,k'⟩:=x
   obtain⟨h1,h2,-⟩:=rWord_ok hr
   have:=rCols_facts W n k' (cs++[v]) (by omega)
   simp only[List.length_append,List.length_cons,List.length_nil] at this ⊢
   omega
theorem arb (k:Int)(h:okIn k 0 7=true):0≤arity k∧arity k≤2:=by
 have:=okIn_iff.1 h
 unfold arity
 split
 ·omega
 ·split
  ·omega
  ·split <;> omega
theorem rNode_facts {W:List ByteArray}(hW:Wds W){k k':Nat}{n:Nd}(h:rNode W k=.ok (n,k')):k<k'∧k'≤W.length∧0≤arity n.1∧arity n.1≤2∧n.2.1.size≤2000∧n.2.2.2.2.2.2.1.length≤6:=by
 unfold rNode at h
 cases h1:rWord W (inW verbs) k with
 |error e=>rw[h1] at h;cases h
 |ok x=>
  obtain⟨v,k1⟩:=x
  obtain⟨e1,l1,w,-,hv⟩:=rWord_ok h1
  have hv8:=inW_lt hv
  rw[h1] at h
  simp only[thn] at h
  have he0:ByteArray.empty.size=0:=rfl
  have hv':v=0∨v=1∨v=2∨v=3∨v=4∨v=5∨v=6∨v=7:=by simp only[verbs,List.length_cons,List.length_nil] at hv8;omega
  rcases hv' with rfl|rfl|rfl|rfl|rfl|rfl|rfl|rfl
  ·rw[if_pos rfl] at h
   cases h2:rWord W wordM k1 with
   |error e=>rw[h2] at h;cases h
   |ok y=>
    rw[h2] at h
    obtain⟨w2,k2⟩:=y
    obtain⟨e2,l2,w',hw',hf⟩:=rWord_ok h2
    cases h
    have:w2.size≤2000:=by
     unfold wordM at hf
     split at hf
     ·cases hf
      exact hW.sz _ (List.mem_of_getElem? hw')
     ·cases hf
    refine⟨by omega,by omega,(arb _ rfl).1,(arb _ rfl).2,this,by simp⟩
  ·rw[if_neg (by decide),if_pos rfl] at h
   cases h2:rNum W k1 with
   |error e=>rw[h2] at h;cases h
   |ok y=>
    rw[h2] at h
    obtain⟨c,k2⟩:=y
    obtain⟨e2,l2,-⟩:=rWord_ok h2
    simp only at h
    cases h3:rWord W (inW opsW) k2 with
    |error e=>rw[h3] at h;cases h
    |ok z=>
     rw[h3] at h
     obtain⟨o,k3⟩:=z
     obtain⟨e3,l3,-⟩:=rWord_ok h3
     simp only at h
     by_cases ho:o=3
     ·rw[if_pos ho] at h
      cases h
      exact⟨by omega,by omega,(arb _ rfl).1,(arb _ rfl).2,by simp[he0],by simp⟩
     ·rw[if_neg ho] at h
      cases h4:rWord W slotM k3 with
      |error e=>rw[h4] at h;cases h
      |ok u=>
       rw[h4] at h
       obtain⟨x,k4⟩:=u
       obtain⟨e4,l4,-⟩:=rWord_ok h4
       cases h
       exact⟨by omega,by omega,(arb _ rfl).1,(arb _ rfl).2,by simp[he0],by simp⟩
  ·rw[if_neg (by decide),if_neg (by decide),if_pos rfl] at h
   cases h2:rWord W (numIn 1 6) k1 with
   |error e=>rw[h2] at h;cases h
   |ok y=>
    rw[h2] at h
    obtain⟨m,k2⟩:=y
    obtain⟨e2,l2,w',hw',hf⟩:=rWord_ok h2
    have hm:1≤m∧m≤6:=by
     unfold numIn at hf
     split at hf
     ·split at hf
      ·rename_i hk
       cases hf
       exact okIn_iff.1 hk
      ·cases hf
     ·cases hf
    have hc:=rCols_facts W m.toNat k2 [] (by omega)
    simp only[List.length_nil] at h hc
    split at h
    ·cases h
     exact⟨by omega,by omega,(arb _ rfl).1,(arb _ rfl).2,by simp[he0],by simp only;omega⟩
    ·cases h
  ·rw[if_neg (by decide),if_neg (by decide),if_neg (by decide),if_pos rfl] at h
   cases h2:rNum W k1 with
   |error e=>rw[h2] at h;cases h
   |ok y=>
    rw[h2] at h
    obtain⟨c,k2⟩:=y
    obtain⟨e2,l2,-⟩:=rWord_ok h2
    simp only at h
    cases h3:rNum W k2 with
    |error e=>rw[h3] at h;cases h
    |ok z=>
     rw[h3] at h
     obtain⟨o,k3⟩:=z
     obtain⟨e3,l3,-⟩:=rWord_ok h3
     cases h
     exact⟨by omega,by omega,(arb _ rfl).1,(arb _ rfl).2,by simp[he0],by simp⟩
  ·cases h
   exact⟨by omega,by omega,(arb _ rfl).1,(arb _ rfl).2,by simp[he0],by simp⟩
  ·rw[if_neg (by decide),if_neg (by decide),if_neg (by decide),if_neg (by decide),if_pos rfl] at h
   cases h2:rNum W k1 with
   |error e=>rw[h2] at h;cases h
   |ok y=>
    rw[h2] at h
    obtain⟨c,k2⟩:=y
    obtain⟨e2,l2,-⟩:=rWord_ok h2
    cases h
    exact⟨by omega,by omega,(arb _ rfl).1,(arb _ rfl).2,by simp[he0],by simp⟩
  ·rw[if_neg (by decide),if_neg (by decide),if_neg (by decide),if_neg (by decide),if_neg (by decide),if_pos rfl] at h
   cases h2:rWord W slotM k1 with
   |error e=>rw[h2] at h;cases h
   |ok y=>
    rw[h2] at h
    obtain⟨c,k2⟩:=y
    obtain⟨e2,l2,-⟩:=rWord_ok h2
    cases h
    exact⟨by omega,by omega,(arb _ rfl).1,(arb _ rfl).2,by simp[he0],by simp⟩
  ·cases h
   exact⟨by omega,by omega,(arb _ rfl).1,(arb _ rfl).2,by simp[he0],by simp⟩
end Go.Proofs.YtnclgkplpjpnfaaDoorX
namespace Go.Proofs.YtnclgkplpjpnfaaDoorX
open Go Go.Proofs.YtnclgkplpjpnfaaDoorT PT
set_option linter.all false
@[simp] theorem V_13:F_1q=some verbs:=U_1q.out rfl
@[simp] theorem V_j:F_1p=some opsW:=U_1p.out rfl
theorem V_i {l:List ByteArray}(hl:l.length≤2147483648) (w:ByteArray):F_9 l w=some (fint (inW l w)):=(U_1n l w).out (by
 have e:=loop_find (f:=fun f s=>L_g l w f s.1 s.2) l (fun y=>decide (y=w)) (fun i=>(i:Int))
  (fun i x v g hx=>by
   have l1:=(List.getElem?_eq_some_iff.1 hx).1
   simp only[L_g,lt_nat hx,cond_true,ix_some hx,Option.bind_some,beq_toList,wrap_nat (show i<9223372036854775807 by omega)])
  (fun v g=>by simp[L_g]) 0
 rw[e]
 unfold inW
 cases findI (fun y=>decide (y=w)) l 0 <;> simp[fint])
theorem find_verb (w:ByteArray):F_9 verbs w=some (fint (inW verbs w)):=V_i (by simp[verbs]) w
theorem find_op (w:ByteArray):F_9 opsW w=some (fint (inW opsW w)):=V_i (by simp[opsW]) w
@[simp] theorem no_verb:inW verbs ByteArray.empty=none:=by decide
@[simp] theorem no_op:inW opsW ByteArray.empty=none:=by decide
theorem S_word_bad (W:List ByteArray) (k:Int):F_5 W k true=some (ByteArray.empty,W,k,true):=(U_1 W k true).out (by simp)
theorem S_word_end {W:List ByteArray}{k:Nat}(h:W.length≤k):F_5 W (k:Int) false=some (ByteArray.empty,W,(k:Int),true):=(U_1 W k false).out (by
 simp only[cond_false,joinK_go,J_h]
 rw[decide_eq_true (by omega),cond_true])
theorem S_word {W:List ByteArray}(hW:Wds W){k:Nat}{w:ByteArray}(h:W[k]?=some w):F_5 W (k:Int) false=some (w,W,((k+1:Nat):Int),false):=(U_1 W k false).out (by
 have hl:=(List.getElem?_eq_some_iff.1 h).1
 have:=hW.len
 simp only[cond_false,joinK_go,J_h]
 rw[decide_eq_false (by omega),cond_false,ix_some h,Option.bind_some,wrap_nat (show k<9223372036854775807 by omega)])
@[simp] theorem S_bad_bad (W:List ByteArray) (k:Int):F_4 W k true=some (W,k,true):=(U_c W k true).out (by simp)
@[simp] theorem S_bad {W:List ByteArray}{k:Nat}(h:k≤2001):F_4 W ((k+1:Nat):Int) false=some (W,(k:Int),true):=(U_c W _ false).out (by
 have:IntKind.i64.wrap (((k+1:Nat):Int)-1)=k:=by rw[wrap_sml (by omega) (by omega)];omega
 rw[this]
 rfl)
theorem S_int_bad (W:List ByteArray) (k:Int) (b:Bool):F_1 W k true b=some (0,false,W,k,true):=(U_0 W k true b).out (by
 rw[S_word_bad]
 rfl)
theorem S_int {W:List ByteArray}(hW:Wds W) (k:Nat):F_1 W (k:Int) false false=some (match rNum W k with|.ok x=>(x.1,false,W,(x.2:Int),false)|.error e=>(0,false,W,(e:Int),true)):=(U_0 W k false false).out (by
 have hlen:=hW.len
 unfold rNum rWord
 cases hw:W[k]? with
 |none=>
  rw[S_word_end (List.getElem?_eq_none_iff.1 hw)]
  rfl
 |some w=>
  have hl:=(List.getElem?_eq_some_iff.1 hw).1
  have hsz:=hW.sz w (List.mem_of_getElem? hw)
  rw[S_word hW hw]
  simp only[Option.bind_some,cond_false,joinK_go,J_g,J_a]
  rw[V_6 hsz]
  cases hr:readM w with
  |none=>
   have:=readS_no hr
   simp only[Option.bind_some,this,Bool.not_false,cond_true,joinK_go,J_2]
   rw[S_bad (by omega)]
   rfl
  |some v=>
   rw[readS_ok hr]
   rfl)
theorem S_slot {W:List ByteArray}(hW:Wds W) (k:Nat):F_1 W (k:Int) false true=some (match rWord W slotM k with|.ok x=>(x.1.1,x.1.2,W,(x.2:Int),false)|.error e=>(0,false,W,(e:Int),true)):=(U_0 W k false true).out (by
 have hlen:=hW.len
 unfold rWord
 cases hw:W[k]? with
 |none=>
  rw[S_word_end (List.getElem?_eq_none_iff.1 hw)]
  rfl
 |some w=>
  have hl:=(List.getElem?_eq_some_iff.1 hw).1
  have hsz:=hW.sz w (List.mem_of_getElem? hw)
  have hne:=hW.ne w (List.mem_of_getElem? hw)
  obtain⟨c,h1,h2,h3⟩:=tail_at (s:=w) (by omega)
  rw[S_word hW hw]
  simp only[Option.bind_some,cond_false,cond_true]
  rw[show(0:Int)=((0:Nat):Int) from rfl,bix_some h2]
  simp only[Option.bind_some,joinK_go,J_g]
  unfold slotM
  have hd:((c.toNat:Int)==36)=isDollar w:=by
   unfold isDollar
   rw[h1]
   simp only
   rw[Bool.eq_iff_iff]
   simp only[beq_iff_eq]
   omega
  rw[hd]
  cases isDollar w with
  |false=>
   simp only[cond_false,joinK_go,J_a]
   rw[V_6 hsz]
   cases hr:readM w with
   |none=>
    have:=readS_no hr
    simp only[Option.bind_some,this,Bool.not_false,cond_true,joinK_go,J_2]
    rw[S_bad (by omega)]
    rfl
   |some v=>
    rw[readS_ok hr]
    rfl
  |true=>
   simp only[cond_true]
   rw[h3]
   simp only[Option.bind_some,joinK_go,J_a]
   have hts:(bA w.data.toList.tail).size≤2000:=by
    rw[bA_size,List.length_tail]
    have:w.data.toList.length=w.size:=by rw[Array.length_toList];rfl
    omega
   rw[V_6 hts]
   cases hr:readM (bA w.data.toList.tail) with
   |none=>
    have:=readS_no hr
    simp only[Option.bind_some,this,Bool.not_false,cond_true,joinK_go,J_2]
    rw[S_bad (by omega)]
    rfl
   |some v=>
    rw[readS_ok hr]
    simp only[Option.bind_some,Bool.not_true,cond_false,cond_true,joinK_go,J_2]
    by_cases hv:0≤v
    ·rw[decide_eq_false (by omega),if_pos hv]
     rfl
    ·rw[decide_eq_true (by omega),if_neg hv,cond_true,S_bad (by omega)]
     rfl)
theorem S_cols {W:List ByteArray}(hW:Wds W){y:Int×Bool×List ByteArray×Int×Bool}{n k:Nat}(hy:y.1=(n:Int))(hn:n≤1000000) :
  Ok (loopF (fun f s=>L_1 y f s.1 s.2.1 s.2.2.1 s.2.2.2.1 s.2.2.2.2.1 s.2.2.2.2.2.1 s.2.2.2.2.2.2.1 s.2.2.2.2.2.2.2.1 s.2.2.2.2.2.2.2.2.1 s.2.2.2.2.2.2.2.2.2.1 s.2.2.2.2.2.2.2.2.2.2) ((2:Int),ByteArray.empty,(0:Int),(0:Int),(0:Int),false,([]:List Int),(0:Int),W,(k:Int),false))
   fun r=>∃cs,r=.go (2,ByteArray.empty,0,0,0,false,cs,W,((rCols W n k []).2.1:Int),!(rCols W n k []).2.2)∧((rCols W n k []).2.2=true→cs=(rCols W n k []).1):=by
 generalize hM:rCols W n k []=M
 refine ok_loop1 (fun s=>(n-s.2.2.2.2.2.2.2.1.toNat)+(if s.2.2.2.2.2.2.2.2.2.2=true then 0 else 1)) (fun s=>∃(cs:List Int) (i j:Nat) (b:Bool),s=(2,ByteArray.empty,0,0,0,false,cs,(i:Int),W,(j:Int),b)∧i≤n∧cs.length≤i∧
   ((b=false∧rCols W (n-i) j cs=M)∨(b=true∧M.2.2=false∧M.2.1=j))) ?_ _ ⟨[],0,k,false,rfl,by omega,by simp,.inl ⟨rfl,hM⟩⟩
 rintro s ⟨cs,i,j,b,rfl,hi,hc,hst⟩
 rcases hst with⟨rfl,hst⟩|⟨rfl,hb1,hb2⟩
 ·by_cases hlt:i<n
  ·obtain⟨m,hm⟩:∃m,n-i=m+1:=⟨n-i-1,by omega⟩
   rw[hm] at hst
   unfold rCols at hst
   have hstep:∀g,L_1 y g 2 ByteArray.empty 0 0 0 false cs (i:Int) W (j:Int) false=g (2,ByteArray.empty,0,0,0,false,cs++[match rNum W j with|.ok x=>x.1|.error _=>0],((i+1:Nat):Int),W,(match rNum W j with|.ok x=>(x.2:Int)|.error e=>(e:Int)),(match rNum W j with|.ok _=>false|.error _=>true)):=by
    intro g
    unfold L_1
    rw[hy,decide_eq_true (by omega),cond_true]
    simp only[Bool.not_false,joinK_go,J_1c,cond_true]
    rw[S_int hW]
    cases hr:rNum W j with
    |ok x=>simp only[Option.bind_some,apx_some (show cs.length+[x.1].length≤2147483648 by simp;omega),wrap_nat (show i<9223372036854775807 by omega)]
    |error e=>simp only[Option.bind_some,apx_some (show cs.length+[(0:Int)].length≤2147483648 by simp;omega),wrap_nat (show i<9223372036854775807 by omega)]
   refine .inr ⟨_,?_,?_,hstep⟩
   ·cases hr:rNum W j with
    |ok x=>
     rw[hr] at hst
     exact⟨cs++[x.1],i+1,x.2,false,rfl,by omega,by simp;omega,.inl ⟨rfl,by rw[←hst,show n-(i+1)=m by omega]⟩⟩
    |error e=>
     rw[hr] at hst
     refine⟨cs++[0],i+1,e,true,rfl,by omega,by simp;omega,.inr ⟨rfl,?_,?_⟩⟩
     ·rw[←hst]
     ·rw[←hst]
   ·simp only[Int.toNat_natCast]
    cases hr:rNum W j with
    |ok x=>simp;omega
    |error e=>simp;omega
  ·have hin:i=n:=by omega
   subst hin
   rw[Nat.sub_self] at hst
   unfold rCols at hst
   refine .inl ⟨.go (2,ByteArray.empty,0,0,0,false,cs,W,(j:Int),false),fun g=>?_,cs,?_,?_⟩
   ·dsimp only
    unfold L_1
    rw[hy,decide_eq_false (by omega)]
    rfl
   ·rw[←hst]
    rfl
   ·rw[←hst]
    exact fun _=>rfl
 ·refine .inl ⟨.go (2,ByteArray.empty,0,0,0,false,cs,W,(j:Int),true),fun g=>?_,cs,?_,fun h=>?_⟩
  ·dsimp only
   unfold L_1
   cases decide ((i:Int)<y.1) <;> rfl
  ·rw[hb1,hb2]
   rfl
  ·rw[hb1] at h
   cases h
end Go.Proofs.YtnclgkplpjpnfaaDoorX
namespace Go.Proofs.YtnclgkplpjpnfaaDoorX
open Go Go.Proofs.YtnclgkplpjpnfaaDoorT PT
set_option linter.all false
theorem S_cols_bad (W:List ByteArray) (kd:Int) (nm:ByteArray) (c o m:Int) (sl:Bool) (cs:List Int) (i:Int) (k:Int) (y:Int×Bool×List ByteArray×Int×Bool) :
  loopF (fun f s=>L_1 y f s.1 s.2.1 s.2.2.1 s.2.2.2.1 s.2.2.2.2.1 s.2.2.2.2.2.1 s.2.2.2.2.2.2.1 s.2.2.2.2.2.2.2.1 s.2.2.2.2.2.2.2.2.1 s.2.2.2.2.2.2.2.2.2.1 s.2.2.2.2.2.2.2.2.2.2) (kd,nm,c,o,m,sl,cs,i,W,k,true)=some (.go (kd,nm,c,o,m,sl,cs,W,k,true)):=by
 refine loopF_ind (fun _=>0) (fun s=>s=(kd,nm,c,o,m,sl,cs,i,W,k,true)) (fun _=>Ex.go (R:=SNode×List ByteArray×Int×Bool) (kd,nm,c,o,m,sl,cs,W,k,true)) ?_ _ rfl
 rintro s rfl g -
 dsimp only
 unfold L_1
 cases decide (i<y.1) <;> rfl
def SpN (W:List ByteArray) (m:Except Nat (Nd×Nat)) (r:SNode×List ByteArray×Int×Bool):Prop:=match m with
 |.ok x=>r=(x.1,W,(x.2:Int),false)
 |.error e=>∃n,r=(n,W,(e:Int),true)
theorem S_node {W:List ByteArray}(hW:Wds W){k:Nat}(hk:k≤W.length):Ok (F_1o W (k:Int) false) (SpN W (rNode W k)):=by
 have hlen:=hW.len
 refine(U_1o W k false).ok ?_
 simp only[V_13,Option.bind_some]
 unfold rNode
 cases h1:rWord W (inW verbs) k with
 |error e=>
  obtain⟨rfl,hh⟩:=rWord_err h1
  rcases hh with hh|⟨w,hw,hf⟩
  ·rw[S_word_end hh]
   simp only[Option.bind_some,find_verb,no_verb,fint_none,Int.reduceNeg,Int.reduceLT,decide_true,cond_true,S_bad_bad]
   exact⟨_,rfl,_,rfl⟩
  ·rw[S_word hW hw]
   simp only[Option.bind_some,find_verb,hf,fint_none,Int.reduceNeg,Int.reduceLT,decide_true,cond_true,S_bad (show e≤2001 by omega)]
   exact⟨_,rfl,_,rfl⟩
 |ok x=>
  obtain⟨v,k1⟩:=x
  obtain⟨e1,l1,w,hw,hf⟩:=rWord_ok h1
  have hv8:=inW_lt hf
  rw[S_word hW hw]
  simp only[Option.bind_some,find_verb,hf,←e1]
  have hk1:k1≤W.length:=by omega
  clear h1 hw hf e1 l1
  have hv':v=0∨v=1∨v=2∨v=3∨v=4∨v=5∨v=6∨v=7:=by simp only[verbs,List.length_cons,List.length_nil] at hv8;omega
  clear hv8
  rcases hv' with rfl|rfl|rfl|rfl|rfl|rfl|rfl|rfl
  ·simp only[show fint (some 0)=(0:Int) from rfl,Int.reduceLT,Int.reduceBEq,decide_false,cond_true,cond_false,thn,if_true]
   cases h2:rWord W wordM k1 with
   |error e=>
    obtain⟨rfl,hh⟩:=rWord_err h2
    rcases hh with hh|⟨w2,hw2,hf2⟩
    ·rw[S_word_end hh]
     simp only[Option.bind_some,V_3,show wordOk ByteArray.empty=false by decide,Bool.not_false,cond_true,S_bad_bad,joinK_go]
     exact⟨_,rfl,_,rfl⟩
    ·rw[S_word hW hw2]
     have:wordOk w2=false:=by
      unfold wordM at hf2
      split at hf2
      ·cases hf2
      ·simpa using ‹¬wordOk w2=true›
     simp only[Option.bind_some,V_3,this,Bool.not_false,cond_true,S_bad (show e≤2001 by omega),joinK_go]
     exact⟨_,rfl,_,rfl⟩
   |ok y=>
    obtain⟨w2,k2⟩:=y
    obtain⟨e2,l2,w2',hw2,hf2⟩:=rWord_ok h2
    have:w2'=w2∧wordOk w2=true:=by
     unfold wordM at hf2
     split at hf2
     ·cases hf2
      exact⟨rfl,‹_›⟩
     ·cases hf2
    obtain⟨rfl,hok⟩:=this
    rw[S_word hW hw2]
    simp only[Option.bind_some,V_3,hok,Bool.not_true,cond_false,joinK_go,←e2]
    exact⟨_,rfl,rfl⟩
  ·simp only[show fint (some 1)=(1:Int) from rfl,Int.reduceLT,Int.reduceBEq,decide_false,cond_true,cond_false,thn,if_true,show¬(1:Nat)=0 by decide,if_false]
   rw[S_int hW]
   cases h2:rNum W k1 with
   |error e=>
    simp only[Option.bind_some,V_j,S_word_bad,find_op,no_op,fint_none,Int.reduceNeg,Int.reduceLT,decide_true,cond_true,S_bad_bad,joinK_go,J_3,Bool.not_true,cond_false,J_4]
    exact⟨_,rfl,_,rfl⟩
   |ok y=>
    obtain⟨c,k2⟩:=y
    obtain⟨e2,l2,-⟩:=rWord_ok h2
    simp only[Option.bind_some,V_j]
    cases h3:rWord W (inW opsW) k2 with
    |error e=>
     obtain⟨rfl,hh⟩:=rWord_err h3
     rcases hh with hh|⟨w2,hw2,hf2⟩
     ·rw[S_word_end hh]
      simp only[Option.bind_some,find_op,no_op,fint_none,Int.reduceNeg,Int.reduceLT,decide_true,cond_true,S_bad_bad,joinK_go,J_3,Bool.not_true,cond_false,J_4]
      exact⟨_,rfl,_,rfl⟩
     ·rw[S_word hW hw2]
      simp only[Option.bind_some,find_op,hf2,fint_none,Int.reduceNeg,Int.reduceLT,decide_true,cond_true,S_bad (show e≤2001 by omega),joinK_go,J_3,Bool.not_true,cond_false,J_4]
      exact⟨_,rfl,_,rfl⟩
    |ok z=>
     obtain⟨o,k3⟩:=z
     obtain⟨e3,l3,w3,hw3,hf3⟩:=rWord_ok h3
     rw[S_word hW hw3]
     simp only[Option.bind_some,find_op,hf3,fint_some,nat_neg,cond_false,joinK_go,J_3,Bool.not_false,cond_true,J_4,←e3]
     by_cases ho:o=3
     ·subst ho
      simp only[show(((3:Nat):Int) != 3)=false from rfl,cond_false,joinK_go,if_true]
      exact⟨_,rfl,rfl⟩
     ·rw[show(((o:Nat):Int) != 3)=true by simp;omega,if_neg ho,cond_true,S_slot hW]
      cases h4:rWord W slotM k3 with
      |error e=>
       simp only[Option.bind_some,joinK_go]
       exact⟨_,rfl,_,rfl⟩
      |ok u=>
       simp only[Option.bind_some,joinK_go]
       exact⟨_,rfl,rfl⟩
  ·simp only[show fint (some 2)=(2:Int) from rfl,Int.reduceLT,Int.reduceBEq,decide_false,cond_true,cond_false,thn,if_true,show¬(2:Nat)=0 by decide,show¬(2:Nat)=1 by decide,if_false]
   rw[S_int hW]
   cases hw:W[k1]? with
   |none=>
    have a1:rNum W k1=.error k1:=by unfold rNum rWord;rw[hw]
    have a2:rWord W (numIn 1 6) k1=.error k1:=by unfold rWord;rw[hw]
    rw[a1,a2]
    simp only[Option.bind_some,V_2,show okIn 0 1 6=false from rfl,Bool.not_false,cond_true,S_bad_bad,joinK_go,J_5]
    rw[S_cols_bad]
    exact⟨_,rfl,_,rfl⟩
   |some w2=>
    have hkl:=(List.getElem?_eq_some_iff.1 hw).1
    cases hr:readM w2 with
    |none=>
     have a1:rNum W k1=.error k1:=by unfold rNum rWord;rw[hw];simp only[hr]
     have a2:rWord W (numIn 1 6) k1=.error k1:=by unfold rWord numIn;rw[hw];simp only[hr]
     rw[a1,a2]
     simp only[Option.bind_some,V_2,show okIn 0 1 6=false from rfl,Bool.not_false,cond_true,S_bad_bad,joinK_go,J_5]
     rw[S_cols_bad]
     exact⟨_,rfl,_,rfl⟩
    |some n=>
     have a1:rNum W k1=.ok (n,k1+1):=by unfold rNum rWord;rw[hw];simp only[hr]
     rw[a1]
     simp only[Option.bind_some,V_2]
     cases hn:okIn n 1 6 with
     |false=>
      have a2:rWord W (numIn 1 6) k1=.error k1:=by unfold rWord numIn;rw[hw];simp only[hr,hn];rfl
      rw[a2]
      simp only[Bool.not_false,cond_true,S_bad (show k1≤2001 by omega),Option.bind_some,joinK_go,J_5]
      rw[S_cols_bad]
      exact⟨_,rfl,_,rfl⟩
     |true=>
      have a2:rWord W (numIn 1 6) k1=.ok (n,k1+1):=by unfold rWord numIn;rw[hw];simp only[hr,hn,if_true]
      rw[a2]
      simp only[Bool.not_true,cond_false,joinK_go,J_5]
      have hn':=okIn_iff.1 hn
      have hnn:((n,false,W,((k1+1:Nat):Int),false):Int×Bool×List ByteArray×Int×Bool).1=((n.toNat:Nat):Int):=by simp only;omega
      obtain⟨r,hr1,cs,rfl,hcs⟩:=S_cols hW (k:=k1+1) hnn (by omega)
      rw[hr1]
      simp only[joinK_go,J_1b]
      cases hb:(rCols W n.toNat (k1+1) []).2.2 with
      |true=>
       rw[hb] at hcs
       rw[hcs rfl,if_pos rfl]
       exact⟨_,rfl,rfl⟩
      |false=>
       rw[if_neg (by decide)]
       exact⟨_,rfl,_,rfl⟩
  ·simp only[show fint (some 3)=(3:Int) from rfl,Int.reduceLT,Int.reduceBEq,decide_false,cond_true,cond_false,thn,if_true,show¬(3:Nat)=0 by decide,show¬(3:Nat)=1 by decide,show¬(3:Nat)=2 by decide,if_false]
   rw[S_int hW]
   cases h2:rNum W k1 with
   |error e=>
    simp only[Option.bind_some,S_int_bad,joinK_go]
    exact⟨_,rfl,_,rfl⟩
   |ok y=>
    obtain⟨c,k2⟩:=y
    simp only[Option.bind_some]
    rw[S_int hW]
    cases h3:rNum W k2 with
    |error e=>
     simp only[Option.bind_some,joinK_go]
     exact⟨_,rfl,_,rfl⟩
    |ok z=>
     simp only[Option.bind_some,joinK_go]
     exact⟨_,rfl,rfl⟩
  ·simp only[show fint (some 4)=(4:Int) from rfl,Int.reduceLT,Int.reduceBEq,decide_false,cond_true,cond_false,thn,joinK_go,show¬(4:Nat)=0 by decide,show¬(4:Nat)=1 by decide,show¬(4:Nat)=2 by decide,show¬(4:Nat)=3 by decide,show¬(4:Nat)=5 by decide,show¬(4:Nat)=6 by decide,if_false]
   exact⟨_,rfl,rfl⟩
  ·simp only[show fint (some 5)=(5:Int) from rfl,Int.reduceLT,Int.reduceBEq,decide_false,cond_true,cond_false,thn,if_true,show¬(5:Nat)=0 by decide,show¬(5:Nat)=1 by decide,show¬(5:Nat)=2 by decide,show¬(5:Nat)=3 by decide,if_false]
   rw[S_int hW]
   cases h2:rNum W k1 with
   |error e=>
    simp only[Option.bind_some,joinK_go]
    exact⟨_,rfl,_,rfl⟩
   |ok y=>
    simp only[Option.bind_some,joinK_go]
    exact⟨_,rfl,rfl⟩
  ·simp only[show fint (some 6)=(6:Int) from rfl,Int.reduceLT,Int.reduceBEq,decide_false,cond_true,cond_false,thn,if_true,show¬(6:Nat)=0 by decide,show¬(6:Nat)=1 by decide,show¬(6:Nat)=2 by decide,show¬(6:Nat)=3 by decide,show¬(6:Nat)=5 by decide,if_false]
   rw[S_slot hW]
   cases h2:rWord W slotM k1 with
   |error e=>
    simp only[Option.bind_some,joinK_go]
    exact⟨_,rfl,_,rfl⟩
   |ok y=>
    simp only[Option.bind_some,joinK_go]
    exact⟨_,rfl,rfl⟩
  ·simp only[show fint (some 7)=(7:Int) from rfl,Int.reduceLT,Int.reduceBEq,decide_false,cond_true,cond_false,thn,joinK_go,show¬(7:Nat)=0 by decide,show¬(7:Nat)=1 by decide,show¬(7:Nat)=2 by decide,show¬(7:Nat)=3 by decide,show¬(7:Nat)=5 by decide,show¬(7:Nat)=6 by decide,if_false]
   exact⟨_,rfl,rfl⟩
end Go.Proofs.YtnclgkplpjpnfaaDoorX
namespace Go.Proofs.YtnclgkplpjpnfaaDoorX
open Go Go.Proofs.YtnclgkplpjpnfaaDoorT PT
set_option linter.all false
structure RdS (W:List ByteArray) (M:Except Nat (List Nd×Nat)) (want k:Nat) (acc:List Nd) (f:Nat):Prop where
 eq:rPlan W f want k acc=M
 fuel:W.length<f+k
 place:k≤W.length
 len:acc.length≤k
 bound:want≤acc.length+1
 nodes:∀n∈acc,n.2.1.size≤2000∧n.2.2.2.2.2.2.1.length≤6
theorem RdS.step {W:List ByteArray}(hW:Wds W){M:Except Nat (List Nd×Nat)}{want k f:Nat}{acc:List Nd}(h:RdS W M want k acc f)(hw:want≠0){n:Nd}{k':Nat}(hn:rNode W k=.ok (n,k')) :
  ∃f',f=f'+1∧RdS W M (want-1+(arity n.1).toNat) k' (acc++[n]) f':=by
 obtain⟨h1,h2,h3,h4,h5,h6⟩:=rNode_facts hW hn
 obtain⟨eq,fuel,hk,len,hwant,nodes⟩:=h
 obtain⟨f',rfl⟩:∃f',f=f'+1:=⟨f-1,by omega⟩
 refine⟨f',rfl,?_,by omega,h2,by simp only[List.length_append,List.length_cons,List.length_nil];omega,by simp only[List.length_append,List.length_cons,List.length_nil];omega,fun m hm=>?_⟩
 ·unfold rPlan at eq
  rw[if_neg hw,hn] at eq
  exact eq
 ·rcases List.mem_append.1 hm with hm|hm
  ·exact nodes m hm
  ·rw[List.mem_singleton.1 hm]
   exact⟨h5,h6⟩
theorem RdS.err {W:List ByteArray}{M:Except Nat (List Nd×Nat)}{want k f:Nat}{acc:List Nd}(h:RdS W M want k acc f)(hw:want≠0){e:Nat}(hn:rNode W k=.error e):M=.error e:=by
 obtain⟨eq,fuel,hk,len,hwant,nodes⟩:=h
 obtain⟨f',rfl⟩:∃f',f=f'+1:=⟨f-1,by omega⟩
 unfold rPlan at eq
 rw[if_neg hw,hn] at eq
 exact eq.symm
theorem RdS.done {W:List ByteArray}{M:Except Nat (List Nd×Nat)}{k f:Nat}{acc:List Nd}(h:RdS W M 0 k acc f):M=.ok (acc,k):=by
 obtain⟨eq,fuel,hk,len,hwant,nodes⟩:=h
 obtain⟨f',rfl⟩:∃f',f=f'+1:=⟨f-1,by omega⟩
 unfold rPlan at eq
 rw[if_pos rfl] at eq
 exact eq.symm
theorem RdS.start {W:List ByteArray}:RdS W (rPlan W (W.length+1) 1 0 []) 1 0 [] (W.length+1):=⟨rfl,by omega,by omega,by simp,by simp,fun n hn=>by cases hn⟩
theorem wrap_want {want:Nat}{a:Int}(h0:want≠0)(h1:want≤5000)(h2:0≤a)(h3:a≤2):IntKind.i64.wrap (IntKind.i64.wrap ((want:Int)+a)-1)=((want-1+a.toNat:Nat):Int):=by
 rw[wrap_sml (x:=(want:Int)+a) (by omega) (by omega),wrap_sml (by omega) (by omega)]
 omega
theorem nd_rd (n:Nd):(n.1,(n.2.1,(n.2.2.1,(n.2.2.2.1,(n.2.2.2.2.1,(n.2.2.2.2.2.1,(n.2.2.2.2.2.2.1,())))))))=n:=rfl
theorem bplan_rd {p:List Nd}(hl:p.length≤5000)(h:∀n∈p,n.2.1.size≤2000∧n.2.2.2.2.2.2.1.length≤6):BPlan p:=⟨by omega,fun n hn=>⟨by have:=(h n hn).1;omega,by have:=(h n hn).2;omega⟩⟩
theorem V_z (s:ByteArray):F_1j s=some (parsePlan s):=(U_1e s).out (by
 unfold parsePlan
 by_cases hs:s.size≤2000
 ·rw[decide_eq_false (show¬(s.size:Int)>2000 by omega),cond_false,if_neg (by omega),V_11 hs,Option.bind_some]
  have hW:=wds_of hs
  generalize wordsOf s=W at hW
  have hlen:=hW.len
  generalize hM:rPlan W (W.length+1) 1 0 []=M
  have hl:=ok_loop1 (f:=fun f s=>L_6 f s.1 s.2.1 s.2.2.1 s.2.2.2.1 s.2.2.2.2.1 s.2.2.2.2.2.1 s.2.2.2.2.2.2)
   (Q:=fun r=>match M with
    |.ok x=>r=.go (([]:List SNode),(0:Int),W,(x.2:Int),false,x.1)∧x.2≤W.length∧BPlan x.1
    |.error e=>r=.ret (([]:List SNode),(e:Int)))
   (fun s=>W.length+1-s.2.2.2.1.toNat)
   (fun s=>∃(want k f:Nat) (acc:List Nd),s=([],0,W,(k:Int),false,acc,(want:Int))∧RdS W M want k acc f)
   (by
    rintro s ⟨want,k,f,acc,rfl,hr⟩
    have hk:=hr.place
    have hal:=hr.len
    have hwl:=hr.bound
    by_cases hw:want=0
    ·subst hw
     have:=hr.done
     subst this
     refine .inl ⟨_,fun g=>?_,rfl,hk,bplan_rd (show acc.length≤5000 by omega) hr.nodes⟩
     unfold L_6
     rfl
    ·obtain⟨r,hr1,hr2⟩:=S_node hW hk
     cases hn:rNode W k with
     |error e=>
      rw[hn] at hr2
      obtain⟨n,rfl⟩:=hr2
      have:=hr.err hw hn
      subst this
      refine .inl ⟨_,fun g=>?_,rfl⟩
      unfold L_6
      simp only
      rw[decide_eq_true (by omega),cond_true,hr1]
      rfl
     |ok x=>
      obtain⟨n,k'⟩:=x
      rw[hn] at hr2
      have hr2:r=(n,W,(k':Int),false):=hr2
      subst hr2
      obtain⟨h1,h2,h3,h4,h5,h6⟩:=rNode_facts hW hn
      obtain⟨f',-,hr'⟩:=hr.step hW hw hn
      refine .inr ⟨([],0,W,(k':Int),false,acc++[n],((want-1+(arity n.1).toNat:Nat):Int)),⟨_,k',f',_,rfl,hr'⟩,by simp only[Int.toNat_natCast];omega,fun g=>?_⟩
      dsimp only
      unfold L_6
      rw[decide_eq_true (by omega),cond_true,hr1]
      simp only[Option.bind_some,cond_false,nd_rd,apx_some (show acc.length+[n].length≤2147483648 by simp only[List.length_cons,List.length_nil];omega),V_1,wrap_want hw (show want≤5000 by omega) h3 h4])
   ([],0,W,0,false,[],1) ⟨1,0,_,[],rfl,by rw[←hM];exact RdS.start⟩
  obtain⟨r,hr1,hr2⟩:=hl
  rw[hr1]
  cases M with
  |error e=>
   simp only at hr2
   subst hr2
   rfl
  |ok x=>
   obtain⟨p,k⟩:=x
   simp only at hr2
   obtain⟨rfl,hk,hb⟩:=hr2
   simp only[joinK_go,J_11]
   by_cases hlt:k<W.length
   ·rw[decide_eq_true (by omega),cond_true,if_pos hlt]
   ·rw[decide_eq_false (by omega),cond_false,if_neg hlt,V_10 hb,Option.bind_some]
    cases planOk p <;> rfl
 ·rw[decide_eq_true (show(s.size:Int)>2000 by omega),cond_true,if_pos (by omega)])
end Go.Proofs.YtnclgkplpjpnfaaDoorX
namespace Go.Proofs.YtnclgkplpjpnfaaDoorX
open Go Go.Proofs.YtnclgkplpjpnfaaDoorT PT
set_option linter.all false
@[simp] theorem V_r:F_v=some verbs:=U_p.out rfl
@[simp] theorem V_d:F_w=some opsW:=U_q.out rfl
theorem V_x {l:List ByteArray}(hl:l.length≤2147483648) (w:ByteArray):F_1h l w=some (fint (inW l w)):=(U_1b l w).out (by
 have e:=loop_find (f:=fun f s=>L_c l w f s.1 s.2) l (fun y=>decide (y=w)) (fun i=>(i:Int))
  (fun i x v g hx=>by
   have l1:=(List.getElem?_eq_some_iff.1 hx).1
   simp only[L_c,lt_nat hx,cond_true,ix_some hx,Option.bind_some,beq_toList,wrap_nat (show i<9223372036854775807 by omega)]
   rw[show decide (w=x)=decide (x=w) from decide_eq_decide.2 eq_comm])
  (fun v g=>by simp[L_c]) 0
 rw[e]
 unfold inW
 cases findI (fun y=>decide (y=w)) l 0 <;> simp[fint])
theorem V_5 {s:ByteArray}(hs:s.size≤2000):F_h s=some (readV s):=(U_r s).out (by
 unfold readF
 rw[Nat.ble_eq_true_of_le (by omega),cond_true])
theorem readV_bound (s:ByteArray):-1000000≤(readV s).1∧(readV s).1≤1000000:=by
 unfold readV
 cases h:readM s with
 |none=>simp
 |some v=>exact(readM_iff.1 h).2
theorem V_k (a b:ByteArray):F_1s a b=some ⟨(Lib.trimPrefix a.data.toList b.data.toList).toArray⟩:=(U_1s a b).out rfl
theorem I_one_bad (W l:List ByteArray) (e:Nat):F_b W (e:Int) (e:Int) l=some (-1,W,(e:Int),(e:Int)):=(U_9 W e e l).out (by
 rw[(U_5 W e e l (-1)).out (by rw[nat_ge,cond_true])]
 rfl)
theorem I_one {W:List ByteArray}(hW:Wds W){l:List ByteArray}(hl:l.length≤2147483648){k:Nat}(hk:k≤W.length):F_b W (k:Int) (-1) l=some (match rWord W (inW l) k with|.ok x=>((x.1:Int),W,(x.2:Int),-1)|.error e=>(-1,W,(e:Int),(e:Int))):=(U_9 W k (-1) l).out (by
 have hlen:=hW.len
 have hn:F_11 W (k:Int) (-1) l (-1)=some (match rWord W (inW l) k with|.ok x=>(W,(x.2:Int),-1,l,(x.1:Int))|.error e=>(W,(e:Int),(e:Int),l,-1)):=(U_5 W k (-1) l (-1)).out (by
  simp only[Int.reduceNeg,ge_iff_le,Int.reduceLE,decide_false,cond_false]
  unfold rWord
  cases hw:W[k]? with
  |none=>
   have hk2:k=W.length:=Nat.le_antisymm hk (List.getElem?_eq_none_iff.1 hw)
   rw[beq_dec,decide_eq_true (by omega),cond_true]
   rfl
  |some w=>
   have hkl:=(List.getElem?_eq_some_iff.1 hw).1
   rw[beq_dec,decide_eq_false (by omega),cond_false,ix_some hw]
   have h1:F_15 w l (-1)=some (decide (fint (inW l w)≥0),l,fint (inW l w)):=(U_x w l (-1)).out (by rw[V_x hl];rfl)
   simp only[Option.bind_some,h1,joinK_go,J_u]
   cases inW l w with
   |none=>rfl
   |some v=>
    have hv:decide (fint (some v)≥0)=true:=nat_ge
    simp only[hv,Bool.not_true,cond_false,wrap_nat (show k<9223372036854775807 by omega)]
    rfl)
 rw[hn]
 cases rWord W (inW l) k <;> rfl)
theorem I_num_bad (W:List ByteArray) (e:Nat) (lo hi:Int):F_3 W (e:Int) (e:Int) lo hi=some (0,W,(e:Int),(e:Int)):=(U_6 W e e lo hi).out (by
 rw[(U_4 W e e 0 lo hi).out (by rw[nat_ge,cond_true])]
 rfl)
theorem I_num {W:List ByteArray}(hW:Wds W){k:Nat}(hk:k≤W.length) (lo hi:Int):∃v,-1000000≤v∧v≤1000000∧F_3 W (k:Int) (-1) lo hi=some (match rWord W (numIn lo hi) k with|.ok x=>(x.1,W,(x.2:Int),-1)|.error e=>(v,W,(e:Int),(e:Int))):=by
 have hlen:=hW.len
 have hn:∃v,-1000000≤v∧v≤1000000∧F_10 W (k:Int) (-1) 0 lo hi=some (match rWord W (numIn lo hi) k with|.ok x=>(W,(x.2:Int),-1,x.1,lo,hi)|.error e=>(W,(e:Int),(e:Int),v,lo,hi)):=by
  have hu:=U_4 W k (-1) 0 lo hi
  simp only[Int.reduceNeg,ge_iff_le,Int.reduceLE,decide_false,cond_false] at hu
  unfold rWord numIn
  cases hw:W[k]? with
  |none=>
   have hk2:k=W.length:=Nat.le_antisymm hk (List.getElem?_eq_none_iff.1 hw)
   rw[beq_dec,decide_eq_true (by omega),cond_true] at hu
   exact⟨0,by omega,by omega,hu.out rfl⟩
  |some w=>
   have hkl:=(List.getElem?_eq_some_iff.1 hw).1
   have hsz:=hW.sz w (List.mem_of_getElem? hw)
   rw[beq_dec,decide_eq_false (by omega),cond_false,ix_some hw] at hu
   refine⟨(readV w).1,(readV_bound w).1,(readV_bound w).2,?_⟩
   have h1:F_14 w 0 lo hi=some ((readV w).2&&okIn (readV w).1 lo hi,(readV w).1,lo,hi):=(U_w w 0 lo hi).out (by
    rw[V_5 hsz]
    simp only[Option.bind_some,V_4]
    cases (readV w).2 <;> rfl)
   refine hu.out ?_
   simp only[Option.bind_some,h1,joinK_go,J_t]
   unfold readV
   cases readM w with
   |none=>rfl
   |some v=>
    simp only[Bool.true_and]
    cases okIn v lo hi with
    |false=>rfl
    |true=>simp only[Bool.not_true,cond_false,if_true,wrap_nat (show k<9223372036854775807 by omega)]
 obtain⟨v,h0,h1,h2⟩:=hn
 refine⟨v,h0,h1,(U_6 W k (-1) lo hi).out ?_⟩
 rw[h2]
 cases rWord W (numIn lo hi) k <;> rfl
theorem numIn_all:numIn (-1000000) 1000000=readM:=by
 funext w
 unfold numIn
 cases h:readM w with
 |none=>rfl
 |some v=>
  have:=readM_iff.1 h
  exact if_pos (okIn_iff.2 this.2)
theorem I_all {W:List ByteArray}(hW:Wds W){k:Nat}(hk:k≤W.length):∃v,F_3 W (k:Int) (-1) (-1000000) 1000000=some (match rNum W k with|.ok x=>(x.1,W,(x.2:Int),-1)|.error e=>(v,W,(e:Int),(e:Int))):=by
 obtain⟨v,-,-,h⟩:=I_num hW hk (-1000000) 1000000
 rw[numIn_all] at h
 exact⟨v,h⟩
theorem I_slot_bad (W:List ByteArray) (e:Nat):F_a W (e:Int) (e:Int)=some (0,false,W,(e:Int),(e:Int)):=(U_7 W e e).out (by
 rw[(U_3 W e e 0 false).out (by rw[nat_ge,cond_true])]
 rfl)
theorem trim_dollar (w:ByteArray):(⟨(Lib.trimPrefix w.data.toList (⟨#[36]⟩:ByteArray).data.toList).toArray⟩:ByteArray)=(bif isDollar w then bA w.data.toList.tail else w)∧((isDollar w=true)→bA w.data.toList.tail≠w):=by
 unfold isDollar Lib.trimPrefix Lib.hasPrefix
 cases h:w.data.toList with
 |nil=>exact⟨by simp[bA];apply ByteArray.ext;apply Array.toList_inj.1;rw[h],fun h=>by cases h⟩
 |cons c r=>
  by_cases hc:c.toNat=36
  ·have hc2:c=36:=UInt8.toNat_inj.1 hc
   subst hc2
   refine⟨by simp[bA],fun _ he=>?_⟩
   have:=congrArg (fun x:ByteArray=>x.data.toList.length) he
   simp only[h,bA,List.tail_cons,List.length_cons] at this
   omega
  ·refine⟨?_,fun hd=>?_⟩
   ·have:(c.toNat==36)=false:=by simp[hc]
    have hc2:¬c=36:=fun e=>hc (by rw[e];rfl)
    simp only[this,cond_false]
    apply ByteArray.ext
    apply Array.toList_inj.1
    rw[h]
    simp[hc2,Ne.symm hc2]
   ·simp only[beq_iff_eq] at hd
    exact absurd hd hc
theorem I_slot {W:List ByteArray}(hW:Wds W){k:Nat}(hk:k≤W.length):∃v b,F_a W (k:Int) (-1)=some (match rWord W slotM k with|.ok x=>(x.1.1,x.1.2,W,(x.2:Int),-1)|.error e=>(v,b,W,(e:Int),(e:Int))):=by
 have hlen:=hW.len
 have hn:∃v b,F_z W (k:Int) (-1) 0 false=some (match rWord W slotM k with|.ok x=>(W,(x.2:Int),-1,x.1.1,x.1.2)|.error e=>(W,(e:Int),(e:Int),v,b)):=by
  have hu:=U_3 W k (-1) 0 false
  simp only[Int.reduceNeg,ge_iff_le,Int.reduceLE,decide_false,cond_false] at hu
  unfold rWord
  cases hw:W[k]? with
  |none=>
   have hk2:k=W.length:=Nat.le_antisymm hk (List.getElem?_eq_none_iff.1 hw)
   rw[beq_dec,decide_eq_true (by omega),cond_true] at hu
   exact⟨0,false,hu.out rfl⟩
  |some w=>
   have hkl:=(List.getElem?_eq_some_iff.1 hw).1
   have hsz:=hW.sz w (List.mem_of_getElem? hw)
   rw[beq_dec,decide_eq_false (by omega),cond_false,ix_some hw] at hu
   obtain⟨ht,hne⟩:=trim_dollar w
   have hsd:w.data.toList.length=w.size:=by rw[Array.length_toList];rfl
   cases hd:isDollar w with
   |false=>
    rw[hd,cond_false] at ht
    have h1:F_i w 0 false=some ((readV w).2,(readV w).1,false):=(U_8 w 0 false).out (by
     rw[V_k,ht,Option.bind_some,V_5 hsz]
     simp only[Option.bind_some,beq_toList,decide_true,Bool.not_true,Bool.not_false,cond_true]
     cases (readV w).2 <;> simp[beq_toList])
    refine⟨(readV w).1,false,hu.out ?_⟩
    simp only[Option.bind_some,h1,joinK_go,J_c]
    unfold readV slotM
    rw[hd,cond_false]
    cases readM w with
    |none=>rfl
    |some v=>simp only[Bool.not_true,cond_false,wrap_nat (show k<9223372036854775807 by omega)]
   |true=>
    rw[hd,cond_true] at ht
    have hne':=hne hd
    have hts:(bA w.data.toList.tail).size≤2000:=by rw[bA_size,List.length_tail];omega
    have h1:F_i w 0 false=some ((readV (bA w.data.toList.tail)).2&&decide ((readV (bA w.data.toList.tail)).1≥0),(readV (bA w.data.toList.tail)).1,true):=(U_8 w 0 false).out (by
     rw[V_k,ht,Option.bind_some,V_5 hts]
     simp only[Option.bind_some,beq_toList,decide_eq_false hne',Bool.not_true,Bool.not_false,cond_false]
     cases (readV (bA w.data.toList.tail)).2 <;> simp[beq_toList,hne'])
    refine⟨(readV (bA w.data.toList.tail)).1,true,hu.out ?_⟩
    simp only[Option.bind_some,h1,joinK_go,J_c]
    unfold readV slotM
    rw[hd,cond_true]
    cases readM (bA w.data.toList.tail) with
    |none=>rfl
    |some v=>
     simp only[Bool.true_and]
     by_cases hv:0≤v
     ·rw[decide_eq_true (show v≥0 from hv),if_pos hv]
      simp only[Bool.not_true,cond_false,wrap_nat (show k<9223372036854775807 by omega)]
     ·rw[decide_eq_false (show¬v≥0 from hv),if_neg hv]
      rfl
 obtain⟨v,b,h2⟩:=hn
 refine⟨v,b,(U_7 W k (-1)).out ?_⟩
 rw[h2]
 cases rWord W slotM k <;> rfl
theorem I_word {W:List ByteArray}(hW:Wds W){k:Nat}(hk:k≤W.length) (kd:Int):∃w,F_y W (k:Int) (-1) kd ByteArray.empty 0 0 0 false []=some (match rWord W wordM k with|.ok x=>(W,(x.2:Int),-1,kd,x.1,0,0,0,false,[])|.error e=>(W,(e:Int),(e:Int),kd,w,0,0,0,false,[])):=by
 have hlen:=hW.len
 have hu:=U_t W k (-1) kd ByteArray.empty 0 0 0 false []
 simp only[Int.reduceNeg,ge_iff_le,Int.reduceLE,decide_false,cond_false] at hu
 unfold rWord wordM
 cases hw:W[k]? with
 |none=>
  have hk2:k=W.length:=Nat.le_antisymm hk (List.getElem?_eq_none_iff.1 hw)
  rw[beq_dec,decide_eq_true (by omega),cond_true] at hu
  exact⟨_,hu.out rfl⟩
 |some w=>
  have hkl:=(List.getElem?_eq_some_iff.1 hw).1
  have hsz:=hW.sz w (List.mem_of_getElem? hw)
  rw[beq_dec,decide_eq_false (by omega),cond_false,ix_some hw] at hu
  have h1:F_13 w kd ByteArray.empty 0 0 0 false []=some (wordOk w,kd,w,0,0,0,false,[]):=(U_v w kd ByteArray.empty 0 0 0 false []).out (by rw[V_9 (by omega)];rfl)
  refine⟨w,hu.out ?_⟩
  simp only[Option.bind_some,h1,joinK_go,J_s]
  cases wordOk w with
  |false=>rfl
  |true=>simp only[Bool.not_true,cond_false,if_true,wrap_nat (show k<9223372036854775807 by omega)]
end Go.Proofs.YtnclgkplpjpnfaaDoorX
namespace Go.Proofs.YtnclgkplpjpnfaaDoorX
open Go Go.Proofs.YtnclgkplpjpnfaaDoorT PT
set_option linter.all false
theorem I_cols {W:List ByteArray}(hW:Wds W){y:Int×List ByteArray×Int×Int}{n k:Nat}(hy:y.1=(n:Int))(hn:n≤1000000)(hk:k≤W.length) :
  Ok (loopF (fun f s=>L_0 y f s.1 s.2.1 s.2.2.1 s.2.2.2.1 s.2.2.2.2.1 s.2.2.2.2.2.1 s.2.2.2.2.2.2.1 s.2.2.2.2.2.2.2.1 s.2.2.2.2.2.2.2.2.1 s.2.2.2.2.2.2.2.2.2.1 s.2.2.2.2.2.2.2.2.2.2) ((2:Int),ByteArray.empty,(0:Int),(0:Int),(0:Int),false,([]:List Int),(0:Int),W,(k:Int),(-1:Int)))
   fun r=>∃cs,r=.go (2,ByteArray.empty,0,0,0,false,cs,W,((rCols W n k []).2.1:Int),if (rCols W n k []).2.2=true then -1 else((rCols W n k []).2.1:Int))∧((rCols W n k []).2.2=true→cs=(rCols W n k []).1):=by
 generalize hM:rCols W n k []=M
 refine ok_loop1 (fun s=>n-s.2.2.2.2.2.2.2.1.toNat) (fun s=>∃(cs:List Int) (i j:Nat) (b:Int),s=(2,ByteArray.empty,0,0,0,false,cs,(i:Int),W,(j:Int),b)∧i≤n∧cs.length≤i∧j≤W.length∧
   ((b=-1∧rCols W (n-i) j cs=M)∨(b=(j:Int)∧M.2.2=false∧M.2.1=j))) ?_ _ ⟨[],0,k,-1,rfl,by omega,by simp,hk,.inl ⟨rfl,hM⟩⟩
 rintro s ⟨cs,i,j,b,rfl,hi,hc,hj,hst⟩
 rcases hst with⟨rfl,hst⟩|⟨rfl,hb1,hb2⟩
 ·by_cases hlt:i<n
  ·obtain⟨m,hm⟩:∃m,n-i=m+1:=⟨n-i-1,by omega⟩
   rw[hm] at hst
   unfold rCols at hst
   obtain⟨v,hv⟩:=I_all hW hj
   have hstep:∀g,L_0 y g 2 ByteArray.empty 0 0 0 false cs (i:Int) W (j:Int) (-1)=g (2,ByteArray.empty,0,0,0,false,cs++[match rNum W j with|.ok x=>x.1|.error _=>v],((i+1:Nat):Int),W,(match rNum W j with|.ok x=>(x.2:Int)|.error e=>(e:Int)),(match rNum W j with|.ok _=>-1|.error e=>(e:Int))):=by
    intro g
    unfold L_0
    rw[hy,decide_eq_true (by omega),cond_true,hv]
    cases hr:rNum W j with
    |ok x=>simp only[Option.bind_some,apx_some (show cs.length+[x.1].length≤2147483648 by simp;omega),wrap_nat (show i<9223372036854775807 by omega)]
    |error e=>simp only[Option.bind_some,apx_some (show cs.length+[v].length≤2147483648 by simp;omega),wrap_nat (show i<9223372036854775807 by omega)]
   refine .inr ⟨_,?_,?_,hstep⟩
   ·cases hr:rNum W j with
    |ok x=>
     rw[hr] at hst
     obtain⟨h1,h2,-⟩:=rWord_ok hr
     exact⟨cs++[x.1],i+1,x.2,-1,rfl,by omega,by simp;omega,by omega,.inl ⟨rfl,by rw[←hst,show n-(i+1)=m by omega]⟩⟩
    |error e=>
     rw[hr] at hst
     have he:=(rWord_err hr).1
     refine⟨cs++[v],i+1,e,e,rfl,by omega,by simp;omega,by omega,.inr ⟨rfl,?_,?_⟩⟩
     ·rw[←hst]
     ·rw[←hst]
   ·simp only[Int.toNat_natCast]
    omega
  ·have hin:i=n:=by omega
   subst hin
   rw[Nat.sub_self] at hst
   unfold rCols at hst
   refine .inl ⟨.go (2,ByteArray.empty,0,0,0,false,cs,W,(j:Int),-1),fun g=>?_,cs,?_,?_⟩
   ·dsimp only
    unfold L_0
    rw[hy,decide_eq_false (by omega)]
    rfl
   ·rw[←hst]
    rfl
   ·rw[←hst]
    exact fun _=>rfl
 ·by_cases hlt:i<n
  ·refine .inr ⟨(2,ByteArray.empty,0,0,0,false,cs++[0],((i+1:Nat):Int),W,(j:Int),(j:Int)),⟨cs++[0],i+1,j,j,rfl,by omega,by simp;omega,hj,.inr ⟨rfl,hb1,hb2⟩⟩,by simp only[Int.toNat_natCast];omega,fun g=>?_⟩
   dsimp only
   unfold L_0
   rw[hy,decide_eq_true (by omega),cond_true,I_num_bad]
   simp only[Option.bind_some,apx_some (show cs.length+[(0:Int)].length≤2147483648 by simp;omega),wrap_nat (show i<9223372036854775807 by omega)]
  ·refine .inl ⟨.go (2,ByteArray.empty,0,0,0,false,cs,W,(j:Int),(j:Int)),fun g=>?_,cs,?_,fun h=>?_⟩
   ·dsimp only
    unfold L_0
    rw[hy,decide_eq_false (by omega)]
    rfl
   ·rw[hb1,hb2]
    rfl
   ·rw[hb1] at h
    cases h
theorem I_cols_bad {W:List ByteArray}{y:Int×List ByteArray×Int×Int}{k:Nat}(hn:y.1≤1000000) :
  Ok (loopF (fun f s=>L_0 y f s.1 s.2.1 s.2.2.1 s.2.2.2.1 s.2.2.2.2.1 s.2.2.2.2.2.1 s.2.2.2.2.2.2.1 s.2.2.2.2.2.2.2.1 s.2.2.2.2.2.2.2.2.1 s.2.2.2.2.2.2.2.2.2.1 s.2.2.2.2.2.2.2.2.2.2) ((2:Int),ByteArray.empty,(0:Int),(0:Int),(0:Int),false,([]:List Int),(0:Int),W,(k:Int),(k:Int)))
   fun r=>∃cs,r=.go (2,ByteArray.empty,0,0,0,false,cs,W,(k:Int),(k:Int)):=by
 refine ok_loop1 (fun s=>y.1.toNat-s.2.2.2.2.2.2.2.1.toNat) (fun s=>∃(cs:List Int) (i:Nat),s=(2,ByteArray.empty,0,0,0,false,cs,(i:Int),W,(k:Int),(k:Int))∧cs.length≤i∧i≤1000000) ?_ _ ⟨[],0,rfl,by simp,by omega⟩
 rintro s ⟨cs,i,rfl,hc,hi⟩
 by_cases hlt:(i:Int)<y.1
 ·refine .inr ⟨(2,ByteArray.empty,0,0,0,false,cs++[0],((i+1:Nat):Int),W,(k:Int),(k:Int)),⟨cs++[0],i+1,rfl,by simp;omega,by omega⟩,by simp only[Int.toNat_natCast];omega,fun g=>?_⟩
  dsimp only
  unfold L_0
  rw[decide_eq_true hlt,cond_true,I_num_bad]
  simp only[Option.bind_some,apx_some (show cs.length+[(0:Int)].length≤2147483648 by simp;omega),wrap_nat (show i<9223372036854775807 by omega)]
 ·refine .inl ⟨.go (2,ByteArray.empty,0,0,0,false,cs,W,(k:Int),(k:Int)),fun g=>?_,cs,rfl⟩
  dsimp only
  unfold L_0
  rw[decide_eq_false hlt]
  rfl
def ImN (W:List ByteArray) (m:Except Nat (Nd×Nat)) (r:SNode×List ByteArray×Int×Int):Prop:=match m with
 |.ok x=>r=(x.1,W,(x.2:Int),-1)
 |.error e=>∃n,r=(n,W,(e:Int),(e:Int))
theorem I_node {W:List ByteArray}(hW:Wds W){k:Nat}(hk:k≤W.length):Ok (F_12 W (k:Int) (-1)) (ImN W (rNode W k)):=by
 have hlen:=hW.len
 refine(U_u W k (-1)).ok ?_
 rw[V_r,Option.bind_some,I_one hW (by simp[verbs]) hk]
 unfold rNode
 cases h1:rWord W (inW verbs) k with
 |error e=>
  simp only[Option.bind_some,Int.reduceNeg,Int.reduceBEq,cond_false,joinK_go]
  exact⟨_,rfl,_,rfl⟩
 |ok x=>
  obtain⟨v,k1⟩:=x
  obtain⟨e1,l1,w,hw,hf⟩:=rWord_ok h1
  have hv8:=inW_lt hf
  have hk1:k1≤W.length:=by omega
  simp only[Option.bind_some]
  clear h1 hw hf e1 l1
  have hv':v=0∨v=1∨v=2∨v=3∨v=4∨v=5∨v=6∨v=7:=by simp only[verbs,List.length_cons,List.length_nil] at hv8;omega
  clear hv8
  rcases hv' with rfl|rfl|rfl|rfl|rfl|rfl|rfl|rfl
  ·simp only[show((0:Nat):Int)=(0:Int) from rfl,Int.reduceBEq,cond_true,thn,if_true]
   obtain⟨w,hw⟩:=I_word hW hk1 (0:Int)
   rw[hw]
   cases h2:rWord W wordM k1 with
   |error e=>
    simp only[Option.bind_some,joinK_go]
    exact⟨_,rfl,_,rfl⟩
   |ok y=>
    simp only[Option.bind_some,joinK_go]
    exact⟨_,rfl,rfl⟩
  ·simp only[show((1:Nat):Int)=(1:Int) from rfl,Int.reduceBEq,cond_true,cond_false,thn,if_true,show¬(1:Nat)=0 by decide,if_false]
   obtain⟨v,hv⟩:=I_all hW hk1
   rw[hv]
   cases h2:rNum W k1 with
   |error e=>
    simp only[Option.bind_some,V_d,I_one_bad,Int.reduceNeg,show((-1:Int) != 3)=true from rfl,cond_true,I_slot_bad,joinK_go]
    exact⟨_,rfl,_,rfl⟩
   |ok y=>
    obtain⟨c,k2⟩:=y
    obtain⟨e2,l2,-⟩:=rWord_ok h2
    have hk2:k2≤W.length:=by omega
    simp only[Option.bind_some,V_d]
    rw[I_one hW (by simp[opsW]) hk2]
    cases h3:rWord W (inW opsW) k2 with
    |error e=>
     simp only[Option.bind_some,Int.reduceNeg,show((-1:Int) != 3)=true from rfl,cond_true,I_slot_bad,joinK_go]
     exact⟨_,rfl,_,rfl⟩
    |ok z=>
     obtain⟨o,k3⟩:=z
     obtain⟨e3,l3,-⟩:=rWord_ok h3
     have hk3:k3≤W.length:=by omega
     simp only[Option.bind_some]
     by_cases ho:o=3
     ·subst ho
      simp only[show(((3:Nat):Int) != 3)=false from rfl,cond_false,joinK_go,if_true]
      exact⟨_,rfl,rfl⟩
     ·obtain⟨v4,b4,h4⟩:=I_slot hW hk3
      rw[show(((o:Nat):Int) != 3)=true by simp;omega,if_neg ho,cond_true,h4]
      cases h5:rWord W slotM k3 with
      |error e=>
       simp only[Option.bind_some,joinK_go]
       exact⟨_,rfl,_,rfl⟩
      |ok u=>
       simp only[Option.bind_some,joinK_go]
       exact⟨_,rfl,rfl⟩
  ·simp only[show((2:Nat):Int)=(2:Int) from rfl,Int.reduceBEq,cond_true,cond_false,thn,if_true,show¬(2:Nat)=0 by decide,show¬(2:Nat)=1 by decide,if_false]
   obtain⟨v,hv0,hv1,hv⟩:=I_num hW hk1 1 6
   rw[hv]
   cases h2:rWord W (numIn 1 6) k1 with
   |error e=>
    simp only[Option.bind_some]
    obtain⟨r,hr1,cs,rfl⟩:=I_cols_bad (W:=W) (y:=(v,W,(e:Int),(e:Int))) (k:=e) hv1
    rw[hr1]
    simp only[joinK_go]
    exact⟨_,rfl,_,rfl⟩
   |ok y=>
    obtain⟨n,k2⟩:=y
    obtain⟨e2,l2,w',hw',hf⟩:=rWord_ok h2
    have hm:1≤n∧n≤6:=by
     unfold numIn at hf
     split at hf
     ·split at hf
      ·rename_i hk
       cases hf
       exact okIn_iff.1 hk
      ·cases hf
     ·cases hf
    have hnn:((n,W,(k2:Int),(-1:Int)):Int×List ByteArray×Int×Int).1=((n.toNat:Nat):Int):=by simp only;omega
    obtain⟨r,hr1,cs,rfl,hcs⟩:=I_cols hW (k:=k2) hnn (by omega) (by omega)
    simp only[Option.bind_some]
    rw[hr1]
    simp only[joinK_go,J_v]
    cases hb:(rCols W n.toNat k2 []).2.2 with
    |true=>
     rw[hb] at hcs
     rw[hcs rfl,if_pos rfl,if_pos rfl]
     exact⟨_,rfl,rfl⟩
    |false=>
     rw[if_neg (by decide),if_neg (by decide)]
     exact⟨_,rfl,_,rfl⟩
  ·simp only[show((3:Nat):Int)=(3:Int) from rfl,Int.reduceBEq,cond_true,cond_false,thn,if_true,show¬(3:Nat)=0 by decide,show¬(3:Nat)=1 by decide,show¬(3:Nat)=2 by decide,if_false]
   obtain⟨v,hv⟩:=I_all hW hk1
   rw[hv]
   cases h2:rNum W k1 with
   |error e=>
    simp only[Option.bind_some,I_num_bad,joinK_go]
    exact⟨_,rfl,_,rfl⟩
   |ok y=>
    obtain⟨c,k2⟩:=y
    obtain⟨e2,l2,-⟩:=rWord_ok h2
    have hk2:k2≤W.length:=by omega
    simp only[Option.bind_some]
    obtain⟨v2,hv2⟩:=I_all hW hk2
    rw[hv2]
    cases h3:rNum W k2 with
    |error e=>
     simp only[Option.bind_some,joinK_go]
     exact⟨_,rfl,_,rfl⟩
    |ok z=>
     simp only[Option.bind_some,joinK_go]
     exact⟨_,rfl,rfl⟩
  ·simp only[show((4:Nat):Int)=(4:Int) from rfl,Int.reduceBEq,cond_true,cond_false,thn,joinK_go,show¬(4:Nat)=0 by decide,show¬(4:Nat)=1 by decide,show¬(4:Nat)=2 by decide,show¬(4:Nat)=3 by decide,show¬(4:Nat)=5 by decide,show¬(4:Nat)=6 by decide,if_false]
   exact⟨_,rfl,rfl⟩
  ·simp only[show((5:Nat):Int)=(5:Int) from rfl,Int.reduceBEq,cond_true,cond_false,thn,if_true,show¬(5:Nat)=0 by decide,show¬(5:Nat)=1 by decide,show¬(5:Nat)=2 by decide,show¬(5:Nat)=3 by decide,if_false]
   obtain⟨v,hv⟩:=I_all hW hk1
   rw[hv]
   cases h2:rNum W k1 with
   |error e=>
    simp only[Option.bind_some,joinK_go]
    exact⟨_,rfl,_,rfl⟩
   |ok y=>
    simp only[Option.bind_some,joinK_go]
    exact⟨_,rfl,rfl⟩
  ·simp only[show((6:Nat):Int)=(6:Int) from rfl,Int.reduceBEq,cond_true,cond_false,thn,if_true,show¬(6:Nat)=0 by decide,show¬(6:Nat)=1 by decide,show¬(6:Nat)=2 by decide,show¬(6:Nat)=3 by decide,show¬(6:Nat)=5 by decide,if_false]
   obtain⟨v4,b4,h4⟩:=I_slot hW hk1
   rw[h4]
   cases h2:rWord W slotM k1 with
   |error e=>
    simp only[Option.bind_some,joinK_go]
    exact⟨_,rfl,_,rfl⟩
   |ok y=>
    simp only[Option.bind_some,joinK_go]
    exact⟨_,rfl,rfl⟩
  ·simp only[show((7:Nat):Int)=(7:Int) from rfl,Int.reduceBEq,cond_true,cond_false,thn,joinK_go,show¬(7:Nat)=0 by decide,show¬(7:Nat)=1 by decide,show¬(7:Nat)=2 by decide,show¬(7:Nat)=3 by decide,show¬(7:Nat)=5 by decide,show¬(7:Nat)=6 by decide,if_false]
   exact⟨_,rfl,rfl⟩
end Go.Proofs.YtnclgkplpjpnfaaDoorX
namespace Go.Proofs.YtnclgkplpjpnfaaDoorX
open Go Go.Proofs.YtnclgkplpjpnfaaDoorT PT
set_option linter.all false
theorem V_8 (s:ByteArray):F_d s=some (parsePlan s):=(U_g s).out (by
 unfold parsePlan
 by_cases hs:s.size≤2000
 ·rw[decide_eq_false (show¬(s.size:Int)>2000 by omega),cond_false,if_neg (by omega),V_p hs,Option.bind_some]
  have hW:=wds_of hs
  generalize wordsOf s=W at hW
  have hlen:=hW.len
  generalize hM:rPlan W (W.length+1) 1 0 []=M
  have hl:=ok_loop1 (f:=fun f s=>L_4 f s.1 s.2.1 s.2.2.1 s.2.2.2.1 s.2.2.2.2.1 s.2.2.2.2.2.1 s.2.2.2.2.2.2)
   (Q:=fun r=>match M with
    |.ok x=>r=.go (([]:List SNode),(0:Int),x.1,W,(x.2:Int),(-1:Int))∧x.2≤W.length∧BPlan x.1
    |.error e=>r=.ret (([]:List SNode),(e:Int)))
   (fun s=>W.length+1-s.2.2.2.2.2.1.toNat)
   (fun s=>∃(want k f:Nat) (acc:List Nd),s=([],0,acc,(want:Int),W,(k:Int),-1)∧RdS W M want k acc f)
   (by
    rintro s ⟨want,k,f,acc,rfl,hr⟩
    have hk:=hr.place
    have hal:=hr.len
    have hwl:=hr.bound
    by_cases hw:want=0
    ·subst hw
     have:=hr.done
     subst this
     refine .inl ⟨_,fun g=>?_,rfl,hk,bplan_rd (show acc.length≤5000 by omega) hr.nodes⟩
     unfold L_4
     rfl
    ·obtain⟨r,hr1,hr2⟩:=I_node hW hk
     cases hn:rNode W k with
     |error e=>
      rw[hn] at hr2
      obtain⟨n,rfl⟩:=hr2
      have:=hr.err hw hn
      subst this
      refine .inl ⟨_,fun g=>?_,rfl⟩
      unfold L_4
      simp only
      rw[decide_eq_true (by omega),cond_true,hr1]
      simp only[Option.bind_some,nat_ge,cond_true]
     |ok x=>
      obtain⟨n,k'⟩:=x
      rw[hn] at hr2
      have hr2:r=(n,W,(k':Int),-1):=hr2
      subst hr2
      obtain⟨h1,h2,h3,h4,h5,h6⟩:=rNode_facts hW hn
      obtain⟨f',-,hr'⟩:=hr.step hW hw hn
      refine .inr ⟨([],0,acc++[n],((want-1+(arity n.1).toNat:Nat):Int),W,(k':Int),-1),⟨_,k',f',_,rfl,hr'⟩,by simp only[Int.toNat_natCast];omega,fun g=>?_⟩
      dsimp only
      unfold L_4
      rw[decide_eq_true (by omega),cond_true,hr1]
      simp only[Option.bind_some,Int.reduceNeg,ge_iff_le,Int.reduceLE,decide_false,cond_false,nd_rd,apx_some (show acc.length+[n].length≤2147483648 by simp only[List.length_cons,List.length_nil];omega),V_7,wrap_want hw (show want≤5000 by omega) h3 h4])
   ([],0,[],1,W,0,-1) ⟨1,0,_,[],rfl,by rw[←hM];exact RdS.start⟩
  obtain⟨r,hr1,hr2⟩:=hl
  rw[hr1]
  cases M with
  |error e=>
   simp only at hr2
   subst hr2
   rfl
  |ok x=>
   obtain⟨p,k⟩:=x
   simp only at hr2
   obtain⟨rfl,hk,hb⟩:=hr2
   simp only[joinK_go,J_o]
   by_cases hlt:k<W.length
   ·rw[decide_eq_true (by omega),cond_true,if_pos hlt]
   ·rw[decide_eq_false (by omega),cond_false,if_neg hlt,V_n hb,Option.bind_some]
    cases planOk p <;> rfl
 ·rw[decide_eq_true (show(s.size:Int)>2000 by omega),cond_true,if_pos (by omega)])
theorem parse_ok (s:ByteArray):(parsePlan s).1=[]∨planOk (parsePlan s).1=true:=by
 unfold parsePlan
 split
 ·exact .inl rfl
 ·split
  ·exact .inl rfl
  ·split
   ·exact .inl rfl
   ·split
    ·exact .inr ‹_›
    ·exact .inl rfl
end Go.Proofs.YtnclgkplpjpnfaaDoorX
namespace Go.Proofs.YtnclgkplpjpnfaaDoorX
open Go Go.Proofs.YtnclgkplpjpnfaaDoorT PT
set_option linter.all false
def vbt (k:Nat):List UInt8:=(verbs.getD k ByteArray.empty).data.toList
def ob (k:Nat):List UInt8:=(opsW.getD k ByteArray.empty).data.toList
def nW (slot:Bool) (v:Int):List UInt8:=bif slot then 36::Lib.itoa v else Lib.itoa v
def ndW (n:Nd):List (List UInt8):=
 if n.1=0 then[vbt 0,n.2.1.data.toList]
 else if n.1=1 then[vbt 1,Lib.itoa n.2.2.1,ob n.2.2.2.1.toNat]++(if n.2.2.2.1=3 then[] else[nW n.2.2.2.2.2.1 n.2.2.2.2.1])
 else if n.1=2 then[vbt 2,Lib.itoa (n.2.2.2.2.2.2.1.length:Int)]++n.2.2.2.2.2.2.1.map Lib.itoa
 else if n.1=3 then[vbt 3,Lib.itoa n.2.2.1,Lib.itoa n.2.2.2.2.1]
 else if n.1=5 then[vbt 5,Lib.itoa n.2.2.1]
 else if n.1=6 then[vbt 6,nW n.2.2.2.2.2.1 n.2.2.2.2.1]
 else[vbt n.1.toNat]
def jn (l:List (List UInt8)):List UInt8:=Lib.join l [32]
def ndT (n:Nd):List UInt8:=jn (ndW n)
end Go.Proofs.YtnclgkplpjpnfaaDoorX
namespace Go.Proofs.YtnclgkplpjpnfaaDoorX
open Go Go.Proofs.YtnclgkplpjpnfaaDoorT PT
set_option linter.all false
abbrev Stp:=Int×Int×Unit
def stT (x:Stp):List UInt8:=Lib.itoa x.1++64::Lib.itoa x.2.1
def stsT (l:List Stp):List UInt8:=if l.length≤20 then jn (l.map stT) else[]
def stOk (x:Stp):Bool:=okIn x.1 0 1000000&&okIn x.2.1 0 1000000
def I64 (v:Int):Prop:=-9223372036854775808≤v∧v≤9223372036854775807
def W64s (l:List Stp):Prop:=∀x∈l,I64 x.1∧I64 x.2.1
end Go.Proofs.YtnclgkplpjpnfaaDoorX
namespace Go.Proofs.YtnclgkplpjpnfaaDoorX
open Go Go.Proofs.YtnclgkplpjpnfaaDoorT PT
set_option linter.all false
def verbT:Nat→List UInt8
 |1=>[99,97,116]
 |2=>[115,116,97,116]
 |3=>[100,114,111,112]
 |_=>[]
def lnOk (x:List UInt8):Bool:=decide (x.length≤300)
def nlB (ls:List (List UInt8)):List UInt8:=ls.flatMap fun x=>x++[10]
def linesR (ls:List (List UInt8)):ByteArray×Bool:=if ls.all lnOk=true then(bA (nlB ls),true) else(ByteArray.empty,false)
def stepsL (o:Opn):List UInt8:=[115,116,101,112,115,32]++stsT o.2.2.2.1
def offerL (o:Opn):List UInt8:=[111,102,102,101,114,32]++jn (o.2.2.1.map ndT)
def askL (o:Opn):List UInt8:=[97,115,107,32]++jn (o.2.1.map ndT)
def opL (o:Opn):ByteArray×Bool:=
 if o.1=0 then(if planOk o.2.1=true∧planOk o.2.2.1=true∧o.2.2.2.1.length≤20∧o.2.2.2.1.all stOk=true then linesR [stepsL o,offerL o,askL o] else(ByteArray.empty,false))
 else if okIn o.1 1 3=true then(if o.2.1=[]∧o.2.2.1=[]∧o.2.2.2.1=[] then linesR [verbT o.1.toNat] else(ByteArray.empty,false))
 else(ByteArray.empty,false)
structure OpH (o:Opn):Prop where
 q:BPlan o.2.1
 f:BPlan o.2.2.1
 w:W64s o.2.2.2.1
 n:o.2.2.2.1.length≤1073741824
end Go.Proofs.YtnclgkplpjpnfaaDoorX
namespace Go.Proofs.YtnclgkplpjpnfaaDoorX
open Go Go.Proofs.YtnclgkplpjpnfaaDoorT PT
set_option linter.all false
def opB (o:Opn):List UInt8:=(opL o).1.data.toList
def outL (l:List Opn):List UInt8:=l.flatMap opB
end Go.Proofs.YtnclgkplpjpnfaaDoorX
namespace Go.Proofs.YtnclgkplpjpnfaaDoorX
open Go Go.Proofs.YtnclgkplpjpnfaaDoorT PT
set_option linter.all false
def ind (d:Nat):List UInt8:=Lib.repeatL [32,32] d
end Go.Proofs.YtnclgkplpjpnfaaDoorX
namespace Go.Proofs.YtnclgkplpjpnfaaDoorX
open Go Go.Proofs.YtnclgkplpjpnfaaDoorT
set_option linter.all false
theorem eq_IntS {a:List Int}(hl:a.length≤1073741824):F_17 a a=some true:=(U_z a a).out (by
 rw[eq_loop hl (fun f i x v hx _=>by
  have l1:=(List.getElem?_eq_some_iff.1 hx).1
  simp only[L_h,lt_nat hx,cond_true,ix_some hx,Option.bind_some,wrap_nat (show i<9223372036854775807 by omega)]
  simp) (fun f v=>by simp[L_h])]
 simp)
theorem eq_Node {a:SNode}(h:a.2.2.2.2.2.2.1.length≤1073741824):F_18 a a=some true:=(U_10 a a).out (by simp[eq_IntS h])
def CNd (n:Nd):Prop:=n.2.2.2.2.2.2.1.length≤1073741824
theorem eq_NodeS {a:List SNode}(hl:a.length≤1073741824)(hc:∀n∈a,CNd n):F_j a a=some true:=(U_11 a a).out (by
 rw[eq_loop hl (fun f i x v hx hm=>by
  have l1:=(List.getElem?_eq_some_iff.1 hx).1
  simp only[L_i,lt_nat hx,cond_true,ix_some hx,Option.bind_some,wrap_nat (show i<9223372036854775807 by omega),eq_Node (hc x hm)]
  simp) (fun f v=>by simp[L_i])]
 simp)
end Go.Proofs.YtnclgkplpjpnfaaDoorX
namespace Go.Proofs.YtnclgkplpjpnfaaDoorX
open Go Go.Proofs.YtnclgkplpjpnfaaDoorT
set_option linter.all false
theorem quo10 {v:Int}(h0:0≤v)(h1:v≤4611686018427387904):quox v 10=some (v / 10):=quox_some h0 (by omega) (by omega)
theorem text_loop:∀(m:Nat) (v:Int) (s:ByteArray),v<10 ^ m→v≤4611686018427387904→0≤v→s.size+m≤1000→
  ∃s',(∀n,m+1≤n→loopK (fun f z=>L_5 f z.1 z.2) n (v,s)=some (.go s'))∧s'.size≤1000:=by
 intro m
 induction m with
 |zero=>
  intro v s hv _ h0 hs
  have:v=0:=by simp at hv;omega
  subst this
  refine⟨s,fun n hn=>?_,by omega⟩
  obtain⟨k,rfl⟩:∃k,n=k+1:=⟨n-1,by omega⟩
  simp[loopK,L_5]
 |succ m ih=>
  intro v s hv hmx h0 hs
  by_cases hp:v>0
  ·have hb:(bsOf [IntKind.u8.wrap (IntKind.i64.wrap (48+v.tmod 10))]).size=1:=rfl
   have hadd:addx (bsOf [IntKind.u8.wrap (IntKind.i64.wrap (48+v.tmod 10))]) s=some (bsOf [IntKind.u8.wrap (IntKind.i64.wrap (48+v.tmod 10))]++s):=by
    unfold addx
    rw[hb,show Nat.ble (1+s.size) 4611686018427387904=true by rw[Nat.ble_eq];omega];rfl
   have hlt:v / 10<10 ^ m:=by
    have:(10:Int) ^ (m+1)=10 ^ m*10:=by rw[Int.pow_succ]
    rw[this] at hv
    exact Int.ediv_lt_of_lt_mul (by omega) hv
   obtain⟨s',h1,h2⟩:=ih (v / 10) (bsOf [IntKind.u8.wrap (IntKind.i64.wrap (48+v.tmod 10))]++s) hlt (by omega) (by omega) (by rw[ByteArray.size_append,hb];omega)
   refine⟨s',fun n hn=>?_,h2⟩
   obtain⟨k,rfl⟩:∃k,n=k+1:=⟨n-1,by omega⟩
   have hr:remx v 10=some (v.tmod 10):=rfl
   simp only[loopK,L_5,show decide (v>0)=true by simpa using hp,cond_true,hr,Option.bind_some,hadd,quo10 h0 hmx]
   exact h1 k (by omega)
  ·refine⟨s,fun n hn=>?_,by omega⟩
   obtain⟨k,rfl⟩:∃k,n=k+1:=⟨n-1,by omega⟩
   simp only[loopK,L_5,show decide (v>0)=false by simpa using hp,cond_false]
noncomputable def textM (k:Int):ByteArray:=(F_8 k).getD ByteArray.empty
theorem V_e {k:Int}(h0:0≤k)(h1:k≤4611686018427387904):F_8 k=some (textM k):=by
 suffices h:∃r,F_8 k=some r by
  obtain⟨r,hr⟩:=h
  simp[textM,hr]
 by_cases hk:k≤0
 ·exact⟨_,(U_a k).out (by simp only[hk,decide_true,cond_true];rfl)⟩
 ·obtain⟨s',h2,h3⟩:=text_loop 20 k ByteArray.empty (by omega) h1 h0 (by simp)
  refine⟨(⟨#[109]⟩:ByteArray)++s',(U_a k).out ?_⟩
  simp only[hk,decide_false,cond_false,loopF_of 21 h2,joinK_go,J_y]
  unfold addx
  have h4:(⟨#[109]⟩:ByteArray).size=1:=rfl
  rw[h4,show Nat.ble (1+s'.size) 4611686018427387904=true by rw[Nat.ble_eq];omega]
  rfl
def wI (_:Int):Nat:=1
def mkI (_ k:Int):Int:=k
theorem mark_IntS {a:List Int}{k:Int}(hl:a.length≤1073741824)(h0:0≤k)(hB:k+wtL wI a≤4611686018427387904):F_1a a k=some (k+wtL wI a,mkL mkI wI a k):=(U_14 a k).out (by
 rw[mark_loop (mk:=mkI) (w:=wI) hl h0 hB
  (fun f v i x k hx hm hlen h0 hB=>by
   have l1:=(List.getElem?_eq_some_iff.1 hx).1
   have hw:IntKind.i64.wrap (k+1)=k+1:=by unfold wI at hB;rw[wrap_sml] <;> omega
   simp only[L_l,lt_nat hx,cond_true,ix_some hx,Option.bind_some,stx_nat l1,hw,wrap_nat (show i<9223372036854775807 by omega),wI,mkI]
   rfl)
  (fun f v k=>by simp[L_l])]
 simp)
theorem held_IntS {a:List Int}{k:Int}(hl:a.length≤1073741824)(h0:0≤k)(hB:k+wtL wI a≤4611686018427387904):F_19 (mkL mkI wI a k) k=some (k+wtL wI a):=(U_12 _ k).out (by
 rw[held_loop (mk:=mkI) (w:=wI) (a:=a) hl h0 hB
  (fun f i x k' u hx hm h0 hB=>by
   have l1:=(List.getElem?_eq_some_iff.1 hx).1
   rw[mkL_len] at l1
   have hw:IntKind.i64.wrap (k'+1)=k'+1:=by unfold wI at hB;rw[wrap_sml] <;> omega
   simp only[L_j,lt_nat hx,cond_true,ix_some hx,Option.bind_some,hw,wrap_nat (show i<9223372036854775807 by omega),wI,mkI]
   simp)
  (fun f k u=>by simp[L_j])]
 simp)
def wNd (n:Nd):Nat:=6+wtL wI n.2.2.2.2.2.2.1
noncomputable def mkNd (n:Nd) (k:Int):Nd:=(k,textM (k+1),k+2,k+3,k+4,decide ((k+5).tmod 3=0),mkL mkI wI n.2.2.2.2.2.2.1 (k+6),())
theorem remx3 (v:Int):remx v 3=some (v.tmod 3):=rfl
theorem mark_NodeS {a:List SNode}{k:Int}(hl:a.length≤1073741824)(hc:∀n∈a,CNd n)(h0:0≤k)(hB:k+wtL wNd a≤4611686018427387904):F_1b a k=some (k+wtL wNd a,mkL mkNd wNd a k):=(U_15 a k).out (by
 rw[mark_loop (mk:=mkNd) (w:=wNd) hl h0 hB
  (fun f v i x k hx hm hlen h0 hB=>by
   have l1:=(List.getElem?_eq_some_iff.1 hx).1
   have hB':k+(6+wtL wI x.2.2.2.2.2.2.1:Nat)≤4611686018427387904:=hB
   have hw:IntKind.i64.wrap (k+1)=k+1:=by rw[wrap_sml] <;> omega
   have hw2:IntKind.i64.wrap (k+1+1)=k+2:=by rw[wrap_sml] <;> omega
   have hw3:IntKind.i64.wrap (k+2+1)=k+3:=by rw[wrap_sml] <;> omega
   have hw4:IntKind.i64.wrap (k+3+1)=k+4:=by rw[wrap_sml] <;> omega
   have hw5:IntKind.i64.wrap (k+4+1)=k+5:=by rw[wrap_sml] <;> omega
   have hw6:IntKind.i64.wrap (k+5+1)=k+6:=by rw[wrap_sml] <;> omega
   simp only[L_m,lt_nat hx,cond_true,ix_some hx,Option.bind_some,hw,hw2,hw3,hw4,hw5,hw6,V_e (show 0≤k+1 by omega) (show k+1≤4611686018427387904 by omega),Int.toNat_natCast,ix_set l1,List.set_set,remx3,bind2,
    mark_IntS (hc x hm) (show 0≤k+6 by omega) (show k+6+wtL wI x.2.2.2.2.2.2.1≤4611686018427387904 by omega),wrap_nat (show i<9223372036854775807 by omega),wNd,mkNd,beq_dec]
   rw[show k+6+(wtL wI x.2.2.2.2.2.2.1:Int)=k+((6+wtL wI x.2.2.2.2.2.2.1:Nat):Int) by omega])
  (fun f v k=>by simp[L_m])]
 simp)
theorem held_NodeS {a:List SNode}{k:Int}(hl:a.length≤1073741824)(hc:∀n∈a,CNd n)(h0:0≤k)(hB:k+wtL wNd a≤4611686018427387904):F_k (mkL mkNd wNd a k) k=some (k+wtL wNd a):=(U_13 _ k).out (by
 rw[held_loop (mk:=mkNd) (w:=wNd) (a:=a) hl h0 hB
  (fun f i x k u hx hm h0 hB=>by
   have l1:=(List.getElem?_eq_some_iff.1 hx).1
   rw[mkL_len] at l1
   have hB':k+(6+wtL wI x.2.2.2.2.2.2.1:Nat)≤4611686018427387904:=hB
   have hw:IntKind.i64.wrap (k+1)=k+1:=by rw[wrap_sml] <;> omega
   have hw2:IntKind.i64.wrap (k+1+1)=k+2:=by rw[wrap_sml] <;> omega
   have hw3:IntKind.i64.wrap (k+2+1)=k+3:=by rw[wrap_sml] <;> omega
   have hw4:IntKind.i64.wrap (k+3+1)=k+4:=by rw[wrap_sml] <;> omega
   have hw5:IntKind.i64.wrap (k+4+1)=k+5:=by rw[wrap_sml] <;> omega
   have hw6:IntKind.i64.wrap (k+5+1)=k+6:=by rw[wrap_sml] <;> omega
   have hng:decide (k+6+(wtL wI x.2.2.2.2.2.2.1:Int)<0)=false:=by simp;omega
   simp only[L_k,lt_nat hx,cond_true,ix_some hx,Option.bind_some,hw,hw2,hw3,hw4,hw5,hw6,V_e (show 0≤k+1 by omega) (show k+1≤4611686018427387904 by omega),remx3,mkNd,beq_dec,bne_dec,decide_true,Bool.not_true,cond_false,beq_self_eq_true,bne_self_eq_false,
    held_IntS (hc x hm) (show 0≤k+6 by omega) (show k+6+wtL wI x.2.2.2.2.2.2.1≤4611686018427387904 by omega),hng,wrap_nat (show i<9223372036854775807 by omega),wNd]
   rw[show k+6+(wtL wI x.2.2.2.2.2.2.1:Int)=k+((6+wtL wI x.2.2.2.2.2.2.1:Nat):Int) by omega])
  (fun f k u=>by simp[L_k])]
 simp)
theorem wtL_I (l:List Int):wtL wI l=l.length:=by
 unfold wtL wI
 induction l with
 |nil=>rfl
 |cons x l ih=>simp only[List.map_cons,List.sum_cons,ih,List.length_cons];omega
end Go.Proofs.YtnclgkplpjpnfaaDoorX
namespace Go.Proofs.YtnclgkplpjpnfaaDoorX
open Go Go.Proofs.YtnclgkplpjpnfaaDoorT
set_option linter.all false
structure COp (o:Opn):Prop where
 l1:o.2.1.length≤1073741824
 c1:∀n∈o.2.1,CNd n
 l2:o.2.2.1.length≤1073741824
 c2:∀n∈o.2.2.1,CNd n
 l3:o.2.2.2.1.length≤1073741824
end Go.Proofs.YtnclgkplpjpnfaaDoorX
namespace Go.Proofs.YtnclgkplpjpnfaaDoorX
open Go Go.Proofs.YtnclgkplpjpnfaaDoorT
set_option linter.all false
structure CEn (e:En):Prop where
 l1:e.2.1.length≤1073741824
 c1:∀n∈e.2.1,CNd n
 l2:e.2.2.1.length≤1073741824
 c2:∀n∈e.2.2.1,CNd n
end Go.Proofs.YtnclgkplpjpnfaaDoorX
namespace Go.Proofs.YtnclgkplpjpnfaaDoorX
open Go Go.Proofs.YtnclgkplpjpnfaaDoorT PT
set_option linter.all false
theorem sum_le1 {T:Type}{w:T→Nat}{c:Nat}:∀{l:List T},(∀x∈l,w x≤c)→wtL w l≤c*l.length
 |[],_=>by simp[wtL]
 |x::xs,h=>by
  have h1:=h x (by simp)
  have h2:=sum_le1 (l:=xs) fun y hy=>h y (by simp[hy])
  simp only[wtL,List.map_cons,List.sum_cons,List.length_cons,Nat.mul_succ] at h2 ⊢
  omega
theorem plan_wt {p:List Nd}(h:p=[]∨planOk p=true):p.length≤40∧wtL wNd p≤480∧∀n∈p,CNd n:=by
 rcases h with rfl|h
 ·exact⟨by simp,by simp[wtL],fun n hn=>by cases hn⟩
 ·obtain⟨t,ht,rfl⟩:=planOk_iff.1 h
  have h1:∀n∈t.flat,wNd n≤12:=fun n hn=>by
   have:=(bnode_ok (ht.nodes n hn)).2
   unfold wNd;rw[wtL_I];omega
  have h2:=sum_le1 h1
  have h3:=ht.size
  simp only[PT.len_flat] at h2 ⊢
  exact⟨by omega,by omega,fun n hn=>by have:=(bnode_ok (ht.nodes n hn)).2;unfold CNd;omega⟩
theorem wl_Text {x:ByteArray}(h:wfT .str x):x.size≤maxLen:=h
theorem pure_FnExactParsePlan {a0:ByteArray}(w0:a0.size≤maxLen):F_16 a0=some true:=(U_y a0).out (by
 by_cases hs:(a0.size:Int)>1048576
 ·rw[decide_eq_true hs,cond_true]
 ·rw[decide_eq_false hs,cond_false,V_z,Option.bind_some,V_8,Option.bind_some]
  obtain⟨h1,h2,h3⟩:=plan_wt (parse_ok a0)
  generalize hr:parsePlan a0=r at h1 h2 h3
  have gm0:=mark_NodeS (a:=r.1) (k:=(1:Int)) (by omega) h3 (by omega) (by omega)
  have gh0:=held_NodeS (a:=r.1) (k:=(1:Int)) (by omega) h3 (by omega) (by omega)
  have gk0:decide ((1:Int)+(wtL wNd r.1:Nat)<0)=false:=by simp;omega
  have hb:∀x:Int,(x != x)=false:=fun x=>by simp
  simp only[eq_NodeS (a:=r.1) (by omega) h3,Option.bind_some,Bool.not_true,cond_false,joinK_go,J_w,hb,gm0,gh0,gk0,V_8,hr,J_x])
end Go.Proofs.YtnclgkplpjpnfaaDoorX
