/- The plain law: the plain functions answer as the statement says. -/
import Derived.Test.YtkbcahfajbdgnaaGreatDoorGtrB
set_option linter.all false
namespace Go.Proofs.YtkbcahfajbdgnaaGreatDoorX
open Go Go.Proofs.YtkbcahfajbdgnaaGreatDoorT
set_option linter.all false
@[simp] theorem V_0 (x lo hi:Int):F_2 x lo hi=some (okIn x lo hi):=(U_3b x lo hi).out (by
 simp[okIn];grind)
@[simp] theorem V_2 (x lo hi:Int):F_3 x lo hi=some (okIn x lo hi):=(U_18 x lo hi).out (by
 simp[okIn];grind)
@[simp] theorem V_24 (x:Int):F_e x=some (okIn x 0 63):=(U_19 x).out (by simp)
@[simp] theorem V_13 (x:Int):F_1e x=some (okIn x 0 39):=(U_1b x).out (by simp)
@[simp] theorem V_r (x:Int):F_1d x=some (okIn x (-1000000) 1000000):=(U_1a x).out (by simp)
@[simp] theorem V_1f (x:Int):F_g x=some (okIn x 0 63):=(U_3k x).out (by simp)
@[simp] theorem V_1e (x:Int):F_1r x=some (okIn x (-1000000) 1000000):=(U_3e x).out (by simp)
@[simp] theorem V_1 (k:Int):F_1l k=some (arity k):=(U_2d k).out (by
 simp[arity];grind)
@[simp] theorem V_x (k:Int):F_15 k=some (arity k):=(U_b k).out (by
 simp[arity];grind)
theorem V_12 {w:ByteArray}(hw:w.size≤2147483648):F_1b w=some (wordOk w):=(U_11 w).out (by
 have e:=loop_chk (f:=fun f s=>L_t w f s.1 s.2) (bl w) (fun i c=>okIn c 97 122||(!(decide (i=0))&&okIn c 48 57)) false
  (fun i x a g hx=>by
   have hl:=(List.getElem?_eq_some_iff.1 hx).1
   rw[bl_len] at hl
   have h1:decide ((i:Int)<(w.size:Int))=true:=by simpa using hl
   simp only[L_t,h1,cond_true,bix_some hx,Option.bind_some,wrap_nat (show i<9223372036854775807 by omega),okIn,J_1i,J_1j,joinK_bif,joinK_go,joinK_ret]
   grind)
  (fun a g=>by simp[L_t,bl_len]) false
 rw[e]
 simp only[wordOk,wordOkL,bl_len]
 cases allI (fun i c=>okIn c 97 122||(!(decide (i=0))&&okIn c 48 57)) (bl w) 0 <;> simp)
theorem wordOk_len {w:ByteArray}(h:wordOk w=true):1≤w.size∧w.size≤12:=by
 simp only[wordOk,wordOkL,Bool.and_eq_true,bl_len,okIn_iff] at h
 omega
theorem V_1d (w:ByteArray):F_1p w=some (wordOk w):=(U_36 w).out (by
 by_cases hw:okIn w.size 1 12=true
 ·have hw':=okIn_iff.1 hw
  have hb:0<(bl w).length:=by rw[bl_len];omega
  have hx0:(bl w)[0]?=some (bl w)[0]:=List.getElem?_eq_getElem hb
  have e0:=bix_some hx0
  simp only[V_0,Option.bind_some,hw,Bool.not_true,cond_false]
  rw[show(0:Int)=((0:Nat):Int) from rfl,e0]
  simp only[Option.bind_some,joinK_go,J_3t]
  have e:=loop_chk (f:=fun f s=>L_1t w f s.1 s.2) (bl w) (fun i c=>okIn c 97 122||okIn c 48 57) false
   (fun i x a g hx=>by
    have hl:=(List.getElem?_eq_some_iff.1 hx).1
    rw[bl_len] at hl
    have h1:decide ((i:Int)<(w.size:Int))=true:=by simpa using hl
    simp only[L_1t,h1,cond_true,bix_some hx,Option.bind_some,wrap_nat (show i<9223372036854775807 by omega),okIn,J_3u,joinK_bif,joinK_go,joinK_ret]
    grind)
   (fun a g=>by simp[L_1t,bl_len]) false
  rw[e]
  have hlen:okIn ((bl w).length:Int) 1 12=true:=by rw[bl_len];exact hw
  simp only[wordOk,wordOkL,hlen,Bool.and_true]
  generalize bl w=l at hb
  match l,hb with
  |c::l,_=>
   have key:∀(l:List Int) (i:Nat),i≠0→allI (fun i c=>okIn c 97 122||(!(decide (i=0))&&okIn c 48 57)) l i=allI (fun i c=>okIn c 97 122||okIn c 48 57) l i:=by
    intro l
    induction l with
    |nil=>intro i _;rfl
    |cons x xs ih=>intro i hi;simp[allI,hi,ih (i+1) (by omega)]
   simp only[allI,key l 1 (by omega),List.getElem_cons_zero]
   cases allI (fun i c=>okIn c 97 122||okIn c 48 57) l (0+1) <;> simp[okIn] <;> grind
 ·have hw':okIn w.size 1 12=false:=by simpa using hw
  simp[hw',wordOk,wordOkL,bl_len])
theorem V_36 {a b:ByteArray}(ha:a.size≤2147483648):F_3s a b=some (less a b):=(U_3c a b).out (by
 have e:=loop_brk (f:=fun f s=>L_1w a b f s.1 s.2) ((bl a).zip (bl b)) (fun _ x=>if x.1=x.2 then none else some (decide (x.1<x.2)))
  (fun i x v g hx=>by
   obtain⟨h1,h2⟩:=List.getElem?_zip_eq_some.1 hx
   have l1:=(List.getElem?_eq_some_iff.1 h1).1
   have l2:=(List.getElem?_eq_some_iff.1 h2).1
   rw[bl_len] at l1 l2
   have d1:decide ((i:Int)<(a.size:Int))=true:=by simpa using l1
   have d2:decide ((i:Int)<(b.size:Int))=true:=by simpa using l2
   simp only[L_1w,d1,d2,cond_true,bix_some h1,bix_some h2,Option.bind_some,joinK_go,J_6,wrap_nat (show i<9223372036854775807 by omega)]
   have hb:(x.1 != x.2)=!decide (x.1=x.2):=rfl
   rw[hb]
   by_cases h:x.1=x.2 <;> simp[h])
  (fun v g=>by
   simp only[L_1w,List.length_zip,bl_len]
   by_cases h:a.size≤b.size
   ·have h1:decide (((min a.size b.size:Nat):Int)<(a.size:Int))=false:=by simp only[decide_eq_false_iff_not];omega
    simp only[h1,cond_false,joinK_go,J_6]
   ·have h1:decide (((min a.size b.size:Nat):Int)<(a.size:Int))=true:=by simp only[decide_eq_true_eq];omega
    have h2:decide (((min a.size b.size:Nat):Int)<(b.size:Int))=false:=by simp only[decide_eq_false_iff_not];omega
    simp only[h1,h2,cond_true,joinK_go,J_6,cond_false]) false
 rw[e,less_lex]
 have key:∀(l:List (Int×Int)) (i:Nat),brkI (fun _ x=>if x.1=x.2 then none else some (decide (x.1<x.2))) l i=lexE l:=by
  intro l
  induction l with
  |nil=>intro i;rfl
  |cons x xs ih=>
   intro i
   obtain⟨x1,x2⟩:=x
   simp only[brkI,lexE]
   by_cases h:x1=x2 <;> simp[h,ih]
 rw[key]
 cases lexE ((bl a).zip (bl b)) <;> simp[bl_len])
end Go.Proofs.YtkbcahfajbdgnaaGreatDoorX
namespace Go.Proofs.YtkbcahfajbdgnaaGreatDoorX
open Go Go.Proofs.YtkbcahfajbdgnaaGreatDoorT
set_option linter.all false
theorem V_s {a b:List Int}(ha:a.length≤2147483648):F_w a b=some (decide (a=b)):=(U_1v a b).out (by
 by_cases hl:a.length=b.length
 ·have h0:((a.length:Int) != (b.length:Int))=false:=by simp[hl]
  rw[h0]
  have e:=loop_chk (f:=fun f s=>L_15 a b f s.1 s.2) (a.zip b) (fun _ x=>decide (x.1=x.2)) false
   (fun i x v g hx=>by
    obtain⟨h1,h2⟩:=List.getElem?_zip_eq_some.1 hx
    have l1:=(List.getElem?_eq_some_iff.1 h1).1
    simp only[L_15,lt_nat h1,cond_true,ix_some h1,ix_some h2,Option.bind_some,wrap_nat (show i<9223372036854775807 by omega)]
    by_cases h:x.1=x.2 <;> simp[h,bne_dec])
   (fun v g=>by simp[L_15,hl]) false
  rw[e,allI_const]
  have:(a.zip b).all (fun x=>decide (x.1=x.2))=decide (a=b):=by
   clear e h0 ha
   induction a generalizing b with
   |nil=>cases b <;> simp_all
   |cons x xs ih=>
    cases b with
    |nil=>simp at hl
    |cons y ys=>
     simp only[List.length_cons,Nat.add_right_cancel_iff] at hl
     simp only[List.zip_cons_cons,List.all_cons,ih hl,List.cons.injEq]
     by_cases h1:x=y <;> by_cases h2:xs=ys <;> simp[h1,h2]
  rw[this]
  cases decide (a=b) <;> simp
 ·have h0:((a.length:Int) != (b.length:Int))=true:=by simp[bne];omega
  have:a≠b:=fun e=>hl (by rw[e])
  simp[h0,this])
theorem V_3 {a b:SNode}(ha:a.2.2.2.2.2.2.1.length≤2147483648):F_2k a b=some (decide (a=b)):=(U_1f a b).out (by
 obtain⟨k,name,col,op,num,slot,cols,u⟩:=a
 obtain⟨k',name',col',op',num',slot',cols',u'⟩:=b
 simp only[V_s ha,beq_toList]
 simp only[Prod.mk.injEq,beq_iff_eq]
 by_cases h1:k=k' <;> by_cases h2:name=name' <;> by_cases h3:col=col' <;> by_cases h4:op=op' <;> by_cases h5:num=num' <;> cases slot <;> cases slot' <;> simp[h1,h2,h3,h4,h5,beq_dec])
@[simp] theorem V_1u (x:Int):F_24 x=some (!okIn x 0 63):=(U_k x).out (by simp)
theorem findI_ge {T:Type}{p:T→Bool}{l:List T}:(match findI p l 0 with|some j=>decide ((j:Int)≥0)|none=>decide ((-1:Int)≥0))=l.any p:=by
 cases h:findI p l 0 with
 |none=>rw[findI_none.1 h];rfl
 |some j=>
  have:l.any p=true:=by
   cases ha:l.any p with
   |true=>rfl
   |false=>rw[findI_none.2 ha] at h;cases h
  rw[this];simp
def fint (o:Option Nat):Int:=match o with|some j=>j|none=>-1
@[simp] theorem fint_neg (o:Option Nat):decide (fint o<0)=o.isNone:=by
 cases o with
 |none=>rfl
 |some j=>exact nat_neg
@[simp] theorem fint_some (j:Nat):fint (some j)=(j:Int):=rfl
@[simp] theorem fint_none:fint none=-1:=rfl
theorem V_2l {l:List Int}(hl:l.length≤2147483648):F_33 l=some (fint (findI (fun x=>!okIn x 0 63) l 0)):=(U_21 l).out (by
 have e:=loop_find (f:=fun f s=>L_19 l f s.1 s.2) l (fun x=>!okIn x 0 63) (fun i=>(i:Int))
  (fun i x v g hx=>by
   have l1:=(List.getElem?_eq_some_iff.1 hx).1
   simp only[L_19,lt_nat hx,cond_true,ix_some hx,Option.bind_some,V_1u,wrap_nat (show i<9223372036854775807 by omega)])
  (fun v g=>by simp[L_19]) 0
 rw[e]
 cases findI (fun x=>!okIn x 0 63) l 0 <;> simp[fint])
theorem fint_ge {T:Type}{p:T→Bool}{l:List T}:decide (fint (findI p l 0)≥0)=l.any p:=by
 rw[←findI_ge]
 cases findI p l 0 <;> rfl
theorem V_2e {l:List Int}(hl:l.length≤2147483648):F_2v l=some (l.any fun x=>!okIn x 0 63):=(U_1s l).out (by
 simp only[V_2l hl,Option.bind_some,fint_ge])
theorem all_not_any {T:Type}(p:T→Bool):∀l:List T,(!l.any fun x=>!p x)=l.all p
 |[]=>rfl
 |x::xs=>by simp[←all_not_any p xs]
structure BNode (n:Nd):Prop where
 name:n.2.1.size≤2147483648
 cols:n.2.2.2.2.2.2.1.length≤2147483648
theorem V_1t {n:SNode}(hb:BNode n):F_23 n=some (nodeOk n):=(U_j n).out (by
 obtain⟨k,name,col,op,num,slot,cols,u⟩:=n
 obtain⟨hn,hc⟩:=hb
 simp only at hn hc
 simp only[V_12 hn,V_24,V_2,V_13,V_r,V_2e hc,Option.bind_some,all_not_any]
 by_cases h0:k=0
 ·subst h0
  simp only[nodeOk,beq_self_eq_true,cond_true,joinK_go,J_0]
  simp only[V_3 (a:=(0,ByteArray.empty,col,op,num,slot,cols,())) hc]
  cases wordOk name <;> cases slot <;> simp <;> grind
 have e0:(k==0)=false:=by simpa using h0
 by_cases h1:k=1
 ·subst h1
  simp only[nodeOk,e0,beq_self_eq_true,cond_true,cond_false,joinK_bif,joinK_go,J_0,J_t,J_u,V_13,V_r,Option.bind_some]
  simp only[V_3 (a:=(0,name,0,0,0,false,cols,())) hc]
  simp only[okIn,Prod.mk.injEq,Bool.decide_and]
  generalize decide (name=ByteArray.empty)=dn
  generalize decide (cols=[])=dc
  by_cases hz:num=0
  ·subst hz
   by_cases h2:op=3 <;> cases slot <;> cases dn <;> cases dc <;> simp[h2] <;> grind
  ·by_cases h2:op=3 <;> cases slot <;> cases dn <;> cases dc <;> simp[h2,hz] <;> grind
 have e1:(k==1)=false:=by simpa using h1
 by_cases h2:k=2
 ·subst h2
  simp only[nodeOk,e0,e1,beq_self_eq_true,cond_true,cond_false,joinK_bif,joinK_go,J_0,J_v,Option.bind_some]
  simp only[V_3 (a:=(0,name,col,op,num,slot,[],())) (by simp)]
  cases cols.all (fun c=>okIn c 0 63) <;> cases okIn cols.length 1 6 <;> cases slot <;> simp <;> grind
 have e2:(k==2)=false:=by simpa using h2
 by_cases h3:k=3
 ·subst h3
  simp only[nodeOk,e0,e1,e2,beq_self_eq_true,cond_true,cond_false,joinK_bif,joinK_go,J_0,J_w,Option.bind_some]
  simp only[V_3 (a:=(0,name,0,op,0,slot,cols,())) hc]
  cases okIn col 0 63 <;> cases okIn num 0 63 <;> cases slot <;> simp <;> grind
 have e3:(k==3)=false:=by simpa using h3
 by_cases h5:k=5
 ·subst h5
  simp only[nodeOk,e0,e1,e2,e3,beq_self_eq_true,cond_true,cond_false,joinK_bif,joinK_go,J_0,Option.bind_some]
  simp only[V_3 (a:=(0,name,0,op,num,slot,cols,())) hc]
  cases okIn col 0 63 <;> cases slot <;> simp <;> grind
 have e5:(k==5)=false:=by simpa using h5
 by_cases h6:k=6
 ·subst h6
  simp only[nodeOk,e0,e1,e2,e3,e5,beq_self_eq_true,cond_true,cond_false,joinK_bif,joinK_go,J_0,J_x,Option.bind_some]
  simp only[V_3 (a:=(0,name,col,op,0,false,cols,())) hc]
  cases okIn num 0 1000000 <;> cases okIn num 0 39 <;> cases slot <;> simp <;> grind
 have e6:(k==6)=false:=by simpa using h6
 simp only[nodeOk,e0,e1,e2,e3,e5,e6,h0,h1,h2,h3,h5,h6,cond_false,joinK_bif,joinK_go,J_y,if_false]
 by_cases h4:k=4
 ·subst h4
  simp only[beq_self_eq_true,cond_true,joinK_go,J_0,V_3 (a:=(0,name,col,op,num,slot,cols,())) hc]
  cases slot <;> simp <;> grind
 have e4:(k==4)=false:=by simpa using h4
 by_cases h7:k=7
 ·subst h7
  simp only[e4,beq_self_eq_true,cond_true,cond_false,joinK_go,J_0,V_3 (a:=(0,name,col,op,num,slot,cols,())) hc]
  cases slot <;> simp <;> grind
 have e7:(k==7)=false:=by simpa using h7
 simp[e4,e7,h4,h7])
theorem V_2w {n:SNode}(hb:BNode n):F_3i n=some (nodeOk n):=(U_2o n).out (by
 obtain⟨k,name,col,op,num,slot,cols,u⟩:=n
 obtain⟨hn,hc⟩:=hb
 simp only at hn hc
 have hlen:decide ((cols.length:Int)>0)=!decide (cols=[]):=by cases cols <;> simp <;> omega
 have e:=loop_chk (f:=fun f s=>L_1f (k,name,col,op,num,slot,cols,u) f s.1 s.2) cols (fun _ x=>okIn x 0 63) (Ex.ret false)
   (fun i x v g hx=>by
    have l1:=(List.getElem?_eq_some_iff.1 hx).1
    simp only[L_1f,lt_nat hx,cond_true,ix_some hx,Option.bind_some,V_1f,wrap_nat (show i<9223372036854775807 by omega)]
    cases okIn x 0 63 <;> rfl)
   (fun v g=>by simp[L_1f]) false
 rw[allI_const] at e
 simp only[V_0,Option.bind_some,beq_toList,hlen,J_31,J_32,V_1d,V_1f,V_1e,e]
 simp only[nodeOk]
 have hne:∀a b:Int,(a != b)=!decide (a=b):=fun _ _=>rfl
 have heq:∀a b:Int,(a==b)=decide (a=b):=fun _ _=>rfl
 simp only[hne,heq]
 generalize decide (name=ByteArray.empty)=dn
 generalize decide (cols=[])=dc
 by_cases h0:k=0
 ·subst h0
  cases dn <;> cases dc <;> cases slot <;> cases wordOk name <;> simp <;> grind
 by_cases h1:k=1
 ·subst h1
  cases dn <;> cases dc <;> cases slot <;> simp[okIn] <;> grind
 by_cases h2:k=2
 ·subst h2
  cases dn <;> cases dc <;> cases slot <;> cases cols.all (fun c=>okIn c 0 63) <;> cases okIn cols.length 1 6 <;> simp <;> grind
 by_cases h3:k=3
 ·subst h3
  cases dn <;> cases dc <;> cases slot <;> simp[okIn] <;> grind
 by_cases h5:k=5
 ·subst h5
  cases dn <;> cases dc <;> cases slot <;> simp[okIn] <;> grind
 by_cases h6:k=6
 ·subst h6
  cases dn <;> cases dc <;> cases slot <;> simp[okIn] <;> grind
 by_cases h4:k=4
 ·subst h4
  cases dn <;> cases dc <;> cases slot <;> simp[okIn] <;> grind
 by_cases h7:k=7
 ·subst h7
  cases dn <;> cases dc <;> cases slot <;> simp[okIn] <;> grind
 cases dn <;> cases dc <;> cases slot <;> simp[h0,h1,h2,h3,h4,h5,h6,h7] <;> grind)
end Go.Proofs.YtkbcahfajbdgnaaGreatDoorX
namespace Go.Proofs.YtkbcahfajbdgnaaGreatDoorX
open Go Go.Proofs.YtkbcahfajbdgnaaGreatDoorT PT
set_option linter.all false
structure BPlan (p:List Nd):Prop where
 len:p.length≤1073741824
 nodes:∀n∈p,BNode n
theorem mem_of_get {T:Type}{l:List T}{i:Nat}{x:T}(h:l[i]?=some x):x∈l:=List.mem_of_getElem? h
theorem V_1x {n:SNode}(hb:BNode n):F_27 n=some (!nodeOk n):=(U_n n).out (by
 obtain⟨k,name,col,op,num,slot,cols,u⟩:=n
 have hb':BNode (k,name,col,op,num,slot,cols,()):=hb
 simp only[V_1t hb',Option.bind_some])
theorem V_2i {l:List SNode}(hb:BPlan l):F_30 l=some (fint (findI (fun x=>!nodeOk x) l 0)):=(U_1y l).out (by
 have e:=loop_find (f:=fun f s=>L_16 l f s.1 s.2) l (fun x=>!nodeOk x) (fun i=>(i:Int))
  (fun i x v g hx=>by
   have l1:=(List.getElem?_eq_some_iff.1 hx).1
   have:=hb.len
   simp only[L_16,lt_nat hx,cond_true,ix_some hx,Option.bind_some,V_1x (hb.nodes x (mem_of_get hx)),wrap_nat (show i<9223372036854775807 by omega)])
  (fun v g=>by simp[L_16]) 0
 rw[e]
 cases findI (fun x=>!nodeOk x) l 0 <;> simp[fint])
theorem V_2d {l:List SNode}(hb:BPlan l):F_2t l=some (l.any fun x=>!nodeOk x):=(U_1q l).out (by
 simp only[V_2i hb,Option.bind_some,fint_ge])
theorem parse_len:∀{r:Nat}{l:List Nd}{t:PT}{q:List Nd},parse r l=some (t,q)→q.length<l.length
 |0,_,_,_,h=>by simp[parse] at h
 |r+1,[],_,_,h=>by simp[parse] at h
 |r+1,n::l,t,q,h=>by
  simp only[parse] at h
  split at h
  ·split at h
   ·rename_i a q1 hp
    cases h
    have:=parse_len hp
    simp;omega
   ·cases h
  ·split at h
   ·split at h
    ·rename_i a q1 hp
     have:=parse_len hp
     split at h
     ·rename_i b q2 hp2
      cases h
      have:=parse_len hp2
      simp;omega
     ·cases h
    ·cases h
   ·cases h;simp
theorem parse_drop {r:Nat}{l:List Nd}{t:PT}{q:List Nd}(h:parse r l=some (t,q)):q=l.drop (l.length-q.length):=by
 suffices ∃u,l=u++q by
  obtain⟨u,rfl⟩:=this
  simp
 induction r generalizing l t q with
 |zero=>simp[parse] at h
 |succ r ih=>
  cases l with
  |nil=>simp[parse] at h
  |cons n l=>
   simp only[parse] at h
   split at h
   ·split at h
    ·rename_i a q1 hp
     cases h
     obtain⟨u,rfl⟩:=ih hp
     exact⟨n::u,by simp⟩
    ·cases h
   ·split at h
    ·split at h
     ·rename_i a q1 hp
      split at h
      ·rename_i b q2 hp2
       cases h
       obtain⟨u,rfl⟩:=ih hp
       obtain⟨v,rfl⟩:=ih hp2
       exact⟨n::(u++v),by simp⟩
      ·cases h
     ·cases h
    ·cases h;exact⟨[n],rfl⟩
def endM (p:List Nd) (r k:Nat):Int:=match parse r (p.drop k) with
 |some (_,q)=>(p.length:Int)-q.length
 |none=>-1
theorem endM_some {p:List Nd}{r k:Nat}{t:PT}{q:List Nd}(h:parse r (p.drop k)=some (t,q)):∃j:Nat,endM p r k=(j:Int)∧k<j∧j≤p.length∧q=p.drop j:=by
 have h1:=parse_len h
 have h2:=parse_drop h
 simp only[List.length_drop] at h1 h2
 refine⟨p.length-q.length,?_,by omega,by omega,?_⟩
 ·simp only[endM,h];omega
 ·rw[List.drop_drop,show k+(p.length-k-q.length)=p.length-q.length by omega] at h2
  exact h2
theorem wrap_sml {x:Int}(h:-9223372036854775808≤x) (h':x≤9223372036854775807):IntKind.i64.wrap x=x:=by
 rw[IntKind.wrap_i64];omega
theorem arity_cases {k:Int}(h:0≤arity k):arity k=0∨arity k=1∨arity k=2:=by
 revert h
 unfold arity
 repeat' split
 all_goals simp
theorem V_q {p:List SNode}(hp:p.length≤1073741824)(ha:∀n∈p,0≤arity n.1):∀(r:Nat) (k:Nat) (d:Int),r≤11→d=11-r→F_k p k d=some (endM p r k)
 |0,k,d,_,hd=>(U_4 p k d).out (by
  subst hd
  have:endM p 0 k=-1:=rfl
  rw[this]
  simp)
 |r+1,k,d,hr,hd=>(U_4 p k d).out (by
  have hd2:decide (d>10)=false:=by simp;omega
  by_cases hk:k<p.length
  ·have hx:p[k]?=some p[k]:=List.getElem?_eq_getElem hk
   have h1:decide ((k:Int)≥(p.length:Int))=false:=by simp;omega
   have hdr:p.drop k=p[k]::p.drop (k+1):=List.drop_eq_getElem_cons hk
   simp only[h1,cond_false,hd2,joinK_go,J_b,ix_some hx,Option.bind_some,V_x,wrap_nat (show k<9223372036854775807 by omega)]
   have ha':=ha p[k] (mem_of_get hx)
   have ih:=fun k=>V_q hp ha r k (IntKind.i64.wrap (d+1)) (by omega) (by rw[wrap_sml (by omega) (by omega)];omega)
   rcases arity_cases ha' with h|h|h
   ·rw[h]
    rw[loopF_of (r:=.go (0,((k+1:Nat):Int))) 1 (by
     intro n hn
     obtain⟨m,rfl⟩:∃m,n=m+1:=⟨n-1,by omega⟩
     simp[loopK,L_2])]
    simp only[joinK_go,J_3,endM,hdr,parse,h]
    simp;omega
   ·rw[h]
    cases hq:parse r (p.drop (k+1)) with
    |none=>
     have e1:endM p r (k+1)=-1:=by simp only[endM,hq]
     rw[loopF_of (r:=.ret (-1)) 1 (by
      intro n hn
      obtain⟨m,rfl⟩:∃m,n=m+1:=⟨n-1,by omega⟩
      simp only[loopK,L_2,ih,Option.bind_some,e1]
      simp)]
     simp only[joinK_ret,endM,hdr,parse,h,hq]
     simp
    |some x=>
     obtain⟨t,q⟩:=x
     obtain⟨j,e1,hj,hj2,hj3⟩:=endM_some hq
     rw[loopF_of (r:=.go (0,(j:Int))) 2 (by
      intro n hn
      obtain⟨m,rfl⟩:∃m,n=m+2:=⟨n-2,by omega⟩
      simp only[loopK,L_2,ih,Option.bind_some,e1]
      simp)]
     simp only[joinK_go,J_3,endM,hdr,parse,h,hq,if_true]
     rw[←e1];simp only[endM,hq]
   ·rw[h]
    cases hq:parse r (p.drop (k+1)) with
    |none=>
     have e1:endM p r (k+1)=-1:=by simp only[endM,hq]
     rw[loopF_of (r:=.ret (-1)) 1 (by
      intro n hn
      obtain⟨m,rfl⟩:∃m,n=m+1:=⟨n-1,by omega⟩
      simp only[loopK,L_2,ih,Option.bind_some,e1]
      simp)]
     simp only[joinK_ret,endM,hdr,parse,h,hq]
     simp
    |some x=>
     obtain⟨t,q⟩:=x
     obtain⟨j,e1,hj,hj2,hj3⟩:=endM_some hq
     subst hj3
     cases hq2:parse r (p.drop j) with
     |none=>
      have e2:endM p r j=-1:=by simp only[endM,hq2]
      rw[loopF_of (r:=.ret (-1)) 2 (by
       intro n hn
       obtain⟨m,rfl⟩:∃m,n=m+2:=⟨n-2,by omega⟩
       simp only[loopK,L_2,ih,Option.bind_some,e1,e2]
       simp)]
      simp only[joinK_ret,endM,hdr,parse,h,hq,hq2]
      simp
     |some x=>
      obtain⟨t2,q2⟩:=x
      obtain⟨j2,e2,hj2,hj22,hj23⟩:=endM_some hq2
      rw[loopF_of (r:=.go (0,(j2:Int))) 3 (by
       intro n hn
       obtain⟨m,rfl⟩:∃m,n=m+3:=⟨n-3,by omega⟩
       have w:IntKind.i64.wrap (1+1)=2:=by rw[wrap_sml] <;> omega
       simp only[loopK,L_2,ih,Option.bind_some,e1,e2]
       simp[w])]
      simp only[joinK_go,J_3,endM,hdr,parse,h,hq,hq2,if_true]
      rw[←e2];simp only[endM,hq2]
      simp
  ·have h1:decide ((k:Int)≥(p.length:Int))=true:=by simp;omega
   have hdr:p.drop k=[]:=List.drop_eq_nil_of_le (by omega)
   simp only[h1,cond_true,joinK_go,J_b,endM,hdr,parse])
end Go.Proofs.YtkbcahfajbdgnaaGreatDoorX
namespace Go.Proofs.YtkbcahfajbdgnaaGreatDoorX
open Go Go.Proofs.YtkbcahfajbdgnaaGreatDoorT PT
set_option linter.all false
def endD (p:List Nd) (r k:Nat):Int:=match parse r (p.drop k) with
 |some (t,_)=>t.depth
 |none=>0
theorem parse_depth:∀{r:Nat}{l:List Nd}{t:PT}{q:List Nd},parse r l=some (t,q)→t.depth≤r
 |0,_,_,_,h=>by simp[parse] at h
 |r+1,[],_,_,h=>by simp[parse] at h
 |r+1,n::l,t,q,h=>by
  simp only[parse] at h
  split at h
  ·split at h
   ·rename_i a q1 hp
    cases h
    have:=parse_depth hp
    simp[PT.depth];omega
   ·cases h
  ·split at h
   ·split at h
    ·rename_i a q1 hp
     have:=parse_depth hp
     split at h
     ·rename_i b q2 hp2
      cases h
      have:=parse_depth hp2
      simp[PT.depth];omega
     ·cases h
    ·cases h
   ·cases h;simp[PT.depth]
theorem V_v {p:List SNode}(hp:p.length≤1073741824)(ha:∀n∈p,0≤arity n.1):∀(r:Nat) (k:Nat) (d:Int),r≤11→d=r→F_6 p k d=some (endM p r k,endD p r k)
 |0,k,d,_,hd=>(U_6 p k d).out (by
  subst hd
  have h1:endM p 0 k=-1:=rfl
  have h2:endD p 0 k=0:=rfl
  rw[h1,h2]
  simp)
 |r+1,k,d,hr,hd=>(U_6 p k d).out (by
  have hd2:(d==0)=false:=by simp;omega
  by_cases hk:k<p.length
  ·have hx:p[k]?=some p[k]:=List.getElem?_eq_getElem hk
   have h1:decide ((k:Int)≥(p.length:Int))=false:=by simp;omega
   have hdr:p.drop k=p[k]::p.drop (k+1):=List.drop_eq_getElem_cons hk
   simp only[h1,cond_false,hd2,joinK_go,J_j,wrap_nat (show k<9223372036854775807 by omega)]
   have ha':=ha p[k] (mem_of_get hx)
   have ih:=fun k=>V_v hp ha r k (IntKind.i64.wrap (d-1)) (by omega) (by rw[wrap_sml (by omega) (by omega)];omega)
   rcases arity_cases ha' with h|h|h
   ·rw[loopF_of (r:=.go (0,0,((k+1:Nat):Int),0)) 1 (by
     intro n hn
     obtain⟨m,rfl⟩:∃m,n=m+1:=⟨n-1,by omega⟩
     simp only[loopK,L_4,ix_some hx,Option.bind_some,V_1,h]
     simp)]
    simp only[joinK_go,J_7,endM,endD,hdr,parse,h]
    simp[PT.depth];omega
   ·cases hq:parse r (p.drop (k+1)) with
    |none=>
     have e1:endM p r (k+1)=-1:=by simp only[endM,hq]
     rw[loopF_of (r:=.ret ((-1),0)) 1 (by
      intro n hn
      obtain⟨m,rfl⟩:∃m,n=m+1:=⟨n-1,by omega⟩
      simp only[loopK,L_4,ix_some hx,Option.bind_some,V_1,h,ih,e1]
      simp)]
     simp only[joinK_ret,endM,endD,hdr,parse,h,hq]
     simp
    |some x=>
     obtain⟨t,q⟩:=x
     obtain⟨j,e1,hj,hj2,hj3⟩:=endM_some hq
     have e1d:endD p r (k+1)=(t.depth:Int):=by simp only[endD,hq]
     have hdp:=parse_depth hq
     have hpos:=t.depth_pos
     have hgt:decide ((t.depth:Int)>0)=true:=by simp;omega
     rw[loopF_of (r:=.go (0,0,(j:Int),(t.depth:Int))) 2 (by
      intro n hn
      obtain⟨m,rfl⟩:∃m,n=m+2:=⟨n-2,by omega⟩
      simp only[loopK,L_4,ix_some hx,Option.bind_some,V_1,h,ih,e1,e1d,hgt,cond_true]
      simp)]
     simp only[joinK_go,J_7,endM,endD,hdr,parse,h,hq,if_true,PT.depth]
     rw[←e1,wrap_nat (by omega)];simp only[endM,hq]
   ·cases hq:parse r (p.drop (k+1)) with
    |none=>
     have e1:endM p r (k+1)=-1:=by simp only[endM,hq]
     rw[loopF_of (r:=.ret ((-1),0)) 1 (by
      intro n hn
      obtain⟨m,rfl⟩:∃m,n=m+1:=⟨n-1,by omega⟩
      simp only[loopK,L_4,ix_some hx,Option.bind_some,V_1,h,ih,e1]
      simp)]
     simp only[joinK_ret,endM,endD,hdr,parse,h,hq]
     simp
    |some x=>
     obtain⟨t,q⟩:=x
     obtain⟨j,e1,hj,hj2,hj3⟩:=endM_some hq
     have e1d:endD p r (k+1)=(t.depth:Int):=by simp only[endD,hq]
     have hdp:=parse_depth hq
     have hpos:=t.depth_pos
     have hgt:decide ((t.depth:Int)>0)=true:=by simp;omega
     subst hj3
     cases hq2:parse r (p.drop j) with
     |none=>
      have e2:endM p r j=-1:=by simp only[endM,hq2]
      rw[loopF_of (r:=.ret ((-1),0)) 2 (by
       intro n hn
       obtain⟨m,rfl⟩:∃m,n=m+2:=⟨n-2,by omega⟩
       simp only[loopK,L_4,ix_some hx,Option.bind_some,V_1,h,ih,e1,e2,e1d,hgt,cond_true]
       simp[ih,e2])]
      simp only[joinK_ret,endM,endD,hdr,parse,h,hq,hq2]
      simp
     |some x=>
      obtain⟨t2,q2⟩:=x
      obtain⟨j2,e2,hj2,hj22,hj23⟩:=endM_some hq2
      have e2d:endD p r j=(t2.depth:Int):=by simp only[endD,hq2]
      have hdp2:=parse_depth hq2
      rw[loopF_of (r:=.go (0,0,(j2:Int),((max t.depth t2.depth:Nat):Int))) 3 (by
       intro n hn
       obtain⟨m,rfl⟩:∃m,n=m+3:=⟨n-3,by omega⟩
       have w:IntKind.i64.wrap (1+1)=2:=by rw[wrap_sml] <;> omega
       simp only[loopK,L_4,ix_some hx,Option.bind_some,V_1,h,ih,e1,e1d,hgt,cond_true]
       simp only[ih,e2,e2d,joinK_go,J_41,joinK_bind,joinK_bif,Option.bind_some,nat_neg,cond_false]
       by_cases hm:t2.depth>t.depth
       ·have hmd:decide ((t2.depth:Int)>(t.depth:Int))=true:=by simp;omega
        rw[hmd,show max t.depth t2.depth=t2.depth by omega]
        simp[w]
       ·have hmd:decide ((t2.depth:Int)>(t.depth:Int))=false:=by simp;omega
        rw[hmd,show max t.depth t2.depth=t.depth by omega]
        simp[w])]
      simp only[joinK_go,J_7,endM,endD,hdr,parse,h,hq,hq2,if_true,PT.depth]
      rw[←e2,wrap_nat (by omega)];simp only[endM,hq2]
      simp[PT.depth]
  ·have h1:decide ((k:Int)≥(p.length:Int))=true:=by simp;omega
   have hdr:p.drop k=[]:=List.drop_eq_nil_of_le (by omega)
   simp only[h1,cond_true,joinK_go,J_j,endM,endD,hdr,parse])
theorem planOk_eq (p:List Nd)(hn:p.all nodeOk=true):(decide (endM p 10 0=(p.length:Int))&&okIn p.length 1 40)=planOk p:=by
 cases hl:okIn p.length 1 40 with
 |false=>simp[planOk,planT,hl]
 |true=>
  simp only[planOk,planT,hl,hn,and_self,if_true,Bool.and_true,endM,List.drop_zero]
  have hl':=okIn_iff.1 hl
  cases h:parse 10 p with
  |none=>simp
  |some x=>
   obtain⟨t,q⟩:=x
   have:=parse_len h
   cases q with
   |nil=>simp
   |cons a q=>simp at this ⊢;omega
theorem planOk_not {p:List Nd}(h:okIn p.length 1 40=false∨p.all nodeOk=false):planOk p=false:=by
 rcases h with h|h <;> simp[planOk,planT,h]
theorem V_1w {p:List SNode}(hb:BPlan p):F_26 p=some (planOk p):=(U_m p).out (by
 simp only[V_2,Option.bind_some,V_2d hb,joinK_bif,joinK_go,J_11]
 cases hl:okIn p.length 1 40 with
 |false=>simp[planOk_not (.inl hl)]
 |true=>
  rw[←Bool.not_not (p.any _),all_not_any]
  cases hn:p.all nodeOk with
  |false=>simp[planOk_not (.inr hn)]
  |true=>
   have e:=V_q (p:=p) hb.len (fun n hm=>nodeOk_arity (by have:=List.all_eq_true.1 hn n hm;simpa using this)) 10 0 1 (by omega) (by omega)
   rw[show((0:Nat):Int)=0 from rfl] at e
   simp only[e,Option.bind_some,Bool.not_true,cond_false,beq_dec,←planOk_eq p hn,hl,Bool.and_true])
theorem V_a {p:List SNode}(hb:BPlan p):F_f p=some (planOk p):=(U_2p p).out (by
 simp only[V_0,Option.bind_some]
 have e:=loop_chk (f:=fun f s=>L_1g p f s.1 s.2) p (fun _ x=>nodeOk x) false
  (fun i x v g hx=>by
   have l1:=(List.getElem?_eq_some_iff.1 hx).1
   have:=hb.len
   simp only[L_1g,lt_nat hx,cond_true,ix_some hx,Option.bind_some,V_2w (hb.nodes x (mem_of_get hx)),wrap_nat (show i<9223372036854775807 by omega)]
   cases nodeOk x <;> rfl)
  (fun v g=>by simp[L_1g]) false
 rw[e,allI_const]
 cases hl:okIn p.length 1 40 with
 |false=>simp[planOk_not (.inl hl)]
 |true=>
  cases hn:p.all nodeOk with
  |false=>simp[planOk_not (.inr hn)]
  |true=>
   have e:=V_v (p:=p) hb.len (fun n hm=>nodeOk_arity (by have:=List.all_eq_true.1 hn n hm;simpa using this)) 10 0 10 (by omega) (by omega)
   rw[show((0:Nat):Int)=0 from rfl] at e
   simp only[e,Option.bind_some,Bool.not_true,cond_false,cond_true,joinK_go,J_33,beq_dec,←planOk_eq p hn,hl,Bool.and_true])
structure Good (t:PT):Prop where
 ok:t.ok
 deep:t.depth≤10
 nodes:∀n∈t.flat,nodeOk n=true
theorem PlanT.good {t:PT}(h:PlanT t):Good t:=⟨h.ok,h.deep,h.nodes⟩
theorem Good.c1 {n:Nd}{a:PT}(h:Good (.n1 n a)):Good a:=⟨h.ok.2,by have:=h.deep;simp[PT.depth] at this;omega,fun m hm=>h.nodes m (by simp[PT.flat,hm])⟩
theorem Good.l2 {n:Nd}{a b:PT}(h:Good (.n2 n a b)):Good a:=⟨h.ok.2.1,by have:=h.deep;simp[PT.depth] at this;omega,fun m hm=>h.nodes m (by simp[PT.flat,hm])⟩
theorem Good.r2 {n:Nd}{a b:PT}(h:Good (.n2 n a b)):Good b:=⟨h.ok.2.2,by have:=h.deep;simp[PT.depth] at this;omega,fun m hm=>h.nodes m (by simp[PT.flat,hm])⟩
theorem Good.hd {t:PT}(h:Good t):nodeOk t.hd=true:=h.nodes _ (by cases t <;> simp[PT.flat,PT.hd])
structure Pl (p:List Nd):Prop where
 len:p.length≤1073741824
 ar:∀n∈p,0≤arity n.1
theorem PlanT.pl {t:PT}(h:PlanT t):Pl t.flat:=⟨by have:=h.size;simp only[len_flat];omega,fun n hn=>nodeOk_arity (h.nodes n hn)⟩
theorem At.endM {p:List Nd}{k:Nat}{t:PT}(h:At p k t) (g:Good t):endM p 10 k=((k+t.size:Nat):Int):=by
 have hp:parse 10 (p.drop k)=some (t,p.drop (k+t.size)):=by rw[h.rest];exact flat_parse g.ok g.deep
 have:=h.le
 simp only[_root_.Go.Proofs.YtkbcahfajbdgnaaGreatDoorX.endM,hp,List.length_drop]
 omega
theorem At.endD {p:List Nd}{k:Nat}{t:PT}(h:At p k t) (g:Good t):endD p 10 k=(t.depth:Int):=by
 have hp:parse 10 (p.drop k)=some (t,p.drop (k+t.size)):=by rw[h.rest];exact flat_parse g.ok g.deep
 simp only[_root_.Go.Proofs.YtkbcahfajbdgnaaGreatDoorX.endD,hp]
theorem At.V_m {p:List SNode}{k:Nat}{t:PT}(h:At p k t) (g:Good t)(hp:Pl p):F_k p k 1=some ((k+t.size:Nat):Int):=by
 rw[V_q hp.len hp.ar 10 k 1 (by omega) (by omega),h.endM g]
theorem At.V_4 {p:List SNode}{k:Nat}{t:PT}(h:At p k t) (g:Good t)(hp:Pl p):F_6 p k 10=some (((k+t.size:Nat):Int),(t.depth:Int)):=by
 rw[V_v hp.len hp.ar 10 k 10 (by omega) (by omega),h.endM g,h.endD g]
def kids (k:Nat):PT→List Int
 |.n0 _=>[]
 |.n1 _ _=>[((k+1:Nat):Int)]
 |.n2 _ a _=>[((k+1:Nat):Int),((k+1+a.size:Nat):Int)]
theorem At.V_6 {p:List SNode}{k:Nat}{t:PT}(h:At p k t) (g:Good t)(hp:Pl p):F_1c p k=some (kids k t):=(U_12 p k).out (by
 have hle:=h.le
 have hl:=hp.len
 have hx:=h.hd
 simp only[ix_some hx,Option.bind_some,V_x,wrap_nat (show k<9223372036854775807 by omega)]
 cases t with
 |n0 n=>
  have ha:arity n.1=0:=g.ok
  simp only[PT.hd,ha]
  rw[loopF_of (r:=.go []) 1 (by
   intro n hn
   obtain⟨m,rfl⟩:∃m,n=m+1:=⟨n-1,by omega⟩
   simp[loopK,L_u])]
  simp[kids]
 |n1 n a=>
  have ha:arity n.1=1:=g.ok.1
  have e:=h.c1.V_m g.c1 hp
  simp only[PT.hd,ha]
  rw[loopF_of (r:=.go [((k+1:Nat):Int)]) 2 (by
   intro n hn
   obtain⟨m,rfl⟩:∃m,n=m+2:=⟨n-2,by omega⟩
   simp only[loopK,L_u,e,Option.bind_some]
   rw[apx_some (by simp)]
   simp[e])]
  simp[kids]
 |n2 n a b=>
  have ha:arity n.1=2:=g.ok.1
  have e:=h.l2.V_m g.l2 hp
  have e2:=h.r2.V_m g.r2 hp
  simp only[PT.hd,ha]
  rw[loopF_of (r:=.go [((k+1:Nat):Int),((k+1+a.size:Nat):Int)]) 3 (by
   intro n hn
   obtain⟨m,rfl⟩:∃m,n=m+3:=⟨n-3,by omega⟩
   have w:IntKind.i64.wrap (1+1)=2:=by rw[wrap_sml] <;> omega
   simp only[loopK,L_u,e,Option.bind_some]
   rw[apx_some (by simp)]
   simp only[Option.bind_some]
   rw[apx_some (by simp)]
   simp only[Option.bind_some,e,e2]
   simp[w])]
  simp[kids])
theorem At.V_5 {p:List SNode}{k:Nat}{t:PT}(h:At p k t) (g:Good t)(hp:Pl p):F_11 p k=some (kids k t):=(U_3o p k).out (by
 have hle:=h.le
 have hl:=hp.len
 have hx:=h.hd
 simp only[wrap_nat (show k<9223372036854775807 by omega)]
 cases t with
 |n0 n=>
  have ha:arity n.1=0:=g.ok
  rw[loopF_of (r:=.go []) 1 (by
   intro n hn
   obtain⟨m,rfl⟩:∃m,n=m+1:=⟨n-1,by omega⟩
   simp only[loopK,L_20,ix_some hx,Option.bind_some,V_1,PT.hd,ha]
   simp)]
  simp[kids]
 |n1 n a=>
  have ha:arity n.1=1:=g.ok.1
  have e:=h.c1.V_4 g.c1 hp
  rw[loopF_of (r:=.go [((k+1:Nat):Int)]) 2 (by
   intro n hn
   obtain⟨m,rfl⟩:∃m,n=m+2:=⟨n-2,by omega⟩
   simp only[loopK,L_20,e,Option.bind_some,ix_some hx,V_1,PT.hd,ha]
   rw[apx_some (by simp)]
   simp[e])]
  simp[kids]
 |n2 n a b=>
  have ha:arity n.1=2:=g.ok.1
  have e:=h.l2.V_4 g.l2 hp
  have e2:=h.r2.V_4 g.r2 hp
  rw[loopF_of (r:=.go [((k+1:Nat):Int),((k+1+a.size:Nat):Int)]) 3 (by
   intro n hn
   obtain⟨m,rfl⟩:∃m,n=m+3:=⟨n-3,by omega⟩
   have w:IntKind.i64.wrap (1+1)=2:=by rw[wrap_sml] <;> omega
   simp only[loopK,L_20,e,Option.bind_some,ix_some hx,V_1,PT.hd,ha]
   rw[apx_some (by simp)]
   simp only[Option.bind_some]
   rw[apx_some (by simp)]
   simp only[Option.bind_some,e,e2]
   simp[w])]
  simp[kids])
end Go.Proofs.YtkbcahfajbdgnaaGreatDoorX
namespace Go.Proofs.YtkbcahfajbdgnaaGreatDoorX
open Go Go.Proofs.YtkbcahfajbdgnaaGreatDoorT PT
set_option linter.all false
structure BSch (s:List Tb):Prop where
 len:s.length≤1073741824
 names:∀t∈s,t.1.size≤2147483648
def schP (s:List Tb) (i:Nat) (x:Tb):Bool:=wordOk x.1&&okIn x.2.1 1 6&&(decide (i=0)||match s[i-1]? with|some y=>less y.1 x.1|none=>true)
def schemaOk (s:List Tb):Bool:=allI (schP s) s 0&&decide (s.length≤8)
theorem V_o {s:List STable}(hb:BSch s):F_v s=some (schemaOk s):=(U_t s).out (by
 have e:=loop_chk (f:=fun f z=>L_o s f z.1 z.2) s (schP s) false
  (fun i x v g hx=>by
   have l1:=(List.getElem?_eq_some_iff.1 hx).1
   have hl:=hb.len
   have hw:=hb.names x (mem_of_get hx)
   have hi:decide ((i:Int)>0)=!decide (i=0):=by
    by_cases h:i=0
    ·simp[h]
    ·simp[h];omega
   simp only[L_o,lt_nat hx,cond_true,ix_some hx,Option.bind_some,V_12 hw,V_2,hi,wrap_nat (show i<9223372036854775807 by omega)]
   by_cases h:i=0
   ·subst h
    cases h1:wordOk x.1 <;> cases h2:okIn x.2.1 1 6 <;> simp[schP,h1,h2]
   ·have hy:s[i-1]?=some s[i-1]:=List.getElem?_eq_getElem (by omega)
    have hwr:IntKind.i64.wrap ((i:Int)-1)=((i-1:Nat):Int):=by rw[wrap_sml] <;> omega
    have hw1:=wrap_nat (show i<9223372036854775807 by omega)
    simp only[hwr,ix_some hy]
    cases h1:wordOk x.1 <;> cases h2:okIn x.2.1 1 6 <;> cases h3:less s[i-1].1 x.1 <;> simp[schP,h,hy,less_def,h1,h2,h3,hw1])
  (fun v g=>by simp[L_o]) false
 rw[e]
 simp only[schemaOk]
 cases allI (schP s) s 0 <;> simp <;> omega)
theorem V_h {s:List STable}(hb:BSch s):F_q s=some (schemaOk s):=(U_2x s).out (by
 have e:=loop_chk (f:=fun f z=>L_1k s f z.1 z.2) s (schP s) false
  (fun i x v g hx=>by
   have l1:=(List.getElem?_eq_some_iff.1 hx).1
   have hl:=hb.len
   have hw:=hb.names x (mem_of_get hx)
   have hi:decide ((i:Int)>0)=!decide (i=0):=by
    by_cases h:i=0
    ·simp[h]
    ·simp[h];omega
   simp only[L_1k,lt_nat hx,cond_true,ix_some hx,Option.bind_some,V_1d,V_0,hi,wrap_nat (show i<9223372036854775807 by omega)]
   by_cases h:i=0
   ·subst h
    cases h1:wordOk x.1 <;> cases h2:okIn x.2.1 1 6 <;> simp[schP,h1,h2]
   ·have hy:s[i-1]?=some s[i-1]:=List.getElem?_eq_getElem (by omega)
    have hwr:IntKind.i64.wrap ((i:Int)-1)=((i-1:Nat):Int):=by rw[wrap_sml] <;> omega
    have hw1:=wrap_nat (show i<9223372036854775807 by omega)
    simp only[hwr,ix_some hy,V_36 (hb.names _ (mem_of_get hy)),Option.bind_some]
    cases h1:wordOk x.1 <;> cases h2:okIn x.2.1 1 6 <;> cases h3:less s[i-1].1 x.1 <;> simp[schP,h,hy,h1,h2,h3,hw1])
  (fun v g=>by simp[L_1k]) false
 rw[e]
 simp only[schemaOk]
 by_cases h:s.length≤8
 ·have h':decide ((s.length:Int)>8)=false:=by simp;omega
  rw[h']
  cases allI (schP s) s 0 <;> simp[h]
 ·have h':decide ((s.length:Int)>8)=true:=by simp;omega
  rw[h']
  simp[h])
theorem allI_get {T:Type}{p:Nat→T→Bool}:∀{l:List T}{k:Nat},allI p l k=true→∀{i:Nat}{x:T},l[i]?=some x→p (k+i) x=true
 |[],_,_,_,_,h=>by simp at h
 |y::l,k,h,i,x,hx=>by
  simp only[allI,Bool.and_eq_true] at h
  cases i with
  |zero=>simp at hx;subst hx;exact h.1
  |succ i=>
   have:=allI_get h.2 (i:=i) (x:=x) (by simpa using hx)
   rw[show k+(i+1)=k+1+i by omega];exact this
theorem schemaOk_get {s:List Tb}(h:schemaOk s=true){t:Tb}(ht:t∈s):wordOk t.1=true∧1≤t.2.1∧t.2.1≤6:=by
 simp only[schemaOk,Bool.and_eq_true] at h
 obtain⟨i,hi⟩:=List.mem_iff_getElem?.1 ht
 have:=allI_get h.1 hi
 simp only[schP,Bool.and_eq_true,okIn_iff] at this
 exact⟨this.1.1,this.1.2⟩
theorem schemaOk_len {s:List Tb}(h:schemaOk s=true):s.length≤8:=by
 simp only[schemaOk,Bool.and_eq_true,decide_eq_true_eq] at h
 exact h.2
def tabAt (s:List Tb) (name:ByteArray):Option Nat:=findI (fun t=>decide (t.1=name)) s 0
theorem V_26 (t:STable) (n:ByteArray):F_2l t n=some (decide (t.1=n),n):=(U_1i t n).out (by rw[beq_toList])
theorem V_2k {s:List STable}(hl:s.length≤1073741824) (name:ByteArray):F_32 s name=some (fint (tabAt s name),name):=(U_20 s name).out (by
 have:=loop_findC (f:=fun f z=>L_18 s f z.1 z.2.1 z.2.2) s (fun t=>decide (t.1=name)) name
  (fun i x a g hx=>by
   have l1:=(List.getElem?_eq_some_iff.1 hx).1
   simp only[L_18,lt_nat hx,cond_true,ix_some hx,Option.bind_some,V_26,wrap_nat (show i<9223372036854775807 by omega)])
  (fun a g=>by simp[L_18]) 0
 rw[this]
 simp only[tabAt]
 cases findI (fun t=>decide (t.1=name)) s 0 <;> simp[fint])
theorem V_16 {s:List STable}(hl:s.length≤1073741824) (name:ByteArray):F_1h s name=some (fint (tabAt s name)):=(U_1h s name).out (by
 simp[V_2k hl])
theorem V_1h {s:List STable}(hl:s.length≤1073741824) (name:ByteArray):F_1u s name=some (fint (tabAt s name)):=(U_3r s name).out (by
 have:=loop_find (f:=fun f z=>L_22 s name f z.1 z.2) s (fun t=>decide (t.1=name)) (fun i=>(i:Int))
  (fun i x a g hx=>by
   have l1:=(List.getElem?_eq_some_iff.1 hx).1
   simp only[L_22,lt_nat hx,cond_true,ix_some hx,Option.bind_some,beq_toList,wrap_nat (show i<9223372036854775807 by omega)])
  (fun a g=>by simp[L_22]) 0
 rw[this]
 simp only[tabAt]
 cases findI (fun t=>decide (t.1=name)) s 0 <;> simp[fint])
theorem tabAt_some {s:List Tb}{name:ByteArray}{j:Nat}(h:tabAt s name=some j):∃t,s[j]?=some t∧t.1=name∧t∈s:=by
 obtain⟨_,t,h1,h2⟩:=findI_some h
 simp only[Nat.sub_zero,decide_eq_true_eq] at h1 h2
 exact⟨t,h1,h2,mem_of_get h1⟩
def oint (o:Option Int):Int:=match o with|some x=>x|none=>-1
def wT (s:List Tb):PT→Option Int
 |.n0 n=>match tabAt s n.2.1 with
  |some j=>match s[j]? with
   |some t=>some t.2.1
   |none=>none
  |none=>none
 |.n1 n a=>match wT s a with
  |none=>none
  |some w=>if n.1=2 then(if n.2.2.2.2.2.2.1.all (fun c=>decide (c<w))=true then some n.2.2.2.2.2.2.1.length else none)
   else if n.1=1∨n.1=5 then(if n.2.2.1<w then some w else none) else some w
 |.n2 n a b=>match wT s a,wT s b with
  |some w,some v=>if n.1=3 then(if n.2.2.1<w∧n.2.2.2.2.1<v∧w+v≤64 then some (w+v) else none) else if w=v then some w else none
  |_,_=>none
theorem kind0 {n:Nd}(h:arity n.1=0):n.1=0:=by
 revert h;unfold arity;repeat' split
 all_goals simp_all
theorem kind1 {n:Nd}(h:arity n.1=1):n.1=1∨n.1=2∨n.1=5∨n.1=6∨n.1=7:=by
 revert h;unfold arity;repeat' split
 all_goals simp_all
theorem kind2 {n:Nd}(h:arity n.1=2):n.1=3∨n.1=4:=by
 revert h;unfold arity;repeat' split
 all_goals simp_all
theorem nodeOk_keep {n:Nd}(h:nodeOk n=true)(hk:n.1=2):1≤n.2.2.2.2.2.2.1.length∧n.2.2.2.2.2.2.1.length≤6∧∀c∈n.2.2.2.2.2.2.1,0≤c∧c≤63:=by
 obtain⟨k,name,col,op,num,slot,cols,u⟩:=n
 simp only at hk
 subst hk
 simp[nodeOk,okIn] at h
 refine⟨by simp only;omega,by simp only;omega,?_⟩
 intro c hc
 exact h.2.1.1.1.1 c hc
theorem wT_range {s:List Tb}(hs:schemaOk s=true):∀{t:PT}{w:Int},Good t→wT s t=some w→1≤w∧w≤64
 |.n0 n,w,g,h=>by
  simp only[wT] at h
  split at h
  ·rename_i j hj
   split at h
   ·rename_i t ht
    cases h
    have:=schemaOk_get hs (mem_of_get ht)
    omega
   ·cases h
  ·cases h
 |.n1 n a,w,g,h=>by
  simp only[wT] at h
  split at h
  ·cases h
  ·rename_i w' hw
   have:=wT_range hs g.c1 hw
   split at h
   ·rename_i hk
    split at h
    ·cases h
     have:=nodeOk_keep g.hd hk
     simp only[PT.hd] at this
     omega
    ·cases h
   ·split at h
    ·split at h
     ·cases h;exact this
     ·cases h
    ·cases h;exact this
 |.n2 n a b,w,g,h=>by
  simp only[wT] at h
  split at h
  ·rename_i w' v hw hv
   have h1:=wT_range hs g.l2 hw
   have h2:=wT_range hs g.r2 hv
   split at h
   ·split at h
    ·cases h;omega
    ·cases h
   ·split at h
    ·cases h;exact h1
    ·cases h
  ·cases h
theorem V_2n {l:List Int}(h1:1≤l.length)(h2:l.length≤1073741824):∃m,F_1j l=some m∧∀w,decide (m≥w)=!l.all (fun c=>decide (c<w)):=by
 suffices h:∃m,F_1j l=some m∧∀w,m≥w↔l.all (fun c=>decide (c<w))=false by
  obtain⟨m,h1,h2⟩:=h
  refine⟨m,h1,fun w=>?_⟩
  cases hb:l.all (fun c=>decide (c<w)) with
  |false=>simp[(h2 w).2 hb]
  |true=>simp only[Bool.not_true,decide_eq_false_iff_not];intro hc;rw[(h2 w).1 hc] at hb;cases hb
 match l,h1 with
 |x::l,_=>
  refine⟨l.foldl (fun a x=>mmx true a x) x,(U_23 (x::l)).out ?_,?_⟩
  ·have hd:decide (((x::l).length:Int)<1)=false:=by simp;omega
   rw[hd]
   have e:=loop_fold (f:=fun f z=>L_1b (x::l) f z.1 z.2) (fun i a=>(a,((i+1:Nat):Int))) l (fun _ _=>True) (fun _ x a=>mmx true a x)
    (fun i y a g hy _=>by
     have l1:=(List.getElem?_eq_some_iff.1 hy).1
     have hx:(x::l)[i+1]?=some y:=by simpa using hy
     simp only[List.length_cons] at h2
     simp only[L_1b,lt_nat hx,cond_true,ix_some hx,Option.bind_some,wrap_nat (show i+1<9223372036854775807 by omega)])
    (fun _ _ _ _ _=>trivial) (fun a g _=>by simp[L_1b]) x trivial
   rw[foldI_const (fun x a=>mmx true a x)] at e
   have h0:ix (x::l) 0=some x:=by rw[show(0:Int)=((0:Nat):Int) from rfl,ix_nat];rfl
   simp only[cond_false,joinK_go,J_27,h0,Option.bind_some]
   rw[show((0+1:Nat):Int)=1 from rfl] at e
   rw[e];simp
  ·intro w
   clear h2
   induction l generalizing x with
   |nil=>simp
   |cons y l ih=>
    have ih:=ih (mmx true x y) (by simp)
    simp only[List.foldl_cons]
    rw[ih]
    simp only[List.all_cons,mmx,cond_true]
    by_cases h:y>x
    ·simp only[h,decide_true,cond_true]
     by_cases h3:y<w
     ·have:x<w:=by omega
      simp[h3,this]
     ·simp[h3]
    ·simp only[h,decide_false,cond_false]
     by_cases h3:x<w
     ·have:y<w:=by omega
      simp[h3,this]
     ·simp[h3]
theorem ix0 {T:Type}(x:T) (l:List T):ix (x::l) 0=some x:=by rw[show(0:Int)=((0:Nat):Int) from rfl,ix_nat];rfl
theorem ix1 {T:Type}(x y:T) (l:List T):ix (x::y::l) 1=some y:=by rw[show(1:Int)=((1:Nat):Int) from rfl,ix_nat];rfl
theorem V_g {s:List STable}(hs:schemaOk s=true){p:List SNode}(hp:Pl p):∀(t:PT) (k:Nat),At p k t→Good t→F_1i s p k=some (oint (wT s t))
 |.n0 n,k,h,g=>(U_2 s p k).out (by
  have hk:=kind0 (n:=n) g.ok
  have hx:p[k]?=some n:=h.hd
  have hl:=schemaOk_len hs
  simp only[h.V_6 g hp,kids,Option.bind_some]
  rw[loopF_of (r:=.go (0,[])) 1 (by
   intro n hn
   obtain⟨m,rfl⟩:∃m,n=m+1:=⟨n-1,by omega⟩
   simp[loopK,L_3])]
  simp only[joinK_go,J_5,ix_some hx,Option.bind_some,hk,V_16 (show s.length≤1073741824 by omega),wT,joinK_bind,joinK_bif,fint_neg,beq_dec,decide_true,cond_true]
  cases ht:tabAt s n.2.1 with
  |none=>simp[fint,oint]
  |some j=>
   obtain⟨t,h1,_,_⟩:=tabAt_some ht
   simp only[fint_some,ix_some h1,h1]
   simp[oint])
 |.n1 n a,k,h,g=>(U_2 s p k).out (by
  have hk:=kind1 (n:=n) g.ok.1
  have hx:p[k]?=some n:=h.hd
  have ih:=V_g hs hp a (k+1) h.c1 g.c1
  simp only[h.V_6 g hp,kids,Option.bind_some]
  generalize ((k+1:Nat):Int)=j1 at *
  cases hw:wT s a with
  |none=>
   rw[hw] at ih
   rw[loopF_of (r:=.ret (-1)) 1 (by
    intro n hn
    obtain⟨m,rfl⟩:∃m,n=m+1:=⟨n-1,by omega⟩
    simp only[loopK,L_3,ix0,Option.bind_some,ih,oint]
    simp)]
   simp[wT,hw,oint]
  |some w=>
   rw[hw] at ih
   have hr:=wT_range hs g.c1 hw
   have hneg:decide (w<0)=false:=by simp;omega
   rw[loopF_of (r:=.go (0,[w])) 2 (by
    intro n hn
    obtain⟨m,rfl⟩:∃m,n=m+2:=⟨n-2,by omega⟩
    simp only[loopK,L_3,ix0,Option.bind_some,ih,oint,hneg]
    rw[apx_some (by simp)]
    simp)]
   simp only[joinK_go,J_5,ix_some hx,Option.bind_some,wT,hw]
   rcases hk with hk|hk|hk|hk|hk
   ·simp only[hk]
    by_cases hc:n.2.2.1<w
    ·have:decide (n.2.2.1≥w)=false:=by simp;omega
     simp[ix0,this,hc,oint,hk]
    ·have:decide (n.2.2.1≥w)=true:=by simp;omega
     simp[ix0,this,hc,oint,hk]
   ·have hn:=nodeOk_keep g.hd hk
    simp only[PT.hd] at hn
    obtain⟨m,hm,hm2⟩:=V_2n hn.1 (by omega)
    simp only[hk,hm,Option.bind_some,ix0,J_1x,hm2 w]
    cases hc:n.2.2.2.2.2.2.1.all (fun c=>decide (c<w)) <;> simp[oint,ix0,hm,hm2,hc,hk]
   ·simp only[hk]
    by_cases hc:n.2.2.1<w
    ·have:decide (n.2.2.1≥w)=false:=by simp;omega
     simp[ix0,this,hc,oint,hk]
    ·have:decide (n.2.2.1≥w)=true:=by simp;omega
     simp[ix0,this,hc,oint,hk]
   ·simp[hk,ix0,oint]
   ·simp[hk,ix0,oint])
 |.n2 n a b,k,h,g=>(U_2 s p k).out (by
  have hk:=kind2 (n:=n) g.ok.1
  have hx:p[k]?=some n:=h.hd
  have ih:=V_g hs hp a (k+1) h.l2 g.l2
  have ih2:=V_g hs hp b (k+1+a.size) h.r2 g.r2
  simp only[h.V_6 g hp,kids,Option.bind_some]
  generalize ((k+1:Nat):Int)=j1 at *
  generalize ((k+1+a.size:Nat):Int)=j2 at *
  cases hw:wT s a with
  |none=>
   rw[hw] at ih
   rw[loopF_of (r:=.ret (-1)) 1 (by
    intro n hn
    obtain⟨m,rfl⟩:∃m,n=m+1:=⟨n-1,by omega⟩
    simp only[loopK,L_3,ix0,Option.bind_some,ih,oint]
    simp)]
   simp[wT,hw,oint]
  |some w=>
   rw[hw] at ih
   have hr:=wT_range hs g.l2 hw
   have hneg:decide (w<0)=false:=by simp;omega
   cases hv:wT s b with
   |none=>
    rw[hv] at ih2
    rw[loopF_of (r:=.ret (-1)) 2 (by
     intro n hn
     obtain⟨m,rfl⟩:∃m,n=m+2:=⟨n-2,by omega⟩
     simp only[loopK,L_3,ix0,Option.bind_some,ih,oint,hneg]
     rw[apx_some (by simp)]
     simp[ix1,ih2,oint])]
    simp[wT,hw,hv,oint]
   |some v=>
    rw[hv] at ih2
    have hr2:=wT_range hs g.r2 hv
    have hneg2:decide (v<0)=false:=by simp;omega
    rw[loopF_of (r:=.go (0,[w,v])) 3 (by
     intro n hn
     obtain⟨m,rfl⟩:∃m,n=m+3:=⟨n-3,by omega⟩
     have ww:IntKind.i64.wrap (1+1)=2:=by rw[wrap_sml] <;> omega
     simp only[loopK,L_3,ix0,Option.bind_some,ih,oint,hneg]
     rw[apx_some (by simp)]
     simp[ix1,ih2,oint,hneg2]
     rw[apx_some (by simp)]
     simp[ww])]
    simp only[joinK_go,J_5,ix_some hx,Option.bind_some,wT,hw,hv]
    rcases hk with hk|hk
    ·simp only[hk]
     have hwr:IntKind.i64.wrap (w+v)=w+v:=by rw[wrap_sml] <;> omega
     have d1:decide (n.2.2.1≥w)=!decide (n.2.2.1<w):=by by_cases h:n.2.2.1<w <;> simp[h] <;> omega
     have d2:decide (n.2.2.2.2.1≥v)=!decide (n.2.2.2.2.1<v):=by by_cases h:n.2.2.2.2.1<v <;> simp[h] <;> omega
     have d3:decide (w+v>64)=!decide (w+v≤64):=by by_cases h:w+v≤64 <;> simp[h] <;> omega
     by_cases h1:n.2.2.1<w <;> by_cases h2:n.2.2.2.2.1<v <;> by_cases h3:w+v≤64 <;> simp[ix0,ix1,hwr,d1,d2,d3,h1,h2,h3,oint,hk]
    ·simp only[hk]
     by_cases h1:w=v <;> simp[ix0,ix1,h1,oint,bne_dec,hk])
end Go.Proofs.YtkbcahfajbdgnaaGreatDoorX
namespace Go.Proofs.YtkbcahfajbdgnaaGreatDoorX
open Go Go.Proofs.YtkbcahfajbdgnaaGreatDoorT PT
set_option linter.all false
theorem V_d {s:List STable}(hs:schemaOk s=true){p:List SNode}(hp:Pl p):∀(t:PT) (k:Nat),At p k t→Good t→F_12 s p k=some (oint (wT s t))
 |.n0 n,k,h,g=>(U_3 s p k).out (by
  have hk:=kind0 (n:=n) g.ok
  have hx:p[k]?=some n:=h.hd
  have hl:=schemaOk_len hs
  simp only[ix_some hx,h.V_5 g hp,kids,Option.bind_some]
  rw[loopF_of (r:=.go (0,[])) 1 (by
   intro n hn
   obtain⟨m,rfl⟩:∃m,n=m+1:=⟨n-1,by omega⟩
   simp[loopK,L_5])]
  simp only[joinK_go,J_8,ix_some hx,Option.bind_some,hk,V_1h (show s.length≤1073741824 by omega),wT,joinK_bind,joinK_bif,fint_neg,beq_dec,decide_true,cond_true]
  cases ht:tabAt s n.2.1 with
  |none=>simp[fint,oint]
  |some j=>
   obtain⟨t,h1,_,_⟩:=tabAt_some ht
   simp only[fint_some,ix_some h1,h1]
   simp[oint])
 |.n1 n a,k,h,g=>(U_3 s p k).out (by
  have hk:=kind1 (n:=n) g.ok.1
  have hx:p[k]?=some n:=h.hd
  have ih:=V_d hs hp a (k+1) h.c1 g.c1
  simp only[ix_some hx,h.V_5 g hp,kids,Option.bind_some]
  generalize ((k+1:Nat):Int)=j1 at *
  cases hw:wT s a with
  |none=>
   rw[hw] at ih
   rw[loopF_of (r:=.ret (-1)) 1 (by
    intro n hn
    obtain⟨m,rfl⟩:∃m,n=m+1:=⟨n-1,by omega⟩
    simp only[loopK,L_5,ix0,Option.bind_some,ih,oint]
    simp)]
   simp[wT,hw,oint]
  |some w=>
   rw[hw] at ih
   have hr:=wT_range hs g.c1 hw
   have hneg:decide (w<0)=false:=by simp;omega
   rw[loopF_of (r:=.go (0,[w])) 2 (by
    intro n hn
    obtain⟨m,rfl⟩:∃m,n=m+2:=⟨n-2,by omega⟩
    simp only[loopK,L_5,ix0,Option.bind_some,ih,oint,hneg]
    rw[apx_some (by simp)]
    simp)]
   simp only[joinK_go,J_8,ix_some hx,Option.bind_some,wT,hw]
   rcases hk with hk|hk|hk|hk|hk
   ·simp only[hk]
    by_cases hc:n.2.2.1<w
    ·have:decide (n.2.2.1≥w)=false:=by simp;omega
     simp[ix0,this,hc,oint,hk]
    ·have:decide (n.2.2.1≥w)=true:=by simp;omega
     simp[ix0,this,hc,oint,hk]
   ·have hn:=nodeOk_keep g.hd hk
    simp only[PT.hd] at hn
    have e:=loop_chk (f:=fun f s=>L_23 n [w] f s.1 s.2) n.2.2.2.2.2.2.1 (fun _ c=>decide (c<w)) (Ex.ret (-1))
     (fun i x v g hx=>by
      have l1:=(List.getElem?_eq_some_iff.1 hx).1
      simp only[L_23,lt_nat hx,cond_true,ix_some hx,Option.bind_some,ix0,wrap_nat (show i<9223372036854775807 by omega)]
      by_cases h:x<w
      ·have:decide (x≥w)=false:=by simp;omega
       simp[h,this]
      ·have:decide (x≥w)=true:=by simp;omega
       simp[h,this])
     (fun v g=>by simp[L_23]) 0
    rw[allI_const] at e
    simp only[hk,joinK_bif,joinK_go,J_43,e]
    cases hc:n.2.2.2.2.2.2.1.all (fun c=>decide (c<w)) <;> simp[oint,ix0,hc,hk,e]
   ·simp only[hk]
    by_cases hc:n.2.2.1<w
    ·have:decide (n.2.2.1≥w)=false:=by simp;omega
     simp[ix0,this,hc,oint,hk]
    ·have:decide (n.2.2.1≥w)=true:=by simp;omega
     simp[ix0,this,hc,oint,hk]
   ·simp[hk,ix0,oint]
   ·simp[hk,ix0,oint])
 |.n2 n a b,k,h,g=>(U_3 s p k).out (by
  have hk:=kind2 (n:=n) g.ok.1
  have hx:p[k]?=some n:=h.hd
  have ih:=V_d hs hp a (k+1) h.l2 g.l2
  have ih2:=V_d hs hp b (k+1+a.size) h.r2 g.r2
  simp only[ix_some hx,h.V_5 g hp,kids,Option.bind_some]
  generalize ((k+1:Nat):Int)=j1 at *
  generalize ((k+1+a.size:Nat):Int)=j2 at *
  cases hw:wT s a with
  |none=>
   rw[hw] at ih
   rw[loopF_of (r:=.ret (-1)) 1 (by
    intro n hn
    obtain⟨m,rfl⟩:∃m,n=m+1:=⟨n-1,by omega⟩
    simp only[loopK,L_5,ix0,Option.bind_some,ih,oint]
    simp)]
   simp[wT,hw,oint]
  |some w=>
   rw[hw] at ih
   have hr:=wT_range hs g.l2 hw
   have hneg:decide (w<0)=false:=by simp;omega
   cases hv:wT s b with
   |none=>
    rw[hv] at ih2
    rw[loopF_of (r:=.ret (-1)) 2 (by
     intro n hn
     obtain⟨m,rfl⟩:∃m,n=m+2:=⟨n-2,by omega⟩
     simp only[loopK,L_5,ix0,Option.bind_some,ih,oint,hneg]
     rw[apx_some (by simp)]
     simp[ix1,ih2,oint])]
    simp[wT,hw,hv,oint]
   |some v=>
    rw[hv] at ih2
    have hr2:=wT_range hs g.r2 hv
    have hneg2:decide (v<0)=false:=by simp;omega
    rw[loopF_of (r:=.go (0,[w,v])) 3 (by
     intro n hn
     obtain⟨m,rfl⟩:∃m,n=m+3:=⟨n-3,by omega⟩
     have ww:IntKind.i64.wrap (1+1)=2:=by rw[wrap_sml] <;> omega
     simp only[loopK,L_5,ix0,Option.bind_some,ih,oint,hneg]
     rw[apx_some (by simp)]
     simp[ix1,ih2,oint,hneg2]
     rw[apx_some (by simp)]
     simp[ww])]
    simp only[joinK_go,J_8,ix_some hx,Option.bind_some,wT,hw,hv]
    rcases hk with hk|hk
    ·simp only[hk]
     have hwr:IntKind.i64.wrap (w+v)=w+v:=by rw[wrap_sml] <;> omega
     have d1:decide (n.2.2.1≥w)=!decide (n.2.2.1<w):=by by_cases h:n.2.2.1<w <;> simp[h] <;> omega
     have d2:decide (n.2.2.2.2.1≥v)=!decide (n.2.2.2.2.1<v):=by by_cases h:n.2.2.2.2.1<v <;> simp[h] <;> omega
     have d3:decide (w+v>64)=!decide (w+v≤64):=by by_cases h:w+v≤64 <;> simp[h] <;> omega
     by_cases h1:n.2.2.1<w <;> by_cases h2:n.2.2.2.2.1<v <;> by_cases h3:w+v≤64 <;> simp[ix0,ix1,hwr,d1,d2,d3,h1,h2,h3,oint,hk]
    ·simp only[hk]
     by_cases h1:w=v <;> simp[ix0,ix1,h1,oint,bne_dec,hk])
def widthOf (s:List Tb) (p:List Nd):Option Int:=if schemaOk s=true then(planT p).bind (wT s) else none
theorem V_22 {s:List STable}(hs:BSch s){p:List SNode}(hp:BPlan p):F_2d s p=some (oint (widthOf s p)):=(U_10 s p).out (by
 simp only[V_o hs,V_1w hp,Option.bind_some]
 unfold widthOf
 cases h1:schemaOk s with
 |false=>simp[oint]
 |true=>
  cases h2:planT p with
  |none=>simp[planOk,h2,oint]
  |some t=>
   obtain⟨ht,rfl⟩:=planT_some h2
   have:=V_g h1 ht.pl t 0 (At.root t) ht.good
   rw[show((0:Nat):Int)=0 from rfl] at this
   simp[planOk,h2,this])
theorem V_34 {s:List STable}(hs:BSch s){p:List SNode}(hp:BPlan p):F_3q s p=some (oint (widthOf s p)):=(U_35 s p).out (by
 simp only[V_h hs,V_a hp,Option.bind_some]
 unfold widthOf
 cases h1:schemaOk s with
 |false=>simp[oint]
 |true=>
  cases h2:planT p with
  |none=>simp[planOk,h2,oint]
  |some t=>
   obtain⟨ht,rfl⟩:=planT_some h2
   have:=V_d h1 ht.pl t 0 (At.root t) ht.good
   rw[show((0:Nat):Int)=0 from rfl] at this
   simp[planOk,h2,this])
def typedOk (s:List Tb) (p:List Nd):Bool:=(widthOf s p).isSome
theorem widthOf_range {s:List Tb}{p:List Nd}{w:Int}(h:widthOf s p=some w):1≤w∧w≤64:=by
 unfold widthOf at h
 split at h
 ·rename_i hs
  cases hp:planT p with
  |none=>simp[hp] at h
  |some t=>
   simp only[hp,Option.bind_some] at h
   exact wT_range hs (planT_some hp).1.good h
 ·cases h
theorem V_21 {s:List STable}(hs:BSch s){p:List SNode}(hp:BPlan p):F_2c s p=some (typedOk s p):=(U_z s p).out (by
 simp only[V_22 hs hp,Option.bind_some,typedOk]
 cases h:widthOf s p with
 |none=>simp[oint]
 |some w=>have:=widthOf_range h;simp[oint];omega)
theorem V_i {s:List STable}(hs:BSch s){p:List SNode}(hp:BPlan p):F_s s p=some (typedOk s p):=(U_34 s p).out (by
 simp only[V_34 hs hp,Option.bind_some,typedOk]
 cases h:widthOf s p with
 |none=>simp[oint]
 |some w=>have:=widthOf_range h;simp[oint,bne_dec];omega)
structure Typed (s:List Tb) (t:PT):Prop where
 plan:PlanT t
 sch:schemaOk s=true
 w:(wT s t).isSome=true
theorem typedOk_iff {s:List Tb}{p:List Nd}:typedOk s p=true↔∃t,p=t.flat∧Typed s t:=by
 unfold typedOk widthOf
 constructor
 ·intro h
  split at h
  ·rename_i hs
   cases hp:planT p with
   |none=>simp[hp] at h
   |some t=>
    simp only[hp,Option.bind_some] at h
    exact⟨t,(planT_some hp).2,(planT_some hp).1,hs,h⟩
  ·cases h
 ·rintro⟨t,rfl,h1,h2,h3⟩
  rw[if_pos h2,planT_flat h1]
  exact h3
end Go.Proofs.YtkbcahfajbdgnaaGreatDoorX
namespace Go.Proofs.YtkbcahfajbdgnaaGreatDoorX
open Go Go.Proofs.YtkbcahfajbdgnaaGreatDoorT PT
set_option linter.all false
def sizesOk (s:List Tb) (sizes:List Int):Bool:=decide (sizes.length=s.length)&&sizes.all (fun x=>okIn x 0 1000)
def good (s:List Tb) (sizes:List Int) (p:List Nd):Bool:=typedOk s p&&sizesOk s sizes
theorem wT_c1 {s:List Tb}{n:Nd}{a:PT}(h:(wT s (.n1 n a)).isSome=true):(wT s a).isSome=true:=by
 simp only[wT] at h
 split at h
 ·cases h
 ·rename_i h';rw[h'];rfl
theorem wT_l2 {s:List Tb}{n:Nd}{a b:PT}(h:(wT s (.n2 n a b)).isSome=true):(wT s a).isSome=true:=by
 simp only[wT] at h
 split at h
 ·rename_i h' _;rw[h'];rfl
 ·cases h
theorem wT_r2 {s:List Tb}{n:Nd}{a b:PT}(h:(wT s (.n2 n a b)).isSome=true):(wT s b).isSome=true:=by
 simp only[wT] at h
 split at h
 ·rename_i _ h';rw[h'];rfl
 ·cases h
theorem quox_some {a b:Int}(h0:0≤a)(h1:a≤9223372036854775807)(hb:1≤b):quox a b=some (a / b):=by
 unfold quox
 have hb0:(b==0)=false:=by simp;omega
 rw[hb0,Int.tdiv_eq_ediv_of_nonneg h0]
 have:0≤a / b:=Int.ediv_nonneg h0 (by omega)
 have:a / b≤a:=Int.ediv_le_self _ h0
 rw[wrap_sml (by omega) (by omega)]
 rfl
theorem mmx_max (a b:Int):mmx true a b=max a b:=by
 unfold mmx
 by_cases h:b>a <;> simp[h] <;> omega
end Go.Proofs.YtkbcahfajbdgnaaGreatDoorX
namespace Go.Proofs.YtkbcahfajbdgnaaGreatDoorX
open Go Go.Proofs.YtkbcahfajbdgnaaGreatDoorT PT
set_option linter.all false
def subs:PT→List PT
 |.n0 n=>[.n0 n]
 |.n1 n a=>.n1 n a::subs a
 |.n2 n a b=>.n2 n a b::(subs a++subs b)
@[simp] theorem subs_len:∀t:PT,(subs t).length=t.size
 |.n0 _=>rfl
 |.n1 _ a=>by simp[subs,PT.size,subs_len a]
 |.n2 _ a b=>by simp[subs,PT.size,subs_len a,subs_len b]
theorem subs_at {p:List Nd}:∀{t:PT}{k:Nat},At p k t→∀{i:Nat}{u:PT},(subs t)[i]?=some u→At p (k+i) u
 |.n0 n,k,h,i,u,hu=>by
  cases i with
  |zero=>simp[subs] at hu;subst hu;exact h
  |succ i=>simp[subs] at hu
 |.n1 n a,k,h,i,u,hu=>by
  cases i with
  |zero=>simp[subs] at hu;subst hu;exact h
  |succ i=>
   have:=subs_at h.c1 (i:=i) (u:=u) (by simpa[subs] using hu)
   rwa [show k+(i+1)=k+1+i by omega]
 |.n2 n a b,k,h,i,u,hu=>by
  cases i with
  |zero=>simp[subs] at hu;subst hu;exact h
  |succ i=>
   have hu:(subs a++subs b)[i]?=some u:=by simpa[subs] using hu
   by_cases hi:i<a.size
   ·rw[List.getElem?_append_left (by simpa using hi)] at hu
    have:=subs_at h.l2 hu
    rwa [show k+(i+1)=k+1+i by omega]
   ·rw[List.getElem?_append_right (by simp;omega)] at hu
    have:=subs_at h.r2 hu
    rw[subs_len] at this
    rwa [show k+(i+1)=k+1+a.size+(i-a.size) by omega]
theorem subs_good:∀{t:PT},Good t→∀{u:PT},u∈subs t→Good u
 |.n0 n,g,u,hu=>by simp[subs] at hu;subst hu;exact g
 |.n1 n a,g,u,hu=>by
  simp only[subs,List.mem_cons] at hu
  rcases hu with rfl|hu
  ·exact g
  ·exact subs_good g.c1 hu
 |.n2 n a b,g,u,hu=>by
  simp only[subs,List.mem_cons,List.mem_append] at hu
  rcases hu with rfl|hu|hu
  ·exact g
  ·exact subs_good g.l2 hu
  ·exact subs_good g.r2 hu
theorem subs_w {s:List Tb}:∀{t:PT},(wT s t).isSome=true→∀{u:PT},u∈subs t→(wT s u).isSome=true
 |.n0 n,g,u,hu=>by simp[subs] at hu;subst hu;exact g
 |.n1 n a,g,u,hu=>by
  simp only[subs,List.mem_cons] at hu
  rcases hu with rfl|hu
  ·exact g
  ·exact subs_w (wT_c1 g) hu
 |.n2 n a b,g,u,hu=>by
  simp only[subs,List.mem_cons,List.mem_append] at hu
  rcases hu with rfl|hu|hu
  ·exact g
  ·exact subs_w (wT_l2 g) hu
  ·exact subs_w (wT_r2 g) hu
end Go.Proofs.YtkbcahfajbdgnaaGreatDoorX
namespace Go.Proofs.YtkbcahfajbdgnaaGreatDoorX
open Go Go.Proofs.YtkbcahfajbdgnaaGreatDoorT PT
set_option linter.all false
theorem V_u {l:List Int}(h:l.length≤2147483648):F_z l=some l:=(U_39 l).out (by
 have e:=loop_map (f:=fun f s=>L_1u l f s.1 s.2) l id h
  (fun i x a g hx ha=>by
   have l1:=(List.getElem?_eq_some_iff.1 hx).1
   simp only[L_1u,lt_nat hx,cond_true,ix_some hx,Option.bind_some,wrap_nat (show i<9223372036854775807 by omega)]
   rw[apx_some (by simp[ha];omega)];rfl)
  (fun a g=>by simp[L_1u])
 rw[e];simp)
theorem V_2a {l:List Int}(h:l.length≤2147483648):F_2q l=some l:=(U_1n l).out (by
 rw[apx_some (by simpa using h)]
 cases l <;> simp[nilx,bothEq])
theorem V_c {p:List SNode}(hb:BPlan p):F_h p=some p:=(U_3l p).out (by
 have e:=loop_map (f:=fun f s=>L_1y p f s.1 s.2) p id (by have:=hb.len;omega)
  (fun i x a g hx ha=>by
   have l1:=(List.getElem?_eq_some_iff.1 hx).1
   have:=hb.len
   have hc:=(hb.nodes x (mem_of_get hx)).cols
   obtain⟨k,name,col,op,num,slot,cols,u⟩:=x
   simp only at hc
   simp only[L_1y,lt_nat hx,cond_true,ix_some hx,Option.bind_some,wrap_nat (show i<9223372036854775807 by omega),V_u hc,joinK_bif,joinK_go,J_3x]
   rw[apx_some (by simp[ha];omega),apx_some (by simp[ha];omega)]
   cases cols <;> simp)
  (fun a g=>by simp[L_1y])
 rw[e];simp)
theorem loop_flat {R T:Type}{f:(List T×Int→Option (Ex R (List T)))→List T×Int→Option (Ex R (List T))}(l:List (List T))(hl:l.length≤1073741824)
  (h1:∀(i:Nat) x (a:List T) (g:List T×Int→Option (Ex R (List T))),l[i]?=some x→a.length+x.length≤l.flatten.length→f g (a,(i:Int))=g (a++x,((i+1:Nat):Int)))
  (h2:∀a (g:List T×Int→Option (Ex R (List T))),f g (a,(l.length:Int))=some (.go a)) :
  loopF f ([],0)=some (.go l.flatten):=by
 have:=loop_fold (f:=f) (fun i a=>(a,(i:Int))) l (fun i a=>a.length+(l.drop i).flatten.length=l.flatten.length) (fun i x a=>a++x)
  (fun i x a g hx hi=>h1 i x a g hx (by
   have l1:=(List.getElem?_eq_some_iff.1 hx).1
   have:l.drop i=x::l.drop (i+1):=by rw[List.drop_eq_getElem_cons l1];congr 1;exact(List.getElem?_eq_some_iff.1 hx).2
   rw[this] at hi
   simp only[List.flatten_cons,List.length_append] at hi
   omega))
  (fun i x a hx hi=>by
   have l1:=(List.getElem?_eq_some_iff.1 hx).1
   have:l.drop i=x::l.drop (i+1):=by rw[List.drop_eq_getElem_cons l1];congr 1;exact(List.getElem?_eq_some_iff.1 hx).2
   rw[this] at hi
   simp only[List.flatten_cons,List.length_append] at hi ⊢
   omega) (fun a g _=>h2 a g) [] (by simp)
 rw[foldI_const (fun x a=>a++x)] at this
 rw[show((0:Nat):Int)=0 from rfl] at this
 rw[this]
 congr 2
 have:=foldl_flat (fun x:List T=>x) l []
 simpa[List.flatMap] using this
theorem V_j {l:List (List SNode)}(hl:l.length≤1000)(hb:BPlan l.flatten):F_1 l=some l.flatten:=(U_3n l).out (by
 have e:=loop_flat (f:=fun f s=>L_1z l f s.1 s.2) l (by omega)
  (fun i x a g hx ha=>by
   have l1:=(List.getElem?_eq_some_iff.1 hx).1
   have h1:=hb.len
   have hx':BPlan x:=⟨by omega,fun n hn=>hb.nodes n (List.mem_flatten.2 ⟨x,mem_of_get hx,hn⟩)⟩
   simp only[L_1z,lt_nat hx,cond_true,ix_some hx,Option.bind_some,wrap_nat (show i<9223372036854775807 by omega),V_c hx']
   rw[apx_some (by omega)];rfl)
  (fun a g=>by simp[L_1z])
 rw[e];simp)
theorem slx_nat {T:Type}{l:List T}{i j:Nat}(h1:i≤j)(h2:j≤l.length):slx l (i:Int) (j:Int)=some ((l.take j).drop i):=by
 unfold slx
 have:(decide (0≤(i:Int))&&decide ((i:Int)≤(j:Int))&&decide ((j:Int)≤(l.length:Int)))=true:=by simp;omega
 rw[this,List.drop_take]
 simp
end Go.Proofs.YtkbcahfajbdgnaaGreatDoorX
namespace Go.Proofs.YtkbcahfajbdgnaaGreatDoorX
open Go Go.Proofs.YtkbcahfajbdgnaaGreatDoorT PT
set_option linter.all false
def ovr (r:Int):Int×Int:=if r=0 then(1,1) else if r=1 then(1,5) else if r=2 then(6,6) else if r=3 then(5,5) else if r=4 then(1,4) else if r=5∨r=6 then(1,3) else if r=7 then(7,7) else if r=8 then(2,2) else if r=9 then(6,2) else if r=10 then(1,2) else if r=11 then(7,5) else(-1,-1)
theorem rules {r:Int}(h:okIn r 0 11=true):r=0∨r=1∨r=2∨r=3∨r=4∨r=5∨r=6∨r=7∨r=8∨r=9∨r=10∨r=11:=by
 have:=okIn_iff.1 h;omega
theorem ovr_out {r:Int}(h:okIn r 0 11=false):ovr r=(-1,-1):=by
 have h:¬(0≤r∧r≤11):=fun h'=>by rw[okIn_iff.2 h'] at h;cases h
 unfold ovr
 repeat' split
 all_goals first
  |rfl
  |omega
theorem V_1k {r:Int}(h:okIn r 0 11=true):F_1x r=some (ovr r):=(U_47 r).out (by
 rcases rules h with rfl|rfl|rfl|rfl|rfl|rfl|rfl|rfl|rfl|rfl|rfl|rfl <;> rfl)
def limN (n m:Nd):Nd:=(n.1,n.2.1,n.2.2.1,n.2.2.2.1,min n.2.2.2.2.1 m.2.2.2.2.1,n.2.2.2.2.2.1,n.2.2.2.2.2.2.1,())
def colN (n:Nd) (c:Int):Nd:=(n.1,n.2.1,c,n.2.2.2.1,n.2.2.2.2.1,n.2.2.2.2.2.1,n.2.2.2.2.2.2.1,())
def colsN (n:Nd) (cs:List Int):Nd:=(n.1,n.2.1,n.2.2.1,n.2.2.2.1,n.2.2.2.2.1,n.2.2.2.2.2.1,cs,())
def pick (l:List Int) (c:Int):Int:=(l[c.toNat]?).getD 0
def turnC (s:List Tb) (r:Int) (n:Nd):PT→Option PT
 |.n0 _=>none
 |.n1 m d=>if r=2 then(if n.2.2.2.2.2.1=true∨m.2.2.2.2.2.1=true then none else some (.n1 (limN n m) d))
  else if r=3 then(if n.2.2.1=m.2.2.1 then some (.n1 m d) else none)
  else if r=7 then some (.n1 m d)
  else if r=8 then some (.n1 (colsN m (n.2.2.2.2.2.2.1.map (pick m.2.2.2.2.2.2.1))) d)
  else if r=10 then some (.n1 m (.n1 (colN n (pick m.2.2.2.2.2.2.1 n.2.2.1)) d))
  else some (.n1 m (.n1 n d))
 |.n2 m d e=>if r=4 then some (.n2 m (.n1 n d) (.n1 n e))
  else if r=5 then(if n.2.2.1<oint (wT s d) then some (.n2 m (.n1 n d) e) else none)
  else if n.2.2.1<oint (wT s d) then none else some (.n2 m d (.n1 (colN n (n.2.2.1-oint (wT s d))) e))
def turn (s:List Tb) (r:Int):PT→Option PT
 |.n1 n c=>if n.1=(ovr r).1∧c.hd.1=(ovr r).2 then turnC s r n c else none
 |_=>none
theorem slx_pre {T:Type}{p l q:List T}{i:Nat}(h:p.drop i=l++q)(hi:i≤p.length):slx p (i:Int) ((i+l.length:Nat):Int)=some l:=by
 have h1:=congrArg List.length h
 simp only[List.length_drop,List.length_append] at h1
 unfold slx
 have:(decide (0≤(i:Int))&&decide ((i:Int)≤((i+l.length:Nat):Int))&&decide (((i+l.length:Nat):Int)≤(p.length:Int)))=true:=by simp;omega
 rw[this]
 simp only[cond_true,Int.toNat_natCast,h]
 rw[List.take_append_of_le_length (by omega),List.take_of_length_le (by omega)]
theorem kind_good {u:PT}(g:Good u):0≤arity u.hd.1:=nodeOk_arity g.hd
theorem nodeOk_limitF {n:Nd}(h:nodeOk n=true)(hk:n.1=6):n.2.1=ByteArray.empty∧n.2.2.1=0∧n.2.2.2.1=0∧n.2.2.2.2.2.2.1=[]:=by
 obtain⟨k,name,col,op,num,slot,cols,u⟩:=n
 simp only at hk
 subst hk
 simp[nodeOk] at h
 exact⟨h.1.1.1.1,h.2.1,h.1.1.2,h.1.1.1.2⟩
theorem nodeOk_keepF {n:Nd}(h:nodeOk n=true)(hk:n.1=2):n.2.1=ByteArray.empty∧n.2.2.1=0∧n.2.2.2.1=0∧n.2.2.2.2.1=0∧n.2.2.2.2.2.1=false:=by
 obtain⟨k,name,col,op,num,slot,cols,u⟩:=n
 simp only at hk
 subst hk
 simp[nodeOk] at h
 exact⟨h.1.1.1,h.2.1.1.2,h.1.1.2,h.2.1.2,h.2.2⟩
theorem nodeOk_filter {n:Nd}(h:nodeOk n=true)(hk:n.1=1):0≤n.2.2.1∧n.2.2.1≤63:=by
 obtain⟨k,name,col,op,num,slot,cols,u⟩:=n
 simp only at hk
 subst hk
 simp[nodeOk,okIn] at h
 simp only
 omega
theorem pick_some {l:List Int}{c:Int}(h0:0≤c)(h1:c<l.length):ix l c=some (pick l c):=by
 obtain⟨k,rfl⟩:∃k:Nat,c=k:=⟨c.toNat,by omega⟩
 rw[ix_nat]
 unfold pick
 simp only[Int.toNat_natCast]
 rw[List.getElem?_eq_getElem (by omega)];rfl
theorem ovr_one {r:Int}(h:okIn r 0 11=true)(h4:r≠4)(h5:r≠5)(h6:r≠6):arity (ovr r).2=1:=by
 rcases rules h with rfl|rfl|rfl|rfl|rfl|rfl|rfl|rfl|rfl|rfl|rfl|rfl <;> first
  |rfl
  |omega
theorem ovr_two {r:Int}(h:r=4∨r=5∨r=6):arity (ovr r).2=2:=by
 rcases h with rfl|rfl|rfl <;> rfl
theorem ovr_up {r:Int}(h:okIn r 0 11=true):arity (ovr r).1=1:=by
 rcases rules h with rfl|rfl|rfl|rfl|rfl|rfl|rfl|rfl|rfl|rfl|rfl|rfl <;> rfl
theorem shapes {n:Nd}{c:PT}(g:Good (.n1 n c)):(∃m,c=.n0 m∧arity m.1=0)∨(∃m d,c=.n1 m d∧arity m.1=1)∨(∃m d e,c=.n2 m d e∧arity m.1=2):=by
 cases c with
 |n0 m=>exact .inl ⟨m,rfl,g.c1.ok⟩
 |n1 m d=>exact .inr (.inl ⟨m,d,rfl,g.c1.ok.1⟩)
 |n2 m d e=>exact .inr (.inr ⟨m,d,e,rfl,g.c1.ok.1⟩)
theorem wT_keep {s:List Tb}{n:Nd}{c:PT}(h:(wT s (.n1 n c)).isSome=true)(hk:n.1=2):∀x∈n.2.2.2.2.2.2.1,x<oint (wT s c):=by
 simp only[wT] at h
 split at h
 ·cases h
 ·rename_i w hw
  rw[if_pos hk] at h
  split at h
  ·rename_i ha
   intro x hx
   rw[hw]
   simpa[oint] using List.all_eq_true.1 ha x hx
  ·cases h
theorem wT_col {s:List Tb}{n:Nd}{c:PT}(h:(wT s (.n1 n c)).isSome=true)(hk:n.1=1):n.2.2.1<oint (wT s c):=by
 simp only[wT] at h
 split at h
 ·cases h
 ·rename_i w hw
  rw[if_neg (by omega),if_pos (by omega)] at h
  split at h
  ·rename_i ha;rw[hw];exact ha
  ·cases h
theorem wT_keepw {s:List Tb}{m:Nd}{d:PT}(h:(wT s (.n1 m d)).isSome=true)(hk:m.1=2):oint (wT s (.n1 m d))=m.2.2.2.2.2.2.1.length:=by
 simp only[wT] at h ⊢
 split at h
 ·cases h
 ·rename_i w hw
  rw[if_pos hk] at h ⊢
  split at h
  ·rename_i ha;rw[if_pos ha];rfl
  ·cases h
end Go.Proofs.YtkbcahfajbdgnaaGreatDoorX
namespace Go.Proofs.YtkbcahfajbdgnaaGreatDoorX
open Go Go.Proofs.YtkbcahfajbdgnaaGreatDoorT PT
set_option linter.all false
theorem At.drop2 {p:List Nd}{k:Nat}{n m:Nd}{d e:PT}(h:At p k (.n1 n (.n2 m d e))):∃q,p.drop (k+2)=(d.flat++e.flat)++q:=by
 obtain⟨q,h⟩:=h
 refine⟨q,?_⟩
 have:=congrArg (·.drop 2) h
 simpa[List.drop_drop,flat] using this
theorem At.drop1 {p:List Nd}{k:Nat}{n m:Nd}{d:PT}(h:At p k (.n1 n (.n1 m d))):∃q,p.drop (k+2)=d.flat++q:=by
 obtain⟨q,h⟩:=h
 refine⟨q,?_⟩
 have:=congrArg (·.drop 2) h
 simpa[List.drop_drop,flat] using this
theorem nd_eta (n:Nd):((n.1,(n.2.1,(n.2.2.1,(n.2.2.2.1,(n.2.2.2.2.1,(n.2.2.2.2.2.1,(n.2.2.2.2.2.2.1,()))))))):Nd)=n:=rfl
theorem neg_kind {u:PT}(g:Good u):u.hd.1≠-1:=by
 intro h
 have:=kind_good g
 rw[h] at this
 revert this
 decide
theorem turn_none {s:List Tb}{r:Int}{u:PT}(h:∀n c,u=.n1 n c→¬(n.1=(ovr r).1∧c.hd.1=(ovr r).2)):turn s r u=none:=by
 cases u with
 |n0 n=>rfl
 |n2 n a b=>rfl
 |n1 n c=>simp only[turn,if_neg (h n c rfl)]
end Go.Proofs.YtkbcahfajbdgnaaGreatDoorX
namespace Go.Proofs.YtkbcahfajbdgnaaGreatDoorX
open Go Go.Proofs.YtkbcahfajbdgnaaGreatDoorT PT
set_option linter.all false
theorem bnode_ok {n:Nd}(h:nodeOk n=true):n.2.1.size≤12∧n.2.2.2.2.2.2.1.length≤6:=by
 obtain⟨k,name,col,op,num,slot,cols,u⟩:=n
 simp only[nodeOk,Bool.and_eq_true,Bool.or_eq_true,decide_eq_true_eq] at h
 obtain⟨⟨⟨⟨h1,h2⟩,_⟩,_⟩,h3⟩:=h
 have hn:name.size≤12:=by
  rcases h1 with h1|h1
  ·rw[if_pos h1] at h3
   simp only[Bool.and_eq_true] at h3
   exact(wordOk_len h3.1.1.1).2
  ·subst h1;simp
 refine⟨hn,?_⟩
 rcases h2 with h2|h2
 ·subst h2
  simp[okIn] at h3
  simp only
  omega
 ·subst h2;simp
theorem bnode_of {n:Nd}(h:nodeOk n=true):BNode n:=⟨by have:=(bnode_ok h).1;omega,by have:=(bnode_ok h).2;omega⟩
theorem Good.bn {t:PT}(g:Good t):∀n∈t.flat,BNode n:=fun n hn=>bnode_of (g.nodes n hn)
theorem joined {l:List (List Nd)}(h1:l.length≤1000)(h2:l.flatten.length≤1073741824)(h3:∀x∈l,∀n∈x,BNode n):F_1 l=some l.flatten:=
 V_j h1 ⟨h2,fun n hn=>by obtain⟨x,hx,hn⟩:=List.mem_flatten.1 hn;exact h3 x hx n hn⟩
theorem V_1j {s:List STable}(hs:schemaOk s=true){p:List SNode}(hp:Pl p)(hl:p.length≤40){n:Nd}{c:PT}{k:Nat}(h:At p k (.n1 n c)) (g:Good (.n1 n c)) (w:(wT s (.n1 n c)).isSome=true){r:Int}
  (hr:okIn r 0 11=true)(hm:n.1=(ovr r).1)(hm2:c.hd.1=(ovr r).2) :
  ∃l,F_u s p r (k:Int)=some (l,(turnC s r n c).isSome)∧∀u',turnC s r n c=some u'→l=u'.flat:=by
 have hx:p[k]?=some n:=h.hd
 have hle:=h.le
 have hw1:IntKind.i64.wrap ((k:Int)+1)=((k+1:Nat):Int):=wrap_nat (by omega)
 have hc:=h.c1.hd
 have hch:=h.c1.V_5 g.c1 hp
 have hixc:=ix_some hc
 have hixn:=ix_some hx
 have hbn:BNode n:=bnode_of g.hd
 rcases shapes g with⟨m,rfl,har⟩|⟨m,d,rfl,har⟩|⟨m,d,e,rfl,har⟩
 ·exfalso
  simp only[PT.hd] at hm2
  rw[hm2] at har
  rcases rules hr with rfl|rfl|rfl|rfl|rfl|rfl|rfl|rfl|rfl|rfl|rfl|rfl <;> cases har
 ·obtain⟨q,hq⟩:=h.drop1
  have hsl:=slx_pre hq (by simp only[PT.size] at hle;omega)
  rw[len_flat] at hsl
  have hend:=h.c1.c1.V_4 g.c1.c1 hp
  have hlen:d.flat.length≤40:=by simp only[len_flat,PT.size] at hle ⊢;omega
  have hbm:BNode m:=bnode_of g.c1.hd
  have hbd:=g.c1.c1.bn
  simp only[PT.hd] at hm2 hixc
  have hk2:kids (k+1) (.n1 m d)=[((k+2:Nat):Int)]:=rfl
  rw[hk2] at hch
  rw[show k+1+1=k+2 from rfl] at hend
  generalize ((k+2+d.size:Nat):Int)=i3 at *
  have hloop:loopF (fun f z=>L_j p [((k+2:Nat):Int)] f z.1 z.2) ([],0)=some (.go [d.flat]):=by
   refine loopF_of 2 (fun n hn=>?_)
   obtain⟨m,rfl⟩:∃m,n=m+2:=⟨n-2,by omega⟩
   generalize ((k+2:Nat):Int)=j2 at *
   simp only[loopK,L_j,ix0,hend,hsl,Option.bind_some]
   rw[apx_some (by simp)]
   simp
  have hcat:∀(x:Nd),BNode x→F_1 [[x],d.flat]=some (x::d.flat):=fun x hbx=>by
   rw[joined (by simp) (by simp;simp at hlen;omega) (by intro y hy n hn;simp at hy;rcases hy with rfl|rfl;(simp at hn;subst hn;exact hbx);exact hbd n hn)];simp
  have hcat3:∀(x y:Nd),BNode x→BNode y→F_1 [[x],[y],d.flat]=some (x::y::d.flat):=fun x y hbx hby=>by
   rw[joined (by simp) (by simp;simp at hlen;omega) (by intro z hz n hn;simp at hz;rcases hz with rfl|rfl|rfl;(simp at hn;subst hn;exact hbx);(simp at hn;subst hn;exact hby);exact hbd n hn)];simp
  generalize ((k+2:Nat):Int)=i2 at *
  generalize ((k+1:Nat):Int)=i1 at *
  have base:∀l b,J_k s p r n m [i2] [d.flat]=some (l,b)→F_u s p r (k:Int)=some (l,b):=by
   intro l b e
   refine(U_7 s p r k).out ?_
   simp only[hixn,hw1,hixc,hch,Option.bind_some,hloop,joinK_go]
   exact e
  rcases rules hr with rfl|rfl|rfl|rfl|rfl|rfl|rfl|rfl|rfl|rfl|rfl|rfl
  ·refine⟨m::n::d.flat,base _ _ ?_,fun u' hu'=>by cases hu';rfl⟩
   simp[ix0,nd_eta,hcat3,hbn,hbm,turnC]
  ·refine⟨m::n::d.flat,base _ _ ?_,fun u' hu'=>by cases hu';rfl⟩
   simp[ix0,nd_eta,hcat3,hbn,hbm,turnC]
  ·cases h1:n.2.2.2.2.2.1 with
   |true=>
    refine⟨[],base _ _ ?_,fun u' hu'=>by simp[turnC,h1] at hu'⟩
    simp[ix0,turnC,h1]
   |false=>cases h2:m.2.2.2.2.2.1 with
    |true=>
     refine⟨[],base _ _ ?_,fun u' hu'=>by simp[turnC,h2] at hu'⟩
     simp[ix0,turnC,h1,h2]
    |false=>
     refine⟨limN n m::d.flat,base _ _ ?_,fun u' hu'=>by simp[turnC,h1,h2] at hu';subst hu';rfl⟩
     obtain⟨a1,a2,a3,a4⟩:=nodeOk_limitF g.hd hm
     obtain⟨b1,b2,b3,b4⟩:=nodeOk_limitF g.c1.hd hm2
     simp only[PT.hd] at a1 a2 a3 a4 b1 b2 b3 b4
     have hk:n.1=6:=hm
     have hk2:m.1=6:=hm2
     have e:∀x:Int,x=min n.2.2.2.2.1 m.2.2.2.2.1→F_1 [[((6:Int),(ByteArray.empty,((0:Int),((0:Int),(x,(false,(([]:List Int),())))))))],d.flat]=some (limN n m::d.flat):=by
      intro x hx
      subst hx
      rw[hcat _ ⟨by simp,by simp⟩]
      simp only[limN,hk,a1,a2,a3,a4,h1]
     by_cases hlt:n.2.2.2.2.1<m.2.2.2.2.1
     ·simp[ix0,turnC,h1,h2,hlt,hk2,b1,b2,b3,b4,e n.2.2.2.2.1 (by omega)]
     ·simp[ix0,turnC,h1,h2,hlt,hk2,b1,b2,b3,b4,e m.2.2.2.2.1 (by omega)]
  ·refine⟨m::d.flat,base _ _ ?_,fun u' hu'=>by simp[turnC] at hu';obtain⟨_,rfl⟩:=hu';rfl⟩
   simp[ix0,nd_eta,hcat,hbm,turnC,beq_dec]
   by_cases hcc:n.2.2.1=m.2.2.1 <;> simp[hcc]
  ·have:=ovr_two (r:=4) (by simp);rw[←hm2] at this;omega
  ·have:=ovr_two (r:=5) (by simp);rw[←hm2] at this;omega
  ·have:=ovr_two (r:=6) (by simp);rw[←hm2] at this;omega
  ·refine⟨m::d.flat,base _ _ ?_,fun u' hu'=>by cases hu';rfl⟩
   simp[ix0,nd_eta,hcat,hbm,turnC]
  ·refine⟨colsN m (n.2.2.2.2.2.2.1.map (pick m.2.2.2.2.2.2.1))::d.flat,base _ _ ?_,fun u' hu'=>by cases hu';rfl⟩
   have hk:n.1=2:=hm
   have hk2:m.1=2:=hm2
   have hn:=nodeOk_keep g.hd hk
   have hty:=wT_keep w hk
   rw[wT_keepw (wT_c1 w) hk2] at hty
   have hn2:=hn.2.1
   simp only[PT.hd] at hn2 hn
   have e:=loop_map (f:=fun f z=>L_2e n m f z.1 z.2) n.2.2.2.2.2.2.1 (pick m.2.2.2.2.2.2.1) (by omega)
    (fun i x a g hx ha=>by
     have l1:=(List.getElem?_eq_some_iff.1 hx).1
     simp only[L_2e,lt_nat hx,cond_true,ix_some hx,Option.bind_some,pick_some (hn.2.2 x (mem_of_get hx)).1 (hty x (mem_of_get hx)),wrap_nat (show i<9223372036854775807 by omega)]
     rw[apx_some (by simp[ha];omega)];rfl)
    (fun a g=>by simp[L_2e])
   obtain⟨a1,a2,a3,a4,a5⟩:=nodeOk_keepF g.hd hm
   obtain⟨b1,b2,b3,b4,b5⟩:=nodeOk_keepF g.c1.hd hm2
   simp only[PT.hd] at a1 a2 a3 a4 a5 b1 b2 b3 b4 b5
   have e2:∀cs:List Int,cs.length≤6→F_1 [[((2:Int),(ByteArray.empty,((0:Int),((0:Int),((0:Int),(false,(cs,())))))))],d.flat]=some (colsN m cs::d.flat):=by
    intro cs hcs
    rw[hcat _ ⟨by simp,by simp only;omega⟩]
    simp only[colsN,hk2,b1,b2,b3,b4,b5]
   simp[ix0,turnC,e,hk,a1,a2,a3,a4,a5,e2,hn2]
  ·refine⟨m::n::d.flat,base _ _ ?_,fun u' hu'=>by cases hu';rfl⟩
   simp[ix0,nd_eta,hcat3,hbn,hbm,turnC]
  ·refine⟨m::colN n (pick m.2.2.2.2.2.2.1 n.2.2.1)::d.flat,base _ _ ?_,fun u' hu'=>by cases hu';rfl⟩
   have hk:n.1=1:=hm
   have hk2:m.1=2:=hm2
   have hty:=wT_col w hk
   rw[wT_keepw (wT_c1 w) hk2] at hty
   have hpk:=pick_some (nodeOk_filter g.hd hk).1 hty
   simp only[PT.hd] at hpk
   have e3:=hcat3 m (colN n (pick m.2.2.2.2.2.2.1 n.2.2.1)) hbm ⟨hbn.1,hbn.2⟩
   simp only[colN] at e3
   simp[ix0,nd_eta,turnC,hpk,colN,e3]
  ·refine⟨m::n::d.flat,base _ _ ?_,fun u' hu'=>by cases hu';rfl⟩
   simp[ix0,nd_eta,hcat3,hbn,hbm,turnC]
 ·obtain⟨q,hq⟩:=h.drop2
  have hsd:=slx_pre (show p.drop (k+2)=d.flat++(e.flat++q) by rw[hq];simp) (by simp only[PT.size] at hle;omega)
  have hq2:p.drop (k+2+d.size)=e.flat++q:=by rw[←List.drop_drop,hq,List.append_assoc];rw[←len_flat d];simp
  have hse:=slx_pre hq2 (by simp only[PT.size] at hle;omega)
  rw[len_flat] at hsd hse
  have hed:=h.c1.l2.V_4 g.c1.l2 hp
  have hee:=h.c1.r2.V_4 g.c1.r2 hp
  rw[show k+1+1=k+2 from rfl] at hed hee
  have hld:d.flat.length≤40:=by simp only[len_flat,PT.size] at hle ⊢;omega
  have hle':e.flat.length≤40:=by simp only[len_flat,PT.size] at hle ⊢;omega
  have hbm:BNode m:=bnode_of g.c1.hd
  have hbd:=g.c1.l2.bn
  have hbe:=g.c1.r2.bn
  simp only[PT.hd] at hm2 hixc
  have hk2:kids (k+1) (.n2 m d e)=[((k+2:Nat):Int),((k+2+d.size:Nat):Int)]:=rfl
  rw[hk2] at hch
  have hwd:=V_d hs hp d (k+2) (h.c1.l2) g.c1.l2
  generalize ((k+2+d.size+e.size:Nat):Int)=i3 at *
  generalize ((k+2+d.size:Nat):Int)=j2 at *
  generalize ((k+2:Nat):Int)=j1 at *
  have hloop:loopF (fun f z=>L_j p [j1,j2] f z.1 z.2) ([],0)=some (.go [d.flat,e.flat]):=by
   refine loopF_of 3 (fun n hn=>?_)
   obtain⟨m,rfl⟩:∃m,n=m+3:=⟨n-3,by omega⟩
   have w2:IntKind.i64.wrap (1+1)=2:=by rw[wrap_sml] <;> omega
   simp only[loopK,L_j,ix0,hed,hsd,Option.bind_some]
   rw[apx_some (by simp)]
   simp[ix1,hee,hse]
   rw[apx_some (by simp)]
   simp[w2]
  have hj:∀l:List (List Nd),l.length≤5→l.flatten.length≤100→(∀x∈l,∀n∈x,BNode n)→F_1 l=some l.flatten:=fun l h1 h2 h3=>joined (by omega) (by omega) h3
  have hcol:∀c,BNode (colN n c):=fun c=>⟨hbn.1,hbn.2⟩
  generalize ((k+1:Nat):Int)=i1 at *
  have base:∀l b,J_k s p r n m [j1,j2] [d.flat,e.flat]=some (l,b)→F_u s p r (k:Int)=some (l,b):=by
   intro l b e
   refine(U_7 s p r k).out ?_
   simp only[hixn,hw1,hixc,hch,Option.bind_some,hloop,joinK_go]
   exact e
  simp only[len_flat] at hld hle'
  rcases rules hr with rfl|rfl|rfl|rfl|rfl|rfl|rfl|rfl|rfl|rfl|rfl|rfl
  ·have:=ovr_one (r:=0) rfl (by simp) (by simp) (by simp);rw[←hm2] at this;omega
  ·have:=ovr_one (r:=1) rfl (by simp) (by simp) (by simp);rw[←hm2] at this;omega
  ·have:=ovr_one (r:=2) rfl (by simp) (by simp) (by simp);rw[←hm2] at this;omega
  ·have:=ovr_one (r:=3) rfl (by simp) (by simp) (by simp);rw[←hm2] at this;omega
  ·refine⟨m::n::(d.flat++n::e.flat),base _ _ ?_,fun u' hu'=>by cases hu';simp[flat]⟩
   have e1:=hj [[m],[n],d.flat,[n],e.flat] (by simp) (by simp;omega) (by
    intro x hx y hy
    simp only[List.mem_cons,List.not_mem_nil,or_false] at hx
    rcases hx with rfl|rfl|rfl|rfl|rfl
    ·simp at hy;subst hy;exact hbm
    ·simp at hy;subst hy;exact hbn
    ·exact hbd y hy
    ·simp at hy;subst hy;exact hbn
    ·exact hbe y hy)
   simp[ix0,ix1,nd_eta,turnC,e1]
  ·refine⟨m::n::(d.flat++e.flat),base _ _ ?_,fun u' hu'=>by simp[turnC] at hu';obtain⟨_,rfl⟩:=hu';simp[flat]⟩
   have e1:=hj [[m],[n],d.flat,e.flat] (by simp) (by simp;omega) (by
    intro x hx y hy
    simp only[List.mem_cons,List.not_mem_nil,or_false] at hx
    rcases hx with rfl|rfl|rfl|rfl
    ·simp at hy;subst hy;exact hbm
    ·simp at hy;subst hy;exact hbn
    ·exact hbd y hy
    ·exact hbe y hy)
   simp[ix0,ix1,nd_eta,turnC,e1,hwd]
   by_cases hcc:n.2.2.1<oint (wT s d) <;> simp[hcc]
  ·have hwr:-1≤oint (wT s d)∧oint (wT s d)≤64:=by
    cases hwt:wT s d with
    |none=>simp[oint]
    |some x=>have:=wT_range hs g.c1.l2 hwt;simp only[oint];omega
   have hn:=nodeOk_filter g.hd hm
   simp only[PT.hd] at hn
   have hwc:IntKind.i64.wrap (n.2.2.1-oint (wT s d))=n.2.2.1-oint (wT s d):=wrap_sml (by omega) (by omega)
   refine⟨m::(d.flat++colN n (n.2.2.1-oint (wT s d))::e.flat),base _ _ ?_,fun u' hu'=>by simp[turnC] at hu';obtain⟨_,rfl⟩:=hu';simp[flat]⟩
   have e1:=hj [[m],d.flat,[colN n (n.2.2.1-oint (wT s d))],e.flat] (by simp) (by simp;omega) (by
    intro x hx y hy
    simp only[List.mem_cons,List.not_mem_nil,or_false] at hx
    rcases hx with rfl|rfl|rfl|rfl
    ·simp at hy;subst hy;exact hbm
    ·exact hbd y hy
    ·simp at hy;subst hy;exact hcol _
    ·exact hbe y hy)
   simp only[colN] at e1
   simp[ix0,ix1,nd_eta,turnC,e1,hwd,hwc]
   by_cases hcc:n.2.2.1<oint (wT s d)
   ·simp[hcc,colN]
    try omega
   ·simp[hcc,colN]
    try omega
  ·have:=ovr_one (r:=7) rfl (by simp) (by simp) (by simp);rw[←hm2] at this;omega
  ·have:=ovr_one (r:=8) rfl (by simp) (by simp) (by simp);rw[←hm2] at this;omega
  ·have:=ovr_one (r:=9) rfl (by simp) (by simp) (by simp);rw[←hm2] at this;omega
  ·have:=ovr_one (r:=10) rfl (by simp) (by simp) (by simp);rw[←hm2] at this;omega
  ·have:=ovr_one (r:=11) rfl (by simp) (by simp) (by simp);rw[←hm2] at this;omega
end Go.Proofs.YtkbcahfajbdgnaaGreatDoorX
namespace Go.Proofs.YtkbcahfajbdgnaaGreatDoorX
open Go Go.Proofs.YtkbcahfajbdgnaaGreatDoorT PT
set_option linter.all false
def applyM (s:List Tb) (p:List Nd) (x:Sp):List Nd×Bool:=
 if 0≤x.2.1 then match planT p with
  |none=>(p,false)
  |some t=>match (subs t)[x.2.1.toNat]? with
   |none=>(p,false)
   |some u=>match turn s x.1 u with
    |none=>(p,false)
    |some u'=>if planOk (p.take x.2.1.toNat++(u'.flat++p.drop (x.2.1.toNat+u.size)))=true then(p.take x.2.1.toNat++(u'.flat++p.drop (x.2.1.toNat+u.size)),true) else(p,false)
 else(p,false)
theorem turn_bn {s:List Tb}{r:Int}{u u':PT}(g:Good u)(h:turn s r u=some u'):(∀n∈u'.flat,BNode n)∧u'.size≤u.size+1:=by
  cases u with
  |n0 n=>cases h
  |n2 n a b=>cases h
  |n1 n c=>
    simp only[turn] at h
    split at h
    · have hbn:BNode n:=bnode_of g.hd
      have hk:∀(f:Nd→Nd),True:=fun _=>trivial
      cases c with
      |n0 m=>cases h
      |n1 m d=>
        have hbm:BNode m:=bnode_of g.c1.hd
        have hbd:=g.c1.c1.bn
        simp only[turnC] at h
        repeat' split at h
        all_goals first
          |cases h;fail
          | (cases h
             refine⟨?_,by simp only[PT.size];omega⟩
             intro x hx
             simp only[flat,List.mem_cons] at hx
             rcases hx with rfl|rfl|hx <;> first
               |assumption
               |exact hbd x (by assumption)
               |exact⟨hbn.1,hbn.2⟩
               |exact⟨hbm.1,hbm.2⟩)
          | (cases h
             refine⟨?_,by simp only[PT.size];omega⟩
             intro x hx
             simp only[flat,List.mem_cons] at hx
             rcases hx with rfl|hx <;> first
               |assumption
               |exact hbd x (by assumption)
               |exact⟨hbn.1,hbn.2⟩
               |exact⟨hbm.1,by simp only[colsN,List.length_map];exact hbn.2⟩)
          |cases h
      |n2 m d e=>
        have hbm:BNode m:=bnode_of g.c1.hd
        have hbd:=g.c1.l2.bn
        have hbe:=g.c1.r2.bn
        simp only[turnC] at h
        repeat' split at h
        all_goals first
          | (cases h
             refine⟨?_,by simp only[PT.size];omega⟩
             intro x hx
             simp only[flat,List.mem_cons,List.mem_append] at hx
             rcases hx with rfl|(rfl|hx)|(rfl|hx) <;> first
               |assumption
               |exact hbd x (by assumption)
               |exact hbe x (by assumption))
          | (cases h
             refine⟨?_,by simp only[PT.size];omega⟩
             intro x hx
             simp only[flat,List.mem_cons,List.mem_append] at hx
             rcases hx with rfl|(rfl|hx)|hx <;> first
               |assumption
               |exact hbd x (by assumption)
               |exact hbe x (by assumption))
          | (cases h
             refine⟨?_,by simp only[PT.size];omega⟩
             intro x hx
             simp only[flat,List.mem_cons,List.mem_append] at hx
             rcases hx with rfl|hx|(rfl|hx) <;> first
               |assumption
               |exact hbd x (by assumption)
               |exact hbe x (by assumption)
               |exact⟨hbn.1,hbn.2⟩)
          |cases h
    · cases h
theorem PlanT.bplan {t:PT}(h:PlanT t):BPlan t.flat:=⟨h.pl.len,h.good.bn⟩
theorem slx0 {T:Type}{l:List T}{j:Nat}(h2:j≤l.length):slx l 0 (j:Int)=some (l.take j):=by
 have:=slx_nat (l:=l) (i:=0) (j:=j) (by omega) h2
 simpa using this
theorem slxE {T:Type}{l:List T}{i:Nat}(h:i≤l.length):slx l (i:Int) (l.length:Int)=some (l.drop i):=by
 have:=slx_nat (l:=l) (i:=i) (j:=l.length) h (by omega)
 simpa using this
theorem next_bplan {s:List Tb}{t u u':PT}{k:Nat}{r:Int}(ht:PlanT t) (g:Good u)(hu:turn s r u=some u')(h:At t.flat k u) :
  (t.flat.take k++(u'.flat++t.flat.drop (k+u.size))).length≤100∧∀n∈t.flat.take k++(u'.flat++t.flat.drop (k+u.size)),BNode n:=by
 obtain⟨h1,h2⟩:=turn_bn g hu
 have h3:=ht.size
 have h4:=h.le
 have h5:=ht.good.bn
 simp only[len_flat] at h4
 constructor
 ·simp only[List.length_append,List.length_take,List.length_drop,len_flat];omega
 ·intro n hn
  simp only[List.mem_append] at hn
  rcases hn with hn|hn|hn
  ·exact h5 n (List.mem_of_mem_take hn)
  ·exact h1 n hn
  ·exact h5 n (List.mem_of_mem_drop hn)
theorem V_18 {s:List STable}(hs:BSch s){p:List SNode}(hp:BPlan p) (x:SStep):F_n s p x=some (if typedOk s p=true then applyM s p x else(p,false)):=(U_2b s p x).out (by
 obtain⟨r,k,u0⟩:=x
 simp only[V_c hp,V_i hs hp,Option.bind_some]
 cases hty:typedOk s p with
 |false=>simp
 |true=>
  obtain⟨t,rfl,ht⟩:=typedOk_iff.1 hty
  have hsz:=ht.plan.size
  have hw:IntKind.i64.wrap ((t.flat.length:Int)-2)=(t.flat.length:Int)-2:=by simp only[len_flat];rw[wrap_sml] <;> omega
  simp only[V_0,Option.bind_some,hw,Bool.not_true,cond_false,if_true]
  cases hr:okIn r 0 11 with
  |false=>
   have:applyM s t.flat (r,k,u0)=(t.flat,false):=by
    unfold applyM
    simp only[planT_flat ht.plan]
    by_cases h0:0≤k
    ·rw[if_pos h0]
     cases hu:(subs t)[k.toNat]? with
     |none=>rfl
     |some u=>
      have g:=subs_good ht.plan.good (mem_of_get hu)
      have hn:=ovr_out hr
      have ht':turn s r u=none:=turn_none (by rintro n c rfl ⟨h1,_⟩;rw[hn] at h1;exact neg_kind g h1)
      simp only[ht']
    ·rw[if_neg h0]
   rw[this];simp
  |true=>
  cases hin:okIn k 0 ((t.flat.length:Int)-2) with
  |false=>
   have hn:¬(0≤k∧k≤(t.flat.length:Int)-2):=fun h'=>by rw[okIn_iff.2 h'] at hin;cases hin
   have:applyM s t.flat (r,k,u0)=(t.flat,false):=by
    unfold applyM
    simp only[planT_flat ht.plan]
    by_cases h0:0≤k
    ·rw[if_pos h0]
     cases hu:(subs t)[k.toNat]? with
     |none=>rfl
     |some u=>
      have hat:=subs_at (At.root t) hu
      have hle:=hat.le
      have ht':turn s r u=none:=by
       cases u with
       |n0 n=>rfl
       |n1 n c=>have:=c.size_pos;simp only[PT.size,len_flat] at hle hn;omega
       |n2 n a b=>rfl
      simp only[ht']
    ·rw[if_neg h0]
   rw[this];simp
  |true=>
   have hk:=okIn_iff.1 hin
   obtain⟨j,rfl⟩:∃j:Nat,k=j:=⟨k.toNat,by omega⟩
   have hj:j<(subs t).length:=by simp only[subs_len,len_flat] at hk ⊢;omega
   have hu:(subs t)[j]?=some (subs t)[j]:=List.getElem?_eq_getElem hj
   generalize (subs t)[j]=u at hu
   have hm:=mem_of_get hu
   have hat:=subs_at (At.root t) hu
   rw[Nat.zero_add] at hat
   have g:=subs_good ht.plan.good hm
   have w:=subs_w ht.w hm
   have ha:applyM s t.flat (r,(j:Int),u0)=(match turn s r u with
     |none=>(t.flat,false)
     |some u'=>if planOk (t.flat.take j++(u'.flat++t.flat.drop (j+u.size)))=true then(t.flat.take j++(u'.flat++t.flat.drop (j+u.size)),true) else(t.flat,false)):=by
    unfold applyM
    simp only[planT_flat ht.plan]
    rw[if_pos (by omega)]
    simp only[Int.toNat_natCast,hu]
    all_goals (cases turn s r u <;> rfl)
   rw[ha]
   have hx:=ix_some hat.hd
   have hle:=hat.le
   have hw1:IntKind.i64.wrap ((j:Int)+1)=((j+1:Nat):Int):=wrap_nat (by simp only[len_flat] at hk;omega)
   have hj1:t.flat[j+1]?=some t.flat[j+1]:=List.getElem?_eq_getElem (by simp only[len_flat] at hk ⊢;omega)
   have hx1:=ix_some hj1
   simp only[Bool.not_true,cond_false,joinK_go,J_2m,V_1k hr,Option.bind_some,hx,hw1,hx1,bne_dec]
   by_cases hm1:u.hd.1=(ovr r).1
   rotate_left
   ·have ht':turn s r u=none:=turn_none (by rintro n c rfl ⟨h1,_⟩;exact hm1 h1)
    simp[hm1,ht']
   have ha:=ovr_up hr
   rw[←hm1] at ha
   match u,hu,hm,hat,g,w,hx,hle,hm1,ha with
   |.n0 n,_,_,_,g,_,_,_,_,ha=>have:=g.ok;simp only[PT.ok,PT.hd] at this ha;omega
   |.n2 n a b,_,_,_,g,_,_,_,_,ha=>have:=g.ok.1;simp only[PT.hd] at this ha;omega
   |.n1 n c,hu,hm,hat,g,w,hx,hle,hm1,ha=>
   have hc:=hat.c1.hd
   rw[hj1] at hc
   have hc:=Option.some.inj hc
   rw[hc]
   by_cases hm2:c.hd.1=(ovr r).2
   rotate_left
   ·have ht':turn s r (.n1 n c)=none:=turn_none (by rintro n' c' e ⟨_,h1⟩;cases e;exact hm2 h1)
    simp[hm1,hm2,ht']
   have ht':turn s r (.n1 n c)=turnC s r n c:=by
    simp only[turn]
    exact if_pos ⟨hm1,hm2⟩
   obtain⟨l,e1,e2⟩:=V_1j ht.sch ht.plan.pl (by simp;omega) hat g w hr hm1 hm2
   have hend:=hat.V_4 g ht.plan.pl
   simp only[hm1,hm2,decide_true,Bool.not_true,cond_false,joinK_go,J_2n,e1,Option.bind_some]
   cases hu':turnC s r n c with
   |none=>simp[ht',hu']
   |some u'=>
    have hl:=e2 u' hu'
    subst hl
    rw[hu'] at ht'
    obtain⟨b1,b2⟩:=next_bplan ht.plan g ht' hat
    have hcat:F_1 [t.flat.take j,u'.flat,t.flat.drop (j+(PT.n1 n c).size)]=some (t.flat.take j++(u'.flat++t.flat.drop (j+(PT.n1 n c).size))):=by
     have hf:[t.flat.take j,u'.flat,t.flat.drop (j+(PT.n1 n c).size)].flatten=t.flat.take j++(u'.flat++t.flat.drop (j+(PT.n1 n c).size)):=by simp
     rw[V_j (by simp) (by rw[hf];exact⟨by omega,b2⟩),hf]
    simp only[Option.isSome_some,Bool.not_true,cond_false,slx0 (show j≤t.flat.length by omega),hend,slxE hle,Option.bind_some,hcat,V_a ⟨by omega,b2⟩,ht']
    cases planOk (t.flat.take j++(u'.flat++t.flat.drop (j+(PT.n1 n c).size))) <;> simp)
end Go.Proofs.YtkbcahfajbdgnaaGreatDoorX
namespace Go.Proofs.YtkbcahfajbdgnaaGreatDoorX
open Go Go.Proofs.YtkbcahfajbdgnaaGreatDoorT PT
set_option linter.all false
def put:PT→Nat→PT→PT
 |_,0,v=>v
 |.n0 n,_+1,_=>.n0 n
 |.n1 n a,k+1,v=>.n1 n (put a k v)
 |.n2 n a b,k+1,v=>if k<a.size then .n2 n (put a k v) b else .n2 n a (put b (k-a.size) v)
theorem put_flat:∀{t:PT}{k:Nat}{u v:PT},(subs t)[k]?=some u→(put t k v).flat=t.flat.take k++(v.flat++t.flat.drop (k+u.size))
 |.n0 n,0,u,v,h=>by simp[subs] at h;subst h;simp[put,PT.size,flat]
 |.n1 n a,0,u,v,h=>by simp[subs] at h;subst h;simp[put,PT.size,flat]
 |.n2 n a b,0,u,v,h=>by
  simp[subs] at h;subst h
  simp only[put,PT.size,flat,List.take_zero,List.nil_append]
  rw[List.drop_eq_nil_of_le (by simp)];simp
 |.n0 n,k+1,u,v,h=>by simp[subs] at h
 |.n1 n a,k+1,u,v,h=>by
  have h':(subs a)[k]?=some u:=by simpa[subs] using h
  simp only[put,flat,put_flat h',List.take_succ_cons,List.cons_append]
  rw[show k+1+u.size=(k+u.size)+1 by omega,List.drop_succ_cons]
 |.n2 n a b,k+1,u,v,h=>by
  have h':(subs a++subs b)[k]?=some u:=by simpa[subs] using h
  simp only[put]
  by_cases hk:k<a.size
  ·rw[if_pos hk]
   rw[List.getElem?_append_left (by simpa using hk)] at h'
   have hle:=(subs_at (At.root a) h').le
   simp only[len_flat,Nat.zero_add] at hle
   simp only[flat,put_flat h',List.take_succ_cons,List.cons_append]
   rw[show k+1+u.size=(k+u.size)+1 by omega,List.drop_succ_cons,List.take_append_of_le_length (by simp;omega),List.drop_append_of_le_length (by simp;omega)]
   simp
  ·rw[if_neg hk]
   rw[List.getElem?_append_right (by simp;omega),subs_len] at h'
   simp only[flat,put_flat h',List.take_succ_cons,List.cons_append]
   rw[show k+1+u.size=(k+u.size)+1 by omega,List.drop_succ_cons,List.take_append,List.drop_append]
   simp only[len_flat]
   rw[List.take_of_length_le (l:=a.flat) (by simp;omega),List.drop_eq_nil_of_le (show a.flat.length≤k+u.size by simp;omega)]
   rw[show k+u.size-a.size=k-a.size+u.size by omega]
   simp
theorem put_ok:∀{t:PT}{k:Nat}{v:PT},t.ok→v.ok→(put t k v).ok
 |_,0,v,_,hv=>by simpa[put] using hv
 |.n0 n,k+1,v,h,hv=>by simpa[put] using h
 |.n1 n a,k+1,v,h,hv=>⟨h.1,put_ok h.2 hv⟩
 |.n2 n a b,k+1,v,h,hv=>by
  simp only[put]
  split
  ·exact⟨h.1,put_ok h.2.1 hv,h.2.2⟩
  ·exact⟨h.1,h.2.1,put_ok h.2.2 hv⟩
theorem put_w {s:List Tb}:∀{t:PT}{k:Nat}{u v:PT},(subs t)[k]?=some u→wT s v=wT s u→wT s (put t k v)=wT s t
 |.n0 n,0,u,v,h,hw=>by simp[subs] at h;subst h;simpa[put] using hw
 |.n1 n a,0,u,v,h,hw=>by simp[subs] at h;subst h;simpa[put] using hw
 |.n2 n a b,0,u,v,h,hw=>by simp[subs] at h;subst h;simpa[put] using hw
 |.n0 n,k+1,u,v,h,_=>by simp[subs] at h
 |.n1 n a,k+1,u,v,h,hw=>by
  have h':(subs a)[k]?=some u:=by simpa[subs] using h
  simp only[put,wT,put_w h' hw]
 |.n2 n a b,k+1,u,v,h,hw=>by
  have h':(subs a++subs b)[k]?=some u:=by simpa[subs] using h
  simp only[put]
  by_cases hk:k<a.size
  ·rw[if_pos hk]
   rw[List.getElem?_append_left (by simpa using hk)] at h'
   simp only[wT,put_w h' hw]
  ·rw[if_neg hk]
   rw[List.getElem?_append_right (by simp;omega),subs_len] at h'
   simp only[wT,put_w h' hw]
theorem pick_lt {l:List Int}{w:Int}(h:l.all (fun c=>decide (c<w))=true){c:Int}(h0:0≤c)(h1:c<l.length):pick l c<w:=by
 have:=pick_some h0 h1
 obtain⟨k,rfl⟩:∃k:Nat,c=k:=⟨c.toNat,by omega⟩
 rw[ix_nat] at this
 simpa using List.all_eq_true.1 h _ (mem_of_get this)
theorem turn_w {s:List Tb}{r:Int}{u u':PT}(g:Good u) (w:(wT s u).isSome=true)(h:turn s r u=some u'):u'.ok∧wT s u'=wT s u:=by
 cases u with
 |n0 n=>cases h
 |n2 n a b=>cases h
 |n1 n c=>
  simp only[turn] at h
  split at h
  rotate_left
  ·cases h
  rename_i hk
  obtain⟨hm,hm2⟩:=hk
  have hr:okIn r 0 11=true:=by
   cases hr:okIn r 0 11 with
   |true=>rfl
   |false=>rw[ovr_out hr] at hm;exact absurd hm (neg_kind g)
  have hg:=g.ok
  rcases shapes g with⟨m,rfl,har⟩|⟨m,d,rfl,har⟩|⟨m,d,e,rfl,har⟩
  ·cases h
  ·have hd:=g.c1.ok.2
   simp only[PT.hd] at hm2
   have hgn:=g.ok.1
   have hgm:=g.c1.ok.1
   cases hwd:wT s d with
   |none=>simp only[wT,hwd] at w;cases w
   |some x=>
   rcases rules hr with rfl|rfl|rfl|rfl|rfl|rfl|rfl|rfl|rfl|rfl|rfl|rfl
   ·have hk:n.1=1:=hm
    have hk2:m.1=1:=hm2
    cases h
    refine⟨⟨hgm,hgn,hd⟩,?_⟩
    by_cases h1:n.2.2.1<x <;> by_cases h2:m.2.2.1<x <;> simp[wT,hwd,hk,hk2,h1,h2]
   ·have hk:n.1=1:=hm
    have hk2:m.1=5:=hm2
    cases h
    refine⟨⟨hgm,hgn,hd⟩,?_⟩
    by_cases h1:n.2.2.1<x <;> by_cases h2:m.2.2.1<x <;> simp[wT,hwd,hk,hk2,h1,h2]
   ·have hk:n.1=6:=hm
    have hk2:m.1=6:=hm2
    simp[turnC] at h
    obtain⟨_,rfl⟩:=h
    exact⟨⟨hgn,hd⟩,by simp[wT,hwd,hk,hk2,limN]⟩
   ·have hk:n.1=5:=hm
    have hk2:m.1=5:=hm2
    simp[turnC] at h
    obtain⟨hc,rfl⟩:=h
    refine⟨⟨hgm,hd⟩,?_⟩
    by_cases h2:m.2.2.1<x <;> simp[wT,hwd,hk,hk2,h2,hc]
   ·have:=ovr_two (r:=4) (by simp);rw[←hm2] at this;omega
   ·have:=ovr_two (r:=5) (by simp);rw[←hm2] at this;omega
   ·have:=ovr_two (r:=6) (by simp);rw[←hm2] at this;omega
   ·have hk:n.1=7:=hm
    have hk2:m.1=7:=hm2
    simp[turnC] at h
    subst h
    exact⟨⟨hgm,hd⟩,by simp[wT,hwd,hk,hk2]⟩
   ·have hk:n.1=2:=hm
    have hk2:m.1=2:=hm2
    simp[turnC] at h
    subst h
    refine⟨⟨hgm,hd⟩,?_⟩
    have hn:=nodeOk_keep g.hd hk
    simp only[PT.hd] at hn
    simp only[wT,hwd,hk,hk2,if_true,colsN] at w ⊢
    by_cases ha:m.2.2.2.2.2.2.1.all (fun c=>decide (c<x))=true
    ·rw[if_pos ha] at w ⊢
     simp only at w ⊢
     by_cases hb:n.2.2.2.2.2.2.1.all (fun c=>decide (c<(m.2.2.2.2.2.2.1.length:Int)))=true
     ·rw[if_pos hb]
      have:(n.2.2.2.2.2.2.1.map (pick m.2.2.2.2.2.2.1)).all (fun c=>decide (c<x))=true:=by
       simp only[List.all_map,List.all_eq_true,Function.comp,decide_eq_true_eq]
       intro c hc
       exact pick_lt ha (hn.2.2 c hc).1 (by simpa using List.all_eq_true.1 hb c hc)
      rw[if_pos this];simp
     ·rw[if_neg hb] at w;cases w
    ·rw[if_neg ha] at w;cases w
   ·have hk:n.1=6:=hm
    have hk2:m.1=2:=hm2
    cases h
    exact⟨⟨hgm,hgn,hd⟩,by simp[wT,hwd,hk,hk2];split <;> simp_all⟩
   ·have hk:n.1=1:=hm
    have hk2:m.1=2:=hm2
    cases h
    refine⟨⟨hgm,by simpa[colN] using hgn,hd⟩,?_⟩
    have hn:=nodeOk_filter g.hd hk
    simp only[PT.hd] at hn
    simp only[wT,hwd,hk,hk2,if_true,colN] at w ⊢
    by_cases ha:m.2.2.2.2.2.2.1.all (fun c=>decide (c<x))=true
    ·rw[if_pos ha] at w ⊢
     by_cases hb:n.2.2.1<(m.2.2.2.2.2.2.1.length:Int)
     ·have:=pick_lt ha hn.1 hb
      simp[hb,this,ha]
     ·simp[hb] at w
    ·rw[if_neg ha] at w;cases w
   ·have hk:n.1=7:=hm
    have hk2:m.1=5:=hm2
    cases h
    exact⟨⟨hgm,hgn,hd⟩,by by_cases h2:m.2.2.1<x <;> simp[wT,hwd,hk,hk2,h2]⟩
  ·have hd:=g.c1.ok.2.1
   have he:=g.c1.ok.2.2
   simp only[PT.hd] at hm2
   have hgn:=g.ok.1
   have hgm:=g.c1.ok.1
   cases hwd:wT s d with
   |none=>simp only[wT,hwd] at w;cases w
   |some x=>
   cases hwe:wT s e with
   |none=>simp only[wT,hwd,hwe] at w;cases w
   |some y=>
   rcases rules hr with rfl|rfl|rfl|rfl|rfl|rfl|rfl|rfl|rfl|rfl|rfl|rfl
   ·have:=ovr_one (r:=0) rfl (by simp) (by simp) (by simp);rw[←hm2] at this;omega
   ·have:=ovr_one (r:=1) rfl (by simp) (by simp) (by simp);rw[←hm2] at this;omega
   ·have:=ovr_one (r:=2) rfl (by simp) (by simp) (by simp);rw[←hm2] at this;omega
   ·have:=ovr_one (r:=3) rfl (by simp) (by simp) (by simp);rw[←hm2] at this;omega
   ·have hk:n.1=1:=hm
    have hk2:m.1=4:=hm2
    cases h
    refine⟨⟨hgm,⟨hgn,hd⟩,hgn,he⟩,?_⟩
    by_cases h1:x=y
    ·subst h1
     by_cases h2:n.2.2.1<x <;> simp[wT,hwd,hwe,hk,hk2,h2]
    ·simp[wT,hwd,hwe,hk,hk2,h1] at w
   ·have hk:n.1=1:=hm
    have hk2:m.1=3:=hm2
    simp[turnC,hwd,oint] at h
    obtain⟨hc,rfl⟩:=h
    refine⟨⟨hgm,⟨hgn,hd⟩,he⟩,?_⟩
    by_cases h1:m.2.2.1<x∧m.2.2.2.2.1<y∧x+y≤64
    ·by_cases h2:n.2.2.1<x+y
     ·simp[wT,hwd,hwe,hk,hk2,h1,h2,hc]
     ·simp[wT,hwd,hwe,hk,hk2,h1,h2] at w
    ·simp[wT,hwd,hwe,hk,hk2,h1] at w
   ·have hk:n.1=1:=hm
    have hk2:m.1=3:=hm2
    simp[turnC,hwd,oint] at h
    obtain⟨hc,rfl⟩:=h
    refine⟨⟨hgm,hd,by simpa[colN] using hgn,he⟩,?_⟩
    by_cases h1:m.2.2.1<x∧m.2.2.2.2.1<y∧x+y≤64
    ·by_cases h2:n.2.2.1<x+y
     ·have h3:n.2.2.1-x<y:=by omega
      simp[wT,hwd,hwe,hk,hk2,h1,h2,h3,colN]
     ·simp[wT,hwd,hwe,hk,hk2,h1,h2] at w
    ·simp[wT,hwd,hwe,hk,hk2,h1] at w
   ·have:=ovr_one (r:=7) rfl (by simp) (by simp) (by simp);rw[←hm2] at this;omega
   ·have:=ovr_one (r:=8) rfl (by simp) (by simp) (by simp);rw[←hm2] at this;omega
   ·have:=ovr_one (r:=9) rfl (by simp) (by simp) (by simp);rw[←hm2] at this;omega
   ·have:=ovr_one (r:=10) rfl (by simp) (by simp) (by simp);rw[←hm2] at this;omega
   ·have:=ovr_one (r:=11) rfl (by simp) (by simp) (by simp);rw[←hm2] at this;omega
theorem applyM_tree {s:List Tb}{t:PT}(ht:Typed s t){x:Sp}{q:List Nd}(h:applyM s t.flat x=(q,true)) :
  ∃(k:Nat) (u u':PT),x.2.1=k∧(subs t)[k]?=some u∧turn s x.1 u=some u'∧q=(put t k u').flat∧PlanT (put t k u')∧Typed s (put t k u')∧wT s (put t k u')=wT s t:=by
 unfold applyM at h
 split at h
 rotate_left
 ·cases h
 rename_i h0
 simp only[planT_flat ht.plan] at h
 split at h
 ·cases h
 rename_i u hu
 split at h
 ·cases h
 rename_i u' hu'
 split at h
 rotate_left
 ·cases h
 rename_i hpk
 cases h
 have hm:=mem_of_get hu
 have g:=subs_good ht.plan.good hm
 have w:=subs_w ht.w hm
 obtain⟨hok,hw⟩:=turn_w g w hu'
 obtain⟨t',ht',e⟩:=planOk_iff.1 hpk
 have hpf:=put_flat (v:=u') hu
 rw[←hpf] at e
 have hput:=put_ok (k:=x.2.1.toNat) ht.plan.ok hok
 have:=(flat_inj (q:=[]) (r:=[]) hput ht'.ok (by simpa using e)).1
 have hwp:=put_w hu hw
 refine⟨x.2.1.toNat,u,u',by omega,hu,hu',hpf.symm,this▸ht',⟨this▸ht',ht.sch,?_⟩,hwp⟩
 rw[hwp];exact ht.w
theorem applyM_typed {s:List Tb}{p:List Nd}(hp:typedOk s p=true){x:Sp}{q:List Nd}(h:applyM s p x=(q,true)):typedOk s q=true∧widthOf s q=widthOf s p:=by
 obtain⟨t,rfl,ht⟩:=typedOk_iff.1 hp
 obtain⟨k,u,u',_,_,_,rfl,h1,h2,h3⟩:=applyM_tree ht h
 refine⟨typedOk_iff.2 ⟨_,rfl,h2⟩,?_⟩
 unfold widthOf
 rw[if_pos ht.sch,if_pos ht.sch,planT_flat h1,planT_flat ht.plan]
 exact h3
end Go.Proofs.YtkbcahfajbdgnaaGreatDoorX
namespace Go.Proofs.YtkbcahfajbdgnaaGreatDoorX
open Go Go.Proofs.YtkbcahfajbdgnaaGreatDoorT PT
set_option linter.all false
theorem foldl_filter {T U:Type}(c:T→Bool) (m:T→U):∀(l:List T) (a:List U),l.foldl (fun a x=>if c x=true then a++[m x] else a) a=a++(l.filter c).map m
 |[],a=>by simp
 |x::l,a=>by
  simp only[List.foldl_cons,foldl_filter c m l]
  cases h:c x <;> simp[h]
theorem range_of {n i x:Nat}(h:(List.range n)[i]?=some x):x=i∧i<n:=by
 have h1:=(List.getElem?_eq_some_iff.1 h)
 simp at h1
 omega
def stepsRow (s:List Tb) (p:List Nd) (k:Nat):List Sp:=((List.range 12).filter (fun r:Nat=>(applyM s p ((r:Int),(k:Int),())).2)).map (fun r:Nat=>(((r:Int),(k:Int),()):Sp))
def stepsM (s:List Tb) (p:List Nd):List Sp:=if typedOk s p=true then(List.range p.length).flatMap (stepsRow s p) else[]
theorem stepsRow_len {s:List Tb}{p:List Nd}{k:Nat}:(stepsRow s p k).length≤12:=by
 unfold stepsRow
 rw[List.length_map]
 have:=List.length_filter_le (fun r:Nat=>(applyM s p ((r:Int),(k:Int),())).2) (List.range 12)
 simpa using this
theorem steps_loop {s:List Tb}{p:List Nd}{A:List Nd→Sp→Option (List Nd×Bool)}{R0 R1:Type}
  (hA:∀x,A p x=some (applyM s p x)) (k:Nat) (v:List Sp)(hv:v.length≤10000)
  {L:(List Sp×Int→Option (Ex (Ex (List Sp) (List Sp)) (List Sp)))→List Sp×Int→Option (Ex (Ex (List Sp) (List Sp)) (List Sp))}
  (hL:∀f v i,L f (v,i)=bif decide (i<12) then joinK ((A p (i,((k:Int),()))).bind (fun y=>bif y.2 then(apx v [(i,((k:Int),()))]).bind (fun z=>some (.go z)) else some (.go v))) (fun z=>f (z,IntKind.i64.wrap (i+1))) else some (.go v)) :
  loopF L (v,0)=some (.go (v++stepsRow s p k)):=by
 have e:=loop_fold (f:=L) (fun i (a:List Sp)=>(a,(i:Int))) (List.range 12) (fun i a=>a.length≤v.length+i)
  (fun i r a=>if (applyM s p ((r:Int),(k:Int),())).2=true then a++[((r:Int),(k:Int),())] else a)
  (fun i r a g hr ha=>by
   obtain⟨rfl,hi⟩:=range_of hr
   have d:decide ((r:Int)<12)=true:=by simp;omega
   simp only[hL,d,cond_true,hA,Option.bind_some,wrap_nat (show r<9223372036854775807 by omega)]
   cases hb:(applyM s p ((r:Int),(k:Int),())).2 with
   |false=>simp
   |true=>rw[apx_some (by simp;omega)];simp)
  (fun i r a hr ha=>by split <;> (try simp only[List.length_append,List.length_cons,List.length_nil]) <;> omega)
  (fun a g _=>by
   have:decide (((List.range 12).length:Int)<12)=false:=by simp
   simp only[hL,this,cond_false]) v (by omega)
 rw[foldI_const (fun (r:Nat) (a:List Sp)=>if (applyM s p ((r:Int),(k:Int),())).2=true then a++[((r:Int),(k:Int),())] else a),foldl_filter (fun r:Nat=>(applyM s p ((r:Int),(k:Int),())).2) (fun r:Nat=>(((r:Int),(k:Int),()):Sp))] at e
 exact e
theorem V_32 {s:List STable}(hs:BSch s){p:List SNode}(hp:BPlan p):F_3o s p=some (stepsM s p):=(U_30 s p).out (by
 simp only[V_i hs hp,Option.bind_some,stepsM]
 cases hty:typedOk s p with
 |false=>simp
 |true=>
  obtain⟨t,rfl,ht⟩:=typedOk_iff.1 hty
  have hsz:=ht.plan.size
  have hA:∀x:Sp,F_n s t.flat x=some (applyM s t.flat x):=fun x=>by rw[V_18 hs hp x,if_pos hty]
  have e:=loop_fold (f:=fun f z=>L_1n s t.flat f z.1 z.2) (fun i (a:List Sp)=>(a,(i:Int))) (List.range t.flat.length) (fun i a=>a.length≤12*i)
   (fun i k a=>a++stepsRow s t.flat k)
   (fun i k a g hk ha=>by
    obtain⟨rfl,hi⟩:=range_of hk
    have d:decide ((k:Int)<(t.flat.length:Int))=true:=by simp only[decide_eq_true_eq];omega
    simp only[L_1n,d,cond_true]
    rw[steps_loop (A:=F_n s) (R0:=Unit) (R1:=Unit) hA k a (by simp only[len_flat] at hi;omega) (fun f v i=>rfl)]
    simp only[joinK_go,J_3f,wrap_nat (show k<9223372036854775807 by simp only[len_flat] at hi;omega)])
   (fun i k a hk ha=>by
    have:=stepsRow_len (s:=s) (p:=t.flat) (k:=k)
    simp only[List.length_append];omega)
   (fun a g _=>by simp[L_1n]) [] (by simp)
  rw[foldI_const (fun (k:Nat) (a:List Sp)=>a++stepsRow s t.flat k),foldl_flat (stepsRow s t.flat)] at e
  rw[show((0:Nat):Int)=0 from rfl] at e
  rw[e];simp)
theorem typed_bplan {s:List Tb}{p:List Nd}(h:typedOk s p=true):BPlan p:=by
 obtain⟨t,rfl,ht⟩:=typedOk_iff.1 h
 exact ht.plan.bplan
end Go.Proofs.YtkbcahfajbdgnaaGreatDoorX
namespace Go.Proofs.YtkbcahfajbdgnaaGreatDoorX
open Go Go.Proofs.YtkbcahfajbdgnaaGreatDoorT PT
set_option linter.all false
theorem V_35 {l:List Int}(hl:l.length≤2147483648) (x:Int):F_3r l x=some (l.any fun y=>decide (y=x)):=(U_3a l x).out (by
 have e:=loop_brk (f:=fun f s=>L_1v l x f s.1 s.2) l (fun _ y=>if y=x then some true else none)
  (fun i y v g hx=>by
   have l1:=(List.getElem?_eq_some_iff.1 hx).1
   simp only[L_1v,lt_nat hx,cond_true,ix_some hx,Option.bind_some,wrap_nat (show i<9223372036854775807 by omega)]
   by_cases h:y=x <;> simp[h,beq_dec])
  (fun v g=>by simp[L_1v]) false
 rw[e]
 have key:∀(l:List Int) (i:Nat),brkI (fun _ y=>if y=x then some true else none) l i=if l.any (fun y=>decide (y=x))=true then some true else none:=by
  intro l
  induction l with
  |nil=>intro i;rfl
  |cons y l ih=>
   intro i
   simp only[brkI,List.any_cons]
   by_cases h:y=x <;> simp[h,ih]
 rw[key]
 cases l.any (fun y=>decide (y=x)) <;> simp)
def hasR (rules:List Int) (x:Sp):Bool:=rules.any fun y=>decide (y=x.1)
end Go.Proofs.YtkbcahfajbdgnaaGreatDoorX
namespace Go.Proofs.YtkbcahfajbdgnaaGreatDoorX
open Go Go.Proofs.YtkbcahfajbdgnaaGreatDoorT PT
set_option linter.all false
def hasSlot (p:List Nd):Bool:=p.any fun n=>n.2.2.2.2.2.1
def closed (p:List Nd):Bool:=planOk p&&!hasSlot p
def isLit (n:Nd):Bool:=(decide (n.1=1)&&!decide (n.2.2.2.1=3))||decide (n.1=6)
def liftN (n:Nd) (i:Int):Nd:=(n.1,n.2.1,n.2.2.1,n.2.2.2.1,i,true,n.2.2.2.2.2.2.1,())
def liftL:List Nd→Nat→List Nd
 |[],_=>[]
 |n::l,i=>if isLit n=true then liftN n i::liftL l (i+1) else n::liftL l i
def lits (p:List Nd):List Int:=(p.filter isLit).map fun n=>n.2.2.2.2.1
def lift (p:List Nd):List Nd×List Int×Bool:=if closed p=true then(liftL p 0,lits p,true) else([],[],false)
@[simp] theorem V_3f (n:SNode):F_43 n=some (isLit n):=(U_41 n).out (by
 simp only[isLit,beq_dec,bne_dec]
 by_cases h1:n.1=1 <;> by_cases h2:n.2.2.2.1=3 <;> simp[h1,h2])
theorem V_2j {l:List SNode}(hb:l.length≤1073741824):F_31 l=some (fint (findI (fun n=>n.2.2.2.2.2.1) l 0)):=(U_1z l).out (by
 have e:=loop_find (f:=fun f s=>L_17 l f s.1 s.2) l (fun n=>n.2.2.2.2.2.1) (fun i=>(i:Int))
  (fun i x v g hx=>by
   have l1:=(List.getElem?_eq_some_iff.1 hx).1
   have h1:F_2h x=some x.2.2.2.2.2.1:=(U_17 x).out rfl
   simp only[L_17,lt_nat hx,cond_true,ix_some hx,Option.bind_some,h1,wrap_nat (show i<9223372036854775807 by omega)])
  (fun v g=>by simp[L_17]) 0
 rw[e]
 cases findI (fun n:SNode=>n.2.2.2.2.2.1) l 0 <;> simp[fint])
theorem V_23 {l:List SNode}(hb:l.length≤1073741824):F_2g l=some (hasSlot l):=(U_16 l).out (by
 have:F_2u l=some (hasSlot l):=(U_1r l).out (by
  simp only[V_2j hb,Option.bind_some,fint_ge,hasSlot])
 simp[this])
def slotAt (p:List Nd) (x:Int):Bool:=p.any fun n=>n.2.2.2.2.2.1&&decide (n.2.2.2.2.1=x)
def slots (p:List Nd):List Int:=if planOk p=true then((List.range 40).filter (fun x:Nat=>slotAt p x)).map (fun x:Nat=>(x:Int)) else[]
theorem V_31 {p:List SNode}(hb:BPlan p):F_3n p=some (slots p):=(U_2y p).out (by
 simp only[V_a hb,Option.bind_some,slots]
 cases hpk:planOk p with
 |false=>simp
 |true=>
  have hl:=hb.len
  have inner:∀(x:Nat) (v:List Int),(∀y∈v,y<(x:Int))→v.length≤1000→loopF (fun f z=>L_g p (x:Int) f z.1 z.2) (v,0)=some (.go (if slotAt p x=true then v++[(x:Int)] else v)):=by
   intro x v hv hvl
   have e:=loop_fold (f:=fun f z=>L_g p (x:Int) f z.1 z.2) (fun i (a:List Int)=>(a,(i:Int))) p (fun i a=>a.length≤1001∧((a.length=1001∨a≠v)→a.any (fun y=>decide (y=(x:Int)))=true))
    (fun i n a=>if (n.2.2.2.2.2.1&&decide (n.2.2.2.2.1=(x:Int))&&!(a.any fun y=>decide (y=(x:Int))))=true then a++[(x:Int)] else a)
    (fun i n a g hn ha=>by
     have l1:=(List.getElem?_eq_some_iff.1 hn).1
     have hw1:=wrap_nat (show i<9223372036854775807 by omega)
     simp only[L_g,lt_nat hn,cond_true,ix_some hn,Option.bind_some,beq_dec,V_35 (show a.length≤2147483648 by omega)]
     cases h1:n.2.2.2.2.2.1 with
     |false=>simp[hw1]
     |true=>
      by_cases h2:n.2.2.2.2.1=(x:Int)
      ·cases h3:a.any (fun y=>decide (y=(x:Int))) with
       |true=>simp[h2,hw1]
       |false=>simp[h2];rw[apx_some (by simp;omega)];simp[hw1]
      ·simp[h2,hw1])
    (fun i n a hn ha=>by
     split
     ·rename_i hc
      simp only[Bool.and_eq_true,Bool.not_eq_true'] at hc
      have:¬(a.length=1001∨a≠v):=fun h=>by rw[ha.2 h] at hc;cases hc.2
      refine⟨by simp;omega,fun _=>by simp⟩
     ·exact ha)
    (fun a g _=>by simp[L_g]) v (by
     refine⟨by omega,fun h=>?_⟩
     rcases h with h|h
     ·omega
     ·exact absurd rfl h)
   rw[foldI_const (fun (n:SNode) (a:List Int)=>if (n.2.2.2.2.2.1&&decide (n.2.2.2.2.1=(x:Int))&&!(a.any fun y=>decide (y=(x:Int))))=true then a++[(x:Int)] else a)] at e
   have key:∀(p:List SNode) (a:List Int),p.foldl (fun a n=>if (n.2.2.2.2.2.1&&decide (n.2.2.2.2.1=(x:Int))&&!(a.any fun y=>decide (y=(x:Int))))=true then a++[(x:Int)] else a) a=if a.any (fun y=>decide (y=(x:Int)))=true then a else if slotAt p x=true then a++[(x:Int)] else a:=by
    intro p
    induction p with
    |nil=>intro a;simp[slotAt]
    |cons n p ih=>
     intro a
     have hsa:slotAt (n::p) (x:Int)=((n.2.2.2.2.2.1&&decide (n.2.2.2.2.1=(x:Int)))||slotAt p (x:Int)):=rfl
     simp only[List.foldl_cons,ih,hsa]
     generalize slotAt p (x:Int)=sa
     cases h3:a.any (fun y=>decide (y=(x:Int))) with
     |true=>simp[h3]
     |false=>
      by_cases h1:(n.2.2.2.2.2.1&&decide (n.2.2.2.2.1=(x:Int)))=true
      ·simp[h1]
      ·have h1:(n.2.2.2.2.2.1&&decide (n.2.2.2.2.1=(x:Int)))=false:=by simpa using h1
       simp only[h1,Bool.false_and,Bool.false_or]
       simp[h3]
   rw[key] at e
   have hno:v.any (fun y=>decide (y=(x:Int)))=false:=by
    rw[List.any_eq_false]
    intro y hy
    have:=hv y hy
    simp;omega
   rw[hno] at e
   simpa using e
  have e:=loop_fold (f:=fun f z=>L_1l p f z.1 z.2) (fun i (a:List Int)=>(a,(i:Int))) (List.range 40) (fun i a=>a.length≤i∧∀y∈a,y<(i:Int))
   (fun i (x:Nat) a=>if slotAt p x=true then a++[(x:Int)] else a)
   (fun i x a g hx ha=>by
    obtain⟨rfl,hi⟩:=range_of hx
    have d:decide ((x:Int)<40)=true:=by simp;omega
    simp only[L_1l,d,cond_true,inner x a ha.2 (by omega),joinK_go,J_3a,wrap_nat (show x<9223372036854775807 by omega)])
   (fun i x a hx ha=>by
    obtain⟨rfl,hi⟩:=range_of hx
    split
    ·refine⟨by simp;omega,fun y hy=>?_⟩
     simp only[List.mem_append,List.mem_singleton] at hy
     rcases hy with hy|rfl
     ·have:=ha.2 y hy;omega
     ·omega
    ·exact⟨by omega,fun y hy=>by have:=ha.2 y hy;omega⟩)
   (fun a g _=>by simp[L_1l]) [] (by simp)
  rw[foldI_const (fun (x:Nat) (a:List Int)=>if slotAt p x=true then a++[(x:Int)] else a),foldl_filter (fun x:Nat=>slotAt p x) (fun x:Nat=>(x:Int))] at e
  rw[show((0:Nat):Int)=0 from rfl] at e
  rw[e];simp)
theorem nodeOk_slot {n:Nd}(h:nodeOk n=true)(hs:n.2.2.2.2.2.1=true):0≤n.2.2.2.2.1∧n.2.2.2.2.1≤39:=by
 obtain⟨k,name,col,op,num,slot,cols,u⟩:=n
 simp only at hs
 subst hs
 simp only[nodeOk,Bool.and_eq_true,Bool.or_eq_true] at h
 have:=h.1.2
 simp[okIn] at this
 simp only
 omega
theorem slots_nil {p:List Nd}(h:planOk p=true):slots p=[]↔hasSlot p=false:=by
 obtain⟨t,ht,rfl⟩:=planOk_iff.1 h
 unfold slots
 rw[if_pos h]
 constructor
 ·intro he
  simp only[List.map_eq_nil_iff,List.filter_eq_nil_iff] at he
  unfold hasSlot
  rw[List.any_eq_false]
  intro n hn hs
  have hr:=nodeOk_slot (ht.nodes n hn) hs
  have:=he n.2.2.2.2.1.toNat (by simp;omega)
  apply this
  unfold slotAt
  rw[List.any_eq_true]
  exact⟨n,hn,by simp[hs];omega⟩
 ·intro hs
  unfold hasSlot at hs
  rw[List.any_eq_false] at hs
  simp only[List.map_eq_nil_iff,List.filter_eq_nil_iff]
  intro x _ hx
  unfold slotAt at hx
  rw[List.any_eq_true] at hx
  obtain⟨n,hn,h2⟩:=hx
  simp only[Bool.and_eq_true] at h2
  exact hs n hn h2.1
theorem V_2p {p:List SNode}(hb:BPlan p):F_3a p=some (closed p):=(U_2e p).out (by
 simp only[V_a hb,V_31 hb,Option.bind_some,closed]
 cases h:planOk p with
 |false=>simp
 |true=>
  have:=slots_nil h
  have e:(((slots p).length:Int)==0)=!hasSlot p:=by
   cases h2:hasSlot p with
   |false=>rw[this.2 h2];rfl
   |true=>
    have h3:slots p≠[]:=fun e=>by rw[this.1 e] at h2;cases h2
    have:0<(slots p).length:=List.length_pos_iff.2 h3
    simp;omega
  rw[e]
  simp)
theorem liftL_len:∀(l:List Nd) (i:Nat),(liftL l i).length=l.length
 |[],_=>rfl
 |n::l,i=>by simp only[liftL];split <;> simp[liftL_len l]
theorem lift_loop {R:Type}{L:(List Nd×List Int×Int→Option (Ex R (List Nd×List Int)))→List Nd×List Int×Int→Option (Ex R (List Nd×List Int))}{p:List Nd}(hp:p.length≤1073741824)
  (hL:∀f (v:List Nd) (vs:List Int) (i:Nat) n,v[i]?=some n→v.length=p.length→vs.length≤i→L f (v,vs,(i:Int))=if isLit n=true then f (v.set i (liftN n vs.length),vs++[n.2.2.2.2.1],((i+1:Nat):Int)) else f (v,vs,((i+1:Nat):Int)))
  (hE:∀f (v:List Nd) vs,v.length=p.length→L f (v,vs,(p.length:Int))=some (.go (v,vs))):loopF L (p,[],0)=some (.go (liftL p 0,lits p)):=by
 refine loopF_of (p.length+1) ?_
 have key:∀(xs ys:List Nd) (vs:List Int) (i:Nat),i+xs.length=p.length→ys.length=i→vs.length≤i→∀n,xs.length+1≤n→
   loopK L n (ys++xs,vs,(i:Int))=some (.go (ys++liftL xs vs.length,vs++lits xs)):=by
  intro xs
  induction xs with
  |nil=>
   intro ys vs i hi hy hv n hn
   obtain⟨m,rfl⟩:∃m,n=m+1:=⟨n-1,by omega⟩
   simp only[List.length_nil,Nat.add_zero] at hi
   simp only[loopK]
   rw[hi,hE _ _ _ (by simp[hy,hi])]
   simp[liftL,lits]
  |cons x xs ih=>
   intro ys vs i hi hy hv n hn
   obtain⟨m,rfl⟩:∃m,n=m+1:=⟨n-1,by omega⟩
   simp only[List.length_cons] at hi hn
   simp only[loopK]
   rw[hL (loopK L m) (ys++x::xs) vs i x (by rw[List.getElem?_append_right (by omega)];simp[hy]) (by simp;omega) hv]
   cases hlit:isLit x with
   |true=>
    simp only[if_true]
    have hset:(ys++x::xs).set i (liftN x vs.length)=(ys++[liftN x vs.length])++xs:=by
     rw[List.set_append_right _ _ (by omega),hy];simp
    rw[hset,ih (ys++[liftN x vs.length]) (vs++[x.2.2.2.2.1]) (i+1) (by omega) (by simp[hy]) (by simp;omega) m (by omega)]
    simp[liftL,hlit,lits]
   |false=>
    simp only[if_false,Bool.false_eq_true]
    have hap:ys++x::xs=(ys++[x])++xs:=by simp
    rw[hap,ih (ys++[x]) vs (i+1) (by omega) (by simp[hy]) (by omega) m (by omega)]
    simp[liftL,hlit,lits]
 intro n hn
 have:=key p [] [] 0 (by simp) rfl (by simp) n hn
 simpa using this
theorem V_2u {p:List SNode}(hb:BPlan p):F_3g p=some (lift p):=(U_2m p).out (by
 simp only[V_2p hb,V_c hb,Option.bind_some,lift]
 cases hc:closed p with
 |false=>simp
 |true=>
  have hl:=hb.len
  have e:=lift_loop (L:=fun f z=>L_1d f z.1 z.2.1 z.2.2) hl
   (fun f v vs i n hn hv hvs=>by
    have l1:=(List.getElem?_eq_some_iff.1 hn).1
    simp only[L_1d,lt_nat hn,cond_true,ix_some hn,Option.bind_some,V_3f,joinK_bif,joinK_go,J_h,wrap_nat (show i<9223372036854775807 by omega)]
    cases isLit n with
    |false=>simp
    |true=>
     have hw:IntKind.i64.wrap (((vs++[n.2.2.2.2.1]).length:Int)-1)=(vs.length:Int):=by rw[wrap_sml] <;> simp <;> omega
     rw[apx_some (by simp;omega)]
     simp only[Option.bind_some,hw,Int.toNat_natCast,ix_set l1,List.set_set,joinK_go,J_h,Bool.not_true,cond_false,if_true]
     rfl)
   (fun f v vs hv=>by rw[←hv];simp[L_1d])
  simp only[Bool.not_true,cond_false,e,if_true,joinK_go,J_2y])
end Go.Proofs.YtkbcahfajbdgnaaGreatDoorX
namespace Go.Proofs.YtkbcahfajbdgnaaGreatDoorX
open Go Go.Proofs.YtkbcahfajbdgnaaGreatDoorT PT
set_option linter.all false
abbrev Opn:=Int×List Nd×List Nd×List Sp×Unit
structure BOp (o:Opn):Prop where
 qb:BPlan o.2.1
 ob:BPlan o.2.2.1
 sb:o.2.2.2.1.length≤1073741824
end Go.Proofs.YtkbcahfajbdgnaaGreatDoorX
namespace Go.Proofs.YtkbcahfajbdgnaaGreatDoorX
open Go Go.Proofs.YtkbcahfajbdgnaaGreatDoorT
set_option linter.all false
def kc (c:Int) (r:List Int):Int:=r.getD c.toNat 0
def OkR (c:Int) (r:List Int):Prop:=0≤c∧c<(r.length:Int)
theorem ix_kc {c:Int}{r:List Int}(h:OkR c r):ix r c=some (kc c r):=by
 obtain⟨h0,h1⟩:=h
 obtain⟨k,rfl⟩:∃k:Nat,c=(k:Int):=⟨c.toNat,by omega⟩
 have hk:k<r.length:=by omega
 rw[ix_some (List.getElem?_eq_getElem hk)]
 simp[kc,List.getD_eq_getElem?_getD,List.getElem?_eq_getElem hk]
def cmpV (a b:Int):Int:=bif decide (a<b) then -1 else bif decide (a>b) then 1 else 0
theorem cmpV_lt (a b:Int):decide (cmpV a b<0)=decide (a<b):=by
 unfold cmpV
 by_cases h:a<b
 ·simp[h]
 ·by_cases h2:a>b <;> simp[h,h2]
@[simp] theorem V_1n (a:Int):F_14 a=some false:=(U_a a).out (by simp)
@[simp] theorem V_3j (a b:Int):F_1z a b=some (cmpV a b):=(U_9 a b).out (by
 simp only[V_1n,Option.bind_some,cond_false]
 unfold cmpV
 by_cases h:a<b
 ·simp[h]
 ·by_cases h2:a>b <;> simp[h,h2])
section
variable {n0:Int}{n1:ByteArray}{n2 n3 n4:Int}{n5:Bool}{n6:List Int}
theorem V_e {a b:List Int}(ha:OkR n2 a)(hb:OkR n2 b):F_l a b n0 n1 n2 n3 n4 n5 n6=some (cmpV (kc n2 a) (kc n2 b),n0,n1,n2,n3,n4,n5,n6):=
 (U_15 a b n0 n1 n2 n3 n4 n5 n6).out (by
  rw[ix_kc ha,ix_kc hb];simp)
theorem V_w {pre A C B post:List (List Int)}{a b n:Int}(hlen:(pre++(A++(C++(B++post)))).length≤2147483648)(hAB:A.length=B.length)
  (ha:a=(pre.length:Int))(hb:b=(pre.length:Int)+(A.length:Int)+(C.length:Int))(hn:n=(A.length:Int)) :
  F_x (pre++(A++(C++(B++post)))) a b n n0 n1 n2 n3 n4 n5 n6=some (pre++(B++(C++(A++post))),n0,n1,n2,n3,n4,n5,n6):=
 (U_29 _ a b n n0 n1 n2 n3 n4 n5 n6).out (by
  refine loopF_ind (fun s=>(n-s.1).toNat) (fun s=>∃A1 A2 B1 B2,A=A1++A2∧B=B1++B2∧A1.length=B1.length∧s.1=(A1.length:Int)∧s.2=pre++(B1++(A2++(C++(A1++(B2++post))))))
   (fun _=>(pre++(B++(C++(A++post))),n0,n1,n2,n3,n4,n5,n6)) ?_ _ ⟨[],A,[],B,rfl,rfl,rfl,rfl,by simp⟩
  rintro⟨i,d⟩ ⟨A1,A2,B1,B2,rfl,rfl,h1,h2,h3⟩ g hg
  dsimp only at h2 h3 ⊢
  simp only[List.length_append] at hlen hAB hb hn
  simp only[L_2x]
  cases A2 with
  |nil=>
   have:B2=[]:=List.length_eq_zero_iff.1 (by simp at hAB;omega)
   subst this
   have hd:decide (i<n)=false:=by simp at hn ⊢;omega
   rw[hd,h3]
   simp
  |cons x A2=>
   cases B2 with
   |nil=>simp at hAB;omega
   |cons y B2=>
    simp only[List.length_cons] at hlen hAB hb hn
    have hd:decide (i<n)=true:=by simp;omega
    have e1:d=(pre++B1)++x::((A2++(C++A1))++y::(B2++post)):=by rw[h3];simp
    have hl:d.length=pre.length+B1.length+1+A2.length+C.length+A1.length+1+B2.length+post.length:=by rw[e1];simp;omega
    rw[hd,wrap_in (x:=b+i) (by omega) (by omega),wrap_in (x:=a+i) (by omega) (by omega),wrap_in (x:=i+1) (by omega) (by omega)]
    have k1:b+i=(((pre++B1).length:Nat):Int)+1+(((A2++(C++A1)).length:Nat):Int):=by simp;omega
    have k2:a+i=(((pre++B1).length:Nat):Int):=by simp;omega
    simp only[cond_true,inx_some (n:=d.length) (i:=b+i) (by omega) (by omega),inx_some (n:=d.length) (i:=a+i) (by omega) (by omega),Option.bind_some]
    rw[e1,ix_hi k1]
    simp only[Option.bind_some]
    rw[ix_mid k2]
    simp only[Option.bind_some]
    rw[stx_mid k2]
    simp only[Option.bind_some]
    rw[stx_hi k1]
    simp only[Option.bind_some]
    refine hg _ ⟨A1++[x],A2,B1++[y],B2,by simp,by simp,by simp[h1],by simp;omega,by simp⟩ ?_
    simp;omega)
theorem V_28 {pre A B post:List (List Int)}{a m b:Int}(hlen:(pre++(A++(B++post))).length≤2147483648)(hA:A≠[])(hB:B≠[])
  (ha:a=(pre.length:Int))(hm:m=(pre.length:Int)+(A.length:Int))(hb:b=(pre.length:Int)+(A.length:Int)+(B.length:Int)) :
  F_37 (pre++(A++(B++post))) a m b n0 n1 n2 n3 n4 n5 n6=some (pre++(B++(A++post)),n0,n1,n2,n3,n4,n5,n6):=
 (U_27 _ a m b n0 n1 n2 n3 n4 n5 n6).out (by
  simp only[List.length_append] at hlen
  rw[wrap_in (x:=m-a) (by omega) (by omega),wrap_in (x:=b-m) (by omega) (by omega)]
  refine Exists.elim (loopF_tail (f:=fun f s=>L_2l m f s.1 s.2.1 s.2.2.1 s.2.2.2.1 s.2.2.2.2.1 s.2.2.2.2.2.1 s.2.2.2.2.2.2.1 s.2.2.2.2.2.2.2.1 s.2.2.2.2.2.2.2.2.1 s.2.2.2.2.2.2.2.2.2)
   (fun s=>(s.1+s.2.1).toNat)
   (fun s=>∃p A' B' q,A'≠[]∧B'≠[]∧m=(p.length:Int)+(A'.length:Int)∧p.length+A'.length+B'.length+q.length=pre.length+A.length+B.length+post.length∧
    s=((A'.length:Int),(B'.length:Int),p++(A'++(B'++q)),n0,n1,n2,n3,n4,n5,n6)∧p++(B'++(A'++q))=pre++(B++(A++post)))
   (fun r=>joinK (some r) (fun s=>J_d m s.1 s.2.1 s.2.2.1 s.2.2.2.1 s.2.2.2.2.1 s.2.2.2.2.2.1 s.2.2.2.2.2.2.1 s.2.2.2.2.2.2.2.1 s.2.2.2.2.2.2.2.2)=some (pre++(B++(A++post)),n0,n1,n2,n3,n4,n5,n6))
   ?_ (m-a,b-m,pre++(A++(B++post)),n0,n1,n2,n3,n4,n5,n6) ⟨pre,A,B,post,hA,hB,hm,by omega,by rw[show m-a=(A.length:Int) by omega,show b-m=(B.length:Int) by omega],rfl⟩) (fun r hr=>by rw[hr.1];exact hr.2)
  rintro s ⟨p,A',B',q,hA',hB',hm',hl,rfl,ht⟩
  have hA1:0<A'.length:=List.length_pos_iff.2 hA'
  have hB1:0<B'.length:=List.length_pos_iff.2 hB'
  dsimp only
  simp only[L_2l]
  rw[wrap_in (x:=m-(A'.length:Int)) (by omega) (by omega),wrap_in (x:=m+(B'.length:Int)) (by omega) (by omega)]
  by_cases h1:A'.length=B'.length
  ·left
   refine⟨_,?_,fun g=>by rw[show((A'.length:Int) != (B'.length:Int))=false by simp[h1]];rfl⟩
   simp only[joinK_go,J_d]
   rw[wrap_in (x:=m-(A'.length:Int)) (by omega) (by omega)]
   have:=V_w (pre:=p) (A:=A') (C:=[]) (B:=B') (post:=q) (a:=m-(A'.length:Int)) (b:=m) (n:=(A'.length:Int)) (n0:=n0) (n1:=n1) (n2:=n2) (n3:=n3) (n4:=n4) (n5:=n5) (n6:=n6)
    (by simp;omega) h1 (by omega) (by simp;omega) rfl
   simp only[List.nil_append] at this
   rw[this]
   simp only[Option.bind_some,ht]
  ·right
   rw[show((A'.length:Int) != (B'.length:Int))=true by simp;omega]
   simp only[cond_true]
   by_cases h2:A'.length>B'.length
   ·rw[show decide ((A'.length:Int)>(B'.length:Int))=true by simp;omega]
    simp only[cond_true]
    rw[wrap_in (x:=(A'.length:Int)-(B'.length:Int)) (by omega) (by omega)]
    obtain⟨A1,A2,rfl,hl1⟩:∃A1 A2,A'=A1++A2∧A1.length=B'.length:=⟨A'.take B'.length,A'.drop B'.length,(List.take_append_drop _ _).symm,by simp;omega⟩
    simp only[List.length_append] at *
    have:=V_w (pre:=p) (A:=A1) (C:=A2) (B:=B') (post:=q) (a:=m-((A1.length+A2.length:Nat):Int)) (b:=m) (n:=(B'.length:Int)) (n0:=n0) (n1:=n1) (n2:=n2) (n3:=n3) (n4:=n4) (n5:=n5) (n6:=n6)
     (by simp;omega) hl1 (by omega) (by omega) (by omega)
    rw[show p++(A1++A2++(B'++q))=p++(A1++(A2++(B'++q))) by simp,this]
    simp only[Option.bind_some]
    refine⟨_,⟨p++B',A2,A1,q,fun h=>by subst h;simp at h2;omega,fun h=>by subst h;simp at hl1;omega,by simp;omega,by simp;omega,?_,?_⟩,?_,fun g=>rfl⟩
    ·rw[show((A1.length+A2.length:Nat):Int)-(B'.length:Int)=(A2.length:Int) by omega,hl1]
     simp
    ·rw[←ht];simp
    ·dsimp only;omega
   ·rw[show decide ((A'.length:Int)>(B'.length:Int))=false by simp;omega]
    simp only[cond_false]
    rw[wrap_in (x:=(B'.length:Int)-(A'.length:Int)) (by omega) (by omega),wrap_in (x:=m+(B'.length:Int)-(A'.length:Int)) (by omega) (by omega)]
    obtain⟨B1,B2,rfl,hl1⟩:∃B1 B2,B'=B1++B2∧B2.length=A'.length:=⟨B'.take (B'.length-A'.length),B'.drop (B'.length-A'.length),(List.take_append_drop _ _).symm,by simp;omega⟩
    simp only[List.length_append] at *
    have:=V_w (pre:=p) (A:=A') (C:=B1) (B:=B2) (post:=q) (a:=m-(A'.length:Int)) (b:=m+((B1.length+B2.length:Nat):Int)-(A'.length:Int)) (n:=(A'.length:Int)) (n0:=n0) (n1:=n1) (n2:=n2) (n3:=n3) (n4:=n4) (n5:=n5) (n6:=n6)
     (by simp;omega) hl1.symm (by omega) (by omega) rfl
    rw[show p++(A'++(B1++B2++q))=p++(A'++(B1++(B2++q))) by simp,this]
    simp only[Option.bind_some]
    refine⟨_,⟨p,B2,B1,A'++q,fun h=>by subst h;simp at hl1;omega,fun h=>by subst h;exact h1 (by simp;omega),by omega,by simp;omega,?_,?_⟩,?_,fun g=>rfl⟩
    ·rw[show((B1.length+B2.length:Nat):Int)-(A'.length:Int)=(B1.length:Int) by omega,hl1]
    ·rw[←ht];simp
    ·dsimp only;omega)
theorem ins_in {pre S post:List (List Int)}{x:List Int}{a i:Int}(hS:Srt (kc n2) S)(hok:∀r∈S,OkR n2 r)(hx:OkR n2 x)(hlen:(pre++(S++x::post)).length≤2147483648)
  (ha:a=(pre.length:Int))(hi:i=(pre.length:Int)+(S.length:Int)) :
  loopF (fun f s=>L_2k a f s.1 s.2.1 s.2.2.1 s.2.2.2.1 s.2.2.2.2.1 s.2.2.2.2.2.1 s.2.2.2.2.2.2.1 s.2.2.2.2.2.2.2.1 s.2.2.2.2.2.2.2.2) (i,pre++(S++x::post),n0,n1,n2,n3,n4,n5,n6) =
   some (.go (pre++(insS (kc n2) x S++post),n0,n1,n2,n3,n4,n5,n6)):=by
 refine loopF_ind (fun s=>(s.1-a).toNat) (fun s=>∃s1 t,S=s1++t∧(∀z∈t,kc n2 x<kc n2 z)∧s=((pre.length:Int)+(s1.length:Int),pre++(s1++x::(t++post)),n0,n1,n2,n3,n4,n5,n6))
  (fun _=>Ex.go (pre++(insS (kc n2) x S++post),n0,n1,n2,n3,n4,n5,n6)) ?_ _ ?_
 case refine_2=>exact⟨S,[],by simp,by simp,by rw[hi];rfl⟩
 rintro s ⟨s1,t,rfl,ht,rfl⟩ g hg
 have fin:(∀z∈s1,kc n2 z≤kc n2 x)→pre++(s1++x::(t++post))=pre++(insS (kc n2) x (s1++t)++post):=by
  intro h
  obtain⟨k1,k2⟩:=insS_ok hS (x:=x)
  obtain⟨p1,p2,p3⟩:=hS.parts
  have e:s1++x::t=insS (kc n2) x (s1++t):=by
   refine Srt.uniq (Srt.app p1 (List.pairwise_cons.2 ⟨fun z hz=>?_,p2⟩) ?_) k1 (Same.trans ?_ k2)
   ·have:=ht z hz;omega
   ·intro z hz w hw
    rcases List.mem_cons.1 hw with rfl|hw
    ·exact h z hz
    ·exact p3 z hz w hw
   ·have h3:Same (kc n2) ([x]++t) (t++[x]):=Same.swap fun u hu v hv=>by
     rw[List.mem_singleton.1 hu]
     have:=ht v hv;omega
    have:=Same.app (Same.refl (key:=kc n2) s1) h3
    simpa using this
  rw[←e];simp
 simp only[List.length_append,List.length_cons] at hlen
 dsimp only
 simp only[L_2k]
 rcases List.eq_nil_or_concat s1 with rfl|⟨s',y,rfl⟩
 ·rw[show decide ((pre.length:Int)+(([]:List (List Int)).length:Int)>a)=false by simp;omega]
  simp only[cond_false,joinK_go,J_c]
  rw[fin (by simp)]
 ·rw[List.concat_eq_append] at *
  simp only[List.length_append,List.length_cons,List.length_nil] at hlen ⊢
  rw[show decide ((pre.length:Int)+((s'.length+(0+1):Nat):Int)>a)=true by simp;omega]
  rw[wrap_in (x:=(pre.length:Int)+((s'.length+(0+1):Nat):Int)-1) (by omega) (by omega)]
  have e1:pre++(s'++[y]++x::(t++post))=(pre++s')++y::([]++x::(t++post)):=by simp
  have k1:(pre.length:Int)+((s'.length+(0+1):Nat):Int)=(((pre++s').length:Nat):Int)+1+((([]:List (List Int)).length:Nat):Int):=by simp;omega
  have k2:(pre.length:Int)+((s'.length+(0+1):Nat):Int)-1=(((pre++s').length:Nat):Int):=by simp;omega
  have hy:OkR n2 y:=hok y (by simp)
  have hl:((pre++s')++y::([]++x::(t++post))).length=pre.length+s'.length+2+t.length+post.length:=by simp;omega
  simp only[cond_true]
  rw[e1,ix_hi k1]
  simp only[Option.bind_some]
  rw[ix_mid k2]
  simp only[Option.bind_some,V_e hx hy,joinK_go,J_c,cmpV_lt]
  cases hc:decide (kc n2 x<kc n2 y) with
  |true=>
   have hc:=of_decide_eq_true hc
   simp only[cond_true]
   rw[wrap_in (x:=(pre.length:Int)+((s'.length+(0+1):Nat):Int)-1) (by omega) (by omega),inx_some (by omega) (by omega)]
   simp only[Option.bind_some]
   rw[ix_mid k2,inx_some (by omega) (by omega)]
   simp only[Option.bind_some]
   rw[ix_hi k1]
   simp only[Option.bind_some]
   rw[stx_hi k1]
   simp only[Option.bind_some]
   rw[stx_mid k2]
   simp only[Option.bind_some]
   rw[k2]
   refine hg _ ⟨s',y::t,by simp,?_,by simp⟩ ?_
   ·intro z hz
    rcases List.mem_cons.1 hz with rfl|hz
    ·exact hc
    ·exact ht z hz
   ·dsimp only
    simp
    omega
  |false=>
   have hc:=of_decide_eq_false hc
   simp only[cond_false]
   rw[←e1,fin]
   intro z hz
   rcases List.mem_append.1 hz with hz|hz
   ·have:=(Srt.parts hS).1.parts.2.2 z hz y (by simp)
    omega
   ·rw[List.mem_singleton.1 hz];omega
theorem V_17 {pre m post:List (List Int)}{a b:Int}(hok:∀r∈m,OkR n2 r)(hlen:(pre++(m++post)).length≤2147483648)
  (ha:a=(pre.length:Int))(hb:b=(pre.length:Int)+(m.length:Int)) :
  F_1k (pre++(m++post)) a b n0 n1 n2 n3 n4 n5 n6=some (pre++(srt (kc n2) m++post),n0,n1,n2,n3,n4,n5,n6):=
 (U_26 _ a b n0 n1 n2 n3 n4 n5 n6).out (by
  simp only[List.length_append] at hlen
  rw[wrap_in (x:=a+1) (by omega) (by omega)]
  refine loopF_ind (fun s=>(b-s.1).toNat) (fun s=>(∃d x r,m=d++x::r∧s=((pre.length:Int)+(d.length:Int)+1,pre++(srt (kc n2) (d++[x])++(r++post)),n0,n1,n2,n3,n4,n5,n6))∨(m=[]∧s=(a+1,pre++(m++post),n0,n1,n2,n3,n4,n5,n6)))
   (fun _=>(pre++(srt (kc n2) m++post),n0,n1,n2,n3,n4,n5,n6)) ?_ _ ?_
  ·rintro s (⟨d,x,r,rfl,rfl⟩|⟨rfl,rfl⟩) g hg
   ·dsimp only
    simp only[L_2j]
    simp only[List.length_append,List.length_cons] at hlen hb
    cases r with
    |nil=>
     rw[show decide ((pre.length:Int)+(d.length:Int)+1<b)=false by simp at hb ⊢;omega]
     simp
    |cons y r=>
     simp only[List.length_cons] at hlen hb
     rw[show decide ((pre.length:Int)+(d.length:Int)+1<b)=true by simp;omega]
     simp only[cond_true]
     have hl:(srt (kc n2) (d++[x])).length=d.length+1:=by rw[srt_len];simp
     have:=ins_in (pre:=pre) (S:=srt (kc n2) (d++[x])) (post:=r++post) (x:=y) (a:=a) (i:=(pre.length:Int)+(d.length:Int)+1) (n0:=n0) (n1:=n1) (n2:=n2) (n3:=n3) (n4:=n4) (n5:=n5) (n6:=n6)
      (srt_ok _).1 (fun z hz=>hok z (by have:=srt_mem.1 hz;simp at this ⊢;grind)) (hok y (by simp)) (by simp[hl];omega) ha (by rw[hl];omega)
     rw[List.cons_append,this]
     simp only[joinK_go,J_28]
     rw[wrap_in (x:=(pre.length:Int)+(d.length:Int)+1+1) (by omega) (by omega),←srt_snoc]
     refine hg _ (.inl ⟨d++[x],y,r,by simp,by simp;omega⟩) ?_
     dsimp only;omega
   ·dsimp only
    simp only[L_2j]
    rw[show decide (a+1<b)=false by simp at hb ⊢;omega]
    rfl
  ·cases m with
   |nil=>exact .inr ⟨rfl,rfl⟩
   |cons x r=>exact .inl ⟨[],x,r,rfl,by simp[srt,insS];omega⟩)
end
end Go.Proofs.YtkbcahfajbdgnaaGreatDoorX
namespace Go.Proofs.YtkbcahfajbdgnaaGreatDoorX
open Go Go.Proofs.YtkbcahfajbdgnaaGreatDoorT
set_option linter.all false
theorem bsearch {A S:Type}{f:(S→Option A)→S→Option A}(st:Int→Int→S) (p:Int→Bool) (out:Int→A){lo hi:Int}(hlh:lo≤hi)
  (h1:∀i j,lo≤i→i<j→j≤hi→∀g:S→Option A,f g (st i j)=bif p ((i+j) / 2) then g (st ((i+j) / 2+1) j) else g (st i ((i+j) / 2)))
  (h2:∀i,lo≤i→i≤hi→∀g:S→Option A,f g (st i i)=some (out i)) (μ:S→Nat)(hμ:∀i j,μ (st i j)=(j-i).toNat) :
  ∃i,lo≤i∧i≤hi∧(lo<i→p (i-1)=true)∧(i<hi→p i=false)∧loopF f (st lo hi)=some (out i):=by
 obtain⟨r,hr,i,a1,a2,a3,a4,rfl⟩:=loopF_tail (f:=f) μ (fun s=>∃i j,s=st i j∧lo≤i∧i≤j∧j≤hi∧(lo<i→p (i-1)=true)∧(j<hi→p j=false))
  (fun r=>∃i,lo≤i∧i≤hi∧(lo<i→p (i-1)=true)∧(i<hi→p i=false)∧r=out i) (by
   rintro s ⟨i,j,rfl,b1,b2,b3,b4,b5⟩
   by_cases hij:i<j
   ·right
    cases hp:p ((i+j) / 2) with
    |true=>
     refine⟨st ((i+j) / 2+1) j,⟨_,_,rfl,by omega,by omega,b3,fun _=>?_,b5⟩,?_,fun g=>?_⟩
     ·rw[show(i+j) / 2+1-1=(i+j) / 2 by omega];exact hp
     ·rw[hμ,hμ];omega
     ·rw[h1 i j b1 hij b3,hp];rfl
    |false=>
     refine⟨st i ((i+j) / 2),⟨_,_,rfl,by omega,by omega,by omega,b4,fun _=>hp⟩,?_,fun g=>?_⟩
     ·rw[hμ,hμ];omega
     ·rw[h1 i j b1 hij b3,hp];rfl
   ·left
    have:i=j:=by omega
    subst this
    exact⟨_,⟨i,b1,b3,b4,b5,rfl⟩,fun g=>h2 i b1 b3 g⟩) (st lo hi) ⟨lo,hi,rfl,by omega,by omega,by omega,fun h=>by omega,fun h=>by omega⟩
 exact⟨i,a1,a2,a3,a4,hr⟩
theorem lo_all {T:Type}{key:T→Int}{xs ys:List T}{d:T}(h:Srt key (xs++ys)):∀x∈xs,key x≤key ((xs++ys).getD (xs.length-1) d):=by
 intro x hx
 rcases List.eq_nil_or_concat xs with rfl|⟨xs,z,rfl⟩
 ·cases hx
 ·rw[List.concat_eq_append] at *
  have:((xs++[z])++ys).getD ((xs++[z]).length-1) d=z:=by simp[List.getD_eq_getElem?_getD]
  rw[this]
  rcases List.mem_append.1 hx with hx|hx
  ·exact h.parts.1.parts.2.2 x hx z (by simp)
  ·rw[List.mem_singleton.1 hx];omega
theorem hi_all {T:Type}{key:T→Int}{xs ys:List T}{d:T}(h:Srt key (xs++ys)):∀y∈ys,key ((xs++ys).getD xs.length d)≤key y:=by
 intro y hy
 cases ys with
 |nil=>cases hy
 |cons z ys=>
  have:(xs++z::ys).getD xs.length d=z:=by simp[List.getD_eq_getElem?_getD]
  rw[this]
  have h2:=h.parts.2.1
  unfold Srt at h2
  rw[List.pairwise_cons] at h2
  rcases List.mem_cons.1 hy with rfl|hy
  ·omega
  ·exact h2.1 y hy
theorem ix_in {T:Type}{X Y Z:List T}{i:Int}{d:T}(h0:(X.length:Int)≤i)(h1:i<(X.length:Int)+(Y.length:Int)):ix (X++(Y++Z)) i=some (Y.getD (i-(X.length:Int)).toNat d):=by
 obtain⟨k,rfl⟩:∃k:Nat,i=(X.length:Int)+(k:Int):=⟨(i-X.length).toNat,by omega⟩
 have hk:k<Y.length:=by omega
 have e:(X.length:Int)+(k:Int)=((X.length+k:Nat):Int):=by omega
 rw[e,ix_nat,List.getElem?_append_right (by omega),List.getElem?_append_left (by omega)]
 have e2:((X.length+k:Nat):Int)-(X.length:Int)=(k:Int):=by omega
 rw[e2,Int.toNat_natCast,show X.length+k-X.length=k by omega]
 simp[List.getD_eq_getElem?_getD,List.getElem?_eq_getElem hk]
theorem getD_mem {T:Type}{Y:List T}{k:Nat}{d:T}(h:k<Y.length):Y.getD k d∈Y:=by
 rw[List.getD_eq_getElem?_getD,List.getElem?_eq_getElem h];simp
theorem joinK_and {A:Type}(c d:Bool) (f:Bool→Option A):joinK (bif c then some (Ex.go d) else some (Ex.go false)) f=f (c&&d):=by cases c <;> rfl
section
variable {n0:Int}{n1:ByteArray}{n2 n3 n4:Int}{n5:Bool}{n6:List Int}
theorem sm_right {pre R q:List (List Int)}{x:List Int}{a i:Int}(hlen:(pre++x::(R++q)).length≤2147483648)(ha:a=(pre.length:Int))(hi:i=(pre.length:Int)+1+(R.length:Int)) :
  loopF (fun f s=>L_2p i f s.1 s.2) (a,pre++x::(R++q))=some (.go (pre++(R++x::q))):=by
 simp only[List.length_append,List.length_cons] at hlen
 refine loopF_ind (fun s=>(i-s.1).toNat) (fun s=>∃u v,R=u++v∧s=((pre.length:Int)+(u.length:Int),pre++(u++x::(v++q)))) (fun _=>Ex.go (pre++(R++x::q))) ?_ _ ?_
 case refine_2=>exact⟨[],R,rfl,by rw[ha];simp⟩
 rintro s ⟨u,v,rfl,rfl⟩ g hg
 dsimp only
 simp only[List.length_append] at hlen hi
 simp only[L_2p]
 rw[wrap_in (x:=i-1) (by omega) (by omega)]
 cases v with
 |nil=>
  rw[show decide ((pre.length:Int)+(u.length:Int)<i-1)=false by simp at hi ⊢;omega]
  simp
 |cons y v=>
  simp only[List.length_cons] at hlen hi
  rw[show decide ((pre.length:Int)+(u.length:Int)<i-1)=true by simp;omega]
  rw[wrap_in (x:=(pre.length:Int)+(u.length:Int)+1) (by omega) (by omega)]
  have e1:pre++(u++x::(y::v++q))=(pre++u)++x::([]++y::(v++q)):=by simp
  have hl:((pre++u)++x::([]++y::(v++q))).length=pre.length+u.length+2+v.length+q.length:=by simp;omega
  have k1:(pre.length:Int)+(u.length:Int)=(((pre++u).length:Nat):Int):=by simp
  have k2:(pre.length:Int)+(u.length:Int)+1=(((pre++u).length:Nat):Int)+1+((([]:List (List Int)).length:Nat):Int):=by simp
  simp only[cond_true]
  rw[e1,inx_some (by omega) (by omega),inx_some (by omega) (by omega)]
  simp only[Option.bind_some]
  rw[ix_hi k2]
  simp only[Option.bind_some]
  rw[ix_mid k1]
  simp only[Option.bind_some]
  rw[stx_mid k1]
  simp only[Option.bind_some]
  rw[stx_hi k2]
  simp only[Option.bind_some]
  refine hg _ ⟨u++[y],v,by simp,by simp;omega⟩ ?_
  dsimp only
  omega
theorem sm_left {pre L q:List (List Int)}{x:List Int}{m i:Int}(hlen:(pre++(L++x::q)).length≤2147483648)(hm:m=(pre.length:Int)+(L.length:Int))(hi:i=(pre.length:Int)) :
  loopF (fun f s=>L_2q i f s.1 s.2) (m,pre++(L++x::q))=some (.go (pre++(x::(L++q)))):=by
 simp only[List.length_append,List.length_cons] at hlen
 refine loopF_ind (fun s=>(s.1-i).toNat) (fun s=>∃u v,L=u++v∧s=((pre.length:Int)+(u.length:Int),pre++(u++x::(v++q)))) (fun _=>Ex.go (pre++(x::(L++q)))) ?_ _ ?_
 case refine_2=>exact⟨L,[],by simp,by rw[hm];simp⟩
 rintro s ⟨u,v,rfl,rfl⟩ g hg
 dsimp only
 simp only[List.length_append] at hlen hm
 simp only[L_2q]
 rcases List.eq_nil_or_concat u with rfl|⟨u,y,rfl⟩
 ·rw[show decide ((pre.length:Int)+(([]:List (List Int)).length:Int)>i)=false by simp;omega]
  simp
 ·rw[List.concat_eq_append] at *
  simp only[List.length_append,List.length_cons,List.length_nil] at hlen hm ⊢
  rw[show decide ((pre.length:Int)+((u.length+(0+1):Nat):Int)>i)=true by simp;omega]
  rw[wrap_in (x:=(pre.length:Int)+((u.length+(0+1):Nat):Int)-1) (by omega) (by omega)]
  have e1:pre++(u++[y]++x::(v++q))=(pre++u)++y::([]++x::(v++q)):=by simp
  have hl:((pre++u)++y::([]++x::(v++q))).length=pre.length+u.length+2+v.length+q.length:=by simp;omega
  have k1:(pre.length:Int)+((u.length+(0+1):Nat):Int)-1=(((pre++u).length:Nat):Int):=by simp;omega
  have k2:(pre.length:Int)+((u.length+(0+1):Nat):Int)=(((pre++u).length:Nat):Int)+1+((([]:List (List Int)).length:Nat):Int):=by simp;omega
  simp only[cond_true]
  rw[e1,inx_some (by omega) (by omega),inx_some (by omega) (by omega)]
  simp only[Option.bind_some]
  rw[ix_mid k1]
  simp only[Option.bind_some]
  rw[ix_hi k2]
  simp only[Option.bind_some]
  rw[stx_hi k2]
  simp only[Option.bind_some]
  rw[stx_mid k1]
  simp only[Option.bind_some]
  refine hg _ ⟨u,y::v,by simp,by simp;omega⟩ ?_
  dsimp only
  simp
  omega
end
end Go.Proofs.YtkbcahfajbdgnaaGreatDoorX
namespace Go.Proofs.YtkbcahfajbdgnaaGreatDoorX
open Go Go.Proofs.YtkbcahfajbdgnaaGreatDoorT
set_option linter.all false
section
variable {n0:Int}{n1:ByteArray}{n2 n3 n4:Int}{n5:Bool}{n6:List Int}
theorem sm_s0 {pre R post:List (List Int)}{x:List Int}{a m b:Int}(hx:OkR n2 x)(hok:∀r∈R,OkR n2 r)(hR:Srt (kc n2) R)(hlen:(pre++(x::(R++post))).length≤2147483648)
  (ha:a=(pre.length:Int))(hm:m=(pre.length:Int)+1)(hb:b=(pre.length:Int)+1+(R.length:Int)) :
  ∃R1 R2,R=R1++R2∧(∀y∈R1,kc n2 y<kc n2 x)∧(∀y∈R2,kc n2 x≤kc n2 y)∧
   loopF (fun f s=>L_c (pre++(x::(R++post))) a f s.1 s.2.1 s.2.2.1 s.2.2.2.1 s.2.2.2.2.1 s.2.2.2.2.2.1 s.2.2.2.2.2.2.1 s.2.2.2.2.2.2.2.1 s.2.2.2.2.2.2.2.2) (m,b,n0,n1,n2,n3,n4,n5,n6) =
    some (.go (m+(R1.length:Int),n0,n1,n2,n3,n4,n5,n6)):=by
 simp only[List.length_append,List.length_cons] at hlen
 obtain⟨i,i0,i1,i2,i3,i4⟩:=bsearch (f:=fun f s=>L_c (pre++(x::(R++post))) a f s.1 s.2.1 s.2.2.1 s.2.2.2.1 s.2.2.2.2.1 s.2.2.2.2.2.1 s.2.2.2.2.2.2.1 s.2.2.2.2.2.2.2.1 s.2.2.2.2.2.2.2.2)
  (fun i j=>(i,j,n0,n1,n2,n3,n4,n5,n6)) (fun k=>decide (kc n2 (R.getD (k-m).toNat [])<kc n2 x)) (fun i=>Ex.go (i,n0,n1,n2,n3,n4,n5,n6)) (lo:=m) (hi:=b) (by omega)
  (fun i j h1 h2 h3 g=>by
   dsimp only
   simp only[L_c]
   have hk:((i+j) / 2-m).toNat<R.length:=by omega
   have e1:pre++(x::(R++post))=(pre++[x])++(R++post):=by simp
   have e2:ix (pre++(x::(R++post))) ((i+j) / 2)=some (R.getD ((i+j) / 2-m).toNat []):=by
    rw[e1,ix_in (d:=[]) (by simp;omega) (by simp;omega),show(((pre++[x]).length:Nat):Int)=m by simp;omega]
   rw[decide_eq_true h2,wrap_in (x:=i+j) (by omega) (by omega),shr_half (by omega) (by omega)]
   simp only[cond_true,Option.bind_some]
   rw[wrap_in (x:=(i+j) / 2) (by omega) (by omega),e2]
   simp only[Option.bind_some]
   rw[ix_mid ha]
   simp only[Option.bind_some]
   rw[V_e (hok _ (getD_mem hk)) hx]
   simp only[Option.bind_some,cmpV_lt]
   rw[wrap_in (x:=(i+j) / 2+1) (by omega) (by omega)])
  (fun i h1 h2 g=>by
   dsimp only
   simp only[L_c]
   rw[show decide (i<i)=false by simp]
   rfl) (fun s=>(s.2.1-s.1).toNat) (fun i j=>rfl)
 obtain⟨R1,R2,rfl,hl⟩:∃R1 R2,R=R1++R2∧(R1.length:Int)=i-m:=⟨R.take (i-m).toNat,R.drop (i-m).toNat,(List.take_append_drop _ _).symm,by simp;omega⟩
 simp only[List.length_append] at hlen hb
 refine⟨R1,R2,rfl,fun y hy=>?_,fun y hy=>?_,by rw[i4];simp;omega⟩
 ·have hp:0<R1.length:=List.length_pos_of_mem hy
  have h1:=of_decide_eq_true (i2 (by omega))
  have h2:=lo_all (d:=[]) hR y hy
  rw[show(i-1-m).toNat=R1.length-1 by omega] at h1
  omega
 ·have hp:0<R2.length:=List.length_pos_of_mem hy
  have h1:=of_decide_eq_false (i3 (by omega))
  have h2:=hi_all (d:=[]) hR y hy
  rw[show(i-m).toNat=R1.length by omega] at h1
  omega
theorem sm_s2 {pre L post:List (List Int)}{x:List Int}{a m:Int}(hx:OkR n2 x)(hok:∀r∈L,OkR n2 r)(hL:Srt (kc n2) L)(hlen:(pre++(L++x::post)).length≤2147483648)
  (ha:a=(pre.length:Int))(hm:m=(pre.length:Int)+(L.length:Int)) :
  ∃L1 L2,L=L1++L2∧(∀y∈L1,kc n2 y≤kc n2 x)∧(∀y∈L2,kc n2 x<kc n2 y)∧
   loopF (fun f s=>L_d m (pre++(L++x::post)) f s.1 s.2.1 s.2.2.1 s.2.2.2.1 s.2.2.2.2.1 s.2.2.2.2.2.1 s.2.2.2.2.2.2.1 s.2.2.2.2.2.2.2.1 s.2.2.2.2.2.2.2.2) (a,m,n0,n1,n2,n3,n4,n5,n6) =
    some (.go (a+(L1.length:Int),n0,n1,n2,n3,n4,n5,n6)):=by
 simp only[List.length_append,List.length_cons] at hlen
 obtain⟨i,i0,i1,i2,i3,i4⟩:=bsearch (f:=fun f s=>L_d m (pre++(L++x::post)) f s.1 s.2.1 s.2.2.1 s.2.2.2.1 s.2.2.2.2.1 s.2.2.2.2.2.1 s.2.2.2.2.2.2.1 s.2.2.2.2.2.2.2.1 s.2.2.2.2.2.2.2.2)
  (fun i j=>(i,j,n0,n1,n2,n3,n4,n5,n6)) (fun k=>!(decide (kc n2 x<kc n2 (L.getD (k-a).toNat [])))) (fun i=>Ex.go (i,n0,n1,n2,n3,n4,n5,n6)) (lo:=a) (hi:=m) (by omega)
  (fun i j h1 h2 h3 g=>by
   dsimp only
   simp only[L_d]
   have hk:((i+j) / 2-a).toNat<L.length:=by omega
   have e1:pre++(L++x::post)=(pre++L)++x::post:=by simp
   have e2:ix (pre++(L++x::post)) ((i+j) / 2)=some (L.getD ((i+j) / 2-a).toNat []):=by
    rw[ix_in (d:=[]) (by omega) (by omega),ha]
   have e3:ix (pre++(L++x::post)) m=some x:=by
    rw[e1];exact ix_mid (by simp;omega)
   rw[decide_eq_true h2,wrap_in (x:=i+j) (by omega) (by omega),shr_half (by omega) (by omega)]
   simp only[cond_true,Option.bind_some]
   rw[wrap_in (x:=(i+j) / 2) (by omega) (by omega),e2,e3]
   simp only[Option.bind_some]
   rw[V_e hx (hok _ (getD_mem hk))]
   simp only[Option.bind_some,cmpV_lt]
   rw[wrap_in (x:=(i+j) / 2+1) (by omega) (by omega)])
  (fun i h1 h2 g=>by
   dsimp only
   simp only[L_d]
   rw[show decide (i<i)=false by simp]
   rfl) (fun s=>(s.2.1-s.1).toNat) (fun i j=>rfl)
 obtain⟨L1,L2,rfl,hl⟩:∃L1 L2,L=L1++L2∧(L1.length:Int)=i-a:=⟨L.take (i-a).toNat,L.drop (i-a).toNat,(List.take_append_drop _ _).symm,by simp;omega⟩
 simp only[List.length_append] at hlen hm
 refine⟨L1,L2,rfl,fun y hy=>?_,fun y hy=>?_,by rw[i4];simp;omega⟩
 ·have hp:0<L1.length:=List.length_pos_of_mem hy
  have h1:=i2 (by omega)
  have h2:=lo_all (d:=[]) hL y hy
  rw[show(i-1-a).toNat=L1.length-1 by omega] at h1
  simp only[Bool.not_eq_true',decide_eq_false_iff_not] at h1
  omega
 ·have hp:0<L2.length:=List.length_pos_of_mem hy
  have h1:=i3 (by omega)
  have h2:=hi_all (d:=[]) hL y hy
  rw[show(i-a).toNat=L1.length by omega] at h1
  simp only[Bool.not_eq_false',decide_eq_true_eq] at h1
  omega
theorem sm_s4 {pre L R post:List (List Int)}{a m b mid s0 r0:Int}(hokL:∀r∈L,OkR n2 r)(hokR:∀r∈R,OkR n2 r)(hlen:(pre++(L++(R++post))).length≤2147483648)
  (ha:a=(pre.length:Int))(hm:m=(pre.length:Int)+(L.length:Int))(hb:b=(pre.length:Int)+(L.length:Int)+(R.length:Int))(hmid:mid=(a+b) / 2)
  (hs:(m>mid∧s0=mid+m-b∧r0=mid)∨(m≤mid∧s0=a∧r0=m)) :
  ∃i,s0≤i∧i≤r0∧(s0<i→kc n2 (L.getD (i-1-a).toNat [])≤kc n2 (R.getD (mid+m-1-(i-1)-m).toNat []))∧(i<r0→kc n2 (R.getD (mid+m-1-i-m).toNat [])<kc n2 (L.getD (i-a).toNat []))∧
   loopF (fun f s=>L_e m (pre++(L++(R++post))) mid f s.1 s.2.1 s.2.2.1 s.2.2.2.1 s.2.2.2.2.1 s.2.2.2.2.2.1 s.2.2.2.2.2.2.1 s.2.2.2.2.2.2.2.1 s.2.2.2.2.2.2.2.2) (s0,r0,n0,n1,n2,n3,n4,n5,n6) =
    some (.go (i,n0,n1,n2,n3,n4,n5,n6)):=by
 simp only[List.length_append] at hlen
 obtain⟨i,i0,i1,i2,i3,i4⟩:=bsearch (f:=fun f s=>L_e m (pre++(L++(R++post))) mid f s.1 s.2.1 s.2.2.1 s.2.2.2.1 s.2.2.2.2.1 s.2.2.2.2.2.1 s.2.2.2.2.2.2.1 s.2.2.2.2.2.2.2.1 s.2.2.2.2.2.2.2.2)
  (fun i j=>(i,j,n0,n1,n2,n3,n4,n5,n6)) (fun k=>!(decide (kc n2 (R.getD (mid+m-1-k-m).toNat [])<kc n2 (L.getD (k-a).toNat [])))) (fun i=>Ex.go (i,n0,n1,n2,n3,n4,n5,n6)) (lo:=s0) (hi:=r0) (by omega)
  (fun i j h1 h2 h3 g=>by
   dsimp only
   simp only[L_e]
   generalize hc:(i+j) / 2=c
   have hk:(c-a).toNat<L.length:=by omega
   have hk2:(mid+m-1-c-m).toNat<R.length:=by omega
   have e1:pre++(L++(R++post))=(pre++L)++(R++post):=by simp
   have e2:ix (pre++(L++(R++post))) c=some (L.getD (c-a).toNat []):=by
    rw[ix_in (d:=[]) (by omega) (by omega),ha]
   have e3:ix (pre++(L++(R++post))) (mid+m-1-c)=some (R.getD (mid+m-1-c-m).toNat []):=by
    rw[e1,ix_in (d:=[]) (by simp;omega) (by simp;omega),show(((pre++L).length:Nat):Int)=m by simp;omega]
   rw[decide_eq_true h2,wrap_in (x:=i+j) (by omega) (by omega),shr_half (by omega) (by omega)]
   simp only[cond_true,Option.bind_some]
   rw[hc,wrap_in (x:=mid) (by omega) (by omega),wrap_in (x:=mid+m) (by omega) (by omega),wrap_in (x:=mid+m-1) (by omega) (by omega),wrap_in (x:=c) (by omega) (by omega),
    wrap_in (x:=mid+m-1-c) (by omega) (by omega),e3,e2]
   simp only[Option.bind_some]
   rw[V_e (hokR _ (getD_mem hk2)) (hokL _ (getD_mem hk))]
   simp only[Option.bind_some,cmpV_lt]
   rw[wrap_in (x:=c+1) (by omega) (by omega)])
  (fun i h1 h2 g=>by
   dsimp only
   simp only[L_e]
   rw[show decide (i<i)=false by simp]
   rfl) (fun s=>(s.2.1-s.1).toNat) (fun i j=>rfl)
 refine⟨i,i0,i1,fun h=>?_,fun h=>?_,i4⟩
 ·have:=i2 h
  simp at this
  exact this
 ·have:=i3 h
  simp at this
  exact this
end
end Go.Proofs.YtkbcahfajbdgnaaGreatDoorX
namespace Go.Proofs.YtkbcahfajbdgnaaGreatDoorX
open Go Go.Proofs.YtkbcahfajbdgnaaGreatDoorT
set_option linter.all false
section
variable {n0:Int}{n1:ByteArray}{n2 n3 n4:Int}{n5:Bool}{n6:List Int}
theorem V_l:∀(N:Nat){pre L R post:List (List Int)}{a m b:Int},L.length+R.length≤N→L≠[]→R≠[]→(∀r∈L,OkR n2 r)→(∀r∈R,OkR n2 r)→Srt (kc n2) L→Srt (kc n2) R→
  (pre++(L++(R++post))).length≤2147483648→a=(pre.length:Int)→m=(pre.length:Int)+(L.length:Int)→b=(pre.length:Int)+(L.length:Int)+(R.length:Int)→
  F_m (pre++(L++(R++post))) a m b n0 n1 n2 n3 n4 n5 n6=some (pre++(srt (kc n2) (L++R)++post),n0,n1,n2,n3,n4,n5,n6)
 |0,pre,L,R,post,a,m,b,hN,hL,_,_,_,_,_,_,_,_,_=>absurd (List.length_eq_zero_iff.1 (by omega)) hL
 |N+1,pre,L,R,post,a,m,b,hN,hL,hR,hokL,hokR,sL,sR,hlen,ha,hm,hb=>(U_2a _ a m b n0 n1 n2 n3 n4 n5 n6).out (by
  have hlen0:=hlen
  simp only[List.length_append] at hlen
  have hL1:0<L.length:=List.length_pos_iff.2 hL
  have hR1:0<R.length:=List.length_pos_iff.2 hR
  rw[wrap_in (x:=m-a) (by omega) (by omega)]
  by_cases c1:L.length=1
  ·
   obtain⟨x,rfl⟩:=List.length_eq_one_iff.1 c1
   simp only[List.length_cons,List.length_nil] at hm hb hlen
   rw[show(m-a==1)=true by simp;omega]
   simp only[cond_true,List.singleton_append] at hlen0 ⊢
   obtain⟨R1,R2,rfl,k1,k2,k3⟩:=sm_s0 (n0:=n0) (n1:=n1) (n2:=n2) (n3:=n3) (n4:=n4) (n5:=n5) (n6:=n6) (pre:=pre) (post:=post) (x:=x) (a:=a) (m:=m) (b:=b) (hokL x (by simp)) hokR sR hlen0 ha (by omega) (by omega)
   rw[k3]
   simp only[joinK_go,J_2c]
   have:=sm_right (pre:=pre) (R:=R1) (q:=R2++post) (x:=x) (a:=a) (i:=m+(R1.length:Int)) (by simpa using hlen0) ha (by omega)
   rw[show pre++x::(R1++R2++post)=pre++x::(R1++(R2++post)) by simp,this]
   simp only[joinK_go,J_2f,joinK_ret]
   have e:R1++x::R2=srt (kc n2) (x::(R1++R2)):=by
    obtain⟨s1,s2,s3⟩:=sR.parts
    refine srt_of (Srt.app s1 (List.pairwise_cons.2 ⟨k2,s2⟩) fun y hy z hz=>?_) ?_
    ·rcases List.mem_cons.1 hz with rfl|hz
     ·have:=k1 y hy;omega
     ·exact s3 y hy z hz
    ·have h3:Same (kc n2) ([x]++R1) (R1++[x]):=Same.swap fun u hu v hv=>by
      rw[List.mem_singleton.1 hu]
      have:=k1 v hv;omega
     have:=Same.app h3 (Same.refl (key:=kc n2) R2)
     simpa using this
   rw[←e];simp
  ·rw[show(m-a==1)=false by simp;omega]
   simp only[cond_false,joinK_go,J_2b]
   rw[wrap_in (x:=b-m) (by omega) (by omega)]
   by_cases c2:R.length=1
   ·
    obtain⟨x,rfl⟩:=List.length_eq_one_iff.1 c2
    simp only[List.length_cons,List.length_nil] at hm hb hlen
    rw[show(b-m==1)=true by simp;omega]
    simp only[cond_true,List.singleton_append] at hlen0 ⊢
    obtain⟨L1,L2,rfl,k1,k2,k3⟩:=sm_s2 (n0:=n0) (n1:=n1) (n2:=n2) (n3:=n3) (n4:=n4) (n5:=n5) (n6:=n6) (pre:=pre) (post:=post) (x:=x) (a:=a) (m:=m) (hokR x (by simp)) hokL sL hlen0 ha (by omega)
    rw[k3]
    simp only[joinK_go,J_2h]
    simp only[List.length_append] at hm
    have:=sm_left (pre:=pre++L1) (L:=L2) (q:=post) (x:=x) (m:=m) (i:=a+(L1.length:Int)) (by simpa using hlen0) (by simp;omega) (by simp;omega)
    rw[show pre++(L1++L2++x::post)=(pre++L1)++(L2++x::post) by simp,this]
    simp only[joinK_go,J_2i,joinK_ret]
    have e:L1++x::L2=srt (kc n2) (L1++L2++[x]):=by
     obtain⟨s1,s2,s3⟩:=sL.parts
     refine srt_of (Srt.app s1 (List.pairwise_cons.2 ⟨fun z hz=>by have:=k2 z hz;omega,s2⟩) fun y hy z hz=>?_) ?_
     ·rcases List.mem_cons.1 hz with rfl|hz
      ·exact k1 y hy
      ·exact s3 y hy z hz
     ·have h3:Same (kc n2) (L2++[x]) ([x]++L2):=Same.swap fun u hu v hv=>by
       rw[List.mem_singleton.1 hv]
       have:=k2 u hu;omega
      have:=Same.app (Same.refl (key:=kc n2) L1) h3
      simpa using this
    rw[←e];simp
   ·rw[show(b-m==1)=false by simp;omega]
    simp only[cond_false,joinK_go,J_2g]
    rw[wrap_in (x:=a+b) (by omega) (by omega),shr_half (by omega) (by omega)]
    simp only[Option.bind_some]
    generalize hmid:(a+b) / 2=mid
    rw[wrap_in (x:=mid) (by omega) (by omega),wrap_in (x:=mid+m) (by omega) (by omega),wrap_in (x:=mid+m-b) (by omega) (by omega)]
    obtain⟨s0,r0,hs,e0⟩:∃s0 r0,((m>mid∧s0=mid+m-b∧r0=mid)∨(m≤mid∧s0=a∧r0=m))∧
      (bif decide (m>mid) then some (Ex.go (mid+m-b,mid)) else some (Ex.go (a,m)):Option (Ex (List (List Int)×Int×ByteArray×Int×Int×Int×Bool×List Int) (Int×Int)))=some (.go (s0,r0)):=by
     by_cases h:m>mid
     ·exact⟨_,_,.inl ⟨h,rfl,rfl⟩,by rw[decide_eq_true h];rfl⟩
     ·exact⟨_,_,.inr ⟨by omega,rfl,rfl⟩,by rw[decide_eq_false h];rfl⟩
    rw[e0]
    simp only[joinK_go,J_2j]
    obtain⟨i,i0,i1,f1,f2,hi⟩:=sm_s4 (n0:=n0) (n1:=n1) (n2:=n2) (n3:=n3) (n4:=n4) (n5:=n5) (n6:=n6) (post:=post) hokL hokR hlen0 ha hm hb hmid.symm hs
    rw[hi]
    simp only[joinK_go,J_2k,joinK_and]
    rw[wrap_in (x:=mid) (by omega) (by omega),wrap_in (x:=mid+m) (by omega) (by omega),wrap_in (x:=mid+m-i) (by omega) (by omega)]
    obtain⟨L1,L2,rfl,hl1⟩:∃L1 L2,L=L1++L2∧(L1.length:Int)=i-a:=⟨L.take (i-a).toNat,L.drop (i-a).toNat,(List.take_append_drop _ _).symm,by simp;omega⟩
    obtain⟨R1,R2,rfl,hr1⟩:∃R1 R2,R=R1++R2∧(R1.length:Int)=mid-i:=⟨R.take (mid-i).toNat,R.drop (mid-i).toNat,(List.take_append_drop _ _).symm,by simp;omega⟩
    simp only[List.length_append] at hlen hm hb hN hL1 hR1 c1 c2
    have h1:∀y∈R1,∀x∈L2,kc n2 y<kc n2 x:=by
     intro y hy x hx
     have p1:=List.length_pos_of_mem hy
     have p2:=List.length_pos_of_mem hx
     have q1:=lo_all (d:=[]) sR y hy
     have q2:=hi_all (d:=[]) sL x hx
     have q3:=f2 (by omega)
     rw[show(mid+m-1-i-m).toNat=R1.length-1 by omega,show(i-a).toNat=L1.length by omega] at q3
     omega
    have h2:∀x∈L1,∀y∈R2,kc n2 x≤kc n2 y:=by
     intro x hx y hy
     have p1:=List.length_pos_of_mem hx
     have p2:=List.length_pos_of_mem hy
     have q1:=lo_all (d:=[]) sL x hx
     have q2:=hi_all (d:=[]) sR y hy
     have q3:=f1 (by omega)
     rw[show(i-1-a).toNat=L1.length-1 by omega,show(mid+m-1-(i-1)-m).toNat=R1.length by omega] at q3
     omega
    obtain⟨sL1,sL2,sL3⟩:=sL.parts
    obtain⟨sR1,sR2,sR3⟩:=sR.parts
    have rot:J_g m (pre++(L1++L2++(R1++R2++post))) mid i n0 n1 n2 n3 n4 n5 n6 (decide (i<m)&&decide (m<mid+m-i))=some (.go (pre++(L1++(R1++(L2++(R2++post)))),n0,n1,n2,n3,n4,n5,n6)):=by
     simp only[J_g]
     rw[wrap_in (x:=mid) (by omega) (by omega),wrap_in (x:=mid+m) (by omega) (by omega),wrap_in (x:=mid+m-i) (by omega) (by omega)]
     by_cases h:i<m∧m<mid+m-i
     ·rw[decide_eq_true h.1,decide_eq_true h.2]
      simp only[Bool.and_self,cond_true]
      have:=V_28 (n0:=n0) (n1:=n1) (n2:=n2) (n3:=n3) (n4:=n4) (n5:=n5) (n6:=n6) (pre:=pre++L1) (A:=L2) (B:=R1) (post:=R2++post) (a:=i) (m:=m) (b:=mid+m-i) (by simp;omega)
       (by intro h;subst h;simp at hm;omega) (by intro h;subst h;simp at hr1;omega) (by simp;omega) (by simp;omega) (by simp;omega)
      rw[show pre++(L1++L2++(R1++R2++post))=pre++L1++(L2++(R1++(R2++post))) by simp,this]
      simp
     ·rw[show(decide (i<m)&&decide (m<mid+m-i))=false by simp;omega]
      simp only[cond_false]
      rcases(show L2.length=0∨R1.length=0 by omega) with h|h
      ·rw[List.length_eq_zero_iff.1 h];simp
      ·rw[List.length_eq_zero_iff.1 h];simp
    rw[rot]
    simp only[joinK_go,J_2l,joinK_and]
    rw[wrap_in (x:=mid) (by omega) (by omega)]
    have lft:J_f a mid i (pre++(L1++(R1++(L2++(R2++post))))) n0 n1 n2 n3 n4 n5 n6 (decide (a<i)&&decide (i<mid))=some (.go (pre++(srt (kc n2) (L1++R1)++(L2++(R2++post))),n0,n1,n2,n3,n4,n5,n6)):=by
     simp only[J_f]
     rw[wrap_in (x:=mid) (by omega) (by omega)]
     by_cases h:a<i∧i<mid
     ·rw[decide_eq_true h.1,decide_eq_true h.2]
      simp only[Bool.and_self,cond_true]
      rw[V_l N (pre:=pre) (L:=L1) (R:=R1) (post:=L2++(R2++post)) (by omega) (by intro h;subst h;simp at hl1;omega) (by intro h;subst h;simp at hr1;omega) (fun r hr=>hokL r (by simp[hr])) (fun r hr=>hokR r (by simp[hr])) sL1 sR1
       (by simp;omega) ha (by omega) (by omega)]
      simp
     ·rw[show(decide (a<i)&&decide (i<mid))=false by simp;omega]
      simp only[cond_false]
      rcases(show L1.length=0∨R1.length=0 by omega) with h|h
      ·rw[List.length_eq_zero_iff.1 h];simp[srt_self sR1]
      ·rw[List.length_eq_zero_iff.1 h];simp[srt_self sL1]
    rw[lft]
    simp only[joinK_go,J_2d,joinK_and]
    rw[wrap_in (x:=mid) (by omega) (by omega),wrap_in (x:=mid+m) (by omega) (by omega),wrap_in (x:=mid+m-i) (by omega) (by omega)]
    simp only[J_2e]
    rw[wrap_in (x:=mid) (by omega) (by omega),wrap_in (x:=mid+m) (by omega) (by omega),wrap_in (x:=mid+m-i) (by omega) (by omega)]
    rw[←srt_halves sL sR h1 h2]
    have hsl:(srt (kc n2) (L1++R1)).length=L1.length+R1.length:=by rw[srt_len];simp
    by_cases h:mid<mid+m-i∧mid+m-i<b
    ·rw[decide_eq_true h.1,decide_eq_true h.2]
     simp only[Bool.and_self,cond_true]
     have:=V_l N (pre:=pre++srt (kc n2) (L1++R1)) (L:=L2) (R:=R2) (post:=post) (a:=mid) (m:=mid+m-i) (b:=b) (by omega) (by intro h;subst h;simp at hm;omega) (by intro h;subst h;simp at hb;omega) (fun r hr=>hokL r (by simp[hr])) (fun r hr=>hokR r (by simp[hr])) sL2 sR2
      (by simp[hsl];omega) (by simp[hsl];omega) (by simp[hsl];omega) (by simp[hsl];omega)
     rw[show pre++(srt (kc n2) (L1++R1)++(L2++(R2++post)))=pre++srt (kc n2) (L1++R1)++(L2++(R2++post)) by simp,this]
     simp
    ·rw[show(decide (mid<mid+m-i)&&decide (mid+m-i<b))=false by simp;omega]
     simp only[cond_false]
     rcases(show L2.length=0∨R2.length=0 by omega) with h|h
     ·rw[List.length_eq_zero_iff.1 h];simp[srt_self sR2]
     ·rw[List.length_eq_zero_iff.1 h];simp[srt_self sL2])
end
end Go.Proofs.YtkbcahfajbdgnaaGreatDoorX
namespace Go.Proofs.YtkbcahfajbdgnaaGreatDoorX
open Go Go.Proofs.YtkbcahfajbdgnaaGreatDoorT
set_option linter.all false
inductive BL (key:List Int→Int) (bs:Nat):List (List Int)→List (List Int)→Prop where
 |last (xs:List (List Int)):xs.length≤bs→BL key bs xs (srt key xs)
 |step (A xs ys:List (List Int)):A.length=bs→BL key bs xs ys→BL key bs (A++xs) (srt key A++ys)
theorem BL.len {key:List Int→Int}{bs:Nat}{xs ys:List (List Int)}(h:BL key bs xs ys):ys.length=xs.length:=by
 induction h with
 |last xs _=>exact srt_len xs
 |step A xs ys _ _ ih=>simp[srt_len,ih]
theorem BL.cut {key:List Int→Int}{bs:Nat}{xs ys:List (List Int)}(h:BL key bs xs ys)(hl:bs≤xs.length):∃A x y,xs=A++x∧A.length=bs∧ys=srt key A++y∧BL key bs x y:=by
 cases h with
 |last _ h=>exact⟨xs,[],[],by simp,by omega,by simp,BL.last [] (by simp)⟩
 |step A x y h1 h2=>exact⟨A,x,y,rfl,h1,rfl,h2⟩
theorem BL.all {key:List Int→Int}{bs:Nat}{xs ys:List (List Int)}(h:BL key bs xs ys)(hl:xs.length≤bs):ys=srt key xs:=by
 cases h with
 |last _ h=>rfl
 |step A x y h1 h2=>
  simp at hl
  have hx:x=[]:=List.length_eq_zero_iff.1 (by omega)
  subst hx
  have:=h2.len
  have hy:y=[]:=List.length_eq_zero_iff.1 (by simpa using this)
  subst hy
  simp
theorem srt_two {T:Type}{key:T→Int}(A B:List T):srt key (srt key A++srt key B)=srt key (A++B):=
 srt_of (srt_ok _).1 ((Same.app (srt_ok A).2.1 (srt_ok B).2.1).trans (srt_ok _).2.1)
section
variable {n0:Int}{n1:ByteArray}{n2 n3 n4:Int}{n5:Bool}{n6:List Int}
theorem V_27 {xs:List (List Int)}{n:Int}(hok:∀r∈xs,OkR n2 r)(hlen:xs.length≤2147483648)(hn:n=(xs.length:Int)){bs:Nat}{ys:List (List Int)}(hbs:0<bs)(h:BL (kc n2) bs xs ys) :
  loopF (fun f s=>L_2n n f s.1 s.2.1 s.2.2.1 s.2.2.2.1 s.2.2.2.2.1 s.2.2.2.2.2.1 s.2.2.2.2.2.2.1 s.2.2.2.2.2.2.2.1 s.2.2.2.2.2.2.2.2) ((bs:Int),ys,n0,n1,n2,n3,n4,n5,n6) =
   some (srt (kc n2) xs,n0,n1,n2,n3,n4,n5,n6):=by
 refine loopF_ind (fun s=>(n-s.1).toNat) (fun s=>∃(bs:Nat) (ys:List (List Int)),0<bs∧BL (kc n2) bs xs ys∧s=((bs:Int),ys,n0,n1,n2,n3,n4,n5,n6)) (fun _=>(srt (kc n2) xs,n0,n1,n2,n3,n4,n5,n6)) ?_ _ ⟨bs,ys,hbs,h,rfl⟩
 clear hbs h bs ys
 rintro s ⟨bs,ys,hbs,h,rfl⟩ g hg
 dsimp only
 simp only[L_2n]
 by_cases hc:(bs:Int)<n
 ·rw[decide_eq_true hc]
  simp only[cond_true]
  rw[wrap_in (x:=2*(bs:Int)) (by omega) (by omega)]
  obtain⟨r,e1,D,xr,yr,rfl,hD,hb,hx,hl,hz⟩:=loopF_tail (f:=fun f s=>L_2o n (bs:Int) f s.1 s.2.1 s.2.2.1 s.2.2.2.1 s.2.2.2.2.1 s.2.2.2.2.2.1 s.2.2.2.2.2.2.1 s.2.2.2.2.2.2.2.1 s.2.2.2.2.2.2.2.2.1 s.2.2.2.2.2.2.2.2.2)
   (fun s=>(n-s.1).toNat)
   (fun s=>∃(D xr yr:List (List Int)),s=((D.length:Int),(D.length:Int)+2*(bs:Int),D++yr,n0,n1,n2,n3,n4,n5,n6)∧BL (kc n2) bs xr yr∧(∀z∈xr,z∈xs)∧D.length+xr.length=xs.length∧(∀zs,BL (kc n2) (2*bs) xr zs→BL (kc n2) (2*bs) xs (D++zs)))
   (fun r=>∃(D xr yr:List (List Int)),r=Ex.go ((D.length:Int),D++yr,n0,n1,n2,n3,n4,n5,n6)∧BL (kc n2) bs xr yr∧(∀z∈xr,z∈xs)∧D.length+xr.length=xs.length∧xr.length<2*bs∧(∀zs,BL (kc n2) (2*bs) xr zs→BL (kc n2) (2*bs) xs (D++zs)))
   (by
    rintro s ⟨D,xr,yr,rfl,hb,hx,hl,hz⟩
    dsimp only
    simp only[L_2o]
    by_cases hc2:(D.length:Int)+2*(bs:Int)≤n
    ·right
     rw[decide_eq_true hc2]
     simp only[cond_true]
     obtain⟨A,x1,y1,rfl,hA,rfl,hb1⟩:=hb.cut (by omega)
     simp only[List.length_append] at hl
     obtain⟨B,x2,y2,rfl,hB,rfl,hb2⟩:=hb1.cut (by omega)
     simp only[List.length_append] at hl
     have hy2:=hb2.len
     rw[wrap_in (x:=(D.length:Int)+(bs:Int)) (by omega) (by omega),wrap_in (x:=2*(bs:Int)) (by omega) (by omega),wrap_in (x:=(D.length:Int)+2*(bs:Int)+2*(bs:Int)) (by omega) (by omega)]
     rw[V_l _ (Nat.le_refl _) (by intro e;have:=congrArg List.length e;rw[srt_len] at this;simp only[List.length_nil] at this;omega) (by intro e;have:=congrArg List.length e;rw[srt_len] at this;simp only[List.length_nil] at this;omega)
      (fun r hr=>hok r (hx r (by simp[srt_mem.1 hr]))) (fun r hr=>hok r (hx r (by simp[srt_mem.1 hr]))) (srt_ok _).1 (srt_ok _).1 (by simp[srt_len];omega) rfl (by rw[srt_len];omega) (by rw[srt_len,srt_len];omega)]
     simp only[Option.bind_some]
     have hlS:(srt (kc n2) (srt (kc n2) A++srt (kc n2) B)).length=2*bs:=by simp[srt_len];omega
     refine⟨_,⟨D++srt (kc n2) (srt (kc n2) A++srt (kc n2) B),x2,y2,?_,hb2,fun z hz=>hx z (by simp[hz]),by simp[hlS];omega,fun zs hzs=>?_⟩,?_,fun g=>rfl⟩
     ·simp[hlS]
     ·rw[srt_two,List.append_assoc]
      refine hz _ ?_
      rw[←List.append_assoc]
      exact BL.step _ _ _ (by simp;omega) hzs
     ·dsimp only;omega
    ·left
     rw[decide_eq_false hc2]
     exact⟨_,⟨D,xr,yr,rfl,hb,hx,hl,by omega,hz⟩,fun g=>rfl⟩)
   (0,2*(bs:Int),ys,n0,n1,n2,n3,n4,n5,n6) ⟨[],xs,ys,by simp,h,fun z hz=>hz,by simp,fun zs hz=>hz⟩
  rw[e1]
  simp only[joinK_go,J_2a]
  rw[wrap_in (x:=(D.length:Int)+(bs:Int)) (by omega) (by omega)]
  have fin:∀zs,BL (kc n2) (2*bs) xs zs→J_e (bs:Int) g zs n0 n1 n2 n3 n4 n5 n6=some (srt (kc n2) xs,n0,n1,n2,n3,n4,n5,n6):=by
   intro zs hzs
   simp only[J_e]
   rw[wrap_in (x:=(bs:Int)*2) (by omega) (by omega)]
   refine hg _ ⟨2*bs,zs,by omega,hzs,by rw[show(((2*bs:Nat)):Int)=(bs:Int)*2 by omega]⟩ ?_
   dsimp only;omega
  have hyr:=hD.len
  by_cases hc3:(D.length:Int)+(bs:Int)<n
  ·rw[decide_eq_true hc3]
   simp only[cond_true]
   obtain⟨A,x1,y1,rfl,hA,rfl,hb1⟩:=hD.cut (by omega)
   simp only[List.length_append] at hx hl
   have:=hb1.all (by omega)
   subst this
   have e0:D++(srt (kc n2) A++srt (kc n2) x1)=D++(srt (kc n2) A++(srt (kc n2) x1++[])):=by simp
   rw[e0,V_l _ (Nat.le_refl _) (by intro e;have:=congrArg List.length e;rw[srt_len] at this;simp only[List.length_nil] at this;omega) (by intro e;have:=congrArg List.length e;rw[srt_len] at this;simp only[List.length_nil] at this;omega)
      (fun r hr=>hok r (hb r (by simp[srt_mem.1 hr]))) (fun r hr=>hok r (hb r (by simp[srt_mem.1 hr]))) (srt_ok _).1 (srt_ok _).1 (by simp[srt_len];omega) rfl (by rw[srt_len];omega) (by rw[srt_len,srt_len];omega)]
   simp only[Option.bind_some,joinK_go]
   refine fin _ ?_
   rw[srt_two,List.append_nil]
   exact hz _ (BL.last _ (by simp;omega))
  ·rw[decide_eq_false hc3]
   simp only[cond_false,joinK_go]
   have:=hD.all (by omega)
   subst this
   exact fin _ (hz _ (BL.last _ (by omega)))
 ·rw[decide_eq_false hc]
  simp only[cond_false]
  rw[h.all (by omega)]
theorem V_3g {xs:List (List Int)}{n:Int}(hok:∀r∈xs,OkR n2 r)(hlen:xs.length≤2147483648)(hn:n=(xs.length:Int)) :
  F_38 xs n n0 n1 n2 n3 n4 n5 n6=some (srt (kc n2) xs,n0,n1,n2,n3,n4,n5,n6):=
 (U_28 xs n n0 n1 n2 n3 n4 n5 n6).out (by
  refine Exists.elim (loopF_tail (f:=fun f s=>L_2m n f s.1 s.2.1 s.2.2.1 s.2.2.2.1 s.2.2.2.2.1 s.2.2.2.2.2.1 s.2.2.2.2.2.2.1 s.2.2.2.2.2.2.2.1 s.2.2.2.2.2.2.2.2.1 s.2.2.2.2.2.2.2.2.2)
   (fun s=>(n-s.1).toNat)
   (fun s=>∃(D xr:List (List Int)),s=((D.length:Int),(D.length:Int)+20,D++xr,n0,n1,n2,n3,n4,n5,n6)∧(∀z∈xr,z∈xs)∧D.length+xr.length=xs.length∧(∀zs,BL (kc n2) 20 xr zs→BL (kc n2) 20 xs (D++zs)))
   (fun r=>∃(D xr:List (List Int)),r=Ex.go ((D.length:Int),D++xr,n0,n1,n2,n3,n4,n5,n6)∧(∀z∈xr,z∈xs)∧D.length+xr.length=xs.length∧xr.length<20∧(∀zs,BL (kc n2) 20 xr zs→BL (kc n2) 20 xs (D++zs)))
   ?_ (0,20,xs,n0,n1,n2,n3,n4,n5,n6) ⟨[],xs,by simp,fun z hz=>hz,by simp,fun zs hz=>hz⟩) ?_
  ·rintro s ⟨D,xr,rfl,hx,hl,hz⟩
   dsimp only
   simp only[L_2m]
   by_cases hc:(D.length:Int)+20≤n
   ·right
    rw[decide_eq_true hc]
    simp only[cond_true]
    obtain⟨A,x1,rfl,hA⟩:∃A x1,xr=A++x1∧A.length=20:=⟨xr.take 20,xr.drop 20,(List.take_append_drop _ _).symm,by simp;omega⟩
    simp only[List.length_append] at hl
    rw[V_17 (fun r hr=>hok r (hx r (by simp[hr]))) (by simp;omega) rfl (by omega),wrap_in (x:=(D.length:Int)+20+20) (by omega) (by omega)]
    simp only[Option.bind_some]
    refine⟨_,⟨D++srt (kc n2) A,x1,by simp[srt_len,hA],fun z hz=>hx z (by simp[hz]),by simp[srt_len];omega,fun zs hzs=>?_⟩,?_,fun g=>rfl⟩
    ·rw[List.append_assoc]
     exact hz _ (BL.step _ _ _ hA hzs)
    ·dsimp only;omega
   ·left
    rw[decide_eq_false hc]
    exact⟨_,⟨D,xr,rfl,hx,hl,by omega,hz⟩,fun g=>rfl⟩
  ·rintro r ⟨e1,D,xr,rfl,hx,hl,hl2,hz⟩
   rw[e1]
   simp only[joinK_go,J_29]
   have e0:D++xr=D++(xr++[]):=by simp
   rw[e0,V_17 (fun r hr=>hok r (hx r hr)) (by simp;omega) rfl (by omega)]
   simp only[Option.bind_some,List.append_nil]
   exact V_27 (bs:=20) hok hlen hn (by omega) (hz _ (BL.last _ (by omega))))
theorem V_1m {xs:List (List Int)}(hok:∀r∈xs,OkR n2 r)(hlen:xs.length≤2147483648) :
  F_36 xs n0 n1 n2 n3 n4 n5 n6=some (srt (kc n2) xs,n0,n1,n2,n3,n4,n5,n6):=
 (U_25 xs n0 n1 n2 n3 n4 n5 n6).out (by rw[V_3g hok hlen rfl];rfl)
end
end Go.Proofs.YtkbcahfajbdgnaaGreatDoorX
namespace Go.Proofs.YtkbcahfajbdgnaaGreatDoorX
open Go Go.Proofs.YtkbcahfajbdgnaaGreatDoorT PT
set_option linter.all false
abbrev Rows:=List (List Int)
structure BRows (x:List Rows):Prop where
 len:x.length≤1073741824
 tabs:∀t∈x,t.length≤1073741824
 rows:∀t∈x,∀r∈t,r.length≤1073741824
def valOk (x:Int):Bool:=okIn x (-1000000) 1000000||decide (x=-2000000)
@[simp] theorem V_3k (x:Int):F_2i x=some (valOk x):=(U_1c x).out (by
 simp only[V_r,Option.bind_some,joinK_bif,joinK_go,J_1v,valOk]
 cases okIn x (-1000000) 1000000 <;> simp[beq_dec])
@[simp] theorem V_3e (x:Int):F_42 x=some (valOk x):=(U_40 x).out (by
 simp only[V_1e,Option.bind_some,joinK_bif,joinK_go,J_4o,valOk]
 cases okIn x (-1000000) 1000000 <;> simp[beq_dec])
theorem V_2m {l:List Int}(hb:l.length≤1073741824):F_34 l=some (fint (findI (fun x=>!valOk x) l 0)):=(U_22 l).out (by
 have e:=loop_find (f:=fun f s=>L_1a l f s.1 s.2) l (fun x=>!valOk x) (fun i=>(i:Int))
  (fun i x v g hx=>by
   have l1:=(List.getElem?_eq_some_iff.1 hx).1
   have h1:F_2a x=some (!valOk x):=(U_x x).out (by simp)
   simp only[L_1a,lt_nat hx,cond_true,ix_some hx,Option.bind_some,h1,wrap_nat (show i<9223372036854775807 by omega)])
  (fun v g=>by simp[L_1a]) 0
 rw[e]
 cases findI (fun x=>!valOk x) l 0 <;> simp[J_26,fint])
theorem V_2f {l:List Int}(hb:l.length≤1073741824):F_2w l=some (!l.all valOk):=(U_1t l).out (by
 simp only[V_2m hb,Option.bind_some,fint_ge]
 rw[List.all_eq_not_any_not];simp)
def rowP (w:Int) (r:List Int):Bool:=decide ((r.length:Int)=w)&&r.all valOk
def storeP (s:List Tb) (i:Nat) (t:Rows):Bool:=match s[i]? with
 |some tb=>decide (t.length≤40)&&t.all (rowP tb.2.1)
 |none=>false
def storeOk (s:List Tb) (x:List Rows):Bool:=schemaOk s&&decide (x.length=s.length)&&allI (storeP s) x 0
theorem V_p {s:List STable}{x:List Rows}(hs:BSch s)(hb:BRows x):F_j s x=some (storeOk s x):=(U_w s x).out (by
 simp only[V_o hs,Option.bind_some,joinK_bif,joinK_go,J_1c,storeOk]
 cases h1:schemaOk s with
 |false=>simp
 |true=>
  by_cases h2:x.length=s.length
  ·have e:=loop_chk (f:=fun f z=>L_r s x f z.1 z.2) x (storeP s) false
    (fun i t v g hx=>by
     have l1:=(List.getElem?_eq_some_iff.1 hx).1
     have hl:=hb.len
     have ht:=hb.tabs t (mem_of_get hx)
     have hy:s[i]?=some s[i]:=List.getElem?_eq_getElem (by omega)
     have e2:=loop_chk (f:=fun f z=>L_s s (i:Int) t f z.1 z.2) t (fun _=>rowP s[i].2.1) (Ex.ret false)
      (fun j r v g hr=>by
       have l2:=(List.getElem?_eq_some_iff.1 hr).1
       have hrl:=hb.rows t (mem_of_get hx) r (mem_of_get hr)
       simp only[L_s,lt_nat hr,cond_true,ix_some hr,Option.bind_some,ix_some hy,V_2f hrl,J_1f,wrap_nat (show j<9223372036854775807 by omega),rowP,bne_dec]
       by_cases h3:(r.length:Int)=s[i].2.1
       ·cases h4:r.all valOk <;> simp[h3]
       ·simp[h3])
      (fun v g=>by simp[L_s]) v
     simp only[L_r,lt_nat hx,cond_true,ix_some hx,Option.bind_some,e2,allI_const,J_1e,wrap_nat (show i<9223372036854775807 by omega),storeP,hy]
     by_cases h3:t.length≤40
     ·have:decide ((t.length:Int)>40)=false:=by simp;omega
      rw[this]
      cases h4:t.all (rowP s[i].2.1) <;> simp[h3]
     ·have:decide ((t.length:Int)>40)=true:=by simp;omega
      rw[this]
      simp[h3])
    (fun v g=>by simp[L_r]) false
   rw[e]
   simp only[h2,bne_dec,decide_true,Bool.not_true,cond_false,Bool.true_and]
   cases allI (storeP s) x 0 <;> simp[J_1d]
  ·have:((x.length:Int) != (s.length:Int))=true:=by simp;omega
   simp[this,h2])
theorem V_1c {s:List STable}{x:List Rows}(hs:BSch s)(hb:BRows x):F_1o s x=some (storeOk s x):=(U_32 s x).out (by
 simp only[V_h hs,Option.bind_some,joinK_bif,joinK_go,J_3n,storeOk]
 cases h1:schemaOk s with
 |false=>simp
 |true=>
  by_cases h2:x.length=s.length
  ·have e:=loop_chk (f:=fun f z=>L_1q s x f z.1 z.2) x (storeP s) false
    (fun i t v g hx=>by
     have l1:=(List.getElem?_eq_some_iff.1 hx).1
     have hl:=hb.len
     have ht:=hb.tabs t (mem_of_get hx)
     have hy:s[i]?=some s[i]:=List.getElem?_eq_getElem (by omega)
     have e2:=loop_chk (f:=fun f z=>L_1r s x (i:Int) f z.1 z.2) t (fun _=>rowP s[i].2.1) (Ex.ret false)
      (fun j r v g hr=>by
       have l2:=(List.getElem?_eq_some_iff.1 hr).1
       have hrl:=hb.rows t (mem_of_get hx) r (mem_of_get hr)
       have e3:=loop_chk (f:=fun f z=>L_1s x (i:Int) (j:Int) f z.1 z.2) r (fun _=>valOk) (Ex.ret (Ex.ret false))
        (fun k c v g hc=>by
         have l3:=(List.getElem?_eq_some_iff.1 hc).1
         simp only[L_1s,ix_some hx,Option.bind_some,ix_some hr,lt_nat hc,cond_true,ix_some hc,V_3e,wrap_nat (show k<9223372036854775807 by omega)]
         cases valOk c <;> simp)
        (fun v g=>by simp[L_1s,ix_some hx,ix_some hr]) v
       simp only[L_1r,ix_some hx,Option.bind_some,lt_nat hr,cond_true,ix_some hr,ix_some hy,e3,allI_const,J_3q,wrap_nat (show j<9223372036854775807 by omega),rowP,bne_dec]
       by_cases h3:(r.length:Int)=s[i].2.1
       ·cases h4:r.all valOk <;> simp[h3]
       ·simp[h3])
      (fun v g=>by simp[L_1r,ix_some hx]) v
     have hls:decide ((i:Int)<(s.length:Int))=true:=by simp;omega
     simp only[L_1q,hls,cond_true,ix_some hx,Option.bind_some,e2,allI_const,J_3p,wrap_nat (show i<9223372036854775807 by omega),storeP,hy]
     by_cases h3:t.length≤40
     ·have:decide ((t.length:Int)>40)=false:=by simp;omega
      rw[this]
      cases h4:t.all (rowP s[i].2.1) <;> simp[h3]
     ·have:decide ((t.length:Int)>40)=true:=by simp;omega
      rw[this]
      simp[h3])
    (fun v g=>by simp[L_1q,h2]) false
   rw[e]
   simp only[h2,bne_dec,decide_true,Bool.not_true,cond_false,Bool.true_and]
   cases allI (storeP s) x 0 <;> simp[J_3o]
  ·have:((x.length:Int) != (s.length:Int))=true:=by simp;omega
   simp[this,h2])
end Go.Proofs.YtkbcahfajbdgnaaGreatDoorX
namespace Go.Proofs.YtkbcahfajbdgnaaGreatDoorX
open Go Go.Proofs.YtkbcahfajbdgnaaGreatDoorT PT
set_option linter.all false
theorem V_2g {n:Nat}(h:n≤2147483648):F_2y n=some []:=(U_1w n).out (by
 have w:IntKind.i64.wrap ((n:Int)-IntKind.i64.wrap (0-0))=n:=by rw[show IntKind.i64.wrap (0-0)=0 by rw[wrap_sml] <;> omega,wrap_sml] <;> omega
 rw[w,mkx_nat h]
 simp[tkx])
theorem V_2b {l:List (List (List Int))}(hl:l.length≤1000)(hb:l.flatten.length≤1073741824):F_2r l=some l.flatten:=(U_1o l).out (by
 have e0:=loop_fold (f:=fun f s=>L_10 l f s.1 s.2) (fun i (a:Int)=>(a,(i:Int))) l (fun i a=>0≤a∧a+(l.drop i).flatten.length=l.flatten.length) (fun i x a=>a+x.length)
  (fun i x a g hx hi=>by
   have l1:=(List.getElem?_eq_some_iff.1 hx).1
   have:l.drop i=x::l.drop (i+1):=by rw[List.drop_eq_getElem_cons l1];congr 1;exact(List.getElem?_eq_some_iff.1 hx).2
   rw[this] at hi
   simp only[List.flatten_cons,List.length_append] at hi
   have w:IntKind.i64.wrap (a+(x.length:Int))=a+x.length:=by rw[wrap_sml] <;> omega
   have d:decide (a+(x.length:Int)<0)=false:=by simp;omega
   simp only[L_10,lt_nat hx,cond_true,ix_some hx,Option.bind_some,wrap_nat (show i<9223372036854775807 by omega),w,d,cond_false,joinK_go,J_22])
  (fun i x a hx hi=>by
   have l1:=(List.getElem?_eq_some_iff.1 hx).1
   have:l.drop i=x::l.drop (i+1):=by rw[List.drop_eq_getElem_cons l1];congr 1;exact(List.getElem?_eq_some_iff.1 hx).2
   rw[this] at hi
   simp only[List.flatten_cons,List.length_append] at hi
   omega) (fun a g _=>by simp[L_10]) 0 (by simp)
 rw[foldI_const (fun (x:List (List Int)) (a:Int)=>a+(x.length:Int))] at e0
 have hsum:∀(l:List (List (List Int))) (a:Int),l.foldl (fun a x=>a+(x.length:Int)) a=a+l.flatten.length:=by
  intro l
  induction l with
  |nil=>simp
  |cons x l ih=>intro a;simp only[List.foldl_cons,ih,List.flatten_cons,List.length_append];omega
 rw[hsum,Int.zero_add] at e0
 rw[show((0:Nat):Int)=0 from rfl] at e0
 rw[e0]
 simp only[joinK_go,J_21,V_2g (show l.flatten.length≤2147483648 by omega),Option.bind_some]
 have e:=loop_flat (f:=fun f s=>L_11 l f s.1 s.2) l (by omega)
  (fun i x a g hx ha=>by
   have l1:=(List.getElem?_eq_some_iff.1 hx).1
   simp only[L_11,lt_nat hx,cond_true,ix_some hx,Option.bind_some,wrap_nat (show i<9223372036854775807 by omega)]
   rw[apx_some (by omega)];rfl)
  (fun a g=>by simp[L_11])
 rw[e];simp)
theorem V_2h {n:Nat}(h:n≤2147483648):F_2z n=some []:=(U_1x n).out (by
 have w:IntKind.i64.wrap ((n:Int)-IntKind.i64.wrap (0-0))=n:=by rw[show IntKind.i64.wrap (0-0)=0 by rw[wrap_sml] <;> omega,wrap_sml] <;> omega
 rw[w,mkx_nat h]
 simp[tkx])
theorem V_2c {l:List (List (Int))}(hl:l.length≤1000)(hb:l.flatten.length≤1073741824):F_2s l=some l.flatten:=(U_1p l).out (by
 have e0:=loop_fold (f:=fun f s=>L_12 l f s.1 s.2) (fun i (a:Int)=>(a,(i:Int))) l (fun i a=>0≤a∧a+(l.drop i).flatten.length=l.flatten.length) (fun i x a=>a+x.length)
  (fun i x a g hx hi=>by
   have l1:=(List.getElem?_eq_some_iff.1 hx).1
   have:l.drop i=x::l.drop (i+1):=by rw[List.drop_eq_getElem_cons l1];congr 1;exact(List.getElem?_eq_some_iff.1 hx).2
   rw[this] at hi
   simp only[List.flatten_cons,List.length_append] at hi
   have w:IntKind.i64.wrap (a+(x.length:Int))=a+x.length:=by rw[wrap_sml] <;> omega
   have d:decide (a+(x.length:Int)<0)=false:=by simp;omega
   simp only[L_12,lt_nat hx,cond_true,ix_some hx,Option.bind_some,wrap_nat (show i<9223372036854775807 by omega),w,d,cond_false,joinK_go,J_24])
  (fun i x a hx hi=>by
   have l1:=(List.getElem?_eq_some_iff.1 hx).1
   have:l.drop i=x::l.drop (i+1):=by rw[List.drop_eq_getElem_cons l1];congr 1;exact(List.getElem?_eq_some_iff.1 hx).2
   rw[this] at hi
   simp only[List.flatten_cons,List.length_append] at hi
   omega) (fun a g _=>by simp[L_12]) 0 (by simp)
 rw[foldI_const (fun (x:List (Int)) (a:Int)=>a+(x.length:Int))] at e0
 have hsum:∀(l:List (List (Int))) (a:Int),l.foldl (fun a x=>a+(x.length:Int)) a=a+l.flatten.length:=by
  intro l
  induction l with
  |nil=>simp
  |cons x l ih=>intro a;simp only[List.foldl_cons,ih,List.flatten_cons,List.length_append];omega
 rw[hsum,Int.zero_add] at e0
 rw[show((0:Nat):Int)=0 from rfl] at e0
 rw[e0]
 simp only[joinK_go,J_23,V_2h (show l.flatten.length≤2147483648 by omega),Option.bind_some]
 have e:=loop_flat (f:=fun f s=>L_13 l f s.1 s.2) l (by omega)
  (fun i x a g hx ha=>by
   have l1:=(List.getElem?_eq_some_iff.1 hx).1
   simp only[L_13,lt_nat hx,cond_true,ix_some hx,Option.bind_some,wrap_nat (show i<9223372036854775807 by omega)]
   rw[apx_some (by omega)];rfl)
  (fun a g=>by simp[L_13])
 rw[e];simp)
theorem V_29 {l:Rows}(h:l.length≤2147483648):F_2p l=some l:=(U_1m l).out (by
 rw[apx_some (by simpa using h)]
 cases l <;> simp[nilx,bothEq])
theorem V_15 {l:Rows}(h:l.length≤1073741824)(hr:∀r∈l,r.length≤1073741824):F_1f l=some l:=(U_1e l).out (by
 have e:=loop_map (f:=fun f s=>L_z l f s.1 s.2) l id (by omega)
  (fun i x a g hx ha=>by
   have l1:=(List.getElem?_eq_some_iff.1 hx).1
   have:=hr x (mem_of_get hx)
   simp only[L_z,lt_nat hx,cond_true,ix_some hx,Option.bind_some,wrap_nat (show i<9223372036854775807 by omega),V_2a (show x.length≤2147483648 by omega)]
   rw[apx_some (by simp[ha];omega)];rfl)
  (fun a g=>by simp[L_z])
 rw[e];simp[J_1w])
theorem V_1i {l:Rows}(h:l.length≤1073741824)(hr:∀r∈l,r.length≤1073741824):F_1w l=some l:=(U_3t l).out (by
 have e:=loop_map (f:=fun f s=>L_24 l f s.1 s.2) l id (by omega)
  (fun i x a g hx ha=>by
   have l1:=(List.getElem?_eq_some_iff.1 hx).1
   have:=hr x (mem_of_get hx)
   simp only[L_24,lt_nat hx,cond_true,ix_some hx,Option.bind_some,wrap_nat (show i<9223372036854775807 by omega),V_u (show x.length≤2147483648 by omega)]
   rw[apx_some (by simp[ha];omega)];rfl)
  (fun a g=>by simp[L_24])
 rw[e];simp[J_44])
theorem loop_st {A S T:Type}{f:(S×Int→Option A)→S×Int→Option A}(l:List T) (step:S→T→S) (fin:S→A) (I:Nat→S→Prop)
  (h1:∀(i:Nat) x a (g:S×Int→Option A),l[i]?=some x→I i a→f g (a,(i:Int))=g (step a x,((i+1:Nat):Int)))
  (hI:∀(i:Nat) x a,l[i]?=some x→I i a→I (i+1) (step a x))
  (h2:∀a (g:S×Int→Option A),I l.length a→f g (a,(l.length:Int))=some (fin a)) (a0:S)(h0:I 0 a0):loopF f (a0,0)=some (fin (l.foldl step a0)):=by
 refine loopF_ind (fun s=>((l.length:Int)-s.2).toNat) (fun s=>∃(i:Nat) (a:S),i≤l.length∧I i a∧s=(a,(i:Int))∧(l.drop i).foldl step a=l.foldl step a0) (fun _=>fin (l.foldl step a0)) ?_ _ ⟨0,a0,by omega,h0,rfl,rfl⟩
 rintro s ⟨i,a,hi,hI',rfl,hf⟩ g hg
 by_cases h:i<l.length
 ·have hx:l[i]?=some l[i]:=List.getElem?_eq_getElem h
  rw[h1 i l[i] a g hx hI']
  refine hg _ ⟨i+1,step a l[i],by omega,hI i _ a hx hI',rfl,?_⟩ ?_
  ·rw[List.drop_eq_getElem_cons h] at hf
   exact hf
  ·dsimp only;omega
 ·have:i=l.length:=by omega
  subst this
  rw[h2 a g hI']
  simp only[List.drop_length,List.foldl_nil] at hf
  rw[hf]
theorem loop_cat {A T U:Type}{f:(List U×Int→Option A)→List U×Int→Option A}(l:List T) (m:T→List U) (fin:List U→A) (B:Nat)(hB:∀x∈l,(m x).length≤B) (a0:List U)
  (h1:∀(i:Nat) x a (g:List U×Int→Option A),l[i]?=some x→a.length≤a0.length+i*B→f g (a,(i:Int))=g (a++m x,((i+1:Nat):Int)))
  (h2:∀a (g:List U×Int→Option A),f g (a,(l.length:Int))=some (fin a)):loopF f (a0,0)=some (fin (a0++l.flatMap m)):=by
 have:=loop_st (f:=f) l (fun a x=>a++m x) fin (fun i a=>a.length≤a0.length+i*B) h1
  (fun i x a hx hi=>by
   have:=hB x (mem_of_get hx)
   rw[List.length_append,Nat.add_mul];omega)
  (fun a g _=>h2 a g) a0 (by simp)
 rw[foldl_flat] at this
 exact this
def holds (n:Nd) (v:Int):Bool:=if v=-2000000 then decide (n.2.2.2.1=3) else if n.2.2.2.1=0 then decide (v=n.2.2.2.2.1) else if n.2.2.2.1=1 then decide (v<n.2.2.2.2.1) else if n.2.2.2.1=2 then decide (v>n.2.2.2.2.1) else false
theorem V_39 (n:SNode) (v:Int):F_3x n v=some (holds n v):=(U_3v n v).out (by
 simp only[holds,beq_dec]
 by_cases h:v=-2000000
 ·simp[h]
 ·by_cases h0:n.2.2.2.1=0
  ·simp[h,h0]
  ·by_cases h1:n.2.2.2.1=1
   ·simp[h,h1]
   ·by_cases h2:n.2.2.2.1=2
    ·simp[h,h2]
    ·simp[h,h0,h1,h2])
theorem nodeOk_fil4 {n:Nd}(h:nodeOk n=true)(hk:n.1=1):0≤n.2.2.1∧0≤n.2.2.2.1∧n.2.2.2.1≤3∧-1000000≤n.2.2.2.2.1:=by
 obtain⟨k,name,col,op,num,slot,cols,u⟩:=n
 simp only at hk
 subst hk
 simp[nodeOk,okIn] at h
 exact⟨by simp only;omega,by simp only;omega,by simp only;omega,by simp only;omega⟩
theorem V_1v {n:SNode}(h:nodeOk n=true)(hk:n.1=1) (v:Int):F_25 n v=some (holds n v):=(U_l n v).out (by
 obtain⟨_,g0,g1,g2⟩:=nodeOk_fil4 h hk
 simp only[holds,beq_dec,bne_dec,joinK_bif,joinK_go,J_z,J_10]
 by_cases h3:n.2.2.2.1=3
 ·by_cases hv:v=-2000000 <;> simp[h3,hv]
 ·by_cases h0:n.2.2.2.1=0
  ·by_cases hv:v=-2000000
   ·simp[h0,hv];omega
   ·simp[h0,hv]
  ·by_cases h1:n.2.2.2.1=1
   ·by_cases hv:v=-2000000 <;> simp[h1,hv]
   ·have h2:n.2.2.2.1=2:=by omega
    by_cases hv:v=-2000000 <;> simp[h2,hv])
def filterR (n:Nd) (x:Rows):Rows:=x.flatMap fun r=>bif holds n (kc n.2.2.1 r) then[r] else[]
def keepR (n:Nd) (x:Rows):Rows:=x.map fun r=>n.2.2.2.2.2.2.1.map fun c=>kc c r
def joinR (n:Nd) (x y:Rows):Rows:=x.flatMap fun l=>y.flatMap fun r=>bif !(decide (kc n.2.2.1 l=-2000000))&&decide (kc n.2.2.1 l=kc n.2.2.2.2.1 r) then[l++r] else[]
def cnt (a:Rows) (x:List Int):Nat:=a.countP fun r=>decide (r=x)
def onceR (x:Rows):Rows:=x.foldl (fun a r=>bif decide (cnt a r=0) then a++[r] else a) []
theorem V_1g {a b:List Int}(h:a.length≤1073741824):F_1s a b=some (decide (a=b)):=(U_3p a b).out (by
 by_cases hl:a.length=b.length
 ·have e:=loop_chk (f:=fun f z=>L_21 a b f z.1 z.2) (a.zip b) (fun _ p=>decide (p.1=p.2)) false
   (fun i p v g hp=>by
    obtain⟨x,y⟩:=p
    have l1:=(List.getElem?_eq_some_iff.1 hp).1
    simp only[List.length_zip] at l1
    obtain⟨hx,hy⟩:=List.getElem?_zip_eq_some.1 hp
    simp only[L_21,lt_nat hx,cond_true,ix_some hx,ix_some hy,Option.bind_some,wrap_nat (show i<9223372036854775807 by omega),bne_dec]
    by_cases h:x=y <;> simp[h])
   (fun v g=>by simp[L_21,hl]) false
  rw[e,allI_const]
  have h3:(a.zip b).all (fun p=>decide (p.1=p.2))=decide (a=b):=by
   clear e h
   induction a generalizing b with
   |nil=>cases b <;> simp at hl ⊢
   |cons x a ih=>
    cases b with
    |nil=>simp at hl
    |cons y b=>
     simp only[List.zip_cons_cons,List.all_cons,ih (by simpa using hl)]
     by_cases h:x=y <;> simp[h]
  rw[h3,hl]
  cases decide (a=b) <;> simp[J_42]
 ·have:((a.length:Int) != (b.length:Int))=true:=by simp;omega
  have h2:a≠b:=fun h=>hl (by rw[h])
  simp[this,h2])
theorem V_2q {a:Rows}{x:List Int}(h:a.length≤1073741824)(hr:∀r∈a,r.length≤1073741824):F_3b a x=some (cnt a x:Int):=(U_2f a x).out (by
 have e:=loop_st (f:=fun f s=>L_1c a x f s.1 s.2) a (fun (k:Int) r=>bif decide (r=x) then k+1 else k) (fun k=>(Ex.go k:Ex Int Int)) (fun i k=>0≤k∧k≤(i:Int))
  (fun i r k g hx hi=>by
   have l1:=(List.getElem?_eq_some_iff.1 hx).1
   simp only[L_1c,lt_nat hx,cond_true,ix_some hx,Option.bind_some,V_1g (hr r (mem_of_get hx)),joinK_bif,joinK_go,J_2r,wrap_nat (show i<9223372036854775807 by omega)]
   rw[wrap_in (x:=k+1) (by omega) (by omega)]
   cases decide (r=x) <;> rfl)
  (fun i r k hx hi=>by cases decide (r=x) <;> simp <;> omega)
  (fun k g hi=>by simp[L_1c]) 0 (by simp)
 rw[e]
 simp only[joinK_go,J_2q,cnt]
 congr 1
 have:∀(l:Rows) (k:Int),l.foldl (fun (k:Int) r=>bif decide (r=x) then k+1 else k) k=k+(l.countP (fun r=>decide (r=x)):Int):=by
  intro l
  induction l with
  |nil=>simp
  |cons y l ih=>
   intro k
   simp only[List.foldl_cons,ih,List.countP_cons]
   by_cases h:y=x <;> simp[h] <;> omega
 rw[this];omega)
theorem V_1p {a:Rows}{x:List Int}(h:a.length≤1073741824)(hr:∀r∈a,r.length≤1073741824):F_20 a x=some (cnt a x:Int):=(U_d a x).out (by
 have e:=loop_st (f:=fun f s=>L_k a x f s.1 s.2) a (fun (k:Int) r=>bif decide (r=x) then k+1 else k) (fun k=>(Ex.go k:Ex Int Int)) (fun i k=>0≤k∧k≤(i:Int))
  (fun i r k g hx hi=>by
   have l1:=(List.getElem?_eq_some_iff.1 hx).1
   have l2:=hr r (mem_of_get hx)
   simp only[L_k,lt_nat hx,cond_true,ix_some hx,Option.bind_some,V_s (show r.length≤2147483648 by omega),joinK_bif,joinK_go,J_q,wrap_nat (show i<9223372036854775807 by omega)]
   rw[wrap_in (x:=k+1) (by omega) (by omega)]
   cases decide (r=x) <;> rfl)
  (fun i r k hx hi=>by cases decide (r=x) <;> simp <;> omega)
  (fun k g hi=>by simp[L_k]) 0 (by simp)
 rw[e]
 simp only[joinK_go,J_p,cnt]
 congr 1
 have:∀(l:Rows) (k:Int),l.foldl (fun (k:Int) r=>bif decide (r=x) then k+1 else k) k=k+(l.countP (fun r=>decide (r=x)):Int):=by
  intro l
  induction l with
  |nil=>simp
  |cons y l ih=>
   intro k
   simp only[List.foldl_cons,ih,List.countP_cons]
   by_cases h:y=x <;> simp[h] <;> omega
 rw[this];omega)
end Go.Proofs.YtkbcahfajbdgnaaGreatDoorX
namespace Go.Proofs.YtkbcahfajbdgnaaGreatDoorX
open Go Go.Proofs.YtkbcahfajbdgnaaGreatDoorT PT
set_option linter.all false
structure RW (w:Int) (x:Rows):Prop where
 len:x.length≤200
 row:∀r∈x,(r.length:Int)=w
theorem RW.okr {w c:Int}{x:Rows}(h:RW w x)(h0:0≤c)(h1:c<w):∀r∈x,OkR c r:=fun r hr=>⟨h0,by rw[h.row r hr];exact h1⟩
theorem RW.short {w:Int}{x:Rows}(h:RW w x)(hw:w≤64):∀r∈x,r.length≤64:=fun r hr=>by have:=h.row r hr;omega
theorem V_38 {n:SNode}{x:Rows}{w:Int}(h:RW w x)(h0:0≤n.2.2.1)(h1:n.2.2.1<w):F_3w n x=some (filterR n x):=(U_3u n x).out (by
 have hl:=h.len
 have e:=loop_cat (f:=fun f s=>L_25 n x f s.1 s.2) x (fun r=>bif holds n (kc n.2.2.1 r) then[r] else[]) (fun a=>(Ex.go a:Ex Rows Rows)) 1 (fun r _=>by cases holds n (kc n.2.2.1 r) <;> simp) []
  (fun i r a g hx ha=>by
   have l1:=(List.getElem?_eq_some_iff.1 hx).1
   have hr:=h.okr h0 h1 r (mem_of_get hx)
   simp only[List.length_nil] at ha
   simp only[L_25,lt_nat hx,cond_true,ix_some hx,Option.bind_some,ix_kc hr,V_39 n,joinK_bif,joinK_bind,joinK_go,J_47,wrap_nat (show i<9223372036854775807 by omega)]
   rw[apx_some (by simp;omega)]
   cases hh:holds n (kc n.2.2.1 r) <;> simp[hh])
  (fun a g=>by simp[L_25])
 rw[e];simp[J_46,filterR])
theorem V_3b {n:SNode}{x:Rows}{w:Int}(h:RW w x)(hc:n.2.2.2.2.2.2.1.length≤6)(h0:∀c∈n.2.2.2.2.2.2.1,0≤c∧c<w):F_3z n x=some (keepR n x):=(U_3x n x).out (by
 have hl:=h.len
 have e:=loop_map (f:=fun f s=>L_29 n x f s.1 s.2) x (fun r=>n.2.2.2.2.2.2.1.map fun c=>kc c r) (by omega)
  (fun i r a g hx ha=>by
   have l1:=(List.getElem?_eq_some_iff.1 hx).1
   have e2:=loop_map (f:=fun f s=>L_2a n x (i:Int) f s.1 s.2) (R:=Ex (Ex Rows Rows) Rows) n.2.2.2.2.2.2.1 (fun c=>kc c r) (by omega)
    (fun j c a g hj ha=>by
     have l2:=(List.getElem?_eq_some_iff.1 hj).1
     have hr:OkR c r:=h.okr (h0 c (mem_of_get hj)).1 (h0 c (mem_of_get hj)).2 r (mem_of_get hx)
     simp only[L_2a,lt_nat hj,cond_true,ix_some hx,ix_some hj,Option.bind_some,ix_kc hr,wrap_nat (show j<9223372036854775807 by omega)]
     rw[apx_some (by simp[ha];omega)];rfl)
    (fun a g=>by simp[L_2a])
   simp only[L_29,lt_nat hx,cond_true,e2,joinK_go,J_4f,J_4e,wrap_nat (show i<9223372036854775807 by omega)]
   rw[apx_some (by simp[ha];omega)];rfl)
  (fun a g=>by simp[L_29])
 rw[e];simp[J_4d,keepR])
theorem V_3c {x:Rows}{w:Int}(h:RW w x)(hw:w≤64):F_40 x=some (onceR x):=(U_3y x).out (by
 have hl:=h.len
 have e:=loop_st (f:=fun f s=>L_2b x f s.1 s.2) x (fun a r=>bif decide (cnt a r=0) then a++[r] else a) (fun a=>(Ex.go a:Ex Rows Rows)) (fun i a=>a.length≤i∧∀r∈a,r.length≤64)
  (fun i r a g hx ha=>by
   have l1:=(List.getElem?_eq_some_iff.1 hx).1
   simp only[L_2b,lt_nat hx,cond_true,ix_some hx,Option.bind_some,V_2q (a:=a) (x:=r) (by omega) (fun r hr=>by have:=ha.2 r hr;omega),joinK_bif,joinK_bind,joinK_go,J_4h,wrap_nat (show i<9223372036854775807 by omega)]
   rw[apx_some (by simp;omega)]
   have:((cnt a r:Int)==0)=decide (cnt a r=0):=by rw[beq_dec];simp
   rw[this]
   cases decide (cnt a r=0) <;> rfl)
  (fun i r a hx ha=>by
   have:=h.short hw r (mem_of_get hx)
   cases decide (cnt a r=0) with
   |true=>exact⟨by simp;omega,fun q hq=>by rcases List.mem_append.1 hq with hq|hq;exact ha.2 q hq;rw[List.mem_singleton.1 hq];exact this⟩
   |false=>exact⟨by simp;omega,ha.2⟩)
  (fun a g _=>by simp[L_2b]) [] (by simp)
 rw[e];simp[J_4g,onceR])
theorem fm_len {T U:Type}(p:T→Bool) (m:T→U):∀z:List T,(z.flatMap fun r=>bif p r then[m r] else[]).length≤z.length
 |[]=>by simp
 |r::z=>by
  rw[List.flatMap_cons,List.length_append,List.length_cons]
  have h1:=fm_len p m z
  have h2:(bif p r then[m r] else[]).length≤1:=by cases p r <;> simp
  omega
theorem V_3a {n:SNode}{x y:Rows}{w v:Int}(h:RW w x) (k:RW v y)(hw:w≤64)(hv:v≤64)(h0:0≤n.2.2.1)(h1:n.2.2.1<w) (k0:0≤n.2.2.2.2.1) (k1:n.2.2.2.2.1<v) :
  F_3y n x y=some (joinR n x y):=(U_3w n x y).out (by
 have hl:=h.len
 have kl:=k.len
 have e:=loop_cat (f:=fun f s=>L_26 n x y f s.1 s.2) x (fun l=>y.flatMap fun r=>bif !(decide (kc n.2.2.1 l=-2000000))&&decide (kc n.2.2.1 l=kc n.2.2.2.2.1 r) then[l++r] else[]) (fun a=>(Ex.go a:Ex Rows Rows)) 200
  (fun l _=>by have:=fm_len (fun r=>!(decide (kc n.2.2.1 l=-2000000))&&decide (kc n.2.2.1 l=kc n.2.2.2.2.1 r)) (fun r=>l++r) y;omega) []
  (fun i l a g hx ha=>by
   have l1:=(List.getElem?_eq_some_iff.1 hx).1
   simp only[List.length_nil] at ha
   have hr:=h.okr h0 h1 l (mem_of_get hx)
   have hls:=h.short hw l (mem_of_get hx)
   have e2:=loop_cat (f:=fun f s=>L_27 n x y (i:Int) f s.1 s.2) y (fun r=>bif !(decide (kc n.2.2.1 l=-2000000))&&decide (kc n.2.2.1 l=kc n.2.2.2.2.1 r) then[l++r] else[]) (fun a=>(Ex.go a:Ex (Ex Rows Rows) Rows)) 1
    (fun r _=>by cases (!(decide (kc n.2.2.1 l=-2000000))&&decide (kc n.2.2.1 l=kc n.2.2.2.2.1 r)) <;> simp) a
    (fun j r b g hy hb=>by
     have l2:=(List.getElem?_eq_some_iff.1 hy).1
     have hq:=k.okr k0 k1 r (mem_of_get hy)
     have hrs:=k.short hv r (mem_of_get hy)
     have e3:=loop_cat (f:=fun f s=>L_28 y (j:Int) f s.1 s.2) r (fun c=>[c]) (fun a=>(Ex.go a:Ex (Ex (Ex (Ex Rows Rows) Rows) Rows) (List Int))) 1 (fun _ _=>by simp) l
      (fun m c b g hm hb=>by
       have l3:=(List.getElem?_eq_some_iff.1 hm).1
       simp only[L_28,ix_some hy,Option.bind_some,lt_nat hm,cond_true,ix_some hm,wrap_nat (show m<9223372036854775807 by omega)]
       rw[apx_some (by simp;omega)];rfl)
      (fun b g=>by simp[L_28,ix_some hy])
     have e4:r.flatMap (fun c=>[c])=r:=by simp
     rw[e4] at e3
     simp only[L_27,lt_nat hy,cond_true,ix_some hx,ix_some hy,Option.bind_some,ix_kc hr,ix_kc hq,joinK_bif,joinK_bind,joinK_go,J_4b,V_u (show l.length≤2147483648 by omega),e3,J_4c,J_4a,wrap_nat (show j<9223372036854775807 by omega),beq_dec,bne_dec]
     rw[apx_some (by simp;omega)]
     generalize decide (kc n.2.2.1 l=-2000000)=d1
     generalize decide (kc n.2.2.1 l=kc n.2.2.2.2.1 r)=d2
     cases d1 <;> cases d2 <;> simp)
    (fun b g=>by simp[L_27])
   simp only[L_26,lt_nat hx,cond_true,e2,joinK_go,J_49,wrap_nat (show i<9223372036854775807 by omega)])
  (fun a g=>by simp[L_26])
 rw[e];simp[J_48,joinR])
def putS (key:List Int→Int) (x:List Int) (s:Rows×Bool) (y:List Int):Rows×Bool:=bif !s.2&&decide (key x<key y) then(s.1++[x]++[y],true) else(s.1++[y],s.2)
theorem putS_true (key:List Int→Int) (x:List Int):∀(out pre:Rows),out.foldl (putS key x) (pre,true)=(pre++out,true)
 |[],pre=>by simp
 |y::out,pre=>by
  simp only[List.foldl_cons,putS,Bool.not_true,Bool.false_and,cond_false]
  rw[putS_true key x out];simp
theorem putS_false (key:List Int→Int) (x:List Int):∀(out pre:Rows),(bif !(out.foldl (putS key x) (pre,false)).2 then(out.foldl (putS key x) (pre,false)).1++[x] else(out.foldl (putS key x) (pre,false)).1)=pre++insS key x out
 |[],pre=>by simp[insS]
 |y::out,pre=>by
  simp only[List.foldl_cons,putS,Bool.not_false,Bool.true_and,insS]
  cases decide (key x<key y) with
  |true=>simp only[cond_true,putS_true];simp
  |false=>
   simp only[cond_false]
   rw[putS_false key x out];simp
theorem V_3d {n:SNode}{x:Rows}{w:Int}(h:RW w x)(h0:0≤n.2.2.1)(h1:n.2.2.1<w):F_41 n x=some (srt (kc n.2.2.1) x):=(U_3z n x).out (by
 have hl:=h.len
 have e:=loop_st (f:=fun f s=>L_2c n x f s.1 s.2) x (fun a r=>insS (kc n.2.2.1) r a) (fun a=>(Ex.go a:Ex Rows Rows)) (fun i a=>a.length=i∧∀r∈a,OkR n.2.2.1 r)
  (fun i r a g hx ha=>by
   have l1:=(List.getElem?_eq_some_iff.1 hx).1
   have hr:=h.okr h0 h1 r (mem_of_get hx)
   have e2:=loop_fold (f:=fun f s=>L_2d n x a (i:Int) f s.1 s.2.1 s.2.2) (R:=Ex (Ex Rows Rows) Rows) (fun i (s:Rows×Bool)=>(s.1,s.2,(i:Int))) a (fun i s=>s.1.length≤i+1∧(s.2=false→s.1.length≤i)) (fun _ y s=>putS (kc n.2.2.1) r s y)
    (fun j y s g hj hs=>by
     have l2:=(List.getElem?_eq_some_iff.1 hj).1
     have hy:=ha.2 y (mem_of_get hj)
     obtain⟨b,p⟩:=s
     simp only at hs
     simp only[L_2d,lt_nat hj,cond_true,ix_some hx,ix_some hj,Option.bind_some,ix_kc hr,ix_kc hy,joinK_bif,joinK_bind,joinK_go,J_4m,J_4l,wrap_nat (show j<9223372036854775807 by omega),putS]
     cases p with
     |true=>
      rw[apx_some (xs:=b) (ys:=[y]) (by simp;omega)]
      simp
     |false=>
      have:=hs.2 rfl
      rw[apx_some (xs:=b) (ys:=[r]) (by simp;omega)]
      simp only[Option.bind_some]
      rw[apx_some (by simp;omega),apx_some (by simp;omega)]
      cases decide (kc n.2.2.1 r<kc n.2.2.1 y) <;> simp)
    (fun j y s hj hs=>by
     obtain⟨b,p⟩:=s
     simp only[putS] at hs ⊢
     cases p with
     |true=>simp at hs ⊢;omega
     |false=>
      have:=hs.2 rfl
      cases decide (kc n.2.2.1 r<kc n.2.2.1 y) <;> simp <;> omega)
    (fun s g hs=>by simp[L_2d]) ([],false) (by simp)
   rw[foldI_const (fun y s=>putS (kc n.2.2.1) r s y)] at e2
   rw[show((0:Nat):Int)=0 from rfl] at e2
   have e3:=putS_false (kc n.2.2.1) r a []
   simp only[L_2c,lt_nat hx,cond_true,e2,joinK_go,J_4k,ix_some hx,Option.bind_some,joinK_bif,joinK_bind,J_4n,J_4j,wrap_nat (show i<9223372036854775807 by omega)]
   simp only[List.nil_append] at e3
   have hlen:(a.foldl (fun s y=>putS (kc n.2.2.1) r s y) ([],false)).1.length≤a.length+1:=by
    have hh:=congrArg List.length e3
    rw[insS_len] at hh
    have e4:(fun s y=>putS (kc n.2.2.1) r s y)=putS (kc n.2.2.1) r:=rfl
    rw[e4]
    cases hp:(a.foldl (putS (kc n.2.2.1) r) ([],false)).2 <;> rw[hp] at hh <;> simp at hh <;> omega
   rw[apx_some (by simp;omega)]
   simp only[Option.bind_some]
   rw[←e3]
   have e4:(fun s y=>putS (kc n.2.2.1) r s y)=putS (kc n.2.2.1) r:=rfl
   rw[e4]
   cases (a.foldl (putS (kc n.2.2.1) r) ([],false)).2 <;> rfl)
  (fun i r a hx ha=>⟨by rw[insS_len];omega,fun q hq=>by
   rcases insS_mem.1 hq with rfl|hq
   ·exact h.okr h0 h1 _ (mem_of_get hx)
   ·exact ha.2 q hq⟩)
  (fun a g _=>by simp[L_2c]) [] (by simp)
 rw[e];simp[J_4i,srt])
end Go.Proofs.YtkbcahfajbdgnaaGreatDoorX
namespace Go.Proofs.YtkbcahfajbdgnaaGreatDoorX
open Go Go.Proofs.YtkbcahfajbdgnaaGreatDoorT PT
set_option linter.all false
def capR (x:Rows):Option Rows:=if x.length≤200 then some x else none
def op1 (n:Nd) (x:Rows):Rows:=if n.1=1 then filterR n x else if n.1=2 then keepR n x else if n.1=5 then srt (kc n.2.2.1) x else if n.1=6 then x.take n.2.2.2.2.1.toNat else onceR x
def op2 (n:Nd) (x y:Rows):Rows:=if n.1=3 then joinR n x y else x++y
def evalT (s:List Tb) (st:List Rows):PT→Option Rows
 |.n0 n=>match tabAt s n.2.1 with
  |some j=>match st[j]? with
   |some t=>capR t
   |none=>none
  |none=>none
 |.n1 n a=>match evalT s st a with
  |some x=>capR (op1 n x)
  |none=>none
 |.n2 n a b=>match evalT s st a with
  |some x=>match evalT s st b with
   |some y=>capR (op2 n x y)
   |none=>none
  |none=>none
theorem capR_some {x y:Rows}(h:capR x=some y):y=x∧x.length≤200:=by
 unfold capR at h
 split at h
 ·rename_i hl;cases h;exact⟨rfl,hl⟩
 ·cases h
theorem node_col {n:Nd}(h:nodeOk n=true)(hk:n.1=1∨n.1=3∨n.1=5):0≤n.2.2.1:=by
 obtain⟨k,name,col,op,num,slot,cols,u⟩:=n
 simp only at hk
 rcases hk with hk|hk|hk <;> subst hk <;> simp[nodeOk,okIn] at h <;> simp only <;> omega
theorem node_num {n:Nd}(h:nodeOk n=true)(hk:n.1=3∨n.1=6):0≤n.2.2.2.2.1:=by
 obtain⟨k,name,col,op,num,slot,cols,u⟩:=n
 simp only at hk
 rcases hk with hk|hk <;> subst hk <;> simp[nodeOk,okIn] at h <;> simp only <;> omega
theorem storeOk_tab {s:List Tb}{st:List Rows}(h:storeOk s st=true){j:Nat}{tb:Tb}(hj:s[j]?=some tb):∃t,st[j]?=some t∧RW tb.2.1 t∧t.length≤40:=by
 simp only[storeOk,Bool.and_eq_true,decide_eq_true_eq] at h
 have l1:=(List.getElem?_eq_some_iff.1 hj).1
 have hx:st[j]?=some st[j]:=List.getElem?_eq_getElem (by omega)
 have:=allI_get h.2 hx
 simp only[storeP,Nat.zero_add,hj,Bool.and_eq_true,decide_eq_true_eq,List.all_eq_true,rowP] at this
 exact⟨_,hx,⟨by omega,fun r hr=>(this.2 r hr).1⟩,this.1⟩
theorem onceR_sub (x:Rows):(∀r∈onceR x,r∈x)∧(onceR x).length≤x.length:=by
 have:∀(x a:Rows),(∀r∈x.foldl (fun a r=>bif decide (cnt a r=0) then a++[r] else a) a,r∈a∨r∈x)∧(x.foldl (fun a r=>bif decide (cnt a r=0) then a++[r] else a) a).length≤a.length+x.length:=by
  intro x
  induction x with
  |nil=>intro a;simp
  |cons y x ih=>
   intro a
   simp only[List.foldl_cons]
   cases decide (cnt a y=0) with
   |true=>
    obtain⟨h1,h2⟩:=ih (a++[y])
    refine⟨fun r hr=>?_,by simp at h2 ⊢;omega⟩
    have:=h1 r hr
    simp at this ⊢
    grind
   |false=>
    obtain⟨h1,h2⟩:=ih a
    refine⟨fun r hr=>?_,by simp at h2 ⊢;omega⟩
    have:=h1 r hr
    simp at this ⊢
    grind
 obtain⟨h1,h2⟩:=this x []
 exact⟨fun r hr=>by have:=h1 r hr;simpa using this,by simp only[List.length_nil,Nat.zero_add] at h2;exact h2⟩
theorem evalT_rw {s:List Tb}{st:List Rows}(h:storeOk s st=true):∀{t:PT}{w:Int}{x:Rows},Good t→wT s t=some w→evalT s st t=some x→RW w x
 |.n0 n,w,x,g,hw,he=>by
  simp only[wT] at hw
  simp only[evalT] at he
  split at hw
  ·rename_i j hj
   rw[hj] at he
   split at hw
   ·rename_i tb htb
    cases hw
    obtain⟨t,h1,h2,_⟩:=storeOk_tab h htb
    simp only[h1] at he
    obtain⟨rfl,_⟩:=capR_some he
    exact h2
   ·cases hw
  ·cases hw
 |.n1 n a,w,x,g,hw,he=>by
  simp only[wT] at hw
  simp only[evalT] at he
  split at he
  ·rename_i y hy
   obtain⟨rfl,hl⟩:=capR_some he
   split at hw
   ·cases hw
   ·rename_i v hv
    have ih:=evalT_rw h g.c1 hv hy
    refine⟨hl,fun r hr=>?_⟩
    simp only[op1] at hr
    split at hw
    ·rename_i hk
     split at hw
     ·cases hw
      rw[if_neg (by omega),if_pos hk] at hr
      simp only[keepR,List.mem_map] at hr
      obtain⟨q,_,rfl⟩:=hr
      simp
     ·cases hw
    ·rename_i hk2
     have hvw:v=w∨((n.1=1∨n.1=5)∧v=w):=by
      split at hw
      ·rename_i hk
       split at hw
       ·cases hw;exact .inr ⟨hk,rfl⟩
       ·cases hw
      ·cases hw;exact .inl rfl
     have hvw:v=w:=by rcases hvw with h|⟨_,h⟩ <;> exact h
     subst hvw
     refine ih.row r ?_
     split at hr
     ·simp only[filterR,List.mem_flatMap] at hr
      obtain⟨q,hq,hr⟩:=hr
      cases hh:holds n (kc n.2.2.1 q) <;> rw[hh] at hr <;> simp at hr
      rw[hr];exact hq
     ·split at hr
      ·exact srt_mem.1 hr
      ·split at hr
       ·exact List.mem_of_mem_take hr
       ·exact(onceR_sub y).1 r hr
  ·cases he
 |.n2 n a b,w,x,g,hw,he=>by
  simp only[wT] at hw
  simp only[evalT] at he
  split at he
  ·rename_i y hy
   split at he
   ·rename_i z hz
    obtain⟨rfl,hl⟩:=capR_some he
    split at hw
    ·rename_i wa wb hwa hwb
     have ih1:=evalT_rw h g.l2 hwa hy
     have ih2:=evalT_rw h g.r2 hwb hz
     refine⟨hl,fun r hr=>?_⟩
     simp only[op2] at hr
     split at hw
     ·rename_i hk
      split at hw
      ·cases hw
       rw[if_pos hk] at hr
       simp only[joinR,List.mem_flatMap] at hr
       obtain⟨l,hl,q,hq,hr⟩:=hr
       have e1:=ih1.row l hl
       have e2:=ih2.row q hq
       cases hh:(!decide (kc n.2.2.1 l=-2000000)&&decide (kc n.2.2.1 l=kc n.2.2.2.2.1 q)) <;> rw[hh] at hr <;> simp at hr
       rw[hr];simp;omega
      ·cases hw
     ·rename_i hk
      split at hw
      ·rename_i hww
       cases hw
       rw[if_neg hk] at hr
       rcases List.mem_append.1 hr with hr|hr
       ·exact ih1.row r hr
       ·have:=ih2.row r hr;omega
      ·cases hw
    ·cases hw
   ·cases he
  ·cases he
def EvOut (o:Option Rows) (r:Option (Rows×Bool)):Prop:=∃x,r=some (x,o.isSome)∧∀y,o=some y→x=y
theorem evOut_cap (y:Rows):EvOut (capR y) (some (y,decide ((y.length:Int)≤200))):=by
 refine⟨y,?_,?_⟩
 ·unfold capR
  by_cases h:y.length≤200
  ·have:decide ((y.length:Int)≤200)=true:=by simp;omega
   rw[this];simp[h]
  ·have:decide ((y.length:Int)≤200)=false:=by simp;omega
   rw[this];simp[h]
 ·intro z hz;exact(capR_some hz).1.symm
theorem eval_k1 {f:(Rows×Bool×List Rows×Int→Option (Ex (Rows×Bool) (Rows×Bool×List Rows)))→Rows×Bool×List Rows×Int→Option (Ex (Rows×Bool) (Rows×Bool×List Rows))}{x:Rows}
  (h1:∀g:Rows×Bool×List Rows×Int→Option (Ex (Rows×Bool) (Rows×Bool×List Rows)),f g ([],false,[],0)=g ([],false,[x],1))
  (h2:∀g:Rows×Bool×List Rows×Int→Option (Ex (Rows×Bool) (Rows×Bool×List Rows)),f g ([],false,[x],1)=some (.go ([],false,[x]))):loopF f ([],false,[],0)=some (.go ([],false,[x])):=
 loopF_of 2 (by
  intro n hn
  obtain⟨m,rfl⟩:∃m,n=m+2:=⟨n-2,by omega⟩
  simp only[loopK,h1,h2])
theorem eval_k2 {f:(Rows×Bool×List Rows×Int→Option (Ex (Rows×Bool) (Rows×Bool×List Rows)))→Rows×Bool×List Rows×Int→Option (Ex (Rows×Bool) (Rows×Bool×List Rows))}{x y:Rows}
  (h1:∀g:Rows×Bool×List Rows×Int→Option (Ex (Rows×Bool) (Rows×Bool×List Rows)),f g ([],false,[],0)=g ([],false,[x],1))
  (h2:∀g:Rows×Bool×List Rows×Int→Option (Ex (Rows×Bool) (Rows×Bool×List Rows)),f g ([],false,[x],1)=g ([],false,[x,y],2))
  (h3:∀g:Rows×Bool×List Rows×Int→Option (Ex (Rows×Bool) (Rows×Bool×List Rows)),f g ([],false,[x,y],2)=some (.go ([],false,[x,y]))):loopF f ([],false,[],0)=some (.go ([],false,[x,y])):=
 loopF_of 3 (by
  intro n hn
  obtain⟨m,rfl⟩:∃m,n=m+3:=⟨n-3,by omega⟩
  simp only[loopK,h1,h2,h3])
theorem V_k {s:List STable}{st:List Rows}(h:storeOk s st=true){p:List SNode}(hp:Pl p):∀(t:PT) (k:Nat) (w:Int),At p k t→Good t→wT s t=some w→EvOut (evalT s st t) (F_c s st p k)
 |.n0 n,k,w,ha,g,hw=>by
  have hk:=kind0 (n:=n) g.ok
  have hx:p[k]?=some n:=ha.hd
  have hso:schemaOk s=true:=by simp only[storeOk,Bool.and_eq_true] at h;exact h.1.1
  have hl:=schemaOk_len hso
  simp only[wT] at hw
  split at hw
  ·rename_i j hj
   split at hw
   ·rename_i tb htb
    cases hw
    obtain⟨t,h1,h2,h3⟩:=storeOk_tab h htb
    simp only[evalT,hj,h1]
    obtain⟨z,e1,e2⟩:=evOut_cap t
    refine⟨z,(U_1 s st p k).out ?_,e2⟩
    simp only[ix_some hx,ha.V_5 g hp,kids,Option.bind_some]
    rw[loopF_of (r:=.go ([],false,[])) 1 (by
     intro n hn
     obtain⟨m,rfl⟩:∃m,n=m+1:=⟨n-1,by omega⟩
     simp[loopK,L_1])]
    simp only[joinK_go,J_9,hk,beq_dec,decide_true,cond_true,V_1h (show s.length≤1073741824 by omega),Option.bind_some,hj,fint_some,ix_some h1]
    exact e1
   ·cases hw
  ·cases hw
 |.n1 n a,k,w,ha,g,hw=>by
  have hk:=kind1 (n:=n) g.ok.1
  have hx:p[k]?=some n:=ha.hd
  have hn:nodeOk n=true:=g.hd
  have hso:schemaOk s=true:=by simp only[storeOk,Bool.and_eq_true] at h;exact h.1.1
  simp only[wT] at hw
  split at hw
  ·cases hw
  rename_i v hv
  have hvr:=wT_range hso g.c1 hv
  obtain⟨x,i1,i2⟩:=V_k h hp a (k+1) v ha.c1 g.c1 hv
  have fin:∀r,F_c s st p k=some r→EvOut (evalT s st (.n1 n a)) (some r)→EvOut (evalT s st (.n1 n a)) (F_c s st p k):=fun r e h=>by rw[e];exact h
  have hkids:=ha.V_5 g hp
  simp only[kids] at hkids
  generalize ((k+1:Nat):Int)=j1 at *
  cases he:evalT s st a with
  |none=>
   rw[he] at i1
   refine fin ([],false) ((U_1 s st p k).out ?_) ⟨[],by simp[evalT,he],by simp[evalT,he]⟩
   simp only[ix_some hx,hkids,Option.bind_some]
   rw[loopF_of (r:=.ret ([],false)) 1 (by
    intro n hn
    obtain⟨m,rfl⟩:∃m,n=m+1:=⟨n-1,by omega⟩
    simp only[loopK,L_1,ix0,Option.bind_some,i1]
    simp)]
   simp
  |some x'=>
   rw[he] at i1
   have:=i2 x' he
   subst this
   have hrw:=evalT_rw h g.c1 hv he
   have hl:=hrw.len
   have main:∀r,r=some (op1 n x,decide (((op1 n x).length:Int)≤200))→EvOut (evalT s st (.n1 n a)) r:=by
    rintro r rfl
    simp only[evalT,he]
    exact evOut_cap _
   refine main _ ((U_1 s st p k).out ?_)
   simp only[ix_some hx,hkids,Option.bind_some]
   rw[eval_k1 (x:=x) (fun g=>by
     simp only[L_1,ix0,Option.bind_some,i1]
     rw[apx_some (by simp)]
     simp) (fun g=>by simp[L_1])]
   simp only[joinK_go,J_9,ix0,Option.bind_some]
   rcases hk with hk|hk|hk|hk|hk
   ·
    have h0:=node_col hn (.inl hk)
    have h1:n.2.2.1<v:=by
     rw[if_neg (by omega),if_pos (.inl hk)] at hw
     split at hw
     ·assumption
     ·cases hw
    simp only[V_38 (n:=n) hrw h0 h1,Option.bind_some]
    simp[hk,op1]
   ·
    have h0:=nodeOk_keep hn hk
    rw[if_pos hk] at hw
    split at hw
    ·rename_i hall
     simp only[List.all_eq_true,decide_eq_true_eq] at hall
     simp only[V_3b (n:=n) hrw h0.2.1 (fun c hc=>⟨(h0.2.2 c hc).1,hall c hc⟩),Option.bind_some]
     simp[hk,op1]
    ·cases hw
   ·
    have h0:=node_col hn (.inr (.inr hk))
    have h1:n.2.2.1<v:=by
     rw[if_neg (by omega),if_pos (.inr hk)] at hw
     split at hw
     ·assumption
     ·cases hw
    simp only[V_3d (n:=n) hrw h0 h1,Option.bind_some]
    simp[hk,op1]
   ·
    have h0:=node_num hn (.inr hk)
    by_cases hc:n.2.2.2.2.1<(x.length:Int)
    ·have e:slx x 0 n.2.2.2.2.1=some (x.take n.2.2.2.2.1.toNat):=by
      obtain⟨m,hm⟩:∃m:Nat,n.2.2.2.2.1=(m:Int):=⟨n.2.2.2.2.1.toNat,by omega⟩
      rw[hm,slx0 (by omega)];simp
     simp[hk,hc,e,op1]
    ·have e:x.take n.2.2.2.2.1.toNat=x:=List.take_of_length_le (by omega)
     simp[hk,hc,e,op1]
   ·
    simp[hk,V_3c hrw (by omega),op1]
 |.n2 n a b,k,w,ha,g,hw=>by
  have hk:=kind2 (n:=n) g.ok.1
  have hx:p[k]?=some n:=ha.hd
  have hn:nodeOk n=true:=g.hd
  have hso:schemaOk s=true:=by simp only[storeOk,Bool.and_eq_true] at h;exact h.1.1
  simp only[wT] at hw
  split at hw
  case h_2=>cases hw
  rename_i wa wb hwa hwb
  have hra:=wT_range hso g.l2 hwa
  have hrb:=wT_range hso g.r2 hwb
  obtain⟨x,i1,i2⟩:=V_k h hp a (k+1) wa ha.l2 g.l2 hwa
  obtain⟨y,j1,j2⟩:=V_k h hp b (k+1+a.size) wb ha.r2 g.r2 hwb
  have fin:∀r,F_c s st p k=some r→EvOut (evalT s st (.n2 n a b)) (some r)→EvOut (evalT s st (.n2 n a b)) (F_c s st p k):=fun r e h=>by rw[e];exact h
  have hkids:=ha.V_5 g hp
  simp only[kids] at hkids
  generalize ((k+1:Nat):Int)=k1 at *
  generalize ((k+1+a.size:Nat):Int)=k2 at *
  cases he:evalT s st a with
  |none=>
   rw[he] at i1
   refine fin ([],false) ((U_1 s st p k).out ?_) ⟨[],by simp[evalT,he],by simp[evalT,he]⟩
   simp only[ix_some hx,hkids,Option.bind_some]
   rw[loopF_of (r:=.ret ([],false)) 1 (by
    intro n hn
    obtain⟨m,rfl⟩:∃m,n=m+1:=⟨n-1,by omega⟩
    simp only[loopK,L_1,ix0,Option.bind_some,i1]
    simp)]
   simp
  |some x'=>
   rw[he] at i1
   have:=i2 x' he
   subst this
   cases hf:evalT s st b with
   |none=>
    rw[hf] at j1
    refine fin ([],false) ((U_1 s st p k).out ?_) ⟨[],by simp[evalT,he,hf],by simp[evalT,he,hf]⟩
    simp only[ix_some hx,hkids,Option.bind_some]
    rw[loopF_of (r:=.ret ([],false)) 2 (by
     intro n hn
     obtain⟨m,rfl⟩:∃m,n=m+2:=⟨n-2,by omega⟩
     simp only[loopK,L_1,ix0,Option.bind_some,i1]
     rw[apx_some (by simp)]
     simp[ix1,j1])]
    simp
   |some y'=>
    rw[hf] at j1
    have:=j2 y' hf
    subst this
    have hrx:=evalT_rw h g.l2 hwa he
    have hry:=evalT_rw h g.r2 hwb hf
    have hlx:=hrx.len
    have hly:=hry.len
    have main:∀r,r=some (op2 n x y,decide (((op2 n x y).length:Int)≤200))→EvOut (evalT s st (.n2 n a b)) r:=by
     rintro r rfl
     simp only[evalT,he,hf]
     exact evOut_cap _
    refine main _ ((U_1 s st p k).out ?_)
    simp only[ix_some hx,hkids,Option.bind_some]
    rw[eval_k2 (x:=x) (y:=y) (fun g=>by
      simp only[L_1,ix0,Option.bind_some,i1]
      rw[apx_some (by simp)]
      simp) (fun g=>by
      simp only[L_1,ix1,Option.bind_some,j1]
      rw[apx_some (by simp)]
      simp) (fun g=>by simp[L_1])]
    simp only[joinK_go,J_9,ix0,ix1,Option.bind_some]
    rcases hk with hk|hk
    ·
     have h0:=node_col hn (.inr (.inl hk))
     have h1:=node_num hn (.inl hk)
     rw[if_pos hk] at hw
     split at hw
     ·rename_i hc
      simp only[V_3a (n:=n) hrx hry (by omega) (by omega) h0 hc.1 h1 hc.2.1,Option.bind_some]
      simp[hk,op2]
     ·cases hw
    ·
     have e1:∀(z:Rows) (i:Nat) (a0:Rows),[x,y][i]?=some z→z.length≤200→a0.length≤200→loopF (fun f s=>L_i [x,y] (i:Int) f s.1 s.2) (a0,0)=some (.go (a0++z)):=by
      intro z i a0 hz hlz hla
      have e:=loop_cat (f:=fun f s=>L_i [x,y] (i:Int) f s.1 s.2) z (fun c=>[c]) (fun a=>(Ex.go a:Ex (Rows×Bool) Rows)) 1 (fun _ _=>by simp) a0
       (fun m c b g hm hb=>by
        have l3:=(List.getElem?_eq_some_iff.1 hm).1
        simp only[L_i,ix_some hz,Option.bind_some,lt_nat hm,cond_true,ix_some hm,wrap_nat (show m<9223372036854775807 by omega)]
        rw[apx_some (by simp;omega)];rfl)
       (fun b g=>by simp[L_i,ix_some hz])
      rw[show z.flatMap (fun c=>[c])=z by simp] at e
      exact e
     have e2:=e1 x 0 [] rfl hlx (by simp)
     have e3:=e1 y 1 x rfl hly hlx
     rw[show((0:Nat):Int)=0 from rfl] at e2
     rw[show((1:Nat):Int)=1 from rfl] at e3
     simp only[hk,beq_dec]
     have e4:loopF (fun f s=>L_2v [x,y] f s.1 s.2) ([],0)=some (x++y,decide (((x++y).length:Int)≤200)):=loopF_of 3 (by
      intro n hn
      obtain⟨m,rfl⟩:∃m,n=m+3:=⟨n-3,by omega⟩
      simp only[loopK,L_2v,e2,joinK_go,J_45]
      simp only[List.nil_append,show IntKind.i64.wrap (0+1)=1 by decide,e3,joinK_go,show IntKind.i64.wrap (1+1)=2 by decide]
      simp)
     simp only[show decide ((4:Int)=0)=false by decide,show decide ((4:Int)=1)=false by decide,show decide ((4:Int)=2)=false by decide,show decide ((4:Int)=3)=false by decide,show decide ((4:Int)=4)=true by decide,cond_false,cond_true]
     rw[e4]
     simp[op2,hk]
end Go.Proofs.YtkbcahfajbdgnaaGreatDoorX
namespace Go.Proofs.YtkbcahfajbdgnaaGreatDoorX
open Go Go.Proofs.YtkbcahfajbdgnaaGreatDoorT PT
set_option linter.all false
theorem ev_filter {n:SNode}{x:Rows}{w:Int}(hn:nodeOk n=true)(hk:n.1=1)(h:RW w x)(h0:0≤n.2.2.1)(h1:n.2.2.1<w) :
  loopF (fun f s=>L_8 n x f s.1 s.2) ([],0)=some (filterR n x,decide (((filterR n x).length:Int)≤200)):=by
 have hl:=h.len
 exact loop_cat (f:=fun f s=>L_8 n x f s.1 s.2) x (fun r=>bif holds n (kc n.2.2.1 r) then[r] else[]) (fun a=>(a,decide ((a.length:Int)≤200))) 1 (fun r _=>by cases holds n (kc n.2.2.1 r) <;> simp) []
  (fun i r a g hx ha=>by
   have l1:=(List.getElem?_eq_some_iff.1 hx).1
   have hr:=h.okr h0 h1 r (mem_of_get hx)
   simp only[List.length_nil] at ha
   simp only[L_8,lt_nat hx,cond_true,ix_some hx,Option.bind_some,ix_kc hr,V_1v hn hk,joinK_bif,joinK_bind,joinK_go,J_1o,wrap_nat (show i<9223372036854775807 by omega)]
   rw[apx_some (by simp;omega)]
   cases hh:holds n (kc n.2.2.1 r) <;> simp[hh])
  (fun a g=>by simp[L_8])
theorem ev_keep {n:SNode}{x:Rows}{w:Int}(h:RW w x)(hc:n.2.2.2.2.2.2.1.length≤6)(h0:∀c∈n.2.2.2.2.2.2.1,0≤c∧c<w) :
  loopF (fun f s=>L_9 n x f s.1 s.2) ([],0)=some (keepR n x,decide (((keepR n x).length:Int)≤200)):=by
 have hl:=h.len
 have e:=loop_cat (f:=fun f s=>L_9 n x f s.1 s.2) x (fun r=>[n.2.2.2.2.2.2.1.map fun c=>kc c r]) (fun a=>(a,decide ((a.length:Int)≤200))) 1 (fun r _=>by simp) []
  (fun i r a g hx ha=>by
   have l1:=(List.getElem?_eq_some_iff.1 hx).1
   simp only[List.length_nil] at ha
   have e2:=loop_map (f:=fun f s=>L_x n r f s.1 s.2) (R:=Ex (Rows×Bool) Rows) n.2.2.2.2.2.2.1 (fun c=>kc c r) (by omega)
    (fun j c a g hj ha=>by
     have l2:=(List.getElem?_eq_some_iff.1 hj).1
     have hr:OkR c r:=h.okr (h0 c (mem_of_get hj)).1 (h0 c (mem_of_get hj)).2 r (mem_of_get hx)
     simp only[L_x,lt_nat hj,cond_true,ix_some hj,Option.bind_some,ix_kc hr,wrap_nat (show j<9223372036854775807 by omega)]
     rw[apx_some (by simp[ha];omega)];rfl)
    (fun a g=>by simp[L_x])
   simp only[L_9,lt_nat hx,cond_true,ix_some hx,Option.bind_some,e2,joinK_go,J_1q,J_1p,wrap_nat (show i<9223372036854775807 by omega)]
   rw[apx_some (by simp;omega)];rfl)
  (fun a g=>by simp[L_9])
 rw[e]
 have e2:x.flatMap (fun r=>[n.2.2.2.2.2.2.1.map fun c=>kc c r])=keepR n x:=by
  simp only[keepR]
  clear e hl h
  induction x with
  |nil=>rfl
  |cons r x ih=>rw[List.flatMap_cons,ih];rfl
 rw[List.nil_append,e2]
theorem ev_once {x:Rows}{w:Int}(h:RW w x)(hw:w≤64):loopF (fun f s=>L_b x f s.1 s.2) ([],0)=some (onceR x,decide (((onceR x).length:Int)≤200)):=by
 have hl:=h.len
 exact loop_st (f:=fun f s=>L_b x f s.1 s.2) x (fun a r=>bif decide (cnt a r=0) then a++[r] else a) (fun a=>(a,decide ((a.length:Int)≤200))) (fun i a=>a.length≤i∧∀r∈a,r.length≤64)
  (fun i r a g hx ha=>by
   have l1:=(List.getElem?_eq_some_iff.1 hx).1
   simp only[L_b,lt_nat hx,cond_true,ix_some hx,Option.bind_some,V_1p (a:=a) (x:=r) (by omega) (fun r hr=>by have:=ha.2 r hr;omega),joinK_bif,joinK_bind,joinK_go,J_1u,wrap_nat (show i<9223372036854775807 by omega)]
   rw[apx_some (by simp;omega)]
   have:((cnt a r:Int)==0)=decide (cnt a r=0):=by rw[beq_dec];simp
   rw[this]
   cases decide (cnt a r=0) <;> rfl)
  (fun i r a hx ha=>by
   have:=h.short hw r (mem_of_get hx)
   cases decide (cnt a r=0) with
   |true=>exact⟨by simp;omega,fun q hq=>by rcases List.mem_append.1 hq with hq|hq;exact ha.2 q hq;rw[List.mem_singleton.1 hq];exact this⟩
   |false=>exact⟨by simp;omega,ha.2⟩)
  (fun a g _=>by simp[L_b]) [] (by simp)
theorem ev_join {n:SNode}{x y:Rows}{w v:Int}(h:RW w x) (k:RW v y)(hw:w≤64)(hv:v≤64)(h0:0≤n.2.2.1)(h1:n.2.2.1<w) (k0:0≤n.2.2.2.2.1) (k1:n.2.2.2.2.1<v) :
  loopF (fun f s=>L_a [x,y] n x f s.1 s.2) ([],0)=some (joinR n x y,decide (((joinR n x y).length:Int)≤200)):=by
 have hl:=h.len
 have kl:=k.len
 exact loop_cat (f:=fun f s=>L_a [x,y] n x f s.1 s.2) x (fun l=>y.flatMap fun r=>bif !(decide (kc n.2.2.1 l=-2000000))&&decide (kc n.2.2.1 l=kc n.2.2.2.2.1 r) then[l++r] else[]) (fun a=>(a,decide ((a.length:Int)≤200))) 200
  (fun l _=>by have:=fm_len (fun r=>!(decide (kc n.2.2.1 l=-2000000))&&decide (kc n.2.2.1 l=kc n.2.2.2.2.1 r)) (fun r=>l++r) y;omega) []
  (fun i l a g hx ha=>by
   have l1:=(List.getElem?_eq_some_iff.1 hx).1
   simp only[List.length_nil] at ha
   have hr:=h.okr h0 h1 l (mem_of_get hx)
   have hls:=h.short hw l (mem_of_get hx)
   have e2:=loop_cat (f:=fun f s=>L_y n l y f s.1 s.2) y (fun r=>bif !(decide (kc n.2.2.1 l=-2000000))&&decide (kc n.2.2.1 l=kc n.2.2.2.2.1 r) then[l++r] else[]) (fun a=>(Ex.go a:Ex (Rows×Bool) Rows)) 1
    (fun r _=>by cases (!(decide (kc n.2.2.1 l=-2000000))&&decide (kc n.2.2.1 l=kc n.2.2.2.2.1 r)) <;> simp) a
    (fun j r b g hy hb=>by
     have l2:=(List.getElem?_eq_some_iff.1 hy).1
     have hq:=k.okr k0 k1 r (mem_of_get hy)
     have hrs:=k.short hv r (mem_of_get hy)
     have e3:=V_2c (l:=[l,r]) (by simp) (by simp;omega)
     simp only[L_y,lt_nat hy,cond_true,ix_some hy,Option.bind_some,ix_kc hr,ix_kc hq,joinK_bif,joinK_bind,joinK_go,J_1t,e3,J_1s,wrap_nat (show j<9223372036854775807 by omega),beq_dec,bne_dec]
     rw[apx_some (by simp;omega)]
     generalize decide (kc n.2.2.1 l=-2000000)=d1
     generalize decide (kc n.2.2.1 l=kc n.2.2.2.2.1 r)=d2
     cases d1 <;> cases d2 <;> simp)
    (fun b g=>by simp[L_y])
   simp only[L_a,lt_nat hx,cond_true,ix_some hx,ix1,Option.bind_some,e2,joinK_go,J_1r,wrap_nat (show i<9223372036854775807 by omega)])
  (fun a g=>by simp[L_a])
theorem V_f {s:List STable}{st:List Rows}(h:storeOk s st=true){p:List SNode}(hp:Pl p):∀(t:PT) (k:Nat) (w:Int),At p k t→Good t→wT s t=some w→EvOut (evalT s st t) (F_9 s st p k)
 |.n0 n,k,w,ha,g,hw=>by
  have hk:=kind0 (n:=n) g.ok
  have hx:p[k]?=some n:=ha.hd
  have hso:schemaOk s=true:=by simp only[storeOk,Bool.and_eq_true] at h;exact h.1.1
  have hl:=schemaOk_len hso
  simp only[wT] at hw
  split at hw
  ·rename_i j hj
   split at hw
   ·rename_i tb htb
    cases hw
    obtain⟨t,h1,h2,h3⟩:=storeOk_tab h htb
    simp only[evalT,hj,h1]
    obtain⟨z,e1,e2⟩:=evOut_cap t
    refine⟨z,(U_0 s st p k).out ?_,e2⟩
    simp only[ha.V_6 g hp,kids,Option.bind_some]
    rw[loopF_of (r:=.go ([],false,[])) 1 (by
     intro n hn
     obtain⟨m,rfl⟩:∃m,n=m+1:=⟨n-1,by omega⟩
     simp[loopK,L_0])]
    simp only[joinK_go,J_4,ix_some hx,Option.bind_some,hk,beq_dec,decide_true,cond_true,V_16 (show s.length≤1073741824 by omega),Option.bind_some,hj,fint_some,ix_some h1]
    exact e1
   ·cases hw
  ·cases hw
 |.n1 n a,k,w,ha,g,hw=>by
  have hk:=kind1 (n:=n) g.ok.1
  have hx:p[k]?=some n:=ha.hd
  have hn:nodeOk n=true:=g.hd
  have hso:schemaOk s=true:=by simp only[storeOk,Bool.and_eq_true] at h;exact h.1.1
  simp only[wT] at hw
  split at hw
  ·cases hw
  rename_i v hv
  have hvr:=wT_range hso g.c1 hv
  obtain⟨x,i1,i2⟩:=V_f h hp a (k+1) v ha.c1 g.c1 hv
  have fin:∀r,F_9 s st p k=some r→EvOut (evalT s st (.n1 n a)) (some r)→EvOut (evalT s st (.n1 n a)) (F_9 s st p k):=fun r e h=>by rw[e];exact h
  have hkids:=ha.V_6 g hp
  simp only[kids] at hkids
  generalize ((k+1:Nat):Int)=j1 at *
  cases he:evalT s st a with
  |none=>
   rw[he] at i1
   refine fin ([],false) ((U_0 s st p k).out ?_) ⟨[],by simp[evalT,he],by simp[evalT,he]⟩
   simp only[hkids,Option.bind_some]
   rw[loopF_of (r:=.ret ([],false)) 1 (by
    intro n hn
    obtain⟨m,rfl⟩:∃m,n=m+1:=⟨n-1,by omega⟩
    simp only[loopK,L_0,ix0,Option.bind_some,i1]
    simp)]
   simp
  |some x'=>
   rw[he] at i1
   have:=i2 x' he
   subst this
   have hrw:=evalT_rw h g.c1 hv he
   have hl:=hrw.len
   have main:∀r,r=some (op1 n x,decide (((op1 n x).length:Int)≤200))→EvOut (evalT s st (.n1 n a)) r:=by
    rintro r rfl
    simp only[evalT,he]
    exact evOut_cap _
   refine main _ ((U_0 s st p k).out ?_)
   simp only[hkids,Option.bind_some]
   rw[eval_k1 (x:=x) (fun g=>by
     simp only[L_0,ix0,Option.bind_some,i1]
     rw[apx_some (by simp)]
     simp) (fun g=>by simp[L_0])]
   simp only[joinK_go,J_4,ix_some hx,ix0,Option.bind_some]
   rcases hk with hk|hk|hk|hk|hk
   ·
    have h0:=node_col hn (.inl hk)
    have h1:n.2.2.1<v:=by
     rw[if_neg (by omega),if_pos (.inl hk)] at hw
     split at hw
     ·assumption
     ·cases hw
    rw[ev_filter hn hk hrw h0 h1]
    simp[hk,op1]
   ·
    have h0:=nodeOk_keep hn hk
    rw[if_pos hk] at hw
    split at hw
    ·rename_i hall
     simp only[List.all_eq_true,decide_eq_true_eq] at hall
     rw[ev_keep hrw h0.2.1 (fun c hc=>⟨(h0.2.2 c hc).1,hall c hc⟩)]
     simp[hk,op1]
    ·cases hw
   ·
    have h0:=node_col hn (.inr (.inr hk))
    have h1:n.2.2.1<v:=by
     rw[if_neg (by omega),if_pos (.inr hk)] at hw
     split at hw
     ·assumption
     ·cases hw
    simp only[V_29 (show x.length≤2147483648 by omega),V_1m (hrw.okr h0 h1) (show x.length≤2147483648 by omega),Option.bind_some]
    simp[hk,op1]
   ·
    have h0:=node_num hn (.inr hk)
    have e:slx x 0 (mmx false n.2.2.2.2.1 (x.length:Int))=some (x.take n.2.2.2.2.1.toNat):=by
     obtain⟨m,hm⟩:∃m:Nat,n.2.2.2.2.1=(m:Int):=⟨n.2.2.2.2.1.toNat,by omega⟩
     rw[hm]
     by_cases hc:m<x.length
     ·have:mmx false (m:Int) (x.length:Int)=(m:Int):=by
       have d:decide ((x.length:Int)<(m:Int))=false:=by simp;omega
       simp only[mmx,cond_false,d]
      rw[this,slx0 (by omega)];simp
     ·have:mmx false (m:Int) (x.length:Int)=(x.length:Int):=by
       by_cases hh:x.length<m
       ·have d:decide ((x.length:Int)<(m:Int))=true:=by simp;omega
        simp only[mmx,cond_false,d,cond_true]
       ·have d:decide ((x.length:Int)<(m:Int))=false:=by simp;omega
        simp only[mmx,cond_false,d];omega
      rw[this,slx0 (by omega)]
      have e1:x.take m=x:=List.take_of_length_le (by omega)
      simp[e1]
    simp[hk,e,op1]
   ·
    rw[ev_once hrw (by omega)]
    simp[hk,op1]
 |.n2 n a b,k,w,ha,g,hw=>by
  have hk:=kind2 (n:=n) g.ok.1
  have hx:p[k]?=some n:=ha.hd
  have hn:nodeOk n=true:=g.hd
  have hso:schemaOk s=true:=by simp only[storeOk,Bool.and_eq_true] at h;exact h.1.1
  simp only[wT] at hw
  split at hw
  case h_2=>cases hw
  rename_i wa wb hwa hwb
  have hra:=wT_range hso g.l2 hwa
  have hrb:=wT_range hso g.r2 hwb
  obtain⟨x,i1,i2⟩:=V_f h hp a (k+1) wa ha.l2 g.l2 hwa
  obtain⟨y,j1,j2⟩:=V_f h hp b (k+1+a.size) wb ha.r2 g.r2 hwb
  have fin:∀r,F_9 s st p k=some r→EvOut (evalT s st (.n2 n a b)) (some r)→EvOut (evalT s st (.n2 n a b)) (F_9 s st p k):=fun r e h=>by rw[e];exact h
  have hkids:=ha.V_6 g hp
  simp only[kids] at hkids
  generalize ((k+1:Nat):Int)=k1 at *
  generalize ((k+1+a.size:Nat):Int)=k2 at *
  cases he:evalT s st a with
  |none=>
   rw[he] at i1
   refine fin ([],false) ((U_0 s st p k).out ?_) ⟨[],by simp[evalT,he],by simp[evalT,he]⟩
   simp only[hkids,Option.bind_some]
   rw[loopF_of (r:=.ret ([],false)) 1 (by
    intro n hn
    obtain⟨m,rfl⟩:∃m,n=m+1:=⟨n-1,by omega⟩
    simp only[loopK,L_0,ix0,Option.bind_some,i1]
    simp)]
   simp
  |some x'=>
   rw[he] at i1
   have:=i2 x' he
   subst this
   cases hf:evalT s st b with
   |none=>
    rw[hf] at j1
    refine fin ([],false) ((U_0 s st p k).out ?_) ⟨[],by simp[evalT,he,hf],by simp[evalT,he,hf]⟩
    simp only[hkids,Option.bind_some]
    rw[loopF_of (r:=.ret ([],false)) 2 (by
     intro n hn
     obtain⟨m,rfl⟩:∃m,n=m+2:=⟨n-2,by omega⟩
     simp only[loopK,L_0,ix0,Option.bind_some,i1]
     rw[apx_some (by simp)]
     simp[ix1,j1])]
    simp
   |some y'=>
    rw[hf] at j1
    have:=j2 y' hf
    subst this
    have hrx:=evalT_rw h g.l2 hwa he
    have hry:=evalT_rw h g.r2 hwb hf
    have hlx:=hrx.len
    have hly:=hry.len
    have main:∀r,r=some (op2 n x y,decide (((op2 n x y).length:Int)≤200))→EvOut (evalT s st (.n2 n a b)) r:=by
     rintro r rfl
     simp only[evalT,he,hf]
     exact evOut_cap _
    refine main _ ((U_0 s st p k).out ?_)
    simp only[hkids,Option.bind_some]
    rw[eval_k2 (x:=x) (y:=y) (fun g=>by
      simp only[L_0,ix0,Option.bind_some,i1]
      rw[apx_some (by simp)]
      simp) (fun g=>by
      simp only[L_0,ix1,Option.bind_some,j1]
      rw[apx_some (by simp)]
      simp) (fun g=>by simp[L_0])]
    simp only[joinK_go,J_4,ix_some hx,ix0,ix1,Option.bind_some]
    rcases hk with hk|hk
    ·
     have h0:=node_col hn (.inr (.inl hk))
     have h1:=node_num hn (.inl hk)
     rw[if_pos hk] at hw
     split at hw
     ·rename_i hc
      rw[ev_join hrx hry (by omega) (by omega) h0 hc.1 h1 hc.2.1]
      simp[hk,op2]
     ·cases hw
    ·
     have hc:=V_2b (l:=[x,y]) (by simp) (by simp;omega)
     simp[hk,hc,op2]
end Go.Proofs.YtkbcahfajbdgnaaGreatDoorX
namespace Go.Proofs.YtkbcahfajbdgnaaGreatDoorX
open Go Go.Proofs.YtkbcahfajbdgnaaGreatDoorT PT
set_option linter.all false
def evalPlan (s:List Tb) (st:List Rows) (p:List Nd):Rows×Int:=
 if storeOk s st=true∧typedOk s p=true∧hasSlot p=false then match planT p with
  |some t=>match evalT s st t with
   |some x=>(x,0)
   |none=>([],2)
  |none=>([],1)
 else([],1)
structure SmallR (x:Rows):Prop where
 len:x.length≤200
 row:∀r∈x,r.length≤64
theorem SmallR.nil:SmallR []:=⟨by simp,by simp⟩
theorem evalPlan_small (s:List Tb) (st:List Rows) (p:List Nd):SmallR (evalPlan s st p).1:=by
 unfold evalPlan
 split
 ·rename_i h
  obtain⟨h1,h2,h3⟩:=h
  obtain⟨t,rfl,ht⟩:=typedOk_iff.1 h2
  rw[planT_flat ht.plan]
  dsimp only
  cases he:evalT s st t with
  |none=>exact SmallR.nil
  |some x=>
   cases hw:wT s t with
   |none=>have:=ht.w;rw[hw] at this;cases this
   |some w=>
    have:=evalT_rw h1 ht.plan.good hw he
    have h2:=wT_range ht.sch ht.plan.good hw
    exact⟨this.len,this.short h2.2⟩
 ·exact SmallR.nil
theorem V_7 {s:List STable}{st:List Rows}{p:List SNode}(hs:BSch s)(hst:BRows st)(hp:BPlan p):F_7 s st p=some (evalPlan s st p):=(U_g s st p).out (by
 simp only[V_p hs hst,V_21 hs hp,V_23 hp.len,Option.bind_some,joinK_bif,joinK_go,joinK_bind,J_r]
 unfold evalPlan
 cases h1:storeOk s st with
 |false=>simp
 |true=>
  cases h2:typedOk s p with
  |false=>simp
  |true=>
   cases h3:hasSlot p with
   |true=>simp
   |false=>
    obtain⟨t,rfl,ht⟩:=typedOk_iff.1 h2
    rw[planT_flat ht.plan]
    cases hw:wT s t with
    |none=>have:=ht.w;rw[hw] at this;cases this
    |some w=>
     obtain⟨x,e1,e2⟩:=V_f h1 ht.plan.pl t 0 w (At.root t) ht.plan.good hw
     rw[show((0:Nat):Int)=0 from rfl] at e1
     simp only[e1,Option.bind_some]
     cases he:evalT s st t with
     |none=>simp
     |some y=>
      have:=e2 y he
      subst this
      have hr:=evalT_rw h1 ht.plan.good hw he
      have hl:=hr.len
      have hwr:=wT_range ht.sch ht.plan.good hw
      simp[V_15 (l:=x) (by omega) (fun r hr'=>by have:=hr.short hwr.2 r hr';omega)])
theorem V_8 {s:List STable}{st:List Rows}{p:List SNode}(hs:BSch s)(hst:BRows st)(hp:BPlan p):F_o s st p=some (evalPlan s st p):=(U_2k s st p).out (by
 simp only[V_1c hs hst,V_i hs hp,Option.bind_some,joinK_bif,joinK_go,joinK_bind,J_2v]
 unfold evalPlan
 cases h1:storeOk s st with
 |false=>simp
 |true=>
  cases h2:typedOk s p with
  |false=>simp
  |true=>
   have hl:=hp.len
   have hloop:loopF (fun f s=>L_7 p f s.1 s.2.1 s.2.2) ([],0,0)=some (bif hasSlot p then Ex.ret ([],1) else Ex.go ([],0)):=by
    have hf:=loopF_tail (f:=fun f s=>L_7 p f s.1 s.2.1 s.2.2) (fun s=>((p.length:Int)-s.2.2).toNat)
     (fun s=>∃i:Nat,i≤p.length∧s=([],0,(i:Int))∧hasSlot p=(p.drop i).any fun n=>n.2.2.2.2.2.1)
     (fun r=>r=bif hasSlot p then Ex.ret ([],1) else Ex.go ([],0)) (by
      rintro s ⟨i,hi,rfl,hh⟩
      by_cases h:i<p.length
      ·have hx:p[i]?=some p[i]:=List.getElem?_eq_getElem h
       rw[List.drop_eq_getElem_cons h,List.any_cons] at hh
       cases hb:p[i].2.2.2.2.2.1 with
       |true=>
        left
        rw[hb,Bool.true_or] at hh
        refine⟨_,rfl,fun g=>?_⟩
        dsimp only
        simp only[L_7,lt_nat hx,cond_true,ix_some hx,Option.bind_some,hb,hh]
       |false=>
        right
        rw[hb,Bool.false_or] at hh
        refine⟨([],0,((i+1:Nat):Int)),⟨i+1,by omega,rfl,hh⟩,by dsimp only;omega,fun g=>?_⟩
        dsimp only
        simp only[L_7,lt_nat hx,cond_true,ix_some hx,Option.bind_some,hb,cond_false,wrap_nat (show i<9223372036854775807 by omega)]
      ·have:i=p.length:=by omega
       subst this
       left
       simp only[List.drop_length,List.any_nil] at hh
       refine⟨_,rfl,fun g=>?_⟩
       dsimp only
       simp[L_7,hh]) ([],0,0) ⟨0,by omega,rfl,rfl⟩
    obtain⟨r,h1,rfl⟩:=hf
    exact h1
   simp only[Bool.not_true,cond_false,hloop]
   cases h3:hasSlot p with
   |true=>simp
   |false=>
    simp only[cond_false,joinK_go,J_2w]
    obtain⟨t,rfl,ht⟩:=typedOk_iff.1 h2
    rw[planT_flat ht.plan]
    cases hw:wT s t with
    |none=>have:=ht.w;rw[hw] at this;cases this
    |some w=>
     obtain⟨x,e1,e2⟩:=V_k h1 ht.plan.pl t 0 w (At.root t) ht.plan.good hw
     rw[show((0:Nat):Int)=0 from rfl] at e1
     simp only[e1,Option.bind_some]
     cases he:evalT s st t with
     |none=>simp
     |some y=>
      have:=e2 y he
      subst this
      have hr:=evalT_rw h1 ht.plan.good hw he
      have hl:=hr.len
      have hwr:=wT_range ht.sch ht.plan.good hw
      simp[V_1i (l:=x) (by omega) (fun r hr'=>by have:=hr.short hwr.2 r hr';omega)])
theorem zip_all {T:Type}[DecidableEq T]:∀{a b:List T},a.length=b.length→(a.zip b).all (fun p=>decide (p.1=p.2))=decide (a=b)
 |[],[],_=>rfl
 |x::a,y::b,h=>by
  simp only[List.zip_cons_cons,List.all_cons,zip_all (a:=a) (b:=b) (by simpa using h)]
  by_cases h:x=y <;> simp[h]
theorem V_10 {a b:Rows}(ha:SmallR a):F_19 a b=some (decide (a=b)):=(U_s a b).out (by
 have:F_2x a b=some (decide (a=b)):=(U_1u a b).out (by
  have hla:=ha.len
  by_cases hl:a.length=b.length
  ·have e:=loop_chk (f:=fun f z=>L_14 a b f z.1 z.2) (a.zip b) (fun _ p=>decide (p.1=p.2)) false
    (fun i p v g hp=>by
     obtain⟨x,y⟩:=p
     have l1:=(List.getElem?_eq_some_iff.1 hp).1
     simp only[List.length_zip] at l1
     obtain⟨hx,hy⟩:=List.getElem?_zip_eq_some.1 hp
     have hs:=ha.row x (mem_of_get hx)
     simp only[L_14,lt_nat hx,cond_true,ix_some hx,ix_some hy,Option.bind_some,V_s (show x.length≤2147483648 by omega),wrap_nat (show i<9223372036854775807 by omega)]
     by_cases h:x=y <;> simp[h])
    (fun v g=>by simp[L_14,hl]) false
   rw[e,allI_const,zip_all hl,hl]
   cases decide (a=b) <;> simp[J_25]
  ·have:((a.length:Int) != (b.length:Int))=true:=by simp;omega
   have h2:a≠b:=fun h=>hl (by rw[h])
   simp[this,h2])
 rw[this];rfl)
theorem V_1a {a b:Rows}(ha:SmallR a):F_y a b=some (decide (a=b)):=(U_2w a b).out (by
 have hla:=ha.len
 by_cases hl:a.length=b.length
 ·have e:=loop_chk (f:=fun f z=>L_1j a b f z.1 z.2) (a.zip b) (fun _ p=>decide (p.1=p.2)) false
   (fun i p v g hp=>by
    obtain⟨x,y⟩:=p
    have l1:=(List.getElem?_eq_some_iff.1 hp).1
    simp only[List.length_zip] at l1
    obtain⟨hx,hy⟩:=List.getElem?_zip_eq_some.1 hp
    have hs:=ha.row x (mem_of_get hx)
    simp only[L_1j,lt_nat hx,cond_true,ix_some hx,ix_some hy,Option.bind_some,V_1g (a:=x) (b:=y) (by omega),wrap_nat (show i<9223372036854775807 by omega)]
    by_cases h:x=y <;> simp[h])
   (fun v g=>by simp[L_1j,hl]) false
  rw[e,allI_const,zip_all hl,hl]
  cases decide (a=b) <;> simp[J_39]
 ·have:((a.length:Int) != (b.length:Int))=true:=by simp;omega
  have h2:a≠b:=fun h=>hl (by rw[h])
  simp[this,h2])
end Go.Proofs.YtkbcahfajbdgnaaGreatDoorX
