/- The plain law: the plain functions answer as the statement says. -/
import Derived.Test.YtnljlpckjkafgaaGreatDoorPtxA
set_option linter.all false
namespace Go.Proofs.YtnljlpckjkafgaaGreatDoorX
open Go Go.Proofs.YtnljlpckjkafgaaGreatDoorT PT
set_option linter.all false
theorem rNode_at {W rest:List ByteArray}{k:Nat}{n:Nd}(hn:nodeOk n=true)(h:W.drop k=(ndW n).map bA++rest):rNode W k=.ok (n,k+(ndW n).length)∧W.drop (k+(ndW n).length)=rest:=by
 obtain⟨kd,name,col,op,num,slot,cols,⟨⟩⟩:=n
 have hn':=hn
 simp only[nodeOk,Bool.and_eq_true,Bool.or_eq_true,decide_eq_true_eq,Bool.not_eq_true'] at hn'
 obtain⟨⟨⟨⟨e1,e2⟩,e3⟩,e4⟩,e5⟩:=hn'
 have hslot:slot=true→0≤num:=by
  intro hs
  rcases e4 with e4|e4
  ·rw[hs] at e4;cases e4
  ·exact(okIn_iff.1 e4).1
 rcases kinds_of hn with⟨rfl,hnn⟩|⟨rfl,c0,c1,o0,o1,n0,n1⟩|⟨rfl,hc,hcs⟩|⟨rfl,c0,c1,n0,n1⟩|⟨rfl,c0,c1⟩|⟨rfl,n0,n1⟩|rfl|rfl
 ·have hw:ndW ((0:Int),name,col,op,num,slot,cols,())=[vbt 0,name.data.toList]:=rfl
  simp only[hw,List.map_cons,List.map_nil,List.cons_append,List.nil_append] at h
  rw[bA_data] at h
  obtain⟨h1,h2⟩:=rWord_at h (in_verbs (k:=0) (by decide))
  rw[if_pos rfl] at e5
  simp only[Bool.and_eq_true,decide_eq_true_eq,Bool.not_eq_true'] at e5
  obtain⟨⟨⟨hwo,rfl⟩,rfl⟩,rfl⟩:=e5
  obtain⟨h3,h4⟩:=rWord_at (f:=wordM) (a:=name) h2 (by unfold wordM;rw[if_pos hwo])
  have ec:cols=[]:=by
   rcases e2 with e2|e2
   ·cases e2
   ·exact e2
  have eo:op=0:=by
   rcases e3 with e3|e3
   ·cases e3
   ·exact e3
  subst ec eo
  refine⟨?_,h4⟩
  unfold rNode
  rw[h1]
  simp only[thn,if_true]
  rw[h3]
  rfl
 ·obtain⟨o,rfl⟩:∃o:Nat,op=(o:Int):=⟨op.toNat,by omega⟩
  have en:name=ByteArray.empty:=by
   rcases e1 with e1|e1
   ·cases e1
   ·exact e1
  have ec:cols=[]:=by
   rcases e2 with e2|e2
   ·cases e2
   ·exact e2
  subst en ec
  rw[if_neg (by decide),if_pos rfl] at e5
  simp only[Bool.and_eq_true,Bool.or_eq_true,decide_eq_true_eq,Bool.not_eq_true',decide_eq_false_iff_not] at e5
  by_cases ho:o=3
  ·subst ho
   have e6:=e5.2
   have e7:num=0∧slot=false:=by
    rcases e6 with e6|e6
    ·exact absurd rfl e6
    ·exact e6
   obtain⟨rfl,rfl⟩:=e7
   have hw:ndW ((1:Int),ByteArray.empty,col,((3:Nat):Int),0,false,[],())=[vbt 1,Lib.itoa col,ob 3]:=rfl
   simp only[hw,List.map_cons,List.map_nil,List.cons_append,List.nil_append] at h
   obtain⟨h1,h2⟩:=rWord_at h (in_verbs (k:=1) (by decide))
   obtain⟨h3,h4⟩:=rWord_at (f:=readM) h2 (readM_num (v:=col) (by omega) (by omega))
   obtain⟨h5,h6⟩:=rWord_at h4 (in_ops (k:=3) (by decide))
   refine⟨?_,h6⟩
   unfold rNode
   rw[h1]
   simp only[thn,show¬(1:Nat)=0 by decide,if_false,if_true,rNum]
   rw[h3]
   simp only
   rw[h5]
   rfl
  ·have ho':¬(o:Int)=3:=by omega
   have hw:ndW ((1:Int),ByteArray.empty,col,(o:Int),num,slot,[],())=[vbt 1,Lib.itoa col,ob o,nW slot num]:=by simp[ndW,ho']
   simp only[hw,List.map_cons,List.map_nil,List.cons_append,List.nil_append] at h
   obtain⟨h1,h2⟩:=rWord_at h (in_verbs (k:=1) (by decide))
   obtain⟨h3,h4⟩:=rWord_at (f:=readM) h2 (readM_num (v:=col) (by omega) (by omega))
   obtain⟨h5,h6⟩:=rWord_at h4 (in_ops (k:=o) (by omega))
   obtain⟨h7,h8⟩:=rWord_at (f:=slotM) h6 (slot_num n0 n1 hslot)
   rw[hw]
   refine⟨?_,h8⟩
   unfold rNode
   rw[h1]
   simp only[thn,show¬(1:Nat)=0 by decide,if_false,if_true,rNum]
   rw[h3]
   simp only
   rw[h5]
   simp only
   rw[if_neg ho,h7]
   rfl
 ·have en:name=ByteArray.empty:=by
   rcases e1 with e1|e1
   ·cases e1
   ·exact e1
  have eo:op=0:=by
   rcases e3 with e3|e3
   ·cases e3
   ·exact e3
  rw[if_neg (by decide),if_neg (by decide),if_pos rfl] at e5
  simp only[Bool.and_eq_true,decide_eq_true_eq,Bool.not_eq_true'] at e5
  obtain⟨⟨⟨⟨-,hlen⟩,rfl⟩,rfl⟩,rfl⟩:=e5
  subst en eo
  have hlen':=okIn_iff.1 hlen
  have hw:ndW ((2:Int),ByteArray.empty,0,0,0,false,cols,())=[vbt 2,Lib.itoa (cols.length:Int)]++cols.map Lib.itoa:=rfl
  rw[hw] at h
  simp only[List.map_append,List.map_cons,List.map_nil,List.cons_append,List.nil_append] at h
  obtain⟨h1,h2⟩:=rWord_at h (in_verbs (k:=2) (by decide))
  obtain⟨h3,h4⟩:=rWord_at (f:=numIn 1 6) h2 (numIn_num (v:=(cols.length:Int)) (by omega) (by omega) hlen)
  obtain⟨h5,h6⟩:=rCols_at cols (k+1+1) [] h4 hcs
  have el:(ndW ((2:Int),ByteArray.empty,0,0,0,false,cols,())).length=2+cols.length:=by rw[hw];simp;omega
  rw[el]
  refine⟨?_,by rw[←h6];congr 1;omega⟩
  unfold rNode
  rw[h1]
  simp only[thn,show¬(2:Nat)=0 by decide,show¬(2:Nat)=1 by decide,if_false,if_true]
  rw[h3]
  simp only[Int.toNat_natCast]
  rw[h5]
  simp only[if_true,List.nil_append]
  congr 2
  omega
 ·have en:name=ByteArray.empty:=by
   rcases e1 with e1|e1
   ·cases e1
   ·exact e1
  have ec:cols=[]:=by
   rcases e2 with e2|e2
   ·cases e2
   ·exact e2
  have eo:op=0:=by
   rcases e3 with e3|e3
   ·cases e3
   ·exact e3
  rw[if_neg (by decide),if_neg (by decide),if_neg (by decide),if_pos rfl] at e5
  simp only[Bool.and_eq_true,decide_eq_true_eq,Bool.not_eq_true'] at e5
  obtain⟨-,rfl⟩:=e5
  subst en ec eo
  have hw:ndW ((3:Int),ByteArray.empty,col,0,num,false,[],())=[vbt 3,Lib.itoa col,Lib.itoa num]:=rfl
  simp only[hw,List.map_cons,List.map_nil,List.cons_append,List.nil_append] at h
  obtain⟨h1,h2⟩:=rWord_at h (in_verbs (k:=3) (by decide))
  obtain⟨h3,h4⟩:=rWord_at (f:=readM) h2 (readM_num (v:=col) (by omega) (by omega))
  obtain⟨h5,h6⟩:=rWord_at (f:=readM) h4 (readM_num (v:=num) (by omega) (by omega))
  refine⟨?_,h6⟩
  unfold rNode
  rw[h1]
  simp only[thn,show¬(3:Nat)=0 by decide,show¬(3:Nat)=1 by decide,show¬(3:Nat)=2 by decide,if_false,if_true,rNum]
  rw[h3]
  simp only
  rw[h5]
  rfl
 ·have en:name=ByteArray.empty:=by
   rcases e1 with e1|e1
   ·cases e1
   ·exact e1
  have ec:cols=[]:=by
   rcases e2 with e2|e2
   ·cases e2
   ·exact e2
  have eo:op=0:=by
   rcases e3 with e3|e3
   ·cases e3
   ·exact e3
  rw[if_neg (by decide),if_neg (by decide),if_neg (by decide),if_neg (by decide),if_pos rfl] at e5
  simp only[Bool.and_eq_true,decide_eq_true_eq,Bool.not_eq_true'] at e5
  obtain⟨⟨-,rfl⟩,rfl⟩:=e5
  subst en ec eo
  have hw:ndW ((5:Int),ByteArray.empty,col,0,0,false,[],())=[vbt 5,Lib.itoa col]:=rfl
  simp only[hw,List.map_cons,List.map_nil,List.cons_append,List.nil_append] at h
  obtain⟨h1,h2⟩:=rWord_at h (in_verbs (k:=5) (by decide))
  obtain⟨h3,h4⟩:=rWord_at (f:=readM) h2 (readM_num (v:=col) (by omega) (by omega))
  refine⟨?_,h4⟩
  unfold rNode
  rw[h1]
  simp only[thn,show¬(5:Nat)=0 by decide,show¬(5:Nat)=1 by decide,show¬(5:Nat)=2 by decide,show¬(5:Nat)=3 by decide,if_false,if_true,rNum]
  rw[h3]
  rfl
 ·have en:name=ByteArray.empty:=by
   rcases e1 with e1|e1
   ·cases e1
   ·exact e1
  have ec:cols=[]:=by
   rcases e2 with e2|e2
   ·cases e2
   ·exact e2
  have eo:op=0:=by
   rcases e3 with e3|e3
   ·cases e3
   ·exact e3
  rw[if_neg (by decide),if_neg (by decide),if_neg (by decide),if_neg (by decide),if_neg (by decide),if_pos rfl] at e5
  simp only[Bool.and_eq_true,decide_eq_true_eq] at e5
  obtain⟨rfl,-⟩:=e5
  subst en ec eo
  have hw:ndW ((6:Int),ByteArray.empty,0,0,num,slot,[],())=[vbt 6,nW slot num]:=rfl
  simp only[hw,List.map_cons,List.map_nil,List.cons_append,List.nil_append] at h
  obtain⟨h1,h2⟩:=rWord_at h (in_verbs (k:=6) (by decide))
  obtain⟨h3,h4⟩:=rWord_at (f:=slotM) h2 (slot_num (b:=slot) (v:=num) (by omega) (by omega) hslot)
  refine⟨?_,h4⟩
  unfold rNode
  rw[h1]
  simp only[thn,show¬(6:Nat)=0 by decide,show¬(6:Nat)=1 by decide,show¬(6:Nat)=2 by decide,show¬(6:Nat)=3 by decide,show¬(6:Nat)=5 by decide,if_false,if_true]
  rw[h3]
  rfl
 ·have en:name=ByteArray.empty:=by
   rcases e1 with e1|e1
   ·cases e1
   ·exact e1
  have ec:cols=[]:=by
   rcases e2 with e2|e2
   ·cases e2
   ·exact e2
  have eo:op=0:=by
   rcases e3 with e3|e3
   ·cases e3
   ·exact e3
  rw[if_neg (by decide),if_neg (by decide),if_neg (by decide),if_neg (by decide),if_neg (by decide),if_neg (by decide),if_pos (by decide)] at e5
  simp only[Bool.and_eq_true,decide_eq_true_eq,Bool.not_eq_true'] at e5
  obtain⟨⟨rfl,rfl⟩,rfl⟩:=e5
  subst en ec eo
  have hw:ndW ((4:Int),ByteArray.empty,0,0,0,false,[],())=[vbt 4]:=rfl
  simp only[hw,List.map_cons,List.map_nil,List.cons_append,List.nil_append] at h
  obtain⟨h1,h2⟩:=rWord_at h (in_verbs (k:=4) (by decide))
  refine⟨?_,h2⟩
  unfold rNode
  rw[h1]
  rfl
 ·have en:name=ByteArray.empty:=by
   rcases e1 with e1|e1
   ·cases e1
   ·exact e1
  have ec:cols=[]:=by
   rcases e2 with e2|e2
   ·cases e2
   ·exact e2
  have eo:op=0:=by
   rcases e3 with e3|e3
   ·cases e3
   ·exact e3
  rw[if_neg (by decide),if_neg (by decide),if_neg (by decide),if_neg (by decide),if_neg (by decide),if_neg (by decide),if_pos (by decide)] at e5
  simp only[Bool.and_eq_true,decide_eq_true_eq,Bool.not_eq_true'] at e5
  obtain⟨⟨rfl,rfl⟩,rfl⟩:=e5
  subst en ec eo
  have hw:ndW ((7:Int),ByteArray.empty,0,0,0,false,[],())=[vbt 7]:=rfl
  simp only[hw,List.map_cons,List.map_nil,List.cons_append,List.nil_append] at h
  obtain⟨h1,h2⟩:=rWord_at h (in_verbs (k:=7) (by decide))
  refine⟨?_,h2⟩
  unfold rNode
  rw[h1]
  rfl
def nWs (p:List Nd):List ByteArray:=((p.map ndW).flatten).map bA
theorem nWs_cons (n:Nd) (p:List Nd):nWs (n::p)=(ndW n).map bA++nWs p:=by simp[nWs]
theorem nWs_app (p q:List Nd):nWs (p++q)=nWs p++nWs q:=by simp[nWs]
theorem rPlan_step {W rest:List ByteArray}{k f want:Nat}{acc:List Nd}{n:Nd}(hn:nodeOk n=true)(h:W.drop k=(ndW n).map bA++rest) :
  rPlan W (f+1) (want+1) k acc=rPlan W f (want+(arity n.1).toNat) (k+(ndW n).length) (acc++[n])∧W.drop (k+(ndW n).length)=rest:=by
 obtain⟨h1,h2⟩:=rNode_at hn h
 refine⟨?_,h2⟩
 conv=>lhs;unfold rPlan
 rw[if_neg (by omega),h1]
 rfl
theorem rPlan_tree {W:List ByteArray}:∀(t:PT) (rest:List ByteArray) (k f want:Nat) (acc:List Nd),t.ok→(∀n∈t.flat,nodeOk n=true)→W.drop k=nWs t.flat++rest→
  ∃k',rPlan W (f+t.flat.length) (want+1) k acc=rPlan W f want k' (acc++t.flat)∧W.drop k'=rest∧k'=k+(nWs t.flat).length
 |.n0 n,rest,k,f,want,acc,ho,hn,h=>by
  have e:(PT.n0 n).flat=[n]:=rfl
  rw[e] at h hn ⊢
  rw[nWs_cons,List.append_assoc] at h
  obtain⟨h1,h2⟩:=rPlan_step (f:=f) (want:=want) (acc:=acc) (hn n (by simp)) h
  have ha:arity n.1=0:=ho
  rw[ha] at h1
  exact⟨_,h1,h2,by rw[nWs_cons];simp[nWs]⟩
 |.n1 n a,rest,k,f,want,acc,ho,hn,h=>by
  have e:(PT.n1 n a).flat=n::a.flat:=rfl
  rw[e] at h hn ⊢
  rw[nWs_cons,List.append_assoc] at h
  obtain⟨h1,h2⟩:=rPlan_step (f:=f+a.flat.length) (want:=want) (acc:=acc) (hn n (by simp)) h
  have ha:arity n.1=1:=ho.1
  rw[ha] at h1
  obtain⟨k',h3,h4,h5⟩:=rPlan_tree a rest (k+(ndW n).length) f want (acc++[n]) ho.2 (fun m hm=>hn m (by simp[hm])) h2
  refine⟨k',?_,h4,by rw[h5,nWs_cons];simp;omega⟩
  rw[List.length_cons,show f+(a.flat.length+1)=f+a.flat.length+1 by omega,h1]
  show rPlan W (f+a.flat.length) (want+1) _ _=_
  rw[h3]
  simp
 |.n2 n a b,rest,k,f,want,acc,ho,hn,h=>by
  have e:(PT.n2 n a b).flat=n::(a.flat++b.flat):=rfl
  rw[e] at h hn ⊢
  rw[nWs_cons,List.append_assoc] at h
  obtain⟨h1,h2⟩:=rPlan_step (f:=f+b.flat.length+a.flat.length) (want:=want) (acc:=acc) (hn n (by simp)) h
  have ha:arity n.1=2:=ho.1
  rw[ha] at h1
  rw[nWs_app,List.append_assoc] at h2
  obtain⟨k',h3,h4,h5⟩:=rPlan_tree a (nWs b.flat++rest) (k+(ndW n).length) (f+b.flat.length) (want+1) (acc++[n]) ho.2.1 (fun m hm=>hn m (by simp[hm])) h2
  obtain⟨k2,h6,h7,h8⟩:=rPlan_tree b rest k' f want (acc++[n]++a.flat) ho.2.2 (fun m hm=>hn m (by simp[hm])) h4
  refine⟨k2,?_,h7,by rw[h8,h5,nWs_cons,nWs_app];simp;omega⟩
  rw[List.length_cons,List.length_append,show f+(a.flat.length+b.flat.length+1)=f+b.flat.length+a.flat.length+1 by omega,h1]
  show rPlan W (f+b.flat.length+a.flat.length) (want+1+1) _ _=_
  rw[h3,h6]
  simp
theorem parse_print {p:List Nd}(h:planOk p=true)(hs:(planT1 p).size≤2000):parsePlan (planT1 p)=(p,-1):=by
 obtain⟨t,ht,rfl⟩:=planOk_iff.1 h
 have hne:t.flat≠[]:=by
  have:=t.size_pos
  intro e
  have:=congrArg List.length e
  simp only[len_flat,List.length_nil] at this
  omega
 have hw:wordsOf (planT1 t.flat)=nWs t.flat:=plan_words hne ht.nodes
 have hl:t.flat.length≤(nWs t.flat).length:=by
  have:∀p:List Nd,(∀n∈p,nodeOk n=true)→p.length≤(nWs p).length:=by
   intro p
   induction p with
   |nil=>intro _;simp
   |cons n p ih=>
    intro hp
    have h1:=ih (fun m hm=>hp m (by simp[hm]))
    have h2:=List.length_pos_iff.2 (ndW_wrd (hp n (by simp))).1
    rw[nWs_cons,List.length_cons,List.length_append,List.length_map]
    omega
  exact this _ ht.nodes
 obtain⟨k',h1,h2,h3⟩:=rPlan_tree (W:=nWs t.flat) t [] 0 ((nWs t.flat).length+1-t.flat.length) 0 [] ht.ok ht.nodes (by simp)
 rw[show(nWs t.flat).length+1-t.flat.length+t.flat.length=(nWs t.flat).length+1 by omega] at h1
 obtain⟨f',hf'⟩:∃f',(nWs t.flat).length+1-t.flat.length=f'+1:=⟨(nWs t.flat).length-t.flat.length,by omega⟩
 rw[hf'] at h1
 have h4:rPlan (nWs t.flat) (f'+1) 0 k' ([]++t.flat)=.ok (t.flat,k'):=by
  unfold rPlan
  rw[if_pos rfl]
  simp
 rw[h4] at h1
 unfold parsePlan
 rw[if_neg (by omega),hw,h1]
 simp only
 rw[if_neg (by omega),if_pos h]
end Go.Proofs.YtnljlpckjkafgaaGreatDoorX
namespace Go.Proofs.YtnljlpckjkafgaaGreatDoorX
open Go Go.Proofs.YtnljlpckjkafgaaGreatDoorT PT
set_option linter.all false
theorem nl_k (k:Nat){u:Nat}(h:u<10 ^ (k+1)):(Lib.itoa (u:Int)).length≤k+1:=by
 unfold Lib.itoa
 rw[if_neg (by omega),Int.toNat_natCast,Lib.decDigits_length]
 exact nDigits_le k u h
theorem il2 {a:Int}(h0:0≤a)(h1:a≤63):(Lib.itoa a).length≤2:=by
 obtain⟨u,rfl⟩:∃u:Nat,a=(u:Int):=⟨a.toNat,by omega⟩
 exact nl_k 1 (Nat.lt_of_lt_of_le (show u<100 by omega) (by decide))
theorem il7 {a:Int}(h0:0≤a)(h1:a≤1000000):(Lib.itoa a).length≤7:=by
 obtain⟨u,rfl⟩:∃u:Nat,a=(u:Int):=⟨a.toNat,by omega⟩
 exact nl_k 6 (Nat.lt_of_lt_of_le (show u<1000001 by omega) (by decide))
theorem il8 {a:Int}(h0:-1000000≤a)(h1:a≤1000000):(Lib.itoa a).length≤8:=by
 by_cases h:0≤a
 ·have:=il7 h h1;omega
 ·unfold Lib.itoa
  rw[if_pos (by omega),List.length_cons,Lib.decDigits_length]
  have:=nDigits_le 6 a.natAbs (Nat.lt_of_lt_of_le (show a.natAbs<1000001 by omega) (by decide))
  omega
theorem nW_len9 {b:Bool}{v:Int}(h0:-1000000≤v)(h1:v≤1000000):(nW b v).length≤9:=by
 have:=il8 h0 h1
 unfold nW
 cases b <;> simp <;> omega
theorem jn_len2 (a b:List UInt8):(jn [a,b]).length=a.length+1+b.length:=by simp[jn,Lib.join,List.intercalate,List.intersperse];omega
theorem jn_len3 (a b c:List UInt8):(jn [a,b,c]).length=a.length+1+b.length+1+c.length:=by simp[jn,Lib.join,List.intercalate,List.intersperse];omega
theorem jn_len4 (a b c d:List UInt8):(jn [a,b,c,d]).length=a.length+1+b.length+1+c.length+1+d.length:=by simp[jn,Lib.join,List.intercalate,List.intersperse];omega
theorem ndT_len40 {n:Nd}(h:nodeOk n=true):(ndT n).length≤40:=by
 obtain⟨k,name,col,op,num,slot,cols,⟨⟩⟩:=n
 unfold ndT
 have v:=vbt_len
 have o:=ob_len
 rcases kinds_of h with⟨rfl,hn⟩|⟨rfl,c0,c1,o0,o1,n0,n1⟩|⟨rfl,hc,hcs⟩|⟨rfl,c0,c1,n0,n1⟩|⟨rfl,c0,c1⟩|⟨rfl,n0,n1⟩|rfl|rfl
 ·have:name.data.toList.length=name.size:=by rw[Array.length_toList];rfl
  have v0:=v 0
  have e:ndW ((0:Int),name,col,op,num,slot,cols,())=[vbt 0,name.data.toList]:=rfl
  rw[e,jn_len2]
  omega
 ·have v1:=v 1
  have o2:=o op.toNat
  have i1:=il2 c0 c1
  have i2:=nW_len9 (b:=slot) n0 n1
  have e:ndW ((1:Int),name,col,op,num,slot,cols,())=[vbt 1,Lib.itoa col,ob op.toNat]++(if op=3 then[] else[nW slot num]):=rfl
  rw[e]
  by_cases h3:op=3
  ·rw[if_pos h3,List.append_nil,jn_len3]
   omega
  ·rw[if_neg h3]
   show(jn [vbt 1,Lib.itoa col,ob op.toNat,nW slot num]).length≤40
   rw[jn_len4]
   omega
 ·have v2:=v 2
  have i1:=il2 (a:=(cols.length:Int)) (by omega) (by omega)
  have e:ndW ((2:Int),name,col,op,num,slot,cols,())=[vbt 2,Lib.itoa (cols.length:Int)]++cols.map Lib.itoa:=rfl
  rw[e]
  by_cases hc0:cols=[]
  ·subst hc0
   rw[List.map_nil,List.append_nil,jn_len2]
   omega
  ·rw[jn_app _ _ (by simp) (by simpa using hc0),List.length_append,List.length_cons,jn_len2]
   have:=jn_len 2 (cols.map Lib.itoa) (fun x hx=>by
    obtain⟨c,hc',rfl⟩:=List.mem_map.1 hx
    have:=hcs c hc'
    exact il2 (by omega) (by omega))
   rw[List.length_map] at this
   omega
 ·have v3:=v 3
  have i1:=il2 c0 c1
  have i2:=il2 n0 n1
  have e:ndW ((3:Int),name,col,op,num,slot,cols,())=[vbt 3,Lib.itoa col,Lib.itoa num]:=rfl
  rw[e,jn_len3]
  omega
 ·have v5:=v 5
  have i1:=il2 c0 c1
  have e:ndW ((5:Int),name,col,op,num,slot,cols,())=[vbt 5,Lib.itoa col]:=rfl
  rw[e,jn_len2]
  omega
 ·have v6:=v 6
  have i1:=nW_len9 (b:=slot) (v:=num) (by omega) (by omega)
  have e:ndW ((6:Int),name,col,op,num,slot,cols,())=[vbt 6,nW slot num]:=rfl
  rw[e,jn_len2]
  omega
 ·have v4:=v 4
  have e:ndW ((4:Int),name,col,op,num,slot,cols,())=[vbt 4]:=rfl
  rw[e,jn_one]
  omega
 ·have v7:=v 7
  have e:ndW ((7:Int),name,col,op,num,slot,cols,())=[vbt 7]:=rfl
  rw[e,jn_one]
  omega
theorem planT_size {p:List Nd}(h:planOk p=true):(planT1 p).size≤1640:=by
 obtain⟨t,ht,hp⟩:=planOk_iff.1 h
 have hl:p.length≤40:=by rw[hp];have:=ht.size;simp only[PT.len_flat];exact this
 have hn:∀n∈p,nodeOk n=true:=fun n hn=>ht.nodes n (by rw[←hp];exact hn)
 have:=jn_len 40 (p.map ndT) (fun x hx=>by
  obtain⟨n,hn',rfl⟩:=List.mem_map.1 hx
  exact ndT_len40 (hn n hn'))
 rw[List.length_map] at this
 have e:(planT1 p).size=(jn (p.map ndT)).length:=by unfold planT1;exact bA_size _
 omega
theorem parse_planT {p:List Nd}(h:planOk p=true):parsePlan (planT1 p)=(p,-1):=parse_print h (by have:=planT_size h;omega)
abbrev Stp:=Int×Int×Unit
def stT (x:Stp):List UInt8:=Lib.itoa x.1++64::Lib.itoa x.2.1
def stsT (l:List Stp):List UInt8:=if l.length≤20 then jn (l.map stT) else[]
def stOk (x:Stp):Bool:=okIn x.1 0 1000000&&okIn x.2.1 0 1000000
def I64 (v:Int):Prop:=-9223372036854775808≤v∧v≤9223372036854775807
def W64s (l:List Stp):Prop:=∀x∈l,I64 x.1∧I64 x.2.1
end Go.Proofs.YtnljlpckjkafgaaGreatDoorX
namespace Go.Proofs.YtnljlpckjkafgaaGreatDoorX
open Go Go.Proofs.YtnljlpckjkafgaaGreatDoorT PT
set_option linter.all false
theorem addC {a:List UInt8}(c:UInt8)(h:a.length≤1000000):addx (bA a) (⟨#[c]⟩:ByteArray)=some (bA (a++[c])):=addx_bA (b:=[c]) (by simp;omega)
end Go.Proofs.YtnljlpckjkafgaaGreatDoorX
namespace Go.Proofs.YtnljlpckjkafgaaGreatDoorX
open Go Go.Proofs.YtnljlpckjkafgaaGreatDoorT PT
set_option linter.all false
def verbT:Nat→List UInt8
 |1=>[99,97,116]
 |2=>[115,116,97,116]
 |3=>[100,114,111,112]
 |_=>[]
def lnOk (x:List UInt8):Bool:=decide (x.length≤300)
def nlB (ls:List (List UInt8)):List UInt8:=ls.flatMap fun x=>x++[10]
def linesR (ls:List (List UInt8)):ByteArray×Bool:=if ls.all lnOk=true then(bA (nlB ls),true) else(ByteArray.empty,false)
def stepsL (o:Opn):List UInt8:=[115,116,101,112,115,32]++stsT o.2.2.2.1
def offerL (o:Opn):List UInt8:=[111,102,102,101,114,32]++jn (o.2.2.1.map ndT)
def askL (o:Opn):List UInt8:=[97,115,107,32]++jn (o.2.1.map ndT)
def opL (o:Opn):ByteArray×Bool:=
 if o.1=0 then(if planOk o.2.1=true∧planOk o.2.2.1=true∧o.2.2.2.1.length≤20∧o.2.2.2.1.all stOk=true then linesR [stepsL o,offerL o,askL o] else(ByteArray.empty,false))
 else if okIn o.1 1 3=true then(if o.2.1=[]∧o.2.2.1=[]∧o.2.2.2.1=[] then linesR [verbT o.1.toNat] else(ByteArray.empty,false))
 else(ByteArray.empty,false)
structure OpH (o:Opn):Prop where
 q:BPlan o.2.1
 f:BPlan o.2.2.1
 w:W64s o.2.2.2.1
 n:o.2.2.2.1.length≤1073741824
end Go.Proofs.YtnljlpckjkafgaaGreatDoorX
namespace Go.Proofs.YtnljlpckjkafgaaGreatDoorX
open Go Go.Proofs.YtnljlpckjkafgaaGreatDoorT PT
set_option linter.all false
def opB (o:Opn):List UInt8:=(opL o).1.data.toList
def outL (l:List Opn):List UInt8:=l.flatMap opB
end Go.Proofs.YtnljlpckjkafgaaGreatDoorX
namespace Go.Proofs.YtnljlpckjkafgaaGreatDoorX
open Go Go.Proofs.YtnljlpckjkafgaaGreatDoorT PT
set_option linter.all false
def sbt:PT→List PT
 |.n0 n=>[.n0 n]
 |.n1 n a=>.n1 n a::sbt a
 |.n2 n a b=>.n2 n a b::(sbt a++sbt b)
theorem sbt_len:∀t:PT,(sbt t).length=t.size
 |.n0 _=>rfl
 |.n1 _ a=>by simp[sbt,PT.size,sbt_len a]
 |.n2 _ a b=>by simp[sbt,PT.size,sbt_len a,sbt_len b]
theorem at_sub:∀(t:PT){p:List Nd}{k i:Nat}{s:PT},At p k t→Good t→(sbt t)[i]?=some s→At p (k+i) s∧Good s
 |.n0 n,p,k,i,s,h,g,hi=>by
  cases i with
  |zero=>simp[sbt] at hi;subst hi;exact⟨h,g⟩
  |succ i=>simp[sbt] at hi
 |.n1 n a,p,k,i,s,h,g,hi=>by
  cases i with
  |zero=>simp[sbt] at hi;subst hi;exact⟨h,g⟩
  |succ i=>
   have:=at_sub a h.c1 g.c1 (i:=i) (s:=s) (by simpa[sbt] using hi)
   rwa [show k+1+i=k+(i+1) by omega] at this
 |.n2 n a b,p,k,i,s,h,g,hi=>by
  cases i with
  |zero=>simp[sbt] at hi;subst hi;exact⟨h,g⟩
  |succ i=>
   have hi':(sbt a++sbt b)[i]?=some s:=by simpa[sbt] using hi
   by_cases hlt:i<a.size
   ·rw[List.getElem?_append_left (by rw[sbt_len];exact hlt)] at hi'
    have:=at_sub a h.l2 g.l2 hi'
    rwa [show k+1+i=k+(i+1) by omega] at this
   ·rw[List.getElem?_append_right (by rw[sbt_len];omega),sbt_len] at hi'
    have:=at_sub b h.r2 g.r2 hi'
    rwa [show k+1+a.size+(i-a.size)=k+(i+1) by omega] at this
def dps:PT→Nat→List Nat
 |.n0 _,d=>[d]
 |.n1 _ a,d=>d::dps a (d+1)
 |.n2 _ a b,d=>d::(dps a (d+1)++dps b (d+1))
theorem dps_len:∀(t:PT) (d:Nat),(dps t d).length=t.size
 |.n0 _,_=>rfl
 |.n1 _ a,d=>by simp[dps,PT.size,dps_len a]
 |.n2 _ a b,d=>by simp[dps,PT.size,dps_len a,dps_len b]
theorem dps_lt:∀(t:PT) (d:Nat),∀x∈dps t d,x<d+t.depth
 |.n0 _,d,x,h=>by simp[dps] at h;simp[PT.depth];omega
 |.n1 _ a,d,x,h=>by
  simp only[dps,List.mem_cons] at h
  simp only[PT.depth]
  rcases h with rfl|h
  ·omega
  ·have:=dps_lt a (d+1) x h;omega
 |.n2 _ a b,d,x,h=>by
  simp only[dps,List.mem_cons,List.mem_append] at h
  simp only[PT.depth]
  have:=Nat.le_max_left a.depth b.depth
  have:=Nat.le_max_right a.depth b.depth
  rcases h with rfl|h|h
  ·omega
  ·have:=dps_lt a (d+1) x h;omega
  ·have:=dps_lt b (d+1) x h;omega
def abv:List PT→Nat→Nat
 |[],_=>0
 |_::_,0=>0
 |s::l,k+1=>(if k+1<s.size then 1 else 0)+abv l k
theorem abv_succ (s:PT) (l:List PT) (k:Nat):abv (s::l) (k+1)=(if k+1<s.size then 1 else 0)+abv l k:=rfl
theorem abv_zero (l:List PT):abv l 0=0:=by cases l <;> rfl
theorem abv_pass:∀(t:PT) (r:List PT) (m:Nat),abv (sbt t++r) (t.size+m)=abv r m
 |.n0 n,r,m=>by
  rw[show(PT.n0 n).size+m=m+1 by simp[PT.size];omega]
  show abv (PT.n0 n::r) (m+1)=_
  rw[abv_succ,if_neg (by simp[PT.size])]
  omega
 |.n1 n a,r,m=>by
  rw[show(PT.n1 n a).size+m=a.size+m+1 by simp[PT.size];omega]
  show abv (PT.n1 n a::(sbt a++r)) (a.size+m+1)=_
  rw[abv_succ,if_neg (by simp[PT.size]),abv_pass a r m]
  omega
 |.n2 n a b,r,m=>by
  rw[show(PT.n2 n a b).size+m=a.size+(b.size+m)+1 by simp[PT.size];omega]
  have e:sbt (PT.n2 n a b)++r=PT.n2 n a b::(sbt a++(sbt b++r)):=by simp[sbt]
  rw[e,abv_succ,if_neg (by simp only[PT.size];omega),abv_pass a,abv_pass b]
  omega
theorem abv_dps:∀(t:PT) (r:List PT) (d k:Nat),k<t.size→(dps t d)[k]?=some (d+abv (sbt t++r) k)
 |.n0 n,r,d,k,h=>by
  have:k=0:=by simp[PT.size] at h;exact h
  subst this
  rw[abv_zero]
  rfl
 |.n1 n a,r,d,k,h=>by
  cases k with
  |zero=>rw[abv_zero];rfl
  |succ k=>
   simp only[PT.size] at h
   have ih:=abv_dps a r (d+1) k (by omega)
   show(dps a (d+1))[k]?=some (d+abv (PT.n1 n a::(sbt a++r)) (k+1))
   rw[ih]
   rw[abv_succ,if_pos (by simp only[PT.size];omega)]
   congr 1
   omega
 |.n2 n a b,r,d,k,h=>by
  cases k with
  |zero=>rw[abv_zero];rfl
  |succ k=>
   simp only[PT.size] at h
   have e:sbt (PT.n2 n a b)++r=PT.n2 n a b::(sbt a++(sbt b++r)):=by simp[sbt]
   rw[e]
   show(dps a (d+1)++dps b (d+1))[k]?=_
   rw[abv_succ,if_pos (by simp only[PT.size];omega)]
   by_cases hlt:k<a.size
   ·rw[List.getElem?_append_left (by rw[dps_len];exact hlt),abv_dps a (sbt b++r) (d+1) k hlt]
    congr 1
    omega
   ·rw[List.getElem?_append_right (by rw[dps_len];omega),dps_len,abv_dps b r (d+1) (k-a.size) (by omega)]
    have:=abv_pass a (sbt b++r) (k-a.size)
    rw[show a.size+(k-a.size)=k by omega] at this
    rw[this]
    congr 1
    omega
theorem V_1p {p:List SNode}{t:PT}(h:At p 0 t) (g:Good t)(hp:Pl p)(hl:t.size≤1000){k:Nat}(hk:k<t.size):F_2i p (k:Int)=some ((abv (sbt t) k:Nat):Int):=(U_2d p (k:Int)).out (by
 have hb:∀(l:List PT) (m:Nat),abv l m≤m:=by
  intro l
  induction l with
  |nil=>intro m;simp[abv]
  |cons s l ih=>
   intro m
   cases m with
   |zero=>simp[abv]
   |succ m=>
    have:=ih m
    unfold abv
    split <;> omega
 have e:=loopF_ind (S:=Int×Int) (A:=Ex Int Int) (f:=fun f s=>L_u p (k:Int) f s.1 s.2) (fun s=>k-s.2.toNat)
  (fun s=>∃i c:Nat,i≤k∧s=((c:Int),(i:Int))∧c+abv ((sbt t).drop i) (k-i)=abv (sbt t) k)
  (fun _=>.go ((abv (sbt t) k:Nat):Int))
  (by
   rintro s ⟨i,c,hi,rfl,hc⟩ q hq
   dsimp only at hq ⊢
   unfold L_u
   have hbk:=hb (sbt t) k
   by_cases hlt:i<k
   ·have hil:i<(sbt t).length:=by rw[sbt_len];omega
    have hx:(sbt t)[i]?=some (sbt t)[i]:=List.getElem?_eq_getElem hil
    obtain⟨ha,hg⟩:=at_sub t h g hx
    rw[Nat.zero_add] at ha
    have hd:(sbt t).drop i=(sbt t)[i]::(sbt t).drop (i+1):=List.drop_eq_getElem_cons hil
    rw[hd,show k-i=(k-(i+1))+1 by omega] at hc
    rw[abv_succ] at hc
    rw[decide_eq_true (by omega),cond_true,ha.V_1c hg hp,Option.bind_some]
    simp only
    by_cases hr:k-(i+1)+1<((sbt t)[i]).size
    ·rw[if_pos hr] at hc
     rw[decide_eq_true (by omega),cond_true,joinK_go]
     unfold J_j
     rw[wrap_nat (by omega),wrap_nat (by omega)]
     exact hq _ ⟨i+1,c+1,by omega,rfl,by omega⟩ (by simp only[Int.toNat_natCast];omega)
    ·rw[if_neg hr] at hc
     rw[decide_eq_false (by omega),cond_false,joinK_go]
     unfold J_j
     rw[wrap_nat (by omega)]
     exact hq _ ⟨i+1,c,by omega,rfl,by omega⟩ (by simp only[Int.toNat_natCast];omega)
   ·have hi2:i=k:=by omega
    subst hi2
    rw[Nat.sub_self,abv_zero] at hc
    rw[decide_eq_false (by omega),cond_false]
    congr 2
    omega)
  (0,0) ⟨0,0,by omega,rfl,by simp⟩
 rw[e,joinK_go]
 rfl)
def ind (d:Nat):List UInt8:=Lib.repeatL [32,32] d
theorem ind_len (d:Nat):(ind d).length=2*d:=by unfold ind;rw[Lib.repeatL_length];simp;omega
theorem ind_succ:∀d:Nat,ind (d+1)=ind d++[32,32]
 |0=>rfl
 |d+1=>by
  have:=ind_succ d
  show[32,32]++ind (d+1)=([32,32]++ind d)++[32,32]
  rw[this,List.append_assoc]
def ln1 (x:Nat×Nd):List UInt8:=ind x.1++ndT x.2++[10]
def linT (t:PT) (d:Nat):List UInt8:=((dps t d).zip t.flat).flatMap ln1
theorem linT_n0 (n:Nd) (d:Nat):linT (.n0 n) d=ln1 (d,n):=by simp[linT,dps,PT.flat]
theorem linT_n1 (n:Nd) (a:PT) (d:Nat):linT (.n1 n a) d=ln1 (d,n)++linT a (d+1):=by simp[linT,dps,PT.flat]
theorem linT_n2 (n:Nd) (a b:PT) (d:Nat):linT (.n2 n a b) d=ln1 (d,n)++linT a (d+1)++linT b (d+1):=by
 unfold linT
 simp only[dps,PT.flat,List.zip_cons_cons,List.flatMap_cons]
 rw[List.zip_append (by rw[dps_len,len_flat]),List.flatMap_append,List.append_assoc]
theorem ln1_len {d:Nat}{n:Nd}(h:nodeOk n=true):(ln1 (d,n)).length≤2*d+41:=by
 have:=ndT_len40 h
 unfold ln1
 simp only[List.length_append,ind_len,List.length_cons,List.length_nil]
 omega
theorem linT_len:∀(t:PT) (d:Nat),Good t→d+t.depth≤30→(linT t d).length≤101*t.size
 |.n0 n,d,g,hd=>by
  have:=ln1_len (d:=d) g.hd
  rw[linT_n0]
  simp only[PT.size,PT.hd,PT.depth] at this hd ⊢
  omega
 |.n1 n a,d,g,hd=>by
  have:=ln1_len (d:=d) g.hd
  simp only[PT.depth] at hd
  have ih:=linT_len a (d+1) g.c1 (by omega)
  rw[linT_n1,List.length_append]
  simp only[PT.size,PT.hd] at this ⊢
  omega
 |.n2 n a b,d,g,hd=>by
  have:=ln1_len (d:=d) g.hd
  simp only[PT.depth] at hd
  have:=Nat.le_max_left a.depth b.depth
  have:=Nat.le_max_right a.depth b.depth
  have ih:=linT_len a (d+1) g.l2 (by omega)
  have ih2:=linT_len b (d+1) g.r2 (by omega)
  rw[linT_n2,List.length_append,List.length_append]
  simp only[PT.size,PT.hd] at *
  omega
theorem V_14 {d:Nat}(h:d≤1000):F_x (⟨#[32,32]⟩:ByteArray) (d:Int)=some (bA (ind d)):=(U_2n (⟨#[32,32]⟩:ByteArray) (d:Int)).out (by
 unfold repeatF
 rw[decide_eq_true (by omega),decide_eq_true (by omega),Nat.ble_eq_true_of_le (by decide)]
 rfl)
theorem V_1a {p:List SNode}(hp:Pl p)(hb:BPlan p):∀(t:PT) (k d:Nat),At p k t→Good t→d+t.depth≤30→t.size≤1000→F_r p (k:Int) (d:Int)=some (bA (linT t d)):=by
 intro t
 have head:∀(t:PT) (k d:Nat),At p k t→Good t→d≤30→(F_x (⟨#[32,32]⟩:ByteArray) (d:Int)).bind (fun y1=>(ix p (k:Int)).bind (fun z2=>(F_e z2).bind (fun y3=>(addx y1 y3).bind (fun z4=>(addx z4 (⟨#[10]⟩:ByteArray)).bind (fun z5=>some z5)))))
   = some (bA (ln1 (d,t.hd))):=by
  intro t k d h g hd
  have hn:=ndT_len40 g.hd
  rw[V_14 (by omega),Option.bind_some,ix_some h.hd,Option.bind_some,V_9 (hb.nodes _ (List.mem_of_getElem? h.hd)) g.hd,Option.bind_some,addN (by rw[ind_len];omega) (by omega),Option.bind_some,addC 10 (by rw[List.length_append,ind_len];omega),Option.bind_some]
  rfl
 have go:∀(t:PT) (k d:Nat),At p k t→Good t→d≤30→∀(R:ByteArray→Option ByteArray),(F_x (⟨#[32,32]⟩:ByteArray) (d:Int)).bind (fun y1=>(ix p (k:Int)).bind (fun z2=>(F_e z2).bind (fun y3=>(addx y1 y3).bind (fun z4=>(addx z4 (⟨#[10]⟩:ByteArray)).bind (fun z5=>R z5)))))
   = R (bA (ln1 (d,t.hd))):=by
  intro t k d h g hd R
  have hn:=ndT_len40 g.hd
  rw[V_14 (by omega),Option.bind_some,ix_some h.hd,Option.bind_some,V_9 (hb.nodes _ (List.mem_of_getElem? h.hd)) g.hd,Option.bind_some,addN (by rw[ind_len];omega) (by omega),Option.bind_some,addC 10 (by rw[List.length_append,ind_len];omega),Option.bind_some]
  rfl
 induction t with
 |n0 n=>
  intro k d h g hd hs
  refine(U_0 p (k:Int) (d:Int)).out ?_
  simp only[PT.depth] at hd
  rw[go _ k d h g (by omega),h.V_6 g hp,Option.bind_some]
  simp only[kids]
  rw[loopF_of (r:=.go (bA (ln1 (d,n)))) 1 (by
   intro m hm
   obtain⟨m,rfl⟩:∃m',m=m'+1:=⟨m-1,by omega⟩
   simp[loopK,L_a,PT.hd])]
  rw[joinK_go,linT_n0]
  rfl
 |n1 n a iha=>
  intro k d h g hd hs
  refine(U_0 p (k:Int) (d:Int)).out ?_
  simp only[PT.depth] at hd
  simp only[PT.size] at hs
  have ih:=iha (k+1) (d+1) h.c1 g.c1 (by omega) (by omega)
  have hla:=linT_len a (d+1) g.c1 (by omega)
  have hln:=ln1_len (d:=d) g.hd
  rw[go _ k d h g (by omega),h.V_6 g hp,Option.bind_some]
  simp only[kids,PT.hd] at hln ⊢
  rw[loopF_of (r:=.go (bA (ln1 (d,n)++linT a (d+1)))) 2 (by
   intro m hm
   obtain⟨m,rfl⟩:∃m',m=m'+1+1:=⟨m-2,by omega⟩
   have i0:ix [((k+1:Nat):Int)] (0:Int)=some ((k+1:Nat):Int):=rfl
   simp only[loopK,L_a,List.length_cons,List.length_nil]
   rw[show decide ((0:Int)<((0+1:Nat):Int))=true from rfl,cond_true,i0,Option.bind_some,wrap_nat (by omega),ih,Option.bind_some,addN (by omega) (by omega),Option.bind_some]
   rfl)]
  rw[joinK_go,linT_n1]
  rfl
 |n2 n a b iha ihb=>
  intro k d h g hd hs
  refine(U_0 p (k:Int) (d:Int)).out ?_
  simp only[PT.depth] at hd
  simp only[PT.size] at hs
  have:=Nat.le_max_left a.depth b.depth
  have:=Nat.le_max_right a.depth b.depth
  have ih:=iha (k+1) (d+1) h.l2 g.l2 (by omega) (by omega)
  have ih2:=ihb (k+1+a.size) (d+1) h.r2 g.r2 (by omega) (by omega)
  have hla:=linT_len a (d+1) g.l2 (by omega)
  have hlb:=linT_len b (d+1) g.r2 (by omega)
  have hln:=ln1_len (d:=d) g.hd
  rw[go _ k d h g (by omega),h.V_6 g hp,Option.bind_some]
  simp only[kids,PT.hd] at hln ⊢
  rw[loopF_of (r:=.go (bA (ln1 (d,n)++linT a (d+1)++linT b (d+1)))) 3 (by
   intro m hm
   obtain⟨m,rfl⟩:∃m',m=m'+1+1+1:=⟨m-3,by omega⟩
   have i0:ix [((k+1:Nat):Int),((k+1+a.size:Nat):Int)] (0:Int)=some ((k+1:Nat):Int):=rfl
   have i1:ix [((k+1:Nat):Int),((k+1+a.size:Nat):Int)] (1:Int)=some ((k+1+a.size:Nat):Int):=rfl
   have w0:IntKind.i64.wrap ((0:Int)+1)=1:=rfl
   have w1:IntKind.i64.wrap ((1:Int)+1)=2:=rfl
   simp only[loopK,L_a,List.length_cons,List.length_nil]
   rw[show decide ((0:Int)<((0+1+1:Nat):Int))=true from rfl,cond_true,i0,Option.bind_some,wrap_nat (by omega),ih,Option.bind_some,addN (by omega) (by omega),Option.bind_some,w0,
    show decide ((1:Int)<((0+1+1:Nat):Int))=true from rfl,cond_true,i1,Option.bind_some,ih2,Option.bind_some,addN (by rw[List.length_append];omega) (by omega),Option.bind_some]
   rfl)]
  rw[joinK_go,linT_n2]
  rfl
end Go.Proofs.YtnljlpckjkafgaaGreatDoorX
namespace Go.Proofs.YtnljlpckjkafgaaGreatDoorX
open Go Go.Proofs.YtnljlpckjkafgaaGreatDoorT PT
set_option linter.all false
theorem lines_take {p:List SNode}{t:PT}(hp:p=t.flat){k:Nat}(hk:k<t.size):∃d n,(dps t 0)[k]?=some d∧p[k]?=some n∧((dps t 0).zip t.flat)[k]?=some (d,n)∧d=abv (sbt t) k∧d<t.depth∧n∈p:=by
 have h1:=abv_dps t [] 0 k hk
 rw[List.append_nil,Nat.zero_add] at h1
 have h2:k<t.flat.length:=by rw[len_flat];exact hk
 have hx:t.flat[k]?=some t.flat[k]:=List.getElem?_eq_getElem h2
 refine⟨_,t.flat[k],h1,by rw[hp,hx],?_,rfl,?_,by rw[hp];exact List.getElem_mem h2⟩
 ·rw[List.getElem?_zip_eq_some]
  exact⟨h1,hx⟩
 ·have:=dps_lt t 0 _ (List.mem_of_getElem? h1)
  omega
theorem V_1k {p:List SNode}(hb:BPlan p)(h:planOk p=true):∃t,PlanT t∧p=t.flat∧F_1b p=some (bA (linT t 0)):=by
 obtain⟨t,ht,hp⟩:=planOk_iff.1 h
 refine⟨t,ht,hp,(U_d p).out ?_⟩
 have hsz:=ht.size
 have hat:At p 0 t:=by rw[hp];exact At.root t
 have hpl:Pl p:=by rw[hp];exact ht.pl
 have hg:=ht.good
 have hlen:p.length=t.size:=by rw[hp,len_flat]
 have hdeep:=hg.deep
 have hn:∀n∈p,nodeOk n=true:=fun n hn=>ht.nodes n (by rw[←hp];exact hn)
 rw[V_3 hb,h,Option.bind_some,Bool.not_true,cond_false]
 have hout:∀k:Nat,(((dps t 0).zip t.flat).take k).flatMap ln1=(((dps t 0).zip t.flat).take k).flatMap ln1:=fun k=>rfl
 have hbig:∀k:Nat,k≤t.size→((((dps t 0).zip t.flat).take k).flatMap ln1).length≤61*k:=by
  intro k
  induction k with
  |zero=>intro _;simp
  |succ k ih=>
   intro hk
   obtain⟨d,n,-,-,h3,-,h5,h6⟩:=lines_take hp (show k<t.size by omega)
   have:=ih (by omega)
   have h7:=ln1_len (d:=d) (hn n h6)
   rw[List.take_add_one,h3,List.flatMap_append,List.length_append]
   simp only[Option.toList_some,List.flatMap_cons,List.flatMap_nil,List.append_nil]
   omega
 have e:=loopF_ind (S:=ByteArray×Int) (A:=Ex ByteArray ByteArray) (f:=fun f s=>L_p p f s.1 s.2) (fun s=>t.size-s.2.toNat)
  (fun s=>∃k:Nat,k≤t.size∧s=(bA ((((dps t 0).zip t.flat).take k).flatMap ln1),(k:Int)))
  (fun _=>.go (bA (linT t 0)))
  (by
   rintro s ⟨k,hk,rfl⟩ q hq
   dsimp only at hq ⊢
   unfold L_p
   by_cases hlt:k<t.size
   ·obtain⟨d,n,h1,h2,h3,h4,h5,h6⟩:=lines_take hp hlt
    have hb1:=hbig k hk
    have h40:=ndT_len40 (hn n h6)
    rw[decide_eq_true (by omega),cond_true,V_1p hat hg hpl (by omega) hlt,Option.bind_some,←h4]
    have e1:=loopF_ind (S:=ByteArray×Int) (A:=Ex (Ex (Ex ByteArray ByteArray) ByteArray) ByteArray) (f:=fun f s=>L_q f s.1 s.2) (fun s=>s.2.toNat)
     (fun s=>∃i j:Nat,i+j=d∧s=(bA ((((dps t 0).zip t.flat).take k).flatMap ln1++ind i),(j:Int)))
     (fun _=>.go (bA ((((dps t 0).zip t.flat).take k).flatMap ln1++ind d)))
     (by
      rintro s ⟨i,j,hij,rfl⟩ r hr
      dsimp only at hr ⊢
      unfold L_q
      cases j with
      |zero=>
       have:i=d:=by omega
       subst this
       rw[show decide (((0:Nat):Int)>0)=false from rfl,cond_false]
      |succ j=>
       have ea:addx (bA ((((dps t 0).zip t.flat).take k).flatMap ln1++ind i)) (⟨#[32,32]⟩:ByteArray)=some (bA ((((dps t 0).zip t.flat).take k).flatMap ln1++ind (i+1))):=by
        have:=addx_bA (a:=(((dps t 0).zip t.flat).take k).flatMap ln1++ind i) (b:=[32,32]) (by simp only[List.length_append,ind_len,List.length_cons,List.length_nil];omega)
        rw[ind_succ,←List.append_assoc]
        exact this
       rw[decide_eq_true (by omega),cond_true,ea,Option.bind_some,wrap_sml (by omega) (by omega),show((j+1:Nat):Int)-1=((j:Nat):Int) by omega]
       exact hr _ ⟨i+1,j,by omega,rfl⟩ (by simp only[Int.toNat_natCast];omega))
     (bA ((((dps t 0).zip t.flat).take k).flatMap ln1),(d:Int)) ⟨0,d,by omega,by simp[ind,Lib.repeatL]⟩
    rw[e1,joinK_go]
    unfold J_1c
    rw[ix_some h2,Option.bind_some,V_f (hb.nodes _ h6) (hn n h6),Option.bind_some,addN (by rw[List.length_append,ind_len];omega) (by omega),Option.bind_some,addC 10 (by rw[List.length_append,List.length_append,ind_len];omega),Option.bind_some,joinK_go]
    unfold J_1b
    rw[wrap_nat (by omega)]
    have et:(((dps t 0).zip t.flat).take k).flatMap ln1++ind d++ndT n++[10]=(((dps t 0).zip t.flat).take (k+1)).flatMap ln1:=by
     rw[List.take_add_one,h3,List.flatMap_append]
     simp[ln1]
    rw[et]
    exact hq _ ⟨k+1,by omega,rfl⟩ (by simp only[Int.toNat_natCast];omega)
   ·have hk2:k=t.size:=by omega
    subst hk2
    rw[decide_eq_false (by omega),cond_false,List.take_of_length_le (by rw[List.length_zip,dps_len,len_flat];omega)]
    rfl)
  (ByteArray.empty,0) ⟨0,by omega,rfl⟩
 rw[e,joinK_go]
 rfl
theorem lines_same {p:List SNode}(hb:BPlan p):∃x,F_1m p=some x∧F_1b p=some x:=by
 by_cases h:planOk p=true
 ·obtain⟨t,ht,hp,e⟩:=V_1k hb h
  have hsz:=ht.size
  have hdeep:=ht.good.deep
  refine⟨_,(U_3 p).out ?_,e⟩
  have hl:=V_1a (by rw[hp];exact ht.pl) hb t 0 0 (by rw[hp];exact At.root t) ht.good (by omega) (by omega)
  rw[V_4 hb,h,Option.bind_some,Bool.not_true,cond_false]
  have hl':F_r p 0 0=some (bA (linT t 0)):=hl
  rw[hl']
  rfl
 ·have h0:planOk p=false:=by simpa using h
  refine⟨ByteArray.empty,(U_3 p).out ?_,(U_d p).out ?_⟩
  ·rw[V_4 hb,h0];rfl
  ·rw[V_3 hb,h0];rfl
theorem V_18 {p:List SNode}(hb:BPlan p):F_p p=some (if planOk p=true then planT1 p else ByteArray.empty):=by
 by_cases h:planOk p=true
 ·rw[if_pos h];exact V_l hb h
 ·rw[if_neg h]
  have h0:planOk p=false:=by simpa using h
  exact(U_4 p).out (by rw[V_4 hb,h0];rfl)
theorem V_w {p:List SNode}(hb:BPlan p):F_v p=some (if planOk p=true then planT1 p else ByteArray.empty):=by
 by_cases h:planOk p=true
 ·rw[if_pos h];exact V_1l hb h
 ·rw[if_neg h]
  have h0:planOk p=false:=by simpa using h
  exact(U_e p).out (by rw[V_3 hb,h0];rfl)
end Go.Proofs.YtnljlpckjkafgaaGreatDoorX
namespace Go.Proofs.YtnljlpckjkafgaaGreatDoorX
open Go Go.Proofs.YtnljlpckjkafgaaGreatDoorT PT
set_option linter.all false
theorem deep_ok {b:List Int}{i:Int}(hc:Cu b i)(h:Int){code:List Int}(hl:code.length≤1073741824):Ok (F_2h b i h code) (PnQ b 65536 3):=(U_29 b i h code).ok (OkG.out (by
 refine OkG.call (size_ok hl (by decide)) ?_
 intro m hm
 refine OkG.call (below_ok hc h m) ?_
 rintro⟨r,b',i',h'⟩ ⟨rfl,hc',h0,h1⟩
 have h1':=h1 (by omega)
 simp only at h0 h1' ⊢
 have hw:IntKind.i64.wrap (1+r)=1+r:=wrap_sml (by omega) (by omega)
 rw[hw]
 refine OkG.call (plan_ok 7 (by decide) _ _ _ hc' (by omega)) ?_
 rintro⟨p,w,b',i',h'⟩ ⟨sp,rfl,hc'⟩
 exact OkG.val ⟨sp,rfl,hc'⟩))
theorem slotted_ok {b:List Int}{i:Int}(hc:Cu b i)(h:Int){code:List Int}(hl:code.length≤1073741824):Ok (F_1h b i h code) (PnQ b 65537 4):=(U_2c b i h code).ok (OkG.out (by
 refine OkG.call (deep_ok hc h hl) ?_
 rintro⟨p,b',i',h'⟩ ⟨sp,rfl,hc'⟩
 simp only at sp hc' ⊢
 refine OkG.join (fun s=>Sm 65536 3 s.1∧s.2.1=b'∧Cu b' s.2.2.1) ?_ ?_
 ·refine Ok.of (Ok.loop (S:=List SNode×Int×Int×List Int×Int×Int) (fun s=>s.1.length-s.2.2.1.toNat) (fun s=>0≤s.2.2.1∧Sm 65536 3 s.1∧s.2.2.2.1=b'∧Cu b' s.2.2.2.2.1) ?_ _ ⟨Int.le_refl _,sp,rfl,hc'⟩)
  rintro⟨q,sl,k,b',i',h'⟩ ⟨k0,sq,rfl,hc'⟩ G hG
  simp only at k0 sq
  unfold L_z
  have hql:=sq.len
  refine OkG.bif (fun hk=>?_) (fun hk=>OkG.val ⟨sq,rfl,hc'⟩)
  have hk':k<q.length:=of_decide_eq_true hk
  obtain⟨n,en,hn⟩:=ix_ex k0 hk'
  have hnn:=sq.nodes n hn
  have hkw:IntKind.i64.wrap (k+1)=k+1:=wrap_sml (by omega) (by omega)
  refine OkG.join (fun s=>Sm 65536 3 s.1∧s.1.length=q.length∧s.2.2.1=b'∧Cu b' s.2.2.2.1) ?_ ?_
  ·refine OkG.join (fun s=>s.2.1=b'∧Cu b' s.2.2.1) ?_ ?_
   ·simp only[en,Option.bind_some]
    refine OkG.bif (fun _=>OkG.bif (fun _=>?_) (fun _=>OkG.bif (fun _=>?_) (fun _=>OkG.val ⟨rfl,hc'⟩))) (fun _=>OkG.bif (fun _=>?_) (fun _=>OkG.val ⟨rfl,hc'⟩))
    all_goals
     refine OkG.call (once_ok hc' _ 3) ?_
     rintro⟨r,b',i',h'⟩ ⟨rfl,hc'⟩
     exact OkG.val ⟨rfl,hc'⟩
   ·rintro⟨c,b2,i',h'⟩ ⟨e2,hc2⟩
    simp only at e2 hc2
    subst e2
    unfold J_1u
    refine OkG.bif (fun _=>?_) (fun _=>OkG.val ⟨sq,rfl,rfl,hc2⟩)
    obtain⟨kn,rfl⟩:∃kn:Nat,k=(kn:Int):=⟨k.toNat,by omega⟩
    have l1:kn<q.length:=by omega
    simp only[en,Option.bind_some,Int.toNat_natCast,ix_set l1,List.set_set]
    exact OkG.val ⟨sq.set _ hnn,by simp,rfl,hc2⟩
  ·rintro⟨q2,sl2,b',i',h'⟩ ⟨s2,hlen,rfl,hc'⟩
   unfold J_1t
   rw[hkw]
   simp only at hlen s2 hc'
   exact hG _ ⟨by simp only;omega,s2,rfl,hc'⟩ (by simp only[hlen];omega)
 ·rintro⟨q,b',i',h'⟩ ⟨sq,rfl,hc'⟩
  unfold J_1s
  refine OkG.call (break_ok hc' _ sq (by decide) (by decide)) ?_
  rintro⟨q2,b',i',h'⟩ ⟨s2,rfl,hc'⟩
  exact OkG.val ⟨s2,rfl,hc'⟩))
theorem drawPrint_ok {code:List Int}(hl:code.length≤1073741824):Ok (F_2a code) (fun p=>Sm 65537 4 p):=(U_1n code).ok (OkG.out (by
 have e:Ok (F_28 code) (fun p=>Sm 65537 4 p):=(U_1l code).ok (OkG.out (by
  refine OkG.call (new_ok hl) ?_
  rintro⟨b,i,h⟩ ⟨rfl,hc⟩
  refine OkG.call (slotted_ok hc _ hl) ?_
  rintro⟨p,b',i',h'⟩ ⟨sp,-,-⟩
  exact OkG.val sp))
 refine OkG.call e ?_
 intro p hp
 exact OkG.val hp))
theorem addx_sz {a b:ByteArray}(h:a.size+b.size≤4611686018427387904):∃x,addx a b=some x∧x.size=a.size+b.size:=by
 refine⟨a++b,?_,ByteArray.size_append⟩
 unfold addx
 rw[Nat.ble_eq_true_of_le h]
 rfl
def WdB (n:Nat) (l:List ByteArray):Prop:=l.length≤n∧∀w∈l,w.size≤3000
theorem drawText_ok {b:List Int}{i:Int}(hc:Cu b i)(h:Int){code:List Int}(hl:code.length≤1073741824):Ok (F_2j b i h code) (fun y=>y.2.1=b∧Cu b y.2.2.1):=(U_2e b i h code).ok (OkG.out (by
 refine OkG.call (slotted_ok hc h hl) ?_
 rintro⟨p,b',i',h'⟩ ⟨sp,rfl,hc'⟩
 simp only at sp hc' ⊢
 rw[V_w (sp.bplan (by decide) (by decide)),Option.bind_some]
 have hsz:(if planOk p=true then planT1 p else ByteArray.empty).size≤2000:=by
  by_cases hp:planOk p=true
  ·rw[if_pos hp];have:=planT_size hp;omega
  ·rw[if_neg hp];decide
 generalize (if planOk p=true then planT1 p else ByteArray.empty)=tx at hsz
 rw[V_x hsz,Option.bind_some]
 have hw:=wds_of hsz
 have hwl:WdB 2001 (wordsOf tx):=⟨by have:=hw.len;omega,fun w hm=>by have:=hw.sz w hm;omega⟩
 have hw0:∀w∈wordsOf tx,w.size≤2000:=hw.sz
 generalize wordsOf tx=ws at hwl hw0
 refine OkG.join (fun s=>WdB 2002 s.1∧s.2.1=b'∧Cu b' s.2.2.1) ?_ ?_
 ·refine OkG.join (fun s=>(s.1=true→0<ws.length)∧s.2.1=b'∧Cu b' s.2.2.1) ?_ ?_
  ·refine OkG.call (once_ok hc' _ 3) ?_
   rintro⟨r,b',i',h'⟩ ⟨rfl,hc'⟩
   refine OkG.bif (fun _=>OkG.val ⟨fun e=>?_,rfl,hc'⟩) (fun _=>OkG.val ⟨fun e=>(by cases e),rfl,hc'⟩)
   have:=of_decide_eq_true e
   omega
  ·rintro⟨c,b',i',h'⟩ ⟨hpos,rfl,hc'⟩
   have hkeep:WdB 2002 ws:=⟨by have:=hwl.1;omega,hwl.2⟩
   unfold J_1w
   refine OkG.bif (fun hcc=>?_) (fun _=>OkG.val ⟨hkeep,rfl,hc'⟩)
   have hp:=hpos hcc
   have hwl1:=hwl.1
   refine OkG.call (below_ok hc' _ _) ?_
   rintro⟨k,b',i',h'⟩ ⟨rfl,hc',k0,k1⟩
   have k1':=k1 (by omega)
   simp only at k0 k1' ⊢
   obtain⟨w,ew,hwm⟩:=ix_ex k0 k1'
   obtain⟨kn,rfl⟩:∃kn:Nat,k=(kn:Int):=⟨k.toNat,by omega⟩
   have kl:kn<ws.length:=by omega
   have hws:=hwl.2 w hwm
   refine OkG.call (below_ok hc' _ _) ?_
   rintro⟨r4,b',i',h'⟩ ⟨rfl,hc',_⟩
   simp only[ew,Option.bind_some]
   have hset:∀x:ByteArray,x.size≤3000→WdB 2002 (ws.set kn x):=fun x hx=>⟨by simp;omega,fun y hy=>by
    rcases List.mem_or_eq_of_mem_set hy with hy|rfl
    ·exact hwl.2 y hy
    ·exact hx⟩
   refine OkG.bif (fun _=>?_) (fun _=>OkG.bif (fun _=>?_) (fun _=>OkG.bif (fun _=>?_) (fun _=>OkG.bif (fun _=>?_) (fun _=>OkG.val ⟨hkeep,rfl,hc'⟩))))
   ·refine OkG.call (pickT_ok hc' _ (by simp)) ?_
    rintro⟨x,b',i',h'⟩ ⟨rfl,hc',hm⟩
    rw[stx_nat kl,Option.bind_some]
    refine OkG.val ⟨hset x ?_,rfl,hc'⟩
    simp only[List.mem_cons,List.not_mem_nil,or_false] at hm
    rcases hm with rfl|rfl|rfl|rfl|rfl|rfl|rfl|rfl|rfl|rfl|rfl|rfl|rfl|rfl|rfl <;> decide
   ·rw[tkx_ok k0 (by omega),Option.bind_some]
    exact OkG.val ⟨⟨by simp;omega,fun y hy=>hwl.2 y (List.mem_of_mem_take hy)⟩,rfl,hc'⟩
   ·rw[apx_some (by simp;omega),Option.bind_some]
    refine OkG.val ⟨⟨by simp;omega,fun y hy=>?_⟩,rfl,hc'⟩
    rcases List.mem_append.1 hy with hy|hy
    ·exact hwl.2 y hy
    ·rw[List.mem_singleton.1 hy];exact hws
   ·have h1:((⟨#[120]⟩:ByteArray).size)=1:=rfl
    have h20:=hw0 w hwm
    obtain⟨x,hx,hxs⟩:=addx_sz (a:=w) (b:=(⟨#[120]⟩:ByteArray)) (by omega)
    rw[hx,Option.bind_some,stx_nat kl,Option.bind_some]
    exact OkG.val ⟨hset x (by omega),rfl,hc'⟩
 ·rintro⟨ws2,b2,i',h'⟩ ⟨hw2,e2,hc2⟩
  simp only at hw2 e2 hc2
  subst e2
  obtain⟨hl2,hz2⟩:=hw2
  unfold J_1v
  refine OkG.join (fun s=>s.2.1=b2∧Cu b2 s.2.2.1) ?_ (fun s hs=>OkG.val ⟨hs.1,hs.2⟩)
  refine Ok.of (Ok.loop (S:=ByteArray×Int×List Int×Int×Int) (fun s=>ws2.length-s.2.1.toNat) (fun s=>0≤s.2.1∧s.2.1≤ws2.length∧(s.1.size:Int)≤4000*s.2.1∧s.2.2.1=b2∧Cu b2 s.2.2.2.1) ?_ _ ⟨Int.le_refl _,by simp,by simp,rfl,hc2⟩)
  rintro⟨tx2,k,b3,i',h'⟩ ⟨k0,kl,ht,e3,hc3⟩ G hG
  simp only at k0 kl ht e3 hc3
  subst e3
  unfold L_10
  refine OkG.bif (fun hk=>?_) (fun hk=>OkG.val ⟨rfl,hc3⟩)
  have hk':k<ws2.length:=of_decide_eq_true hk
  obtain⟨w,ew,hwm⟩:=ix_ex k0 hk'
  have hws:=hz2 w hwm
  refine OkG.join (fun s=>(s.1.size:Int)≤4000*k+10∧s.2.1=b3∧Cu b3 s.2.2.1) ?_ ?_
  ·refine OkG.bif (fun _=>?_) (fun _=>OkG.val ⟨by simp only;omega,rfl,hc3⟩)
   refine OkG.call (pickT_ok hc3 _ (by simp)) ?_
   rintro⟨x,b4,i',h'⟩ ⟨e4,hc4,hm⟩
   simp only at e4 hc4 hm
   subst e4
   have hxs:x.size≤2:=by
    simp only[List.mem_cons,List.not_mem_nil,or_false] at hm
    rcases hm with rfl|rfl|rfl|rfl|rfl <;> decide
   obtain⟨y,hy,hys⟩:=addx_sz (a:=tx2) (b:=x) (by omega)
   rw[hy,Option.bind_some]
   exact OkG.val ⟨by simp only;omega,rfl,hc4⟩
  ·rintro⟨tx3,b4,i',h'⟩ ⟨ht3,e4,hc4⟩
   simp only at ht3 e4 hc4
   subst e4
   unfold J_1x
   obtain⟨y,hy,hys⟩:=addx_sz (a:=tx3) (b:=w) (by omega)
   have hkw:IntKind.i64.wrap (k+1)=k+1:=wrap_sml (by omega) (by omega)
   simp only[ew,Option.bind_some]
   rw[hy,hkw]
   simp only[Option.bind_some]
   exact hG _ ⟨by simp only;omega,by simp only;omega,by simp only;omega,rfl,hc4⟩ (by simp only;omega)))
theorem drawParse_ok {code:List Int}(hl:code.length≤1073741824):Ok (F_29 code) (fun _=>True):=(U_1m code).ok (OkG.out (by
 refine OkG.call (new_ok hl) ?_
 rintro⟨b,i,h⟩ ⟨rfl,hc⟩
 refine OkG.call (drawText_ok hc _ hl) ?_
 rintro⟨tx,b2,i',h'⟩ ⟨e2,hc2⟩
 simp only at e2 hc2
 subst e2
 refine OkG.join (fun _=>True) ?_ (fun s _=>OkG.val trivial)
 refine OkG.call (once_ok hc2 _ 60) ?_
 rintro⟨r,b3,i',h'⟩ ⟨e3,hc3⟩
 simp only at e3 hc3
 subst e3
 refine OkG.bif (fun _=>?_) (fun _=>OkG.val trivial)
 refine OkG.join (fun _=>True) ?_ (fun s _=>OkG.val trivial)
 refine Ok.of (Ok.loop (S:=List Int×List Int×Int×Int) (fun s=>2002-s.1.length) (fun s=>s.1.length≤2001∧s.2.1=b3∧Cu b3 s.2.2.1) ?_ _ ⟨by simp,rfl,hc3⟩)
 rintro⟨q,b4,i',h'⟩ ⟨hq,e4,hc4⟩ G hG
 simp only at hq e4 hc4
 subst e4
 unfold L_w
 refine OkG.call (below_ok hc4 _ 2) ?_
 rintro⟨r2,b5,i',h'⟩ ⟨e5,hc5,r0,r1⟩
 simp only at e5 hc5 r0 r1
 subst e5
 have r1':=r1 (by decide)
 have hw:IntKind.i64.wrap (2000+r2)=2000+r2:=wrap_sml (by omega) (by omega)
 refine OkG.bif (fun hk=>?_) (fun _=>OkG.val trivial)
 have hk':=of_decide_eq_true hk
 simp only at hk'
 rw[hw] at hk'
 rw[apx_some (by simp;omega)]
 simp only[Option.bind_some]
 exact hG _ ⟨by simp;omega,rfl,hc5⟩ (by simp;omega)))
theorem alt_ok {code:List Int}(k:Int)(hl:code.length≤1073741824):Ok (F_1z code k) (fun l=>l.length≤1073741824):=(U_1b code k).ok (OkG.out (by
 refine OkG.join (fun l=>l.length≤1073741824) ?_ (fun s hs=>OkG.val hs)
 refine Ok.of (Ok.loop (S:=List Int×Int) (fun s=>3001-s.2.toNat) (fun s=>0≤s.2∧s.2≤3000∧(s.1.length:Int)=s.2+1) ?_ _ ⟨Int.le_refl _,by simp,by simp⟩)
 rintro⟨q,k⟩ ⟨k0,k1,hq⟩ G hG
 simp only at k0 k1 hq
 unfold L_v
 refine OkG.join (fun c=>c=true→k<code.length∧k<3000) ?_ ?_
 ·refine OkG.bif (fun h1=>OkG.val fun h2=>⟨of_decide_eq_true h1,of_decide_eq_true h2⟩) (fun _=>OkG.val fun h=>by cases h)
 ·intro c hc
  unfold J_16
  refine OkG.bif (fun hcc=>?_) (fun _=>OkG.val (by simp only;omega))
  obtain⟨h1,h2⟩:=hc hcc
  obtain⟨x,ex,-⟩:=ix_ex k0 h1
  have hkw:IntKind.i64.wrap (k+1)=k+1:=wrap_sml (by omega) (by omega)
  simp only[ex,Option.bind_some]
  rw[apx_some (by simp;omega),hkw]
  simp only[Option.bind_some]
  exact hG _ ⟨by simp only;omega,by simp only;omega,by simp;omega⟩ (by simp only;omega)))
end Go.Proofs.YtnljlpckjkafgaaGreatDoorX
namespace Go.Proofs.YtnljlpckjkafgaaGreatDoorX
open Go Go.Proofs.YtnljlpckjkafgaaGreatDoorT PT
set_option linter.all false
def Plc {A:Type}(L:Nat) (m:Except Nat (A×Nat)):Prop:=match m with
 |.ok x=>x.2≤L
 |.error e=>e≤L
theorem plc_word {A:Type}{W:List ByteArray}{f:ByteArray→Option A}{k:Nat}(h:k≤W.length):Plc W.length (rWord W f k):=by
 unfold Plc
 split
 ·rename_i x hx
  obtain⟨a,k'⟩:=x
  obtain⟨h1,h2,-⟩:=rWord_ok hx
  show k'≤W.length
  omega
 ·rename_i e he
  have:=(rWord_err he).1
  omega
theorem plc_thn {A B:Type}{L:Nat}{m:Except Nat (A×Nat)}{g:A→Nat→Except Nat (B×Nat)}(h:Plc L m) (k:∀a k,k≤L→Plc L (g a k)):Plc L (thn m g):=by
 cases m with
 |ok x=>exact k x.1 x.2 h
 |error e=>exact h
theorem plc_ok {A:Type}{L:Nat}{a:A}{k:Nat}(h:k≤L):Plc L (.ok (a,k):Except Nat (A×Nat)):=h
theorem plc_err {A:Type}{L k:Nat}(h:k≤L):Plc L (.error k:Except Nat (A×Nat)):=h
theorem plc_node {W:List ByteArray}{k:Nat}(h:k≤W.length):Plc W.length (rNode W k):=by
 unfold rNode
 refine plc_thn (plc_word h) fun v k h=>?_
 split
 ·exact plc_thn (plc_word h) fun w k h=>plc_ok h
 split
 ·refine plc_thn (plc_word h) fun c k h=>plc_thn (plc_word h) fun o k h=>?_
  split
  ·exact plc_ok h
  ·exact plc_thn (plc_word h) fun x k h=>plc_ok h
 split
 ·refine plc_thn (plc_word h) fun n k h=>?_
  have:=rCols_facts W n.toNat k [] h
  split
  ·exact plc_ok this.2.1
  ·exact plc_err this.2.1
 split
 ·exact plc_thn (plc_word h) fun c k h=>plc_thn (plc_word h) fun m k h=>plc_ok h
 split
 ·exact plc_thn (plc_word h) fun c k h=>plc_ok h
 split
 ·exact plc_thn (plc_word h) fun x k h=>plc_ok h
 ·exact plc_ok h
theorem plc_plan {W:List ByteArray}:∀(f want k:Nat) (acc:List Nd),k≤W.length→Plc W.length (rPlan W f want k acc)
 |0,_,_,_,h=>plc_err h
 |f+1,want,k,acc,h=>by
  unfold rPlan
  split
  ·exact plc_ok h
  ·have hn:=plc_node h
   split
   ·rename_i e he
    rw[he] at hn
    exact hn
   ·rename_i x hx
    rw[hx] at hn
    exact plc_plan f _ x.2 _ hn
theorem parse_place {s:ByteArray}(hs:s.size≤2000):(parsePlan s).2≤((wordsOf s).length:Int):=by
 have h:=plc_plan (W:=wordsOf s) ((wordsOf s).length+1) 1 0 [] (Nat.zero_le _)
 unfold parsePlan
 rw[if_neg (by omega)]
 split
 ·rename_i k he
  rw[he] at h
  have h':k≤(wordsOf s).length:=h
  show(k:Int)≤_
  omega
 ·rename_i p k he
  rw[he] at h
  have h':k≤(wordsOf s).length:=h
  split
  ·show(k:Int)≤_;omega
  ·split
   ·show(-1:Int)≤_;omega
   ·show(((wordsOf s).length:Nat):Int)≤_;omega
theorem text_of {p:List Nd}(h:planOk p=true):isTextM (planT1 p)=true:=by
 unfold isTextM
 rw[parse_planT h,if_neg (show¬((-1:Int)≥0) by decide)]
 exact decide_eq_true rfl
theorem bp2_ok {p:List Nd}(h:planOk p=true):BP2 p:=by
 obtain⟨t,ht,rfl⟩:=planOk_iff.1 h
 exact⟨by have:=ht.size;simp only[PT.len_flat];omega,fun n hn=>by have:=bnode_ok (ht.nodes n hn);omega⟩
theorem bp2_parse (s:ByteArray):BP2 (parsePlan s).1:=by
 rcases parse_ok s with h|h
 ·rw[h];exact⟨by simp,by simp⟩
 ·exact bp2_ok h
end Go.Proofs.YtnljlpckjkafgaaGreatDoorX
namespace Go.Proofs.YtnljlpckjkafgaaGreatDoorX
open Go Go.Proofs.YtnljlpckjkafgaaGreatDoorT
set_option linter.all false
def CNd (n:Nd):Prop:=n.2.2.2.2.2.2.1.length≤1073741824
end Go.Proofs.YtnljlpckjkafgaaGreatDoorX
namespace Go.Proofs.YtnljlpckjkafgaaGreatDoorX
open Go Go.Proofs.YtnljlpckjkafgaaGreatDoorT
set_option linter.all false
structure COp (o:Opn):Prop where
 l1:o.2.1.length≤1073741824
 c1:∀n∈o.2.1,CNd n
 l2:o.2.2.1.length≤1073741824
 c2:∀n∈o.2.2.1,CNd n
 l3:o.2.2.2.1.length≤1073741824
end Go.Proofs.YtnljlpckjkafgaaGreatDoorX
namespace Go.Proofs.YtnljlpckjkafgaaGreatDoorX
open Go Go.Proofs.YtnljlpckjkafgaaGreatDoorT
set_option linter.all false
structure CEn (e:En):Prop where
 l1:e.2.1.length≤1073741824
 c1:∀n∈e.2.1,CNd n
 l2:e.2.2.1.length≤1073741824
 c2:∀n∈e.2.2.1,CNd n
end Go.Proofs.YtnljlpckjkafgaaGreatDoorX
namespace Go.Proofs.YtnljlpckjkafgaaGreatDoorX
open Go Go.Proofs.YtnljlpckjkafgaaGreatDoorT
set_option linter.all false
theorem wl_ByteS {n:Nat}{x:List Int}(h:wfT (.sl n (.int .u8)) x):x.length≤maxLen:=h.1
end Go.Proofs.YtnljlpckjkafgaaGreatDoorX
namespace Go.Proofs.YtnljlpckjkafgaaGreatDoorX
open Go Go.Proofs.YtnljlpckjkafgaaGreatDoorT PT
set_option linter.all false
theorem pure_FnTexts {a0:List Int}(w0:a0.length≤maxLen):F_1y a0=some true:=(U_1a a0).out (by
 rw[big_ok,Option.bind_some]
 cases hb:decide ((a0.length:Int)>1048576) with
 |true=>rfl
 |false=>
  have hl:=of_decide_eq_false hb
  obtain⟨p,ep,sp⟩:=drawPrint_ok (code:=a0) (by omega)
  have bp:=sp.bplan (by decide) (by decide)
  have b2:=sp.bp2 (by decide) (by decide)
  obtain⟨x,e1,e2⟩:=lines_same bp
  rw[cond_false,ep,Option.bind_some,V_18 bp,Option.bind_some,V_w bp,Option.bind_some]
  simp only[beq_self_eq_true,Bool.not_true,cond_false]
  rw[e1,Option.bind_some,e2,Option.bind_some]
  simp only[beq_self_eq_true,Bool.not_true,joinK_go]
  unfold J_12
  rw[cond_false,V_3 bp,Option.bind_some]
  have h2:(bif planOk p then
    (F_f (if planOk p=true then planT1 p else ByteArray.empty)).bind (fun y9=>joinK ((bif (y9.2 != (-1)) then
    some (.go true)
    else(F_q y9.1 p).bind (fun y10=>(bif (!y10) then
    some (.go true)
    else(F_m (if planOk p=true then planT1 p else ByteArray.empty)).bind (fun y11=>some (.go (!y11)))))))
    (fun s=>J_14 s))
    else some (Ex.go (R:=Bool) false))=some (.go false):=by
   cases hp:planOk p with
   |false=>rfl
   |true=>
    rw[cond_true,if_pos rfl,V_a,Option.bind_some,parse_planT hp]
    simp only
    rw[show((-1:Int) != -1)=false from rfl,cond_false,V_m b2,Option.bind_some,decide_eq_true rfl,Bool.not_true,cond_false,V_j,Option.bind_some,text_of hp,joinK_go]
    rfl
  rw[h2,joinK_go]
  unfold J_13
  obtain⟨c2,ec,hc⟩:=alt_ok (code:=a0) 1 (by omega)
  obtain⟨tx,et,-⟩:=drawParse_ok hc
  rw[ec,Option.bind_some,et,Option.bind_some,V_a,Option.bind_some,V_1j,Option.bind_some,bne_self_eq_false,cond_false,V_m (bp2_parse tx),Option.bind_some,decide_eq_true rfl,Bool.not_true,joinK_go]
  unfold J_15
  rw[cond_false,V_n,Option.bind_some]
  unfold tidyM
  by_cases h:(parsePlan tx).2≥0
  ·rw[if_pos h,decide_eq_true h,cond_true,Bool.not_false,cond_true]
   by_cases hs:(tx.size:Int)>2000
   ·rw[decide_eq_true hs,cond_true,joinK_go]
    rfl
   ·rw[decide_eq_false hs,cond_false,V_p (by omega),Option.bind_some,decide_eq_true (parse_place (by omega)),joinK_go]
    rfl
  ·rw[if_neg h,decide_eq_false h,cond_false]
   simp only[cond_true]
   rw[V_j,Option.bind_some,text_of (parse_neg h).1,joinK_go]
   rfl)
end Go.Proofs.YtnljlpckjkafgaaGreatDoorX
