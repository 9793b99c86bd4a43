/- The plain law: the plain functions answer as the statement says. -/
import Derived.Test.YtkbcahfajbdgnaaGreatDoorPtrA
set_option linter.all false
namespace Go.Proofs.YtkbcahfajbdgnaaGreatDoorX
open Go Go.Proofs.YtkbcahfajbdgnaaGreatDoorT PT
set_option linter.all false
def nxt (x:Int):Int:=(x*75+74) % 65537
def OkX (x:Int):Prop:=0≤x∧x≤65536
theorem nxt_ok (x:Int):OkX (nxt x):=by unfold OkX nxt;omega
theorem remx_pos {a b:Int}(ha:0≤a)(hb:0<b):remx a b=some (a % b):=by
 have:(b==0)=false:=by simp;omega
 rw[remx,this]
 simp only[cond_false]
 rw[Int.tmod_eq_emod_of_nonneg ha]
theorem V_14 {x:Int}(h:OkX x):F_1g x=some (nxt x,nxt x):=(U_1g x).out (by
 obtain⟨h0,h1⟩:=h
 rw[wrap_in (x:=75*x) (by omega) (by omega),wrap_in (x:=75*x+74) (by omega) (by omega),remx_pos (by omega) (by omega)]
 simp only[Option.bind_some,nxt]
 rw[show 75*x=x*75 by omega])
theorem V_1l {x:Int}(h:OkX x):F_1y x=some (nxt x,nxt x):=(U_49 x).out (by
 obtain⟨h0,h1⟩:=h
 rw[wrap_in (x:=x*75) (by omega) (by omega),wrap_in (x:=x*75+74) (by omega) (by omega),remx_pos (by omega) (by omega)]
 simp only[Option.bind_some,nxt])
def cellV (y:Int):Int:=if y % 6=5 then -2000000 else y % 6
def rowF:Nat→Int→List Int×Int
 |0,x=>([],x)
 |k+1,x=>(cellV (nxt x)::(rowF k (nxt x)).1,(rowF k (nxt x)).2)
def rowsF (w:Nat):Nat→Int→Rows×Int
 |0,x=>([],x)
 |k+1,x=>((rowF w x).1::(rowsF w k (rowF w x).2).1,(rowsF w k (rowF w x).2).2)
def tabsF:List Tb→Int→List Rows
 |[],_=>[]
 |t::ts,x=>(rowsF t.2.1.toNat (nxt x % 5).toNat (nxt x)).1::tabsF ts (rowsF t.2.1.toNat (nxt x % 5).toNat (nxt x)).2
def storeFrom (s:List Tb) (seed:Int):List Rows:=if schemaOk s=true∧okIn seed 0 65536=true then tabsF s seed else[]
theorem rowF_ok:∀(k:Nat){x:Int},OkX x→(rowF k x).1.length=k∧OkX (rowF k x).2
 |0,x,h=>⟨rfl,h⟩
 |k+1,x,h=>by
  obtain⟨h1,h2⟩:=rowF_ok k (nxt_ok x)
  exact⟨by simp[rowF,h1],h2⟩
theorem rowsF_ok (w:Nat):∀(k:Nat){x:Int},OkX x→(rowsF w k x).1.length=k∧OkX (rowsF w k x).2∧∀r∈(rowsF w k x).1,r.length=w
 |0,x,h=>⟨rfl,h,by simp[rowsF]⟩
 |k+1,x,h=>by
  obtain⟨h1,h2⟩:=rowF_ok w h
  obtain⟨h3,h4,h5⟩:=rowsF_ok w k h2
  refine⟨by simp[rowsF,h3],h4,fun r hr=>?_⟩
  simp only[rowsF,List.mem_cons] at hr
  rcases hr with rfl|hr
  ·exact h1
  ·exact h5 r hr
theorem tabsF_ok:∀{ts:List Tb}{x:Int},OkX x→(∀t∈ts,t.2.1≤6)→(tabsF ts x).length=ts.length∧∀q∈tabsF ts x,q.length≤4∧∀r∈q,r.length≤6
 |[],x,h,_=>⟨rfl,by simp[tabsF]⟩
 |t::ts,x,h,ht=>by
  obtain⟨h1,h2,h3⟩:=rowsF_ok t.2.1.toNat (nxt x % 5).toNat (nxt_ok x)
  obtain⟨h4,h5⟩:=tabsF_ok (ts:=ts) h2 (fun u hu=>ht u (by simp[hu]))
  have:=ht t (by simp)
  refine⟨by simp[tabsF,h4],fun q hq=>?_⟩
  simp only[tabsF,List.mem_cons] at hq
  rcases hq with rfl|hq
  ·exact⟨by omega,fun r hr=>by have:=h3 r hr;omega⟩
  ·exact h5 q hq
theorem storeFrom_b {s:List Tb}(seed:Int):BRows (storeFrom s seed):=by
 unfold storeFrom
 split
 ·rename_i h
  obtain⟨h1,h2⟩:=tabsF_ok (ts:=s) (x:=seed) (by have:=okIn_iff.1 h.2;exact this) (fun t ht=>(schemaOk_get h.1 ht).2.2)
  have:=schemaOk_len h.1
  exact⟨by omega,fun t ht=>by have:=(h2 t ht).1;omega,fun t ht r hr=>by have:=(h2 t ht).2 r hr;omega⟩
 ·exact⟨by simp,by simp,by simp⟩
theorem sf_i2 {z:STable}{x:Int}(hx:OkX x)(hw:0≤z.2.1)(hw6:z.2.1≤6){E:Type}:∀{f:(List Int×Int×Int→Option (Ex E (List Int×Int)))→List Int×Int×Int→Option (Ex E (List Int×Int))},
  (∀(a:List Int) (y:Int) (j:Nat) (g:List Int×Int×Int→Option (Ex E (List Int×Int))),OkX y→(j:Int)<z.2.1→a.length=j→f g (a,y,(j:Int))=g (a++[cellV (nxt y)],nxt y,((j+1:Nat):Int)))→
  (∀(a:List Int) (y:Int) (g:List Int×Int×Int→Option (Ex E (List Int×Int))),f g (a,y,z.2.1)=some (.go (a,y)))→
  loopF f ([],x,0)=some (.go (rowF z.2.1.toNat x)):=by
 intro f h1 h2
 refine loopF_ind (fun s=>(z.2.1-s.2.2).toNat) (fun s=>∃(a:List Int) (y:Int) (j:Nat),s=(a,y,(j:Int))∧OkX y∧(j:Int)≤z.2.1∧a.length=j∧(a++(rowF (z.2.1.toNat-j) y).1,(rowF (z.2.1.toNat-j) y).2)=rowF z.2.1.toNat x)
  (fun _=>Ex.go (rowF z.2.1.toNat x)) ?_ _ ⟨[],x,0,rfl,hx,hw,rfl,by simp⟩
 rintro s ⟨a,y,j,rfl,hy,hj,hl,he⟩ g hg
 by_cases h:(j:Int)<z.2.1
 ·rw[h1 a y j g hy h hl]
  refine hg _ ⟨_,_,j+1,rfl,nxt_ok y,by omega,by simp[hl],?_⟩ (by dsimp only;omega)
  obtain⟨m,hm⟩:∃m,z.2.1.toNat-j=m+1:=⟨z.2.1.toNat-j-1,by omega⟩
  rw[hm] at he
  rw[show z.2.1.toNat-(j+1)=m by omega,←he]
  simp[rowF]
 ·have:(j:Int)=z.2.1:=by omega
  rw[show z.2.1.toNat-j=0 by omega] at he
  rw[this,h2 a y g,←he]
  simp[rowF]
theorem sf_i2' {z:STable}{x:Int}(hx:OkX x)(hw:0≤z.2.1)(hw6:z.2.1≤6){E:Type}:∀{f:(Int×List Int×Int→Option (Ex E (Int×List Int)))→Int×List Int×Int→Option (Ex E (Int×List Int))},
  (∀(a:List Int) (y:Int) (j:Nat) (g:Int×List Int×Int→Option (Ex E (Int×List Int))),OkX y→(j:Int)<z.2.1→a.length=j→f g (y,a,(j:Int))=g (nxt y,a++[cellV (nxt y)],((j+1:Nat):Int)))→
  (∀(a:List Int) (y:Int) (g:Int×List Int×Int→Option (Ex E (Int×List Int))),f g (y,a,z.2.1)=some (.go (y,a)))→
  loopF f (x,[],0)=some (.go ((rowF z.2.1.toNat x).2,(rowF z.2.1.toNat x).1)):=by
 intro f h1 h2
 refine loopF_ind (fun s=>(z.2.1-s.2.2).toNat) (fun s=>∃(a:List Int) (y:Int) (j:Nat),s=(y,a,(j:Int))∧OkX y∧(j:Int)≤z.2.1∧a.length=j∧(a++(rowF (z.2.1.toNat-j) y).1,(rowF (z.2.1.toNat-j) y).2)=rowF z.2.1.toNat x)
  (fun _=>Ex.go ((rowF z.2.1.toNat x).2,(rowF z.2.1.toNat x).1)) ?_ _ ⟨[],x,0,rfl,hx,hw,rfl,by simp⟩
 rintro s ⟨a,y,j,rfl,hy,hj,hl,he⟩ g hg
 by_cases h:(j:Int)<z.2.1
 ·rw[h1 a y j g hy h hl]
  refine hg _ ⟨_,_,j+1,rfl,nxt_ok y,by omega,by simp[hl],?_⟩ (by dsimp only;omega)
  obtain⟨m,hm⟩:∃m,z.2.1.toNat-j=m+1:=⟨z.2.1.toNat-j-1,by omega⟩
  rw[hm] at he
  rw[show z.2.1.toNat-(j+1)=m by omega,←he]
  simp[rowF]
 ·have:(j:Int)=z.2.1:=by omega
  rw[show z.2.1.toNat-j=0 by omega] at he
  rw[this,h2 a y g,←he]
  simp[rowF]
theorem V_9 {s:List STable}{seed:Int}(hs:BSch s):F_d s seed=some (storeFrom s seed):=(U_v s seed).out (by
 simp only[V_o hs,V_2,Option.bind_some,joinK_bif,joinK_go,J_15]
 unfold storeFrom
 cases h1:schemaOk s with
 |false=>simp
 |true=>
  cases h2:okIn seed 0 65536 with
  |false=>simp
  |true=>
   have hlen:=schemaOk_len h1
   have hmain:loopF (fun f s_1=>L_p s f s_1.1 s_1.2.1 s_1.2.2) ([],seed,0)=some (.go (tabsF s seed)):=by
    refine loopF_ind (fun q=>((s.length:Int)-q.2.2).toNat) (fun q=>∃(a:List Rows) (y:Int) (j:Nat),q=(a,y,(j:Int))∧OkX y∧j≤s.length∧a.length=j∧a++tabsF (s.drop j) y=tabsF s seed)
     (fun _=>Ex.go (tabsF s seed)) ?_ _ ⟨[],seed,0,rfl,okIn_iff.1 h2,by omega,rfl,by simp⟩
    rintro q ⟨a,y,j,rfl,hy,hj,hl,he⟩ g hg
    dsimp only
    by_cases h:j<s.length
    ·have hx:s[j]?=some s[j]:=List.getElem?_eq_getElem h
     have hwd:=schemaOk_get h1 (mem_of_get hx)
     rw[List.drop_eq_getElem_cons h] at he
     generalize s[j]=z at *
     have hny:=nxt_ok y
     have hr:loopF (fun f s=>L_2g z (nxt y % 5) f s.1 s.2.1 s.2.2) ([],nxt y,0)=some (.go (rowsF z.2.1.toNat (nxt y % 5).toNat (nxt y))):=by
      refine loopF_ind (fun q=>((nxt y % 5)-q.2.2).toNat) (fun q=>∃(b:Rows) (u:Int) (k:Nat),q=(b,u,(k:Int))∧OkX u∧(k:Int)≤nxt y % 5∧b.length=k∧
        (b++(rowsF z.2.1.toNat ((nxt y % 5).toNat-k) u).1,(rowsF z.2.1.toNat ((nxt y % 5).toNat-k) u).2)=rowsF z.2.1.toNat (nxt y % 5).toNat (nxt y))
       (fun _=>Ex.go (rowsF z.2.1.toNat (nxt y % 5).toNat (nxt y))) ?_ _ ⟨[],nxt y,0,rfl,hny,by omega,rfl,by simp⟩
      rintro q ⟨b,u,k,rfl,hu,hk,hlb,heb⟩ g hg
      dsimp only
      simp only[L_2g]
      by_cases hc:(k:Int)<nxt y % 5
      ·rw[decide_eq_true hc]
       have e2:=sf_i2 (z:=z) (x:=u) hu (by omega) (by omega) (f:=fun f s=>L_q z f s.1 s.2.1 s.2.2)
        (fun c v m g hv hm hlc=>by
         have hnv:=nxt_ok v
         simp only[L_q]
         rw[decide_eq_true hm]
         simp only[cond_true,V_14 hv,Option.bind_some,remx_pos hnv.1 (show(0:Int)<6 by omega),joinK_bif,joinK_go,J_1b,wrap_nat (show m<9223372036854775807 by omega),beq_dec]
         unfold cellV
         by_cases h5:nxt v % 6=5
         ·rw[decide_eq_true h5,if_pos h5]
          simp only[cond_true]
          rw[apx_some (by simp;omega)];rfl
         ·rw[decide_eq_false h5,if_neg h5]
          simp only[cond_false]
          rw[apx_some (by simp;omega)];rfl)
        (fun c v g=>by simp[L_q])
       simp only[cond_true,e2,joinK_go,J_1a]
       rw[apx_some (by simp;omega)]
       simp only[Option.bind_some,joinK_go,J_19,wrap_nat (show k<9223372036854775807 by omega)]
       obtain⟨h6,h7⟩:=rowF_ok z.2.1.toNat hu
       refine hg _ ⟨_,_,k+1,rfl,h7,by omega,by simp[hlb],?_⟩ (by dsimp only;omega)
       obtain⟨m,hm⟩:∃m,(nxt y % 5).toNat-k=m+1:=⟨(nxt y % 5).toNat-k-1,by omega⟩
       rw[hm] at heb
       rw[show(nxt y % 5).toNat-(k+1)=m by omega,←heb]
       simp[rowsF]
      ·rw[decide_eq_false hc]
       rw[show(nxt y % 5).toNat-k=0 by omega] at heb
       rw[←heb]
       simp[rowsF]
     simp only[L_p,lt_nat hx,cond_true,ix_some hx,Option.bind_some,V_14 hy,remx_pos hny.1 (show(0:Int)<5 by omega),hr,joinK_go,J_18]
     rw[apx_some (by simp;omega)]
     simp only[Option.bind_some,joinK_go,J_17,wrap_nat (show j<9223372036854775807 by omega)]
     obtain⟨h6,h7,_⟩:=rowsF_ok z.2.1.toNat (nxt y % 5).toNat hny
     refine hg _ ⟨_,_,j+1,rfl,h7,by omega,by simp[hl],?_⟩ (by dsimp only;omega)
     rw[←he]
     simp[tabsF]
    ·have:j=s.length:=by omega
     subst this
     simp only[List.drop_length,tabsF,List.append_nil] at he
     simp[L_p,he]
   simp[hmain,J_16])
theorem V_b {s:List STable}{seed:Int}(hs:BSch s):F_r s seed=some (storeFrom s seed):=(U_31 s seed).out (by
 simp only[V_h hs,V_0,Option.bind_some,joinK_bif,joinK_go,J_3g]
 unfold storeFrom
 cases h1:schemaOk s with
 |false=>simp
 |true=>
  cases h2:okIn seed 0 65536 with
  |false=>simp
  |true=>
   have hlen:=schemaOk_len h1
   have hmain:loopF (fun f s_1=>L_1o s f s_1.1 s_1.2.1 s_1.2.2) ([],seed,0)=some (.go (tabsF s seed)):=by
    refine loopF_ind (fun q=>((s.length:Int)-q.2.2).toNat) (fun q=>∃(a:List Rows) (y:Int) (j:Nat),q=(a,y,(j:Int))∧OkX y∧j≤s.length∧a.length=j∧a++tabsF (s.drop j) y=tabsF s seed)
     (fun _=>Ex.go (tabsF s seed)) ?_ _ ⟨[],seed,0,rfl,okIn_iff.1 h2,by omega,rfl,by simp⟩
    rintro q ⟨a,y,j,rfl,hy,hj,hl,he⟩ g hg
    dsimp only
    by_cases h:j<s.length
    ·have hx:s[j]?=some s[j]:=List.getElem?_eq_getElem h
     have hwd:=schemaOk_get h1 (mem_of_get hx)
     rw[List.drop_eq_getElem_cons h] at he
     generalize s[j]=z at *
     have hny:=nxt_ok y
     have hr:loopF (fun f q=>L_2s s (j:Int) f q.1 q.2.1 q.2.2) (nxt y,[],nxt y % 5)=some (.go ((rowsF z.2.1.toNat (nxt y % 5).toNat (nxt y)).2,(rowsF z.2.1.toNat (nxt y % 5).toNat (nxt y)).1)):=by
      refine loopF_ind (fun q=>(q.2.2).toNat) (fun q=>∃(b:Rows) (u:Int) (k:Nat),q=(u,b,(k:Int))∧OkX u∧(k:Int)≤nxt y % 5∧b.length+k≤5∧
        (b++(rowsF z.2.1.toNat k u).1,(rowsF z.2.1.toNat k u).2)=rowsF z.2.1.toNat (nxt y % 5).toNat (nxt y))
       (fun _=>Ex.go ((rowsF z.2.1.toNat (nxt y % 5).toNat (nxt y)).2,(rowsF z.2.1.toNat (nxt y % 5).toNat (nxt y)).1)) ?_ _ ⟨[],nxt y,(nxt y % 5).toNat,by rw[Int.toNat_of_nonneg (by omega)],hny,by omega,by simp;omega,by simp⟩
      rintro q ⟨b,u,k,rfl,hu,hk,hlb,heb⟩ g hg
      dsimp only
      simp only[L_2s]
      by_cases hc:(k:Int)>0
      ·rw[decide_eq_true hc]
       have e2:=sf_i2' (z:=z) (x:=u) hu (by omega) (by omega) (f:=fun f q=>L_1p s (j:Int) f q.1 q.2.1 q.2.2)
        (fun c v m g hv hm hlc=>by
         have hnv:=nxt_ok v
         simp only[L_1p,ix_some hx,Option.bind_some]
         rw[decide_eq_true hm]
         simp only[cond_true,V_1l hv,Option.bind_some,remx_pos hnv.1 (show(0:Int)<6 by omega),joinK_bif,joinK_go,J_3m,wrap_nat (show m<9223372036854775807 by omega),beq_dec]
         unfold cellV
         by_cases h5:nxt v % 6=5
         ·rw[decide_eq_true h5,if_pos h5]
          simp only[cond_true]
          rw[apx_some (by simp;omega)];rfl
         ·rw[decide_eq_false h5,if_neg h5]
          simp only[cond_false]
          rw[apx_some (by simp;omega)];rfl)
        (fun c v g=>by simp[L_1p,ix_some hx])
       simp only[cond_true,e2,joinK_go,J_3l]
       rw[apx_some (by simp;omega)]
       obtain⟨m,rfl⟩:∃m,k=m+1:=⟨k-1,by omega⟩
       simp only[Option.bind_some,joinK_go,J_3k]
       rw[wrap_in (x:=((m+1:Nat):Int)-1) (by omega) (by omega),show((m+1:Nat):Int)-1=(m:Int) by omega]
       obtain⟨h6,h7⟩:=rowF_ok z.2.1.toNat hu
       refine hg _ ⟨_,_,m,rfl,h7,by omega,by simp;omega,?_⟩ (by dsimp only;omega)
       rw[←heb]
       simp[rowsF]
      ·rw[decide_eq_false hc]
       have:k=0:=by omega
       subst this
       rw[←heb]
       simp[rowsF]
     simp only[L_1o,lt_nat hx,cond_true,Option.bind_some,V_1l hy,remx_pos hny.1 (show(0:Int)<5 by omega),hr,joinK_go,J_3j]
     rw[apx_some (by simp;omega)]
     simp only[Option.bind_some,joinK_go,J_3i,wrap_nat (show j<9223372036854775807 by omega)]
     obtain⟨h6,h7,_⟩:=rowsF_ok z.2.1.toNat (nxt y % 5).toNat hny
     refine hg _ ⟨_,_,j+1,rfl,h7,by omega,by simp[hl],?_⟩ (by dsimp only;omega)
     rw[←he]
     simp[tabsF]
    ·have:j=s.length:=by omega
     subst this
     simp only[List.drop_length,tabsF,List.append_nil] at he
     simp[L_1o,he]
   simp[hmain,J_3h])
end Go.Proofs.YtkbcahfajbdgnaaGreatDoorX
namespace Go.Proofs.YtkbcahfajbdgnaaGreatDoorX
open Go Go.Proofs.YtkbcahfajbdgnaaGreatDoorT PT
set_option linter.all false
def rowsAt (s:List Tb) (p:List Nd) (seed:Int):Int:=bif decide ((evalPlan s (storeFrom s seed) p).2=0) then((evalPlan s (storeFrom s seed) p).1.length:Int) else -1
theorem rowsAt_range (s:List Tb) (p:List Nd) (seed:Int):-1≤rowsAt s p seed∧rowsAt s p seed≤200:=by
 unfold rowsAt
 have:=(evalPlan_small s (storeFrom s seed) p).len
 cases decide ((evalPlan s (storeFrom s seed) p).2=0) <;> simp <;> omega
theorem V_n {s:List STable}{p:List SNode}{seed:Int}(hs:BSch s)(hp:BPlan p):F_8 s p seed=some (rowsAt s p seed):=(U_p s p seed).out (by
 simp only[V_9 hs,V_7 hs (storeFrom_b seed) hp,Option.bind_some,bne_dec,rowsAt]
 cases decide ((evalPlan s (storeFrom s seed) p).2=0) <;> simp)
theorem V_t {s:List STable}{p:List SNode}{seed:Int}(hs:BSch s)(hp:BPlan p):F_a s p seed=some (rowsAt s p seed):=(U_2t s p seed).out (by
 simp only[V_b hs,V_8 hs (storeFrom_b seed) hp,Option.bind_some,bne_dec,rowsAt]
 cases decide ((evalPlan s (storeFrom s seed) p).2=0) <;> simp)
theorem loop_num {A S:Type}{f:(S×Int→Option A)→S×Int→Option A}(n:Nat) (step:S→Int→S) (fin:S→A) (I:Nat→S→Prop)
  (h1:∀(i:Nat) a (g:S×Int→Option A),i<n→I i a→f g (a,(i:Int))=g (step a i,((i+1:Nat):Int)))
  (hI:∀(i:Nat) a,i<n→I i a→I (i+1) (step a i))
  (h2:∀a (g:S×Int→Option A),I n a→f g (a,(n:Int))=some (fin a)) (a0:S)(h0:I 0 a0):loopF f (a0,0)=some (fin ((List.range n).foldl (fun a (i:Nat)=>step a (i:Int)) a0)):=by
 have:=loop_st (f:=f) (List.range n) (fun a (i:Nat)=>step a (i:Int)) fin I
  (fun i x a g hx hi=>by
   have l1:=(List.getElem?_eq_some_iff.1 hx).1
   simp at l1
   have:x=i:=by
    have:=hx
    rw[List.getElem?_range l1] at this
    simpa using this.symm
   subst this
   exact h1 x a g l1 hi)
  (fun i x a hx hi=>by
   have l1:=(List.getElem?_eq_some_iff.1 hx).1
   simp at l1
   have:x=i:=by
    have:=hx
    rw[List.getElem?_range l1] at this
    simpa using this.symm
   subst this
   exact hI x a l1 hi)
  (fun a g hi=>by simp at hi ⊢;exact h2 a g hi) a0 h0
 exact this
def mostRows (s:List Tb) (p:List Nd) (n:Int):Int:=bif okIn n 0 50 then(List.range n.toNat).foldl (fun a (i:Nat)=>mmx true a (rowsAt s p (i:Int))) (-1) else -1
def rowsSum (s:List Tb) (p:List Nd) (n:Int):Int:=bif okIn n 0 50 then(List.range n.toNat).foldl (fun a (i:Nat)=>a+mmx true 0 (rowsAt s p (i:Int))) 0 else -1
theorem V_1s {s:List STable}{p:List SNode}{n:Int}(hs:BSch s)(hp:BPlan p):F_22 s p n=some (mostRows s p n):=(U_i s p n).out (by
 simp only[V_2,Option.bind_some,mostRows]
 cases h:okIn n 0 50 with
 |false=>simp
 |true=>
  obtain⟨k,rfl⟩:∃k:Nat,n=(k:Int):=⟨n.toNat,by have:=okIn_iff.1 h;omega⟩
  have hk:=(okIn_iff.1 h).2
  have e:=loop_num (f:=fun f q=>L_l s p (k:Int) f q.1 q.2) k (fun a i=>mmx true a (rowsAt s p i)) (fun a=>(Ex.go a:Ex Int Int)) (fun _ _=>True)
   (fun i a g hi _=>by
    have:decide ((i:Int)<(k:Int))=true:=by simp;omega
    simp only[L_l,this,cond_true,V_n hs hp,Option.bind_some,wrap_nat (show i<9223372036854775807 by omega)])
   (fun _ _ _ _=>trivial) (fun a g _=>by simp[L_l]) (-1) trivial
  rw[e]
  simp[J_s])
theorem V_2v {s:List STable}{p:List SNode}{n:Int}(hs:BSch s)(hp:BPlan p):F_3h s p n=some (mostRows s p n):=(U_2n s p n).out (by
 simp only[V_0,Option.bind_some,mostRows]
 cases h:okIn n 0 50 with
 |false=>simp
 |true=>
  obtain⟨k,rfl⟩:∃k:Nat,n=(k:Int):=⟨n.toNat,by have:=okIn_iff.1 h;omega⟩
  have hk:=(okIn_iff.1 h).2
  have e:=loop_num (f:=fun f q=>L_1e s p (k:Int) f q.1 q.2) k (fun a i=>mmx true a (rowsAt s p i)) (fun a=>(Ex.go a:Ex Int Int)) (fun _ _=>True)
   (fun i a g hi _=>by
    have:decide ((i:Int)<(k:Int))=true:=by simp;omega
    simp only[L_1e,this,cond_true,V_t hs hp,Option.bind_some,joinK_bif,joinK_go,J_30,wrap_nat (show i<9223372036854775807 by omega),mmx]
    cases decide (rowsAt s p (i:Int)>a) <;> rfl)
   (fun _ _ _ _=>trivial) (fun a g _=>by simp[L_1e]) (-1) trivial
  rw[e]
  simp[J_2z])
theorem V_1y {s:List STable}{p:List SNode}{n:Int}(hs:BSch s)(hp:BPlan p):F_28 s p n=some (rowsSum s p n):=(U_q s p n).out (by
 simp only[V_2,Option.bind_some,rowsSum]
 cases h:okIn n 0 50 with
 |false=>simp
 |true=>
  obtain⟨k,rfl⟩:∃k:Nat,n=(k:Int):=⟨n.toNat,by have:=okIn_iff.1 h;omega⟩
  have hk:=(okIn_iff.1 h).2
  have e:=loop_num (f:=fun f q=>L_n s p (k:Int) f q.1 q.2) k (fun a i=>a+mmx true 0 (rowsAt s p i)) (fun a=>(Ex.go a:Ex Int Int)) (fun i a=>0≤a∧a≤200*(i:Int))
   (fun i a g hi ha=>by
    have:decide ((i:Int)<(k:Int))=true:=by simp;omega
    have hr:=rowsAt_range s p (i:Int)
    have hm:0≤mmx true 0 (rowsAt s p (i:Int))∧mmx true 0 (rowsAt s p (i:Int))≤200:=by
     simp only[mmx,cond_true]
     by_cases h:rowsAt s p (i:Int)>0 <;> simp[h] <;> omega
    simp only[L_n,this,cond_true,V_n hs hp,Option.bind_some,wrap_nat (show i<9223372036854775807 by omega)]
    rw[wrap_in (x:=a+mmx true 0 (rowsAt s p (i:Int))) (by omega) (by omega)])
   (fun i a hi ha=>by
    have hr:=rowsAt_range s p (i:Int)
    have hm:0≤mmx true 0 (rowsAt s p (i:Int))∧mmx true 0 (rowsAt s p (i:Int))≤200:=by
     simp only[mmx,cond_true]
     by_cases h:rowsAt s p (i:Int)>0 <;> simp[h] <;> omega
    omega) (fun a g _=>by simp[L_n]) 0 (by simp)
  rw[e]
  simp[J_13])
theorem V_2z {s:List STable}{p:List SNode}{n:Int}(hs:BSch s)(hp:BPlan p):F_3l s p n=some (rowsSum s p n):=(U_2u s p n).out (by
 simp only[V_0,Option.bind_some,rowsSum]
 cases h:okIn n 0 50 with
 |false=>simp
 |true=>
  obtain⟨k,rfl⟩:∃k:Nat,n=(k:Int):=⟨n.toNat,by have:=okIn_iff.1 h;omega⟩
  have hk:=(okIn_iff.1 h).2
  have e:=loop_num (f:=fun f q=>L_1i s p (k:Int) f q.1 q.2) k (fun a i=>a+mmx true 0 (rowsAt s p i)) (fun a=>(Ex.go a:Ex Int Int)) (fun i a=>0≤a∧a≤200*(i:Int))
   (fun i a g hi ha=>by
    have:decide ((i:Int)<(k:Int))=true:=by simp;omega
    have hr:=rowsAt_range s p (i:Int)
    simp only[L_1i,this,cond_true,V_t hs hp,Option.bind_some,joinK_bif,joinK_go,J_37,wrap_nat (show i<9223372036854775807 by omega),mmx]
    rw[wrap_in (x:=a+rowsAt s p (i:Int)) (by omega) (by omega)]
    cases decide (rowsAt s p (i:Int)>0) <;> simp)
   (fun i a hi ha=>by
    have hr:=rowsAt_range s p (i:Int)
    have hm:0≤mmx true 0 (rowsAt s p (i:Int))∧mmx true 0 (rowsAt s p (i:Int))≤200:=by
     simp only[mmx,cond_true]
     by_cases h:rowsAt s p (i:Int)>0 <;> simp[h] <;> omega
    omega) (fun a g _=>by simp[L_1i]) 0 (by simp)
  rw[e]
  simp[J_36])
def diffP (s:List Tb) (p q:List Nd) (seed:Int):Bool:=decide ((evalPlan s (storeFrom s seed) p).2=0)&&decide ((evalPlan s (storeFrom s seed) q).2=0)&&!decide ((evalPlan s (storeFrom s seed) p).1=(evalPlan s (storeFrom s seed) q).1)
def differs (s:List Tb) (p q:List Nd) (n:Int):Int:=bif okIn n 0 50 then fint (findI (fun i:Nat=>diffP s p q (i:Int)) (List.range n.toNat) 0) else -1
theorem loop_fnum {S:Type}{f:(S×Int→Option (Ex Int S))→S×Int→Option (Ex Int S)}(n:Nat) (p:Int→Bool)
  (h1:∀(i:Nat) a (g:S×Int→Option (Ex Int S)),i<n→f g (a,(i:Int))=bif p i then some (.ret (i:Int)) else g (a,((i+1:Nat):Int)))
  (h2:∀a (g:S×Int→Option (Ex Int S)),f g (a,(n:Int))=some (.go a)) (a:S) :
  loopF f (a,0)=some (match findI (fun i:Nat=>p (i:Int)) (List.range n) 0 with|some j=>.ret (j:Int)|none=>.go a):=by
 exact loop_find (f:=f) (List.range n) (fun i:Nat=>p (i:Int)) (fun i=>(i:Int))
  (fun i x a g hx=>by
   have l1:=(List.getElem?_eq_some_iff.1 hx).1
   simp at l1
   have:x=i:=by
    have:=hx
    rw[List.getElem?_range l1] at this
    simpa using this.symm
   subst this
   exact h1 x a g l1)
  (fun a g=>by simpa using h2 a g) a
theorem V_y {s:List STable}{p q:List SNode}{n:Int}(hs:BSch s)(hp:BPlan p)(hq:BPlan q):F_17 s p q n=some (differs s p q n):=(U_f s p q n).out (by
 have:F_2f s p q n=some (differs s p q n):=(U_14 s p q n).out (by
  simp only[V_2,Option.bind_some,differs]
  cases h:okIn n 0 50 with
  |false=>simp
  |true=>
   obtain⟨k,rfl⟩:∃k:Nat,n=(k:Int):=⟨n.toNat,by have:=okIn_iff.1 h;omega⟩
   have hk:=(okIn_iff.1 h).2
   have e:=loop_fnum (f:=fun f z=>L_w s p q (k:Int) f z.1 z.2) k (diffP s p q)
    (fun i a g hi=>by
     have:decide ((i:Int)<(k:Int))=true:=by simp;omega
     simp only[L_w,this,cond_true,V_9 hs,V_7 hs (storeFrom_b _) hp,V_7 hs (storeFrom_b _) hq,V_10 (evalPlan_small _ _ _),Option.bind_some,joinK_bif,joinK_go,J_1n,wrap_nat (show i<9223372036854775807 by omega),beq_dec,diffP]
     cases decide ((evalPlan s (storeFrom s (i:Int)) p).2=0) <;> cases decide ((evalPlan s (storeFrom s (i:Int)) q).2=0) <;> simp)
    (fun a g=>by simp[L_w]) 0
   rw[e]
   simp only[Int.toNat_natCast]
   cases findI (fun i:Nat=>diffP s p q (i:Int)) (List.range k) 0 <;> simp[J_1m,fint])
 rw[this];rfl)
theorem V_2s {s:List STable}{p q:List SNode}{n:Int}(hs:BSch s)(hp:BPlan p)(hq:BPlan q):F_3d s p q n=some (differs s p q n):=(U_2h s p q n).out (by
 have:F_13 s p q n false=some (differs s p q n):=(U_8 s p q n false).out (by
  simp only[V_0,Option.bind_some,differs]
  cases h:okIn n 0 50 with
  |false=>simp
  |true=>
   obtain⟨k,rfl⟩:∃k:Nat,n=(k:Int):=⟨n.toNat,by have:=okIn_iff.1 h;omega⟩
   have hk:=(okIn_iff.1 h).2
   have e:=loop_fnum (f:=fun f z=>L_6 s p q (k:Int) false f z.1 z.2) k (diffP s p q)
    (fun i a g hi=>by
     have:decide ((i:Int)<(k:Int))=true:=by simp;omega
     simp only[L_6,this,cond_true,V_b hs,V_8 hs (storeFrom_b _) hp,V_8 hs (storeFrom_b _) hq,V_1a (evalPlan_small _ _ _),Option.bind_some,joinK_bif,joinK_go,J_n,J_o,J_m,wrap_nat (show i<9223372036854775807 by omega),bne_dec,diffP]
     cases decide ((evalPlan s (storeFrom s (i:Int)) p).2=0) <;> cases decide ((evalPlan s (storeFrom s (i:Int)) q).2=0) <;> simp)
    (fun a g=>by simp[L_6]) 0
   rw[e]
   simp only[Int.toNat_natCast]
   cases findI (fun i:Nat=>diffP s p q (i:Int)) (List.range k) 0 <;> simp[J_l,fint])
 rw[this];rfl)
end Go.Proofs.YtkbcahfajbdgnaaGreatDoorX
namespace Go.Proofs.YtkbcahfajbdgnaaGreatDoorX
open Go Go.Proofs.YtkbcahfajbdgnaaGreatDoorT PT
set_option linter.all false
def vb (n:Nat):List Int:=if n<128 then[(n:Int)] else((128+n % 128:Nat):Int)::vb (n / 128)
termination_by n
decreasing_by omega
def zig (x:Int):Nat:=if x<0 then(-2*x-1).toNat else(2*x).toNat
def numB (x:Int):List Int:=if okIn x (-1000000) 1000000=true then vb (zig x) else[]
end Go.Proofs.YtkbcahfajbdgnaaGreatDoorX
namespace Go.Proofs.YtkbcahfajbdgnaaGreatDoorX
open Go Go.Proofs.YtkbcahfajbdgnaaGreatDoorT PT
set_option linter.all false
def chkS (s c:Int):Int:=(IntKind.i64.wrap ((IntKind.i64.wrap (269*s))+(IntKind.i64.wrap c))).tmod 999983
def chk (b:List Int):Int:=b.foldl chkS 5
def frame (b:List Int):List Int×Bool:=if b.length≤4000 then([80,83]++numB b.length++b++numB (chk b),true) else([],false)
end Go.Proofs.YtkbcahfajbdgnaaGreatDoorX
namespace Go.Proofs.YtkbcahfajbdgnaaGreatDoorX
open Go Go.Proofs.YtkbcahfajbdgnaaGreatDoorT PT
set_option linter.all false
structure BP2 (p:List Nd):Prop where
 len:p.length≤1073741824
 cols:∀n∈p,n.2.2.2.2.2.2.1.length≤1073741824
end Go.Proofs.YtkbcahfajbdgnaaGreatDoorX
namespace Go.Proofs.YtkbcahfajbdgnaaGreatDoorX
open Go Go.Proofs.YtkbcahfajbdgnaaGreatDoorT PT
set_option linter.all false
abbrev En:=Int×List Nd×List Nd×Int×Int×Unit
abbrev Shf:=Int×List Tb×List En×Int×Int×Int×Int×Int×Int×Unit
structure BShelf (h:Shf):Prop where
 sch:BSch h.2.1
 len:h.2.2.1.length≤1073741824
 tpl:∀e∈h.2.2.1,BPlan e.2.1∧BP2 e.2.1
 pln:∀e∈h.2.2.1,BPlan e.2.2.1
end Go.Proofs.YtkbcahfajbdgnaaGreatDoorX
namespace Go.Proofs.YtkbcahfajbdgnaaGreatDoorX
open Go Go.Proofs.YtkbcahfajbdgnaaGreatDoorT PT
set_option linter.all false
def pL (p:Int×Int):Option Bool:=if p.1=p.2 then none else some (decide (p.1<p.2))
theorem brk_less:∀(xs ys:List Int) (i:Nat),(match brkI (fun _=>pL) (xs.zip ys) i with|some r=>r|none=>decide (xs.length<ys.length))=decide (cmpL xs ys<0)
 |[],[],i=>by simp[brkI,cmpL]
 |[],y::ys,i=>by simp[brkI,cmpL]
 |x::xs,[],i=>by simp[brkI,cmpL]
 |x::xs,y::ys,i=>by
  simp only[List.zip_cons_cons,brkI,pL,cmpL]
  by_cases h:x=y
  ·subst h
   have ih:=brk_less xs ys (i+1)
   simp only[if_true,Int.lt_irrefl,if_false]
   rw[←ih]
   simp[pL]
  ·by_cases h1:x<y
   ·simp[h,h1]
   ·have h2:y<x:=by omega
    simp[h,h1,h2]
theorem V_2y {a b:List Int}(ha:a.length≤1073741824):F_3k a b=some (decide (cmpL a b<0)):=(U_2r a b).out (by
 have e:=loop_brk (f:=fun f s=>L_f a b f s.1 s.2) (a.zip b) (fun _=>pL)
  (fun i p v g hp=>by
   obtain⟨x,y⟩:=p
   have l1:=(List.getElem?_eq_some_iff.1 hp).1
   simp only[List.length_zip] at l1
   obtain⟨hx,hy⟩:=List.getElem?_zip_eq_some.1 hp
   have hw:=wrap_nat (show i<9223372036854775807 by omega)
   simp only[L_f,lt_nat hx,cond_true,lt_nat hy,joinK_go,J_34,ix_some hx,ix_some hy,Option.bind_some,bne_dec,pL]
   by_cases h:x=y <;> simp[h,hw])
  (fun v g=>by
   by_cases h:a.length≤b.length
   ·have:(a.zip b).length=a.length:=by rw[List.length_zip];omega
    rw[this]
    simp[L_f]
   ·have:(a.zip b).length=b.length:=by rw[List.length_zip];omega
    rw[this]
    have h2:b.length<a.length:=by omega
    simp[L_f,h2]) false
 rw[e]
 have h:=brk_less a b 0
 cases hk:brkI (fun _=>pL) (a.zip b) 0 with
 |some r=>rw[hk] at h;simp only at h;simp[h]
 |none=>
  rw[hk] at h
  simp only at h
  simp[←h])
def insR (x:List Int):List (List Int)→List (List Int)
 |[]=>[x]
 |y::ys=>if cmpL x y<0 then x::y::ys else y::insR x ys
def stR (x:List Int) (p:List (List Int)×Bool) (y:List Int):List (List Int)×Bool:=((if !p.2&&decide (cmpL x y<0) then p.1++[x] else p.1)++[y],p.2||decide (cmpL x y<0))
theorem fold_put (x:List Int):∀(ys acc:List (List Int)),ys.foldl (stR x) (acc,true)=(acc++ys,true)
 |[],acc=>by simp
 |y::ys,acc=>by
  have e:stR x (acc,true) y=(acc++[y],true):=by simp[stR]
  simp only[List.foldl_cons,e]
  rw[fold_put x ys (acc++[y])];simp
def finR (x:List Int) (p:List (List Int)×Bool):List (List Int):=if p.2=true then p.1 else p.1++[x]
theorem fold_ins (x:List Int):∀(ys acc:List (List Int)),finR x (ys.foldl (stR x) (acc,false))=acc++insR x ys
 |[],acc=>by simp[insR,finR]
 |y::ys,acc=>by
  by_cases h:cmpL x y<0
  ·have e:stR x (acc,false) y=(acc++[x]++[y],true):=by simp[stR,h]
   simp only[List.foldl_cons,e]
   rw[fold_put x ys (acc++[x]++[y])]
   simp[insR,h,finR]
  ·have e:stR x (acc,false) y=(acc++[y],false):=by simp[stR,h]
   simp only[List.foldl_cons,e]
   rw[fold_ins x ys (acc++[y])]
   simp[insR,h]
theorem insR_perm (x:List Int):∀ys,(insR x ys).Perm (x::ys)
 |[]=>by simp[insR]
 |y::ys=>by
  simp only[insR]
  split
  ·exact List.Perm.refl _
  ·exact((insR_perm x ys).cons y).trans (List.Perm.swap x y ys)
theorem insR_len (x:List Int) (ys:List (List Int)):(insR x ys).length=ys.length+1:=by rw[(insR_perm x ys).length_eq];rfl
theorem insR_sorted (x:List Int):∀{ys},ys.Pairwise leL→(insR x ys).Pairwise leL
 |[],_=>by simp[insR]
 |y::ys,h=>by
  simp only[insR]
  rw[List.pairwise_cons] at h
  split
  ·rename_i hx
   rw[List.pairwise_cons]
   refine⟨fun z hz=>?_,List.pairwise_cons.2 h⟩
   rcases List.mem_cons.1 hz with rfl|hz
   ·unfold leL;omega
   ·exact cmpL_trans (by omega) (h.1 z hz)
  ·rename_i hx
   rw[List.pairwise_cons]
   refine⟨fun z hz=>?_,insR_sorted x h.2⟩
   have:=(insR_perm x ys).mem_iff.1 hz
   rcases List.mem_cons.1 this with rfl|hz2
   ·have:=cmpL_neg z y;unfold leL;omega
   ·exact h.1 z hz2
def insAll (rows:List (List Int)):List (List Int):=rows.foldl (fun out x=>insR x out) []
theorem insAll_eq (rows:List (List Int)):insAll rows=srtR rows:=by
 have key:∀(rows out:List (List Int)),out.Pairwise leL→(rows.foldl (fun out x=>insR x out) out).Pairwise leL∧(rows.foldl (fun out x=>insR x out) out).Perm (rows++out):=by
  intro rows
  induction rows with
  |nil=>intro out h;exact⟨h,List.Perm.refl _⟩
  |cons x rows ih=>
   intro out h
   obtain⟨h1,h2⟩:=ih (insR x out) (insR_sorted x h)
   refine⟨h1,h2.trans ?_⟩
   refine((insR_perm x out).append_left rows).trans ?_
   simpa using List.perm_middle (a:=x) (l₁:=rows) (l₂:=out)
 obtain⟨h1,h2⟩:=key rows [] List.Pairwise.nil
 refine sort_uniq ?_ h1 (srtR_sorted rows)
 refine h2.trans ?_
 simpa using(srtR_perm rows).symm
theorem srtR_small {l:Rows}(h:SmallR l):SmallR (srtR l):=
 ⟨by rw[(srtR_perm l).length_eq];exact h.len,fun r hr=>h.row r ((srtR_perm l).mem_iff.1 hr)⟩
theorem V_11 {l:Rows}(h:SmallR l):F_1a l=some (srtR l):=(U_u l).out (by
 have hl:=h.len
 have hr:∀r∈l,r.length≤1073741824:=fun r hr=>by have:=h.row r hr;omega
 have d:decide ((l.length:Int)>200)=false:=by simp;omega
 have e:F_35 l=some (srtR l):=(U_24 l).out (by
  unfold sortRF okR
  have h3:Nat.blt l.length 4611686018427387904=true:=by rw[Nat.blt_eq];omega
  have h4:l.all (fun r=>Nat.ble r.length 1073741824)=true:=by
   rw[List.all_eq_true]
   intro r hr2
   rw[Nat.ble_eq];exact hr r hr2
  rw[h3,h4];rfl)
 simp only[d,cond_false,V_15 (show l.length≤1073741824 by omega) hr,Option.bind_some,e])
theorem V_1b {l:Rows}(h:SmallR l):F_1n l=some (srtR l):=(U_2z l).out (by
 have hl:=h.len
 have hr:∀r∈l,r.length≤1073741824:=fun r hr=>by have:=h.row r hr;omega
 have d:decide ((l.length:Int)>200)=false:=by simp;omega
 have e:=loop_fold (f:=fun f s=>L_1m l f s.1 s.2) (fun i (v:Rows)=>(v,(i:Int))) l (fun i v=>v.length=i) (fun _ x v=>insR x v)
  (fun i x v g hx hv=>by
   have l1:=(List.getElem?_eq_some_iff.1 hx).1
   have hw:=wrap_nat (show i<9223372036854775807 by omega)
   have hxl:=hr x (mem_of_get hx)
   have inner:=loop_fold (f:=fun f s=>L_h l v (i:Int) f s.1 s.2.1 s.2.2) (fun k (p:Rows×Bool)=>(p.1,p.2,(k:Int))) v (fun k p=>p.1.length≤2*k) (fun _ y p=>stR x p y)
    (fun k y p g hy hp=>by
     have l2:=(List.getElem?_eq_some_iff.1 hy).1
     have hwk:=wrap_nat (show k<9223372036854775807 by omega)
     obtain⟨acc,put⟩:=p
     simp only at hp
     simp only[L_h,lt_nat hy,cond_true,ix_some hx,ix_some hy,Option.bind_some,V_2y hxl,J_3e,J_3d,stR]
     cases put with
     |true=>
      simp only[Bool.not_true,cond_false,joinK_go,Bool.false_and,Bool.false_eq_true,if_false,Bool.true_or]
      rw[apx_some (by simp;omega)]
      simp[hwk]
     |false=>
      by_cases hc:cmpL x y<0
      ·simp only[Bool.not_false,cond_true,joinK_bind,joinK_go,hc,decide_true,Bool.and_self,if_true,Bool.false_or]
       rw[apx_some (by simp;omega)]
       simp only[Option.bind_some,joinK_go]
       rw[apx_some (by simp;omega)]
       simp[hwk]
      ·simp only[Bool.not_false,cond_true,joinK_go,hc,decide_false,Bool.and_false,Bool.false_eq_true,if_false,cond_false,Bool.false_or]
       rw[apx_some (by simp;omega)]
       simp[hwk])
    (fun k y p hy hp=>by
     simp only[stR]
     split <;> simp <;> omega)
    (fun p g _=>by simp[L_h]) ([],false) (by simp)
   rw[foldI_const (fun (y:List Int) (p:Rows×Bool)=>stR x p y)] at inner
   have fi:=fold_ins x v []
   simp only[List.nil_append,finR] at fi
   have fl:(v.foldl (stR x) ([],false)).1.length≤1000:=by
    have h1:=congrArg List.length fi
    rw[insR_len] at h1
    split at h1
    ·omega
    ·rw[List.length_append] at h1;simp only[List.length_cons,List.length_nil] at h1;omega
   have inner':loopF (fun f s=>L_h l v (i:Int) f s.1 s.2.1 s.2.2) ([],false,0)=some (.go (v.foldl (stR x) ([],false))):=inner
   simp only[L_1m,lt_nat hx,cond_true,inner',joinK_go,J_3c]
   generalize v.foldl (stR x) ([],false)=q at fi fl
   obtain⟨acc,put⟩:=q
   simp only at fi fl
   cases put with
   |true=>
    simp only[if_true] at fi
    simp[fi,hw]
   |false=>
    simp only[Bool.false_eq_true,if_false] at fi
    simp only[Bool.not_false,cond_true,ix_some hx,Option.bind_some]
    rw[apx_some (by simp;omega)]
    simp[fi,hw])
  (fun i x v hx hv=>by
   show(insR x v).length=i+1
   rw[insR_len];omega)
  (fun v g _=>by simp[L_1m]) [] rfl
 rw[foldI_const (fun (x:List Int) (v:Rows)=>insR x v)] at e
 rw[show((0:Nat):Int)=0 from rfl] at e
 have e2:l.foldl (fun v x=>insR x v) []=srtR l:=insAll_eq l
 rw[e2] at e
 have hp:=srtR_perm l
 simp only[d,cond_false,e,joinK_go,J_3b,V_1i (l:=srtR l) (by rw[hp.length_eq];omega) (fun r hr2=>hr r (hp.mem_iff.1 hr2)),Option.bind_some])
def sameBag (a b:Rows):Bool:=decide (srtR a=srtR b)
theorem V_1z {a b:Rows}(ha:SmallR a)(hb:SmallR b):F_29 a b=some (sameBag a b):=(U_r a b).out (by
 have h1:=ha.len
 have h2:=hb.len
 have d1:decide ((a.length:Int)≤200)=true:=by simp;omega
 have d2:decide ((b.length:Int)≤200)=true:=by simp;omega
 simp only[d1,d2,cond_true,V_11 ha,V_11 hb,Option.bind_some,V_10 (srtR_small ha),joinK_go,J_14,sameBag])
theorem V_30 {a b:Rows}(ha:SmallR a)(hb:SmallR b):F_3m a b=some (sameBag a b):=(U_2v a b).out (by
 have h1:=ha.len
 have h2:=hb.len
 have d1:decide ((a.length:Int)≤200)=true:=by simp;omega
 have d2:decide ((b.length:Int)≤200)=true:=by simp;omega
 simp only[d1,d2,cond_true,V_1b ha,V_1b hb,Option.bind_some,V_1a (srtR_small ha),joinK_go,J_38,sameBag])
def bagP (s:List Tb) (p q:List Nd) (seed:Int):Bool:=decide ((evalPlan s (storeFrom s seed) p).2=0)&&decide ((evalPlan s (storeFrom s seed) q).2=0)&&!sameBag (evalPlan s (storeFrom s seed) p).1 (evalPlan s (storeFrom s seed) q).1
def bags (s:List Tb) (p q:List Nd) (n:Int):Int:=bif okIn n 0 50 then fint (findI (fun i:Nat=>bagP s p q (i:Int)) (List.range n.toNat) 0) else -1
theorem V_1q {s:List STable}{p q:List SNode}{n:Int}(hs:BSch s)(hp:BPlan p)(hq:BPlan q):F_21 s p q n=some (bags s p q n):=(U_e s p q n).out (by
 have:F_2e s p q n=some (bags s p q n):=(U_13 s p q n).out (by
  simp only[V_2,Option.bind_some,bags]
  cases h:okIn n 0 50 with
  |false=>simp
  |true=>
   obtain⟨k,rfl⟩:∃k:Nat,n=(k:Int):=⟨n.toNat,by have:=okIn_iff.1 h;omega⟩
   have hk:=(okIn_iff.1 h).2
   have e:=loop_fnum (f:=fun f z=>L_v s p q (k:Int) f z.1 z.2) k (bagP s p q)
    (fun i a g hi=>by
     have:decide ((i:Int)<(k:Int))=true:=by simp;omega
     simp only[L_v,this,cond_true,V_9 hs,V_7 hs (storeFrom_b _) hp,V_7 hs (storeFrom_b _) hq,V_1z (evalPlan_small _ _ _) (evalPlan_small _ _ _),Option.bind_some,joinK_bif,joinK_go,J_1l,wrap_nat (show i<9223372036854775807 by omega),beq_dec,bagP]
     cases decide ((evalPlan s (storeFrom s (i:Int)) p).2=0) <;> cases decide ((evalPlan s (storeFrom s (i:Int)) q).2=0) <;> simp)
    (fun a g=>by simp[L_v]) 0
   rw[e]
   simp only[Int.toNat_natCast]
   cases findI (fun i:Nat=>bagP s p q (i:Int)) (List.range k) 0 <;> simp[J_1k,fint])
 rw[this];rfl)
theorem V_2r {s:List STable}{p q:List SNode}{n:Int}(hs:BSch s)(hp:BPlan p)(hq:BPlan q):F_3c s p q n=some (bags s p q n):=(U_2g s p q n).out (by
 have:F_13 s p q n true=some (bags s p q n):=(U_8 s p q n true).out (by
  simp only[V_0,Option.bind_some,bags]
  cases h:okIn n 0 50 with
  |false=>simp
  |true=>
   obtain⟨k,rfl⟩:∃k:Nat,n=(k:Int):=⟨n.toNat,by have:=okIn_iff.1 h;omega⟩
   have hk:=(okIn_iff.1 h).2
   have e:=loop_fnum (f:=fun f z=>L_6 s p q (k:Int) true f z.1 z.2) k (bagP s p q)
    (fun i a g hi=>by
     have:decide ((i:Int)<(k:Int))=true:=by simp;omega
     simp only[L_6,this,cond_true,V_b hs,V_8 hs (storeFrom_b _) hp,V_8 hs (storeFrom_b _) hq,V_30 (evalPlan_small _ _ _) (evalPlan_small _ _ _),Option.bind_some,joinK_bif,joinK_go,J_n,J_o,J_m,wrap_nat (show i<9223372036854775807 by omega),bne_dec,bagP]
     cases decide ((evalPlan s (storeFrom s (i:Int)) p).2=0) <;> cases decide ((evalPlan s (storeFrom s (i:Int)) q).2=0) <;> cases sameBag (evalPlan s (storeFrom s (i:Int)) p).1 (evalPlan s (storeFrom s (i:Int)) q).1 <;> simp)
    (fun a g=>by simp[L_6]) 0
   rw[e]
   simp only[Int.toNat_natCast]
   cases findI (fun i:Nat=>bagP s p q (i:Int)) (List.range k) 0 <;> simp[J_l,fint])
 rw[this];rfl)
end Go.Proofs.YtkbcahfajbdgnaaGreatDoorX
namespace Go.Proofs.YtkbcahfajbdgnaaGreatDoorX
open Go Go.Proofs.YtkbcahfajbdgnaaGreatDoorT PT
set_option linter.all false
def evR (s:List Tb) (st:List Rows):PT→Rows
 |.n0 n=>match tabAt s n.2.1 with
  |some j=>(st[j]?).getD []
  |none=>[]
 |.n1 n a=>op1 n (evR s st a)
 |.n2 n a b=>op2 n (evR s st a) (evR s st b)
theorem evalT_evR {s:List Tb}{st:List Rows}:∀{t:PT}{x:Rows},evalT s st t=some x→x=evR s st t
 |.n0 n,x,h=>by
  simp only[evalT] at h
  split at h
  ·rename_i j hj
   split at h
   ·rename_i t ht
    obtain⟨rfl,_⟩:=capR_some h
    simp[evR,hj,ht]
   ·cases h
  ·cases h
 |.n1 n a,x,h=>by
  simp only[evalT] at h
  split at h
  ·rename_i y hy
   obtain⟨rfl,_⟩:=capR_some h
   simp only[evR]
   rw[evalT_evR hy]
  ·cases h
 |.n2 n a b,x,h=>by
  simp only[evalT] at h
  split at h
  ·rename_i y hy
   split at h
   ·rename_i z hz
    obtain⟨rfl,_⟩:=capR_some h
    simp only[evR]
    rw[evalT_evR hy,evalT_evR hz]
   ·cases h
  ·cases h
def WR (w:Int) (x:Rows):Prop:=∀r∈x,(r.length:Int)=w
theorem filterR_eq (n:Nd) (x:Rows):filterR n x=x.filter fun r=>holds n (kc n.2.2.1 r):=by
 unfold filterR
 induction x with
 |nil=>rfl
 |cons r x ih=>
  simp only[List.flatMap_cons,ih,List.filter_cons]
  cases holds n (kc n.2.2.1 r) <;> simp
theorem evR_w {s:List Tb}{st:List Rows}(h:storeOk s st=true):∀{t:PT}{w:Int},wT s t=some w→WR w (evR s st t)
 |.n0 n,w,hw=>by
  simp only[wT] at hw
  simp only[evR]
  split at hw
  ·rename_i j hj
   split at hw
   ·rename_i tb htb
    cases hw
    obtain⟨t,h1,h2,_⟩:=storeOk_tab h htb
    simp only[hj,h1,Option.getD_some]
    exact h2.row
   ·cases hw
  ·cases hw
 |.n1 n a,w,hw=>by
  simp only[wT] at hw
  simp only[evR]
  split at hw
  ·cases hw
  ·rename_i v hv
   have ih:=evR_w h hv
   intro r hr
   simp only[op1] at hr
   split at hw
   ·rename_i hk
    split at hw
    ·cases hw
     rw[if_neg (by omega),if_pos hk] at hr
     simp only[keepR,List.mem_map] at hr
     obtain⟨q,_,rfl⟩:=hr
     simp
    ·cases hw
   ·rename_i hk2
    have hvw:v=w:=by
     split at hw
     ·split at hw
      ·cases hw;rfl
      ·cases hw
     ·cases hw;rfl
    subst hvw
    refine ih r ?_
    split at hr
    ·rw[filterR_eq] at hr;exact(List.mem_filter.1 hr).1
    ·split at hr
     ·exact srt_mem.1 hr
     ·split at hr
      ·exact List.mem_of_mem_take hr
      ·exact(onceR_sub _).1 r hr
 |.n2 n a b,w,hw=>by
  simp only[wT] at hw
  simp only[evR]
  split at hw
  ·rename_i wa wb hwa hwb
   have ih1:=evR_w h hwa
   have ih2:=evR_w h hwb
   intro r hr
   simp only[op2] at hr
   split at hw
   ·rename_i hk
    split at hw
    ·cases hw
     rw[if_pos hk] at hr
     simp only[joinR,List.mem_flatMap] at hr
     obtain⟨l,hl,q,hq,hr⟩:=hr
     have e1:=ih1 l hl
     have e2:=ih2 q hq
     cases hh:(!decide (kc n.2.2.1 l=-2000000)&&decide (kc n.2.2.1 l=kc n.2.2.2.2.1 q)) <;> rw[hh] at hr <;> simp at hr
     rw[hr];simp;omega
    ·cases hw
   ·rename_i hk
    split at hw
    ·rename_i hww
     cases hw
     rw[if_neg hk] at hr
     rcases List.mem_append.1 hr with hr|hr
     ·exact ih1 r hr
     ·have:=ih2 r hr;omega
    ·cases hw
  ·cases hw
def stepO (a:Rows) (r:List Int):Rows:=bif decide (cnt a r=0) then a++[r] else a
theorem onceR_def (x:Rows):onceR x=x.foldl stepO []:=rfl
theorem cnt_zero {a:Rows}{r:List Int}:cnt a r=0↔r∉a:=by
 unfold cnt
 rw[List.countP_eq_zero]
 constructor
 ·intro h hm;have:=h r hm;simp at this
 ·intro h q hq hd
  simp only[decide_eq_true_eq] at hd
  exact h (hd▸hq)
theorem stepO_in {a:Rows}{r:List Int}(h:r∈a):stepO a r=a:=by
 have:¬cnt a r=0:=fun e=>cnt_zero.1 e h
 simp[stepO,this]
theorem stepO_out {a:Rows}{r:List Int}(h:r∉a):stepO a r=a++[r]:=by
 have:cnt a r=0:=cnt_zero.2 h
 simp[stepO,this]
theorem foldO_filter (p:List Int→Bool):∀(x a:Rows),(x.foldl stepO a).filter p=(x.filter p).foldl stepO (a.filter p)
 |[],a=>rfl
 |r::x,a=>by
  simp only[List.foldl_cons]
  rw[foldO_filter p x]
  by_cases hm:r∈a
  ·rw[stepO_in hm]
   cases hp:p r with
   |true=>
    rw[List.filter_cons_of_pos hp,List.foldl_cons,stepO_in (List.mem_filter.2 ⟨hm,hp⟩)]
   |false=>rw[List.filter_cons_of_neg (by simp[hp])]
  ·rw[stepO_out hm]
   cases hp:p r with
   |true=>
    rw[List.filter_cons_of_pos hp,List.foldl_cons,stepO_out (fun h=>hm (List.mem_filter.1 h).1),List.filter_append]
    simp[hp]
   |false=>
    rw[List.filter_cons_of_neg (by simp[hp]),List.filter_append]
    simp[hp]
theorem onceR_filter (p:List Int→Bool) (x:Rows):(onceR x).filter p=onceR (x.filter p):=by
 rw[onceR_def,onceR_def,foldO_filter];rfl
theorem foldO_sub:∀(x a:Rows),(x.foldl stepO a).Sublist (a++x)
 |[],a=>by simp
 |r::x,a=>by
  simp only[List.foldl_cons]
  by_cases hm:r∈a
  ·rw[stepO_in hm]
   exact(foldO_sub x a).trans (List.Sublist.append (List.Sublist.refl a) (List.sublist_cons_self r x))
  ·rw[stepO_out hm]
   have:=foldO_sub x (a++[r])
   simpa using this
theorem onceR_sublist (x:Rows):(onceR x).Sublist x:=by have:=foldO_sub x [];simpa[onceR_def] using this
theorem foldO_nodup:∀(x a:Rows),a.Nodup→(x.foldl stepO a).Nodup
 |[],a,h=>h
 |r::x,a,h=>by
  simp only[List.foldl_cons]
  by_cases hm:r∈a
  ·rw[stepO_in hm];exact foldO_nodup x a h
  ·rw[stepO_out hm]
   refine foldO_nodup x _ ?_
   rw[List.nodup_append]
   exact⟨h,by simp,fun p hp q hq=>by simp at hq;rintro rfl;exact hm (hq▸hp)⟩
theorem foldO_self:∀(x a:Rows),(a++x).Nodup→x.foldl stepO a=a++x
 |[],a,_=>by simp
 |r::x,a,h=>by
  simp only[List.foldl_cons]
  have hm:r∉a:=fun hm=>by
   rw[List.nodup_append] at h
   exact h.2.2 r hm r (by simp) rfl
  rw[stepO_out hm,foldO_self x (a++[r]) (by simpa using h)]
  simp
theorem onceR_self (x:Rows):onceR (onceR x)=onceR x:=by
 have h1:=foldO_nodup x [] List.nodup_nil
 have h2:=foldO_self (onceR x) [] (by simpa[onceR_def] using h1)
 rw[onceR_def (onceR x),h2];rfl
theorem filter_filterR (n m:Nd) (z:Rows):filterR n (filterR m z)=filterR m (filterR n z):=by
 simp only[filterR_eq,List.filter_filter]
 congr 1
 funext r
 exact Bool.and_comm _ _
theorem srt_filter (k:List Int→Int) (p:List Int→Bool) (z:Rows):(srt k z).filter p=srt k (z.filter p):=by
 obtain⟨h1,h2,_⟩:=srt_ok (key:=k) z
 refine srt_of (List.Pairwise.filter p h1) (fun v=>?_)
 have:=h2 v
 rw[List.filter_filter,List.filter_filter]
 have e:∀l:Rows,l.filter (fun x=>(k x==v)&&p x)=(l.filter (fun x=>k x==v)).filter p:=fun l=>by
  rw[List.filter_filter]
  congr 1
  funext x
  exact Bool.and_comm _ _
 rw[e,e,this]
theorem once_srt (k:List Int→Int) (z:Rows):onceR (srt k z)=srt k (onceR z):=by
 obtain⟨h1,h2,_⟩:=srt_ok (key:=k) z
 refine srt_of (List.Pairwise.sublist (onceR_sublist _) h1) (fun v=>?_)
 rw[onceR_filter,onceR_filter,h2 v]
theorem flatMap_bif {T:Type}(p:T→Bool) (f:T→Rows):∀z:List T,z.flatMap (fun r=>bif p r then f r else[])=(z.filter p).flatMap f
 |[]=>rfl
 |r::z=>by
  simp only[List.flatMap_cons,List.filter_cons,flatMap_bif p f z]
  cases p r <;> simp
theorem kc_left {c:Int}{l r:List Int}(h0:0≤c)(h:c<l.length):kc c (l++r)=kc c l:=by
 unfold kc
 rw[List.getD_eq_getElem?_getD,List.getD_eq_getElem?_getD,List.getElem?_append_left (by omega)]
theorem kc_right {c:Int}{l r:List Int}(h0:(l.length:Int)≤c):kc c (l++r)=kc (c-l.length) r:=by
 unfold kc
 rw[List.getD_eq_getElem?_getD,List.getD_eq_getElem?_getD,List.getElem?_append_right (by omega)]
 congr 2
 omega
theorem filter_flatMap {T:Type}(p:List Int→Bool) (f:T→Rows):∀z:List T,(z.flatMap f).filter p=z.flatMap fun t=>(f t).filter p
 |[]=>rfl
 |t::z=>by simp only[List.flatMap_cons,List.filter_append,filter_flatMap p f z]
theorem flatMap_congr2 {T:Type}{f g:T→Rows}:∀{z:List T},(∀t∈z,f t=g t)→z.flatMap f=z.flatMap g
 |[],_=>rfl
 |t::z,h=>by
  simp only[List.flatMap_cons]
  rw[h t (by simp),flatMap_congr2 (fun u hu=>h u (by simp[hu]))]
theorem filter_joinL {n m:Nd}{x y:Rows}{w:Int}(hx:WR w x)(h0:0≤n.2.2.1)(h1:n.2.2.1<w):filterR n (joinR m x y)=joinR m (filterR n x) y:=by
 have e:joinR m (filterR n x) y=x.flatMap fun l=>bif holds n (kc n.2.2.1 l) then(y.flatMap fun r=>bif !(decide (kc m.2.2.1 l=-2000000))&&decide (kc m.2.2.1 l=kc m.2.2.2.2.1 r) then[l++r] else[]) else[]:=by
  unfold joinR
  rw[filterR_eq,flatMap_bif]
 rw[e,filterR_eq]
 unfold joinR
 rw[filter_flatMap]
 refine flatMap_congr2 (fun l hl=>?_)
 have hw:=hx l hl
 rw[filter_flatMap]
 have e2:∀r:List Int,(bif !(decide (kc m.2.2.1 l=-2000000))&&decide (kc m.2.2.1 l=kc m.2.2.2.2.1 r) then[l++r] else[]).filter (fun q=>holds n (kc n.2.2.1 q)) =
   bif holds n (kc n.2.2.1 l) then(bif !(decide (kc m.2.2.1 l=-2000000))&&decide (kc m.2.2.1 l=kc m.2.2.2.2.1 r) then[l++r] else[]) else[]:=by
  intro r
  have hk:=kc_left (c:=n.2.2.1) (l:=l) (r:=r) h0 (by omega)
  cases hb:(!(decide (kc m.2.2.1 l=-2000000))&&decide (kc m.2.2.1 l=kc m.2.2.2.2.1 r)) <;> cases hh:holds n (kc n.2.2.1 l) <;> simp[hk,hh]
 rw[flatMap_congr2 (fun r _=>e2 r)]
 cases holds n (kc n.2.2.1 l) <;> simp
theorem filter_joinR {n m:Nd}{x y:Rows}{w:Int}(hx:WR w x)(h0:w≤n.2.2.1):filterR n (joinR m x y)=joinR m x (filterR (colN n (n.2.2.1-w)) y):=by
 rw[filterR_eq]
 unfold joinR
 rw[filter_flatMap]
 refine flatMap_congr2 (fun l hl=>?_)
 have hw:=hx l hl
 rw[filter_flatMap,filterR_eq,←flatMap_bif]
 refine flatMap_congr2 (fun r _=>?_)
 have hk:=kc_right (c:=n.2.2.1) (l:=l) (r:=r) (by omega)
 rw[hw] at hk
 have hh:∀v,holds (colN n (n.2.2.1-w)) v=holds n v:=fun v=>rfl
 have hc:(colN n (n.2.2.1-w)).2.2.1=n.2.2.1-w:=rfl
 rw[hh,hc]
 cases hb:(!(decide (kc m.2.2.1 l=-2000000))&&decide (kc m.2.2.1 l=kc m.2.2.2.2.1 r)) <;> cases h2:holds n (kc (n.2.2.1-w) r) <;> simp[hk,h2]
theorem kc_map {l:List Int}{c:Int}(r:List Int)(h:c<l.length)(h0:0≤c):kc c (l.map fun c=>kc c r)=kc (pick l c) r:=by
 have hl:c.toNat<l.length:=by omega
 unfold pick
 have e:kc c (l.map fun c=>kc c r)=((l.map fun c=>kc c r)[c.toNat]?).getD 0:=by unfold kc;rw[List.getD_eq_getElem?_getD]
 rw[e,List.getElem?_map,List.getElem?_eq_getElem hl]
 rfl
theorem turn_evR {s:List Tb}{st:List Rows}(hst:storeOk s st=true){r:Int}{u u':PT}(g:Good u) (w:(wT s u).isSome=true)(h:turn s r u=some u'):evR s st u'=evR s st u:=by
 cases u with
 |n0 n=>cases h
 |n2 n a b=>cases h
 |n1 n c=>
  simp only[turn] at h
  split at h
  rotate_left
  ·cases h
  rename_i hk
  obtain⟨hm,hm2⟩:=hk
  have hr:okIn r 0 11=true:=by
   cases hr:okIn r 0 11 with
   |true=>rfl
   |false=>rw[ovr_out hr] at hm;exact absurd hm (neg_kind g)
  have hn:=g.nodes n (by simp[PT.flat])
  rcases shapes g with⟨m,rfl,har⟩|⟨m,d,rfl,har⟩|⟨m,d,e,rfl,har⟩
  ·cases h
  ·simp only[PT.hd] at hm2
   have hmo:=g.nodes m (by simp[PT.flat])
   cases hwd:wT s d with
   |none=>simp only[wT,hwd] at w;cases w
   |some x=>
   rcases rules hr with rfl|rfl|rfl|rfl|rfl|rfl|rfl|rfl|rfl|rfl|rfl|rfl
   ·have hk:n.1=1:=hm
    have hk2:m.1=1:=hm2
    cases h
    simp only[evR,op1,hk,hk2,if_true]
    exact filter_filterR m n _
   ·have hk:n.1=1:=hm
    have hk2:m.1=5:=hm2
    cases h
    simp only[evR,op1,hk,hk2,if_true,show¬(5:Int)=1 by omega,show¬(5:Int)=2 by omega,if_false]
    rw[filterR_eq,filterR_eq,srt_filter]
   ·have hk:n.1=6:=hm
    have hk2:m.1=6:=hm2
    simp[turnC] at h
    obtain⟨_,rfl⟩:=h
    have hk3:(limN n m).1=6:=hk
    have e:(limN n m).2.2.2.2.1=min n.2.2.2.2.1 m.2.2.2.2.1:=rfl
    simp only[evR,op1,hk,hk2,hk3,e,show¬(6:Int)=1 by omega,show¬(6:Int)=2 by omega,show¬(6:Int)=5 by omega,if_false,if_true]
    rw[List.take_take]
    congr 1
    omega
   ·have hk:n.1=5:=hm
    have hk2:m.1=5:=hm2
    simp[turnC] at h
    obtain⟨hc,rfl⟩:=h
    simp only[evR,op1,hk,hk2,show¬(5:Int)=1 by omega,show¬(5:Int)=2 by omega,if_false,if_true,hc]
    exact(srt_self (srt_ok _).1).symm
   ·have:=ovr_two (r:=4) (by simp);rw[←hm2] at this;omega
   ·have:=ovr_two (r:=5) (by simp);rw[←hm2] at this;omega
   ·have:=ovr_two (r:=6) (by simp);rw[←hm2] at this;omega
   ·have hk:n.1=7:=hm
    have hk2:m.1=7:=hm2
    simp[turnC] at h
    subst h
    simp only[evR,op1,hk,hk2,show¬(7:Int)=1 by omega,show¬(7:Int)=2 by omega,show¬(7:Int)=5 by omega,show¬(7:Int)=6 by omega,if_false]
    exact(onceR_self _).symm
   ·have hk:n.1=2:=hm
    have hk2:m.1=2:=hm2
    simp[turnC] at h
    subst h
    have hk3:(colsN m (n.2.2.2.2.2.2.1.map (pick m.2.2.2.2.2.2.1))).1=2:=hk2
    simp only[evR,op1,hk,hk2,hk3,show¬(2:Int)=1 by omega,if_false,if_true]
    have hall:∀c∈n.2.2.2.2.2.2.1,c<(m.2.2.2.2.2.2.1.length:Int):=by
     simp only[wT,hwd,hk,hk2,if_true] at w
     split at w
     ·cases w
     ·rename_i v hv
      split at hv
      ·cases hv
       split at w
       ·rename_i h1
        intro c hc
        have:=List.all_eq_true.1 h1 c hc
        simpa using this
       ·cases w
      ·cases hv
    have hc0:=(nodeOk_keep hn hk).2.2
    simp only[keepR,List.map_map]
    refine List.map_congr_left (fun q _=>?_)
    show(n.2.2.2.2.2.2.1.map (pick m.2.2.2.2.2.2.1)).map (fun c=>kc c q)=n.2.2.2.2.2.2.1.map fun c=>kc c (m.2.2.2.2.2.2.1.map fun c=>kc c q)
    rw[List.map_map]
    refine List.map_congr_left (fun c hc=>?_)
    exact(kc_map q (hall c hc) (hc0 c hc).1).symm
   ·have hk:n.1=6:=hm
    have hk2:m.1=2:=hm2
    simp[turnC] at h
    subst h
    simp only[evR,op1,hk,hk2,show¬(2:Int)=1 by omega,show¬(6:Int)=1 by omega,show¬(6:Int)=2 by omega,show¬(6:Int)=5 by omega,if_false,if_true]
    simp only[keepR,List.map_take]
   ·have hk:n.1=1:=hm
    have hk2:m.1=2:=hm2
    simp[turnC] at h
    subst h
    have hk3:(colN n (pick m.2.2.2.2.2.2.1 n.2.2.1)).1=1:=hk
    simp only[evR,op1,hk,hk2,hk3,show¬(2:Int)=1 by omega,if_false,if_true]
    have hc0:=node_col hn (.inl hk)
    have hlt:n.2.2.1<(m.2.2.2.2.2.2.1.length:Int):=by
     simp only[wT,hwd,hk,hk2,if_true,show¬(1:Int)=2 by omega,if_false,true_or] at w
     split at w
     ·cases w
     ·rename_i v hv
      split at hv
      ·cases hv
       split at w
       ·rename_i h1;exact h1
       ·cases w
      ·cases hv
    rw[filterR_eq,filterR_eq]
    simp only[keepR,List.filter_map]
    congr 1
    refine List.filter_congr (fun q _=>?_)
    simp only[Function.comp]
    rw[kc_map q hlt hc0]
    rfl
   ·have hk:n.1=7:=hm
    have hk2:m.1=5:=hm2
    simp[turnC] at h
    subst h
    simp only[evR,op1,hk,hk2,show¬(5:Int)=1 by omega,show¬(5:Int)=2 by omega,show¬(7:Int)=1 by omega,show¬(7:Int)=2 by omega,show¬(7:Int)=5 by omega,show¬(7:Int)=6 by omega,if_false,if_true]
    exact(once_srt _ _).symm
  ·simp only[PT.hd] at hm2
   cases hwd:wT s d with
   |none=>simp only[wT,hwd] at w;cases w
   |some x=>
   cases hwe:wT s e with
   |none=>simp only[wT,hwd,hwe] at w;cases w
   |some y=>
   have hx:=evR_w hst hwd
   rcases rules hr with rfl|rfl|rfl|rfl|rfl|rfl|rfl|rfl|rfl|rfl|rfl|rfl
   ·have:=ovr_one (r:=0) rfl (by simp) (by simp) (by simp);rw[←hm2] at this;omega
   ·have:=ovr_one (r:=1) rfl (by simp) (by simp) (by simp);rw[←hm2] at this;omega
   ·have:=ovr_one (r:=2) rfl (by simp) (by simp) (by simp);rw[←hm2] at this;omega
   ·have:=ovr_one (r:=3) rfl (by simp) (by simp) (by simp);rw[←hm2] at this;omega
   ·have hk:n.1=1:=hm
    have hk2:m.1=4:=hm2
    simp[turnC] at h
    subst h
    simp only[evR,op1,op2,hk,hk2,show¬(4:Int)=3 by omega,if_false,if_true]
    rw[filterR_eq,filterR_eq,filterR_eq,List.filter_append]
   ·have hk:n.1=1:=hm
    have hk2:m.1=3:=hm2
    simp[turnC,hwd,oint] at h
    obtain⟨hc,rfl⟩:=h
    simp only[evR,op1,op2,hk,hk2,if_true]
    exact(filter_joinL hx (node_col hn (.inl hk)) hc).symm
   ·have hk:n.1=1:=hm
    have hk2:m.1=3:=hm2
    simp[turnC,hwd,oint] at h
    obtain⟨hc,rfl⟩:=h
    have hk3:(colN n (n.2.2.1-x)).1=1:=hk
    simp only[evR,op1,op2,hk,hk2,hk3,if_true]
    exact(filter_joinR hx hc).symm
   ·have:=ovr_one (r:=7) rfl (by simp) (by simp) (by simp);rw[←hm2] at this;omega
   ·have:=ovr_one (r:=8) rfl (by simp) (by simp) (by simp);rw[←hm2] at this;omega
   ·have:=ovr_one (r:=9) rfl (by simp) (by simp) (by simp);rw[←hm2] at this;omega
   ·have:=ovr_one (r:=10) rfl (by simp) (by simp) (by simp);rw[←hm2] at this;omega
   ·have:=ovr_one (r:=11) rfl (by simp) (by simp) (by simp);rw[←hm2] at this;omega
theorem put_evR {s:List Tb}{st:List Rows}:∀{t:PT}{k:Nat}{u v:PT},(subs t)[k]?=some u→evR s st v=evR s st u→evR s st (put t k v)=evR s st t
 |.n0 n,0,u,v,h,hw=>by simp[subs] at h;subst h;simpa[put] using hw
 |.n1 n a,0,u,v,h,hw=>by simp[subs] at h;subst h;simpa[put] using hw
 |.n2 n a b,0,u,v,h,hw=>by simp[subs] at h;subst h;simpa[put] using hw
 |.n0 n,k+1,u,v,h,_=>by simp[subs] at h
 |.n1 n a,k+1,u,v,h,hw=>by
  have h':(subs a)[k]?=some u:=by simpa[subs] using h
  simp only[put,evR,put_evR h' hw]
 |.n2 n a b,k+1,u,v,h,hw=>by
  have h':(subs a++subs b)[k]?=some u:=by simpa[subs] using h
  simp only[put]
  by_cases hk:k<a.size
  ·rw[if_pos hk]
   rw[List.getElem?_append_left (by simpa using hk)] at h'
   simp only[evR,put_evR h' hw]
  ·rw[if_neg hk]
   rw[List.getElem?_append_right (by simp;omega),subs_len] at h'
   simp only[evR,put_evR h' hw]
def rowsM (s:List Tb) (st:List Rows) (p:List Nd):Rows:=match planT p with
 |some t=>evR s st t
 |none=>[]
theorem step_rows {s:List Tb}{st:List Rows}(hst:storeOk s st=true){p q:List Nd}(hp:typedOk s p=true){x:Sp}(h:applyM s p x=(q,true)):rowsM s st q=rowsM s st p:=by
 obtain⟨t,rfl,ht⟩:=typedOk_iff.1 hp
 obtain⟨k,u,u',_,hu,hu',rfl,h1,h2,h3⟩:=applyM_tree ht h
 unfold rowsM
 rw[planT_flat h1,planT_flat ht.plan]
 have hm:=mem_of_get hu
 exact put_evR hu (turn_evR hst (subs_good ht.plan.good hm) (subs_w ht.w hm) hu')
theorem eval_rows {s:List Tb}{st:List Rows}{p:List Nd}(h:(evalPlan s st p).2=0):storeOk s st=true∧(evalPlan s st p).1=rowsM s st p:=by
 unfold evalPlan at h ⊢
 unfold rowsM
 split at h
 rotate_left
 ·simp at h
 rename_i hc
 rw[if_pos hc]
 refine⟨hc.1,?_⟩
 split at h
 ·rename_i t ht
  split at h
  ·rename_i x hx
   simp only[ht,hx]
   exact evalT_evR hx
  ·simp at h
 ·simp at h
end Go.Proofs.YtkbcahfajbdgnaaGreatDoorX
namespace Go.Proofs.YtkbcahfajbdgnaaGreatDoorX
open Go Go.Proofs.YtkbcahfajbdgnaaGreatDoorT PT
set_option linter.all false
theorem and255 (x:Int):0≤andV .i64 x 255∧andV .i64 x 255≤255:=by
 have h:(BitVec.ofInt 64 x&&& BitVec.ofInt 64 255).toNat≤255:=by
  rw[BitVec.toNat_and]
  exact Nat.le_trans Nat.and_le_right (by decide)
 have e:andV .i64 x 255=((BitVec.ofInt 64 x&&& BitVec.ofInt 64 255).toNat:Int):=by
  show IntKind.i64.wrap _=_
  exact wrap_sml (by show -9223372036854775808≤((BitVec.ofInt 64 x&&& BitVec.ofInt 64 255).toNat:Int);omega) (by show((BitVec.ofInt 64 x&&& BitVec.ofInt 64 255).toNat:Int)≤9223372036854775807;omega)
 rw[e];omega
theorem ix_ex {T:Type}{l:List T}{r:Int}(h0:0≤r)(h1:r<l.length):∃x,ix l r=some x∧x∈l:=by
 obtain⟨k,rfl⟩:∃k:Nat,r=k:=⟨r.toNat,by omega⟩
 have hk:k<l.length:=by omega
 exact⟨l[k],ix_some (List.getElem?_eq_getElem hk),List.getElem_mem hk⟩
theorem shr_ex (a:Int){b:Int}(h:0≤b):∃z,shrV .i64 a b=some z:=by simp[shrV,h]
structure Cu (b:List Int) (i:Int):Prop where
 len:b.length≤1073741824
 lo:0≤i
abbrev CuQ (b:List Int) (P:Int→Prop) (y:Int×List Int×Int×Int):Prop:=y.2.1=b∧Cu b y.2.2.1∧P y.1
theorem byte_ok {b:List Int}{i:Int}(hc:Cu b i)(h:Int):Ok (F_t b i h) (CuQ b fun r=>0≤r∧r≤255):=(U_38 b i h).ok (by
 obtain⟨z1,e1⟩:=shr_ex (IntKind.i64.wrap ((IntKind.i64.wrap (h*6364136223846793005))+1442695040888963407)) (b:=33) (by decide)
 obtain⟨z2,e2⟩:=shr_ex (IntKind.i64.wrap ((IntKind.i64.wrap (h*6364136223846793005))+1442695040888963407)) (b:=45) (by decide)
 rw[e1,e2]
 simp only[Option.bind_some,joinK_bif,joinK_go,J_3v]
 have hlo:=hc.lo
 have hln:=hc.len
 by_cases hi:i<b.length
 ·obtain⟨x,hx,_⟩:=ix_ex hlo hi
  rw[hx]
  simp only[hi,decide_true,cond_true,Option.bind_some,joinK_go]
  exact⟨_,rfl,rfl,⟨hln,by simp only;rw[wrap_sml (x:=i+1) (by omega) (by omega)];omega⟩,and255 _⟩
 ·simp only[hi,decide_false,cond_false,joinK_go]
  exact⟨_,rfl,rfl,hc,and255 _⟩)
theorem remx_ps {a b:Int}(ha:0≤a)(hb:0<b):remx a b=some (a % b):=by
 unfold remx
 have:(b==0)=false:=by simp;omega
 rw[this,Int.tmod_eq_emod_of_nonneg ha];rfl
theorem below_ok {b:List Int}{i:Int}(hc:Cu b i) (h n:Int):Ok (F_0 b i h n) (CuQ b fun r=>0≤r∧(0<n→r<n)):=(U_37 b i h n).ok (OkG.out (by
 refine OkG.bif (fun h0=>?_) (fun h0=>OkG.bif (fun h1=>?_) (fun h1=>?_))
 ·have:=of_decide_eq_true h0
  exact OkG.val ⟨rfl,hc,by omega,by simp only;omega⟩
 ·have h0':=of_decide_eq_false h0
  refine OkG.call (byte_ok hc h) ?_
  rintro⟨r,b',i',h'⟩ ⟨rfl,hc',hr,_⟩
  simp only at hr ⊢
  rw[remx_ps hr (by omega)]
  refine OkG.val ⟨rfl,hc',Int.emod_nonneg _ (by omega),fun h=>Int.emod_lt_of_pos _ h⟩
 ·have h0':=of_decide_eq_false h0
  refine OkG.call (byte_ok hc h) ?_
  rintro⟨r,b',i',h'⟩ ⟨rfl,hc',hr,hr'⟩
  refine OkG.call (byte_ok hc' h') ?_
  rintro⟨r2,b',i',h'⟩ ⟨rfl,hc',hs,hs'⟩
  refine OkG.call (byte_ok hc' h') ?_
  rintro⟨r3,b',i',h'⟩ ⟨rfl,hc',ht,ht'⟩
  simp only at hr hr' hs hs' ht ht' ⊢
  rw[wrap_sml (x:=r*65536) (by omega) (by omega),wrap_sml (x:=r2*256) (by omega) (by omega),wrap_sml (x:=r*65536+r2*256) (by omega) (by omega),wrap_sml (x:=r*65536+r2*256+r3) (by omega) (by omega),remx_ps (by omega) (by omega)]
  exact OkG.val ⟨rfl,hc',Int.emod_nonneg _ (by omega),fun h=>Int.emod_lt_of_pos _ h⟩))
theorem once_ok {b:List Int}{i:Int}(hc:Cu b i) (h n:Int):Ok (F_b b i h n) (fun y=>y.2.1=b∧Cu b y.2.2.1):=(U_3f b i h n).ok (OkG.out (by
 refine OkG.call (below_ok hc h n) ?_
 rintro⟨r,b',i',h'⟩ ⟨rfl,hc',_⟩
 exact OkG.val ⟨rfl,hc'⟩))
theorem pick_ok {b:List Int}{i:Int}(hc:Cu b i)(h:Int){l:List Int}(hl:0<l.length):Ok (F_5 b i h l) (CuQ b fun r=>r∈l):=(U_3g b i h l).ok (OkG.out (by
 refine OkG.call (below_ok hc h l.length) ?_
 rintro⟨r,b',i',h'⟩ ⟨rfl,hc',h0,h1⟩
 have h1':=h1 (by omega)
 simp only at h0 h1' ⊢
 obtain⟨x,hx,hm⟩:=ix_ex h0 h1'
 rw[hx]
 exact OkG.val ⟨rfl,hc',hm⟩))
theorem pickT_ok {b:List Int}{i:Int}(hc:Cu b i)(h:Int){l:List ByteArray}(hl:0<l.length):Ok (F_3t b i h l) (fun y=>y.2.1=b∧Cu b y.2.2.1∧y.1∈l):=(U_3h b i h l).ok (OkG.out (by
 refine OkG.call (below_ok hc h l.length) ?_
 rintro⟨r,b',i',h'⟩ ⟨rfl,hc',h0,h1⟩
 have h1':=h1 (by omega)
 simp only at h0 h1' ⊢
 obtain⟨x,hx,hm⟩:=ix_ex h0 h1'
 rw[hx]
 exact OkG.val ⟨rfl,hc',hm⟩))
theorem new_ok {b:List Int}(hb:b.length≤1073741824):Ok (F_1q b) (fun y=>y.1=b∧Cu b y.2.1):=(U_3d b).ok (OkG.out (by
 refine OkG.join (fun _=>True) (Ok.of (Ok.loop (S:=Int×Int) (fun s=>b.length-s.2.toNat) (fun s=>0≤s.2∧s.2≤b.length) ?_ _ ⟨by simp,by simp⟩)) ?_
 ·rintro⟨v,i⟩ ⟨h0,h1⟩ G hG
  simp only at h0 h1
  unfold L_2y
  refine OkG.join (fun c=>c=true→i<b.length) ?_ ?_
  ·refine OkG.bif (fun h=>?_) (fun h=>?_)
   ·exact OkG.val fun _=>of_decide_eq_true h
   ·exact OkG.val fun h=>by cases h
  ·intro c hc
   refine OkG.bif (fun h=>?_) (fun h=>OkG.val trivial)
   have hi:=hc h
   obtain⟨x,hx,_⟩:=ix_ex h0 hi
   rw[hx]
   simp only[Option.bind_some]
   refine hG _ ?_ ?_
   ·simp only;rw[wrap_sml (by omega) (by omega)];omega
   ·simp only;rw[wrap_sml (by omega) (by omega)];omega
 ·intro s _
  exact OkG.val ⟨rfl,hb,by simp⟩))
theorem size_ok {b:List Int}(hb:b.length≤1073741824){m:Int}(h0:1≤m):Ok (F_3u b m) (fun r=>1≤r∧r≤m):=(U_3i b m).ok (OkG.out (by
 rw[quox_some (by omega) (by omega) (by omega)]
 simp only[Option.bind_some]
 have:IntKind.i64.wrap (2+(b.length:Int) / 16)=2+(b.length:Int) / 16:=wrap_sml (by omega) (by omega)
 rw[this]
 refine OkG.bif (fun h=>OkG.val ⟨h0,Int.le_refl _⟩) (fun h=>?_)
 have:=of_decide_eq_false h
 exact OkG.val ⟨by omega,by omega⟩))
end Go.Proofs.YtkbcahfajbdgnaaGreatDoorX
namespace Go.Proofs.YtkbcahfajbdgnaaGreatDoorX
open Go Go.Proofs.YtkbcahfajbdgnaaGreatDoorT PT
set_option linter.all false
structure Sm (N c:Nat) (p:List Nd):Prop where
 len:p.length≤N
 nodes:∀n∈p,n.2.1.size≤100∧n.2.2.2.2.2.2.1.length≤c
theorem Sm.mono {N M c d:Nat}{p:List Nd}(h:Sm N c p)(h1:N≤M)(h2:c≤d):Sm M d p:=⟨Nat.le_trans h.len h1,fun n hn=>⟨(h.nodes n hn).1,Nat.le_trans (h.nodes n hn).2 h2⟩⟩
theorem Sm.bplan {N c:Nat}{p:List Nd}(h:Sm N c p)(h1:N≤1073741824)(h2:c≤1073741824):BPlan p:=⟨Nat.le_trans h.len h1,fun n hn=>⟨by have:=(h.nodes n hn).1;omega,by have:=(h.nodes n hn).2;omega⟩⟩
theorem Sm.one {c:Nat}{n:Nd}(h1:n.2.1.size≤100)(h2:n.2.2.2.2.2.2.1.length≤c):Sm 1 c [n]:=⟨by simp,fun m hm=>by rw[List.mem_singleton.1 hm];exact⟨h1,h2⟩⟩
theorem Sm.app {N M c:Nat}{p q:List Nd}(h:Sm N c p) (k:Sm M c q):Sm (N+M) c (p++q):=⟨by have:=h.len;have:=k.len;simp;omega,fun n hn=>(List.mem_append.1 hn).elim (h.nodes n) (k.nodes n)⟩
theorem Sm.flat2 {N M c:Nat}{p q:List Nd}(h:Sm N c p) (k:Sm M c q):Sm (N+M) c [p,q].flatten:=by simpa using h.app k
theorem Sm.flat3 {N M K c:Nat}{p q r:List Nd}(h:Sm N c p) (k:Sm M c q) (l:Sm K c r):Sm (N+(M+K)) c [p,q,r].flatten:=by simpa using h.app (k.app l)
theorem joined_ok {l:List (List Nd)}{N c:Nat}(hl:l.length≤1000)(h:Sm N c l.flatten)(h1:N≤1073741824)(h2:c≤1073741824):Ok (F_1 l) (Sm N c):=⟨_,V_j hl (h.bplan h1 h2),h⟩
abbrev PlQ (b:List Int) (N:Nat) (y:List SNode×Int×List Int×Int×Int):Prop:=Sm N 3 y.1∧y.2.2.1=b∧Cu b y.2.2.2.1
theorem e100:ByteArray.empty.size≤100:=by decide
theorem draw_step {b:List Int}(n:Nat)(hn:n≤10) (IH:∀(d i h:Int),Cu b i→0≤d→d+1≤n→Ok (F_4 b i h d) (PlQ b (4 ^ n))) (d i h:Int)(hc:Cu b i)(hd:d≤n) :
  Ok (F_4 b i h d) (PlQ b (4 ^ (n+1))):=(U_3m b i h d).ok (OkG.out (by
 have h41:4 ^ (n+1)=4*4 ^ n:=by rw[Nat.pow_succ];omega
 have h4p:1≤4 ^ n:=Nat.one_le_pow _ _ (by decide)
 have h4m:4 ^ n≤4 ^ 10:=Nat.pow_le_pow_right (by decide) hn
 have h4c:4 ^ 10=1048576:=by decide
 have h4b:4 ^ n≤1048576:=by omega
 refine OkG.call (pick_ok hc h (by simp)) ?_
 rintro⟨r,b',i',h'⟩ ⟨rfl,hc',_⟩
 refine OkG.join (fun v=>d≤1→v=0) ?_ ?_
 ·exact OkG.bif (fun _=>OkG.val fun _=>rfl) (fun h=>OkG.val fun h'=>by have:=of_decide_eq_false h;omega)
 intro v hv
 unfold J_3y
 refine OkG.bif (fun _=>?_) (fun h0=>?_)
 ·refine OkG.call (below_ok hc' h' 3) ?_
  rintro⟨r1,b',i',h'⟩ ⟨rfl,hc',hr,hr'⟩
  have hr3:=hr' (by decide)
  simp only at hr hr3 ⊢
  obtain⟨z4,e4,m4⟩:=ix_ex (l:=[(⟨#[116,49]⟩:ByteArray),(⟨#[116,50]⟩:ByteArray),(⟨#[116,51]⟩:ByteArray)]) hr (by simp;omega)
  obtain⟨z5,e5,m5⟩:=ix_ex (l:=[(2:Int),3,1]) hr (by simp;omega)
  rw[e4,e5]
  refine OkG.val ⟨(Sm.one ?_ (by simp)).mono (by omega) (Nat.le_refl _),rfl,hc'⟩
  simp only[List.mem_cons,List.not_mem_nil,or_false] at m4
  rcases m4 with rfl|rfl|rfl <;> decide
 have hd2:2≤d:=by
  rcases Int.lt_or_le d 2 with h|h
  ·rw[hv (by omega)] at h0;cases h0
  ·exact h
 have hn2:2≤n:=by omega
 have h42:4 ^ 2≤4 ^ n:=Nat.pow_le_pow_right (by decide) hn2
 have hw1:IntKind.i64.wrap (d-1)=d-1:=wrap_sml (by omega) (by omega)
 have hw2:IntKind.i64.wrap (d-2)=d-2:=wrap_sml (by omega) (by omega)
 simp only[hw1,hw2]
 have sub1:∀i h,Cu b' i→Ok (F_4 b' i h (d-1)) (PlQ b' (4 ^ n)):=fun i h hc=>IH _ i h hc (by omega) (by omega)
 have sub2:∀i h,Cu b' i→Ok (F_4 b' i h (d-2)) (PlQ b' (4 ^ n)):=fun i h hc=>IH _ i h hc (by omega) (by omega)
 refine OkG.bif (fun _=>?_) (fun _=>OkG.bif (fun _=>?_) (fun _=>?_))
 ·refine OkG.call (sub1 _ _ hc') ?_
  rintro⟨p1,w1,b',i',h'⟩ ⟨s1,rfl,hc'⟩
  refine OkG.call (sub2 _ _ hc') ?_
  rintro⟨p2,w2,b',i',h'⟩ ⟨s2,rfl,hc'⟩
  refine OkG.call (below_ok hc' _ _) ?_
  rintro⟨r1,b',i',h'⟩ ⟨rfl,hc',_⟩
  refine OkG.call (below_ok hc' _ _) ?_
  rintro⟨r2,b',i',h'⟩ ⟨rfl,hc',_⟩
  refine OkG.call (joined_ok (by simp) (Sm.flat3 (Sm.one e100 (Nat.zero_le 3)) s1 s2) (by omega) (by decide)) ?_
  intro q hq
  exact OkG.val ⟨hq.mono (by omega) (Nat.le_refl _),rfl,hc'⟩
 ·refine OkG.call (sub1 _ _ hc') ?_
  rintro⟨p1,w1,b',i',h'⟩ ⟨s1,rfl,hc'⟩
  refine OkG.call (sub2 _ _ hc') ?_
  rintro⟨p2,w2,b',i',h'⟩ ⟨s2,rfl,hc'⟩
  refine OkG.join (fun s=>Sm (4 ^ n+1) 3 s.1∧Sm (4 ^ n+1) 3 s.2.2) ?_ ?_
  ·refine OkG.bif (fun _=>?_) (fun _=>OkG.val ⟨s1.mono (by omega) (Nat.le_refl _),s2.mono (by omega) (Nat.le_refl _)⟩)
   refine OkG.call (joined_ok (by simp) (Sm.flat2 (Sm.one e100 (by simp)) s1) (by omega) (by decide)) ?_
   intro q1 hq1
   refine OkG.call (joined_ok (by simp) (Sm.flat2 (Sm.one e100 (by simp)) s2) (by omega) (by decide)) ?_
   intro q2 hq2
   exact OkG.val ⟨hq1.mono (by omega) (Nat.le_refl _),hq2.mono (by omega) (Nat.le_refl _)⟩
  ·rintro⟨q1,w,q2⟩ ⟨t1,t2⟩
   unfold J_3z
   refine OkG.call (joined_ok (by simp) (Sm.flat3 (Sm.one e100 (Nat.zero_le 3)) t1 t2) (by omega) (by decide)) ?_
   intro q hq
   exact OkG.val ⟨hq.mono (by omega) (Nat.le_refl _),rfl,hc'⟩
 ·refine OkG.call (sub1 _ _ hc') ?_
  rintro⟨p1,w1,b',i',h'⟩ ⟨s1,rfl,hc'⟩
  refine OkG.join (fun s=>s.2.2.1.size≤100∧s.2.2.2.2.2.2.2.1.length≤3∧s.2.2.2.2.2.2.2.2.1=b'∧Cu b' s.2.2.2.2.2.2.2.2.2.1) ?_ ?_
  ·refine OkG.bif (fun _=>?_) (fun _=>OkG.bif (fun _=>?_) (fun _=>OkG.bif (fun _=>?_) (fun _=>OkG.bif (fun _=>?_) (fun _=>?_))))
   ·refine OkG.call (below_ok hc' _ _) ?_
    rintro⟨r1,b',i',h'⟩ ⟨rfl,hc',_⟩
    refine OkG.call (below_ok hc' _ _) ?_
    rintro⟨r2,b',i',h'⟩ ⟨rfl,hc',_⟩
    refine OkG.bif (fun _=>?_) (fun _=>?_)
    ·refine OkG.call (below_ok hc' _ _) ?_
     rintro⟨r3,b',i',h'⟩ ⟨rfl,hc',_⟩
     exact OkG.val ⟨e100,by simp,rfl,hc'⟩
    ·exact OkG.val ⟨e100,by simp,rfl,hc'⟩
   ·refine OkG.join (fun s=>s.2.1.size≤100∧s.2.2.2.2.2.2.1.length≤3∧s.2.2.2.2.2.2.2.1=b'∧Cu b' s.2.2.2.2.2.2.2.2.1) ?_ ?_
    ·refine OkG.call (below_ok hc' _ 3) ?_
     rintro⟨r1,b',i',h'⟩ ⟨rfl,hc',hr,hr'⟩
     have hr3:=hr' (by decide)
     simp only at hr hr3 ⊢
     have hw:IntKind.i64.wrap (1+r1)=1+r1:=wrap_sml (by omega) (by omega)
     rw[hw]
     refine Ok.of (Ok.loop (S:=Int×ByteArray×Int×Int×Int×Bool×List Int×Int×List Int×Int×Int) (fun s=>s.2.2.2.2.2.2.2.1.toNat) (fun s=>0≤s.2.2.2.2.2.2.2.1∧s.2.2.2.2.2.2.2.1+s.2.2.2.2.2.2.1.length≤3∧s.2.1.size≤100∧s.2.2.2.2.2.2.2.2.1=b'∧Cu b' s.2.2.2.2.2.2.2.2.2.1) ?_ _ ⟨by simp only;omega,by simp;omega,e100,rfl,hc'⟩)
     rintro⟨a1,a2,a3,a4,a5,a6,cs,k,b',i',h'⟩ ⟨k0,k3,n1,rfl,hc'⟩ G hG
     simp only at k0 k3
     unfold L_2z
     refine OkG.bif (fun hk=>?_) (fun hk=>OkG.val ⟨n1,by simp only;omega,rfl,hc'⟩)
     have hk':k>0:=of_decide_eq_true hk
     refine OkG.call (below_ok hc' _ _) ?_
     rintro⟨r3,b',i',h'⟩ ⟨rfl,hc',_⟩
     rw[apx_some (by simp;omega)]
     simp only[Option.bind_some]
     have hw:IntKind.i64.wrap (k-1)=k-1:=wrap_sml (by omega) (by omega)
     rw[hw]
     exact hG _ ⟨by simp only;omega,by simp;omega,n1,rfl,hc'⟩ (by simp only;omega)
    ·rintro⟨a1,a2,a3,a4,a5,a6,cs,b',i',h'⟩ ⟨n1,n2,rfl,hc'⟩
     exact OkG.val ⟨n1,n2,rfl,hc'⟩
   ·refine OkG.call (below_ok hc' _ _) ?_
    rintro⟨r1,b',i',h'⟩ ⟨rfl,hc',_⟩
    exact OkG.val ⟨e100,by simp,rfl,hc'⟩
   ·refine OkG.call (below_ok hc' _ _) ?_
    rintro⟨r1,b',i',h'⟩ ⟨rfl,hc',_⟩
    exact OkG.val ⟨e100,by simp,rfl,hc'⟩
   ·exact OkG.val ⟨e100,by simp,rfl,hc'⟩
  ·rintro⟨w,a1,a2,a3,a4,a5,a6,cs,b',i',h'⟩ ⟨n1,n2,rfl,hc'⟩
   unfold J_40
   refine OkG.call (joined_ok (by simp) (Sm.flat2 (Sm.one (n:=(a1,a2,a3,a4,a5,a6,cs,())) n1 n2) s1) (by omega) (by decide)) ?_
   intro q hq
   exact OkG.val ⟨hq.mono (by omega) (Nat.le_refl _),rfl,hc'⟩))
theorem plan_ok {b:List Int}:∀(n:Nat),n≤10→∀(d i h:Int),Cu b i→d≤n→Ok (F_4 b i h d) (PlQ b (4 ^ (n+1)))
 |0,hn,d,i,h,hc,hd=>draw_step 0 hn (fun d' i h hc h0 h1=>by omega) d i h hc hd
 |n+1,hn,d,i,h,hc,hd=>draw_step (n+1) hn (fun d' i h hc h0 h1=>plan_ok n (by omega) d' i h hc (by omega)) d i h hc hd
end Go.Proofs.YtkbcahfajbdgnaaGreatDoorX
namespace Go.Proofs.YtkbcahfajbdgnaaGreatDoorX
open Go Go.Proofs.YtkbcahfajbdgnaaGreatDoorT PT
set_option linter.all false
abbrev PnQ (b:List Int) (N c:Nat) (y:List SNode×List Int×Int×Int):Prop:=Sm N c y.1∧y.2.1=b∧Cu b y.2.2.1
theorem rich_ok {b:List Int}{i:Int}(hc:Cu b i)(h:Int){code:List Int}(hl:code.length≤1073741824):Ok (F_45 b i h code) (PnQ b 4100 3):=(U_43 b i h code).ok (OkG.out (by
 refine OkG.call (size_ok hl (by decide)) ?_
 intro m hm
 refine OkG.call (below_ok hc h m) ?_
 rintro⟨r,b',i',h'⟩ ⟨rfl,hc',h0,h1⟩
 have h1':=h1 (by omega)
 simp only at h0 h1' ⊢
 have hw:IntKind.i64.wrap (1+r)=1+r:=wrap_sml (by omega) (by omega)
 rw[hw]
 refine OkG.call (plan_ok 5 (by decide) _ _ _ hc' (by omega)) ?_
 rintro⟨p,w,b',i',h'⟩ ⟨sp,rfl,hc'⟩
 refine OkG.join (fun s=>Sm 4100 3 s.1∧s.2.1=b'∧Cu b' s.2.2.1) ?_ (fun s hs=>OkG.val hs)
 refine OkG.call (below_ok hc' _ 4) ?_
 rintro⟨r4,b',i',h'⟩ ⟨rfl,hc',q0,q1⟩
 have q1':=q1 (by decide)
 simp only at q0 q1' sp ⊢
 have hw:IntKind.i64.wrap (1+r4)=1+r4:=wrap_sml (by omega) (by omega)
 rw[hw]
 refine Ok.of (Ok.loop (S:=List SNode×Int×Int×List Int×Int×Int) (fun s=>s.2.2.1.toNat) (fun s=>0≤s.2.2.1∧s.2.2.1≤4∧Sm (4100-s.2.2.1.toNat) 3 s.1∧s.2.2.2.1=b'∧Cu b' s.2.2.2.2.1) ?_ _ ⟨by simp only;omega,by simp only;omega,sp.mono (by simp only;omega) (Nat.le_refl _),rfl,hc'⟩)
 rintro⟨p1,w1,k,b',i',h'⟩ ⟨k0,k4,s1,rfl,hc'⟩ G hG
 simp only at k0 k4 s1
 unfold L_31
 refine OkG.bif (fun hk=>?_) (fun hk=>OkG.val ⟨s1.mono (by omega) (Nat.le_refl _),rfl,hc'⟩)
 have hk':k>0:=of_decide_eq_true hk
 refine OkG.join (fun s=>Sm (4100-(k-1).toNat) 3 s.1∧s.2.2.1=b'∧Cu b' s.2.2.2.1) ?_ ?_
 ·refine OkG.call (pick_ok hc' _ (by simp)) ?_
  rintro⟨v,b',i',h'⟩ ⟨rfl,hc',_⟩
  refine OkG.join (fun s=>s.2.2.1.size≤100∧s.2.2.2.2.2.2.2.1.length≤3∧s.2.2.2.2.2.2.2.2.1=b'∧Cu b' s.2.2.2.2.2.2.2.2.2.1) ?_ ?_
  ·refine OkG.bif (fun _=>?_) (fun _=>OkG.bif (fun _=>?_) (fun _=>OkG.bif (fun _=>?_) (fun _=>OkG.bif (fun _=>?_) (fun _=>?_))))
   ·refine OkG.call (below_ok hc' _ _) ?_
    rintro⟨r1,b',i',h'⟩ ⟨rfl,hc',_⟩
    refine OkG.call (below_ok hc' _ _) ?_
    rintro⟨r2,b',i',h'⟩ ⟨rfl,hc',_⟩
    refine OkG.bif (fun _=>?_) (fun _=>?_)
    ·refine OkG.call (below_ok hc' _ _) ?_
     rintro⟨r3,b',i',h'⟩ ⟨rfl,hc',_⟩
     exact OkG.val ⟨e100,by simp,rfl,hc'⟩
    ·exact OkG.val ⟨e100,by simp,rfl,hc'⟩
   ·refine OkG.join (fun s=>s.2.1.size≤100∧s.2.2.2.2.2.2.1.length≤3∧s.2.2.2.2.2.2.2.1=b'∧Cu b' s.2.2.2.2.2.2.2.2.1) ?_ ?_
    ·refine OkG.call (below_ok hc' _ 3) ?_
     rintro⟨r1,b',i',h'⟩ ⟨rfl,hc',hr,hr'⟩
     have hr3:=hr' (by decide)
     simp only at hr hr3 ⊢
     have hw:IntKind.i64.wrap (1+r1)=1+r1:=wrap_sml (by omega) (by omega)
     rw[hw]
     refine Ok.of (Ok.loop (S:=Int×ByteArray×Int×Int×Int×Bool×List Int×Int×List Int×Int×Int) (fun s=>s.2.2.2.2.2.2.2.1.toNat) (fun s=>0≤s.2.2.2.2.2.2.2.1∧s.2.2.2.2.2.2.2.1+s.2.2.2.2.2.2.1.length≤3∧s.2.1.size≤100∧s.2.2.2.2.2.2.2.2.1=b'∧Cu b' s.2.2.2.2.2.2.2.2.2.1) ?_ _ ⟨by simp only;omega,by simp;omega,e100,rfl,hc'⟩)
     rintro⟨a1,a2,a3,a4,a5,a6,cs,j,b',i',h'⟩ ⟨j0,j3,n1,rfl,hc'⟩ G hG
     simp only at j0 j3
     unfold L_32
     refine OkG.bif (fun hj=>?_) (fun hj=>OkG.val ⟨n1,by simp only;omega,rfl,hc'⟩)
     have hj':j>0:=of_decide_eq_true hj
     refine OkG.call (below_ok hc' _ _) ?_
     rintro⟨r3,b',i',h'⟩ ⟨rfl,hc',_⟩
     rw[apx_some (by simp;omega)]
     simp only[Option.bind_some]
     have hw:IntKind.i64.wrap (j-1)=j-1:=wrap_sml (by omega) (by omega)
     rw[hw]
     exact hG _ ⟨by simp only;omega,by simp;omega,n1,rfl,hc'⟩ (by simp only;omega)
    ·rintro⟨a1,a2,a3,a4,a5,a6,cs,b',i',h'⟩ ⟨n1,n2,rfl,hc'⟩
     exact OkG.val ⟨n1,n2,rfl,hc'⟩
   ·refine OkG.call (below_ok hc' _ _) ?_
    rintro⟨r1,b',i',h'⟩ ⟨rfl,hc',_⟩
    exact OkG.val ⟨e100,by simp,rfl,hc'⟩
   ·refine OkG.call (below_ok hc' _ _) ?_
    rintro⟨r1,b',i',h'⟩ ⟨rfl,hc',_⟩
    exact OkG.val ⟨e100,by simp,rfl,hc'⟩
   ·exact OkG.val ⟨e100,by simp,rfl,hc'⟩
  ·rintro⟨w,a1,a2,a3,a4,a5,a6,cs,b',i',h'⟩ ⟨n1,n2,rfl,hc'⟩
   unfold J_4q
   refine OkG.call (joined_ok (by simp) (Sm.flat2 (Sm.one (n:=(a1,a2,a3,a4,a5,a6,cs,())) n1 n2) s1) (by omega) (by decide)) ?_
   intro q hq
   exact OkG.val ⟨hq.mono (by omega) (Nat.le_refl _),rfl,hc'⟩
 ·rintro⟨p2,w2,b',i',h'⟩ ⟨s2,rfl,hc'⟩
  unfold J_4p
  have hw:IntKind.i64.wrap (k-1)=k-1:=wrap_sml (by omega) (by omega)
  rw[hw]
  exact hG _ ⟨by simp only;omega,by simp only;omega,s2,rfl,hc'⟩ (by simp only;omega)))
theorem liftL_sm {c:Nat}:∀(l:List Nd) (i:Nat),(∀n∈l,n.2.1.size≤100∧n.2.2.2.2.2.2.1.length≤c)→∀n∈liftL l i,n.2.1.size≤100∧n.2.2.2.2.2.2.1.length≤c
 |[],i,h,n,hn=>by simp[liftL] at hn
 |m::l,i,h,n,hn=>by
  have hm:=h m (by simp)
  have hl:∀n∈l,n.2.1.size≤100∧n.2.2.2.2.2.2.1.length≤c:=fun n hn=>h n (by simp[hn])
  simp only[liftL] at hn
  split at hn
  ·rcases List.mem_cons.1 hn with rfl|hn
   ·exact hm
   ·exact liftL_sm l _ hl n hn
  ·rcases List.mem_cons.1 hn with rfl|hn
   ·exact hm
   ·exact liftL_sm l _ hl n hn
theorem Sm.lift {N c:Nat}{p:List Nd}(h:Sm N c p):Sm N c (liftL p 0):=⟨by rw[liftL_len];exact h.len,liftL_sm p 0 h.nodes⟩
theorem slots_ok {b:List Int}{i:Int}(hc:Cu b i)(h:Int){p:List SNode}{N c:Nat}(hp:Sm N c p)(h1:N≤1073741824)(h2:c≤1073741824):Ok (F_46 b i h p) (PnQ b N c):=(U_44 b i h p).ok (OkG.out (by
 refine OkG.join (fun s=>s.2.1=b∧Cu b s.2.2.1) ?_ (fun s hs=>OkG.val ⟨hp,hs.1,hs.2⟩)
 refine OkG.call (once_ok hc h 3) ?_
 rintro⟨r,b',i',h'⟩ ⟨rfl,hc'⟩
 refine OkG.bif (fun _=>?_) (fun _=>OkG.val ⟨rfl,hc'⟩)
 rw[V_2u (hp.bplan h1 h2)]
 simp only[Option.bind_some]
 refine OkG.bif (fun hl=>?_) (fun _=>OkG.val ⟨rfl,hc'⟩)
 refine OkG.val ⟨?_,rfl,hc'⟩
 unfold lift at hl ⊢
 split at hl
 ·rename_i hcl
  rw[if_pos hcl]
  exact hp.lift
 ·cases hl))
theorem Sm.set {N c:Nat}{p:List Nd}(h:Sm N c p) (k:Nat){n:Nd}(hn:n.2.1.size≤100∧n.2.2.2.2.2.2.1.length≤c):Sm N c (p.set k n):=⟨by simpa using h.len,fun m hm=>(List.mem_or_eq_of_mem_set hm).elim (h.nodes m) (fun e=>e▸hn)⟩
theorem tkx_ok {T:Type}{l:List T}{r:Int}(h0:0≤r)(h1:r≤l.length):tkx l r=some (l.take r.toNat):=by simp[tkx,h0,h1]
theorem break_ok {b:List Int}{i:Int}(hc:Cu b i)(h:Int){p:List SNode}{N c:Nat}(hp:Sm N c p)(h1:N≤1073741824)(h2:c≤1073741824):Ok (F_3v b i h p) (PnQ b (N+1) (c+1)):=(U_3j b i h p).ok (OkG.out (by
 have hpl:=hp.len
 have hp':Sm (N+1) (c+1) p:=hp.mono (by omega) (by omega)
 refine OkG.join (fun s=>(s.1=false→p≠[])∧s.2.1=b∧Cu b s.2.2.1) ?_ ?_
 ·refine OkG.call (once_ok hc h 8) ?_
  rintro⟨r,b',i',h'⟩ ⟨rfl,hc'⟩
  refine OkG.bif (fun _=>OkG.val ⟨fun h=>(by cases h),rfl,hc'⟩) (fun _=>OkG.val ⟨fun h hp0=>?_,rfl,hc'⟩)
  rw[hp0] at h
  simp at h
 rintro⟨e,b',i',h'⟩ ⟨he,rfl,hc'⟩
 unfold J_3w
 refine OkG.bif (fun _=>OkG.val ⟨hp',rfl,hc'⟩) (fun hf=>?_)
 have hpos:0<p.length:=List.length_pos_iff.2 (he hf)
 refine OkG.call (below_ok hc' _ _) ?_
 rintro⟨k,b',i',h'⟩ ⟨rfl,hc',k0,k1⟩
 have k1':=k1 (by omega)
 simp only at k0 k1' ⊢
 obtain⟨n,en,hn⟩:=ix_ex k0 k1'
 have hnn:=hp.nodes n hn
 simp only[en,Option.bind_some]
 refine OkG.call (below_ok hc' _ _) ?_
 rintro⟨r7,b',i',h'⟩ ⟨rfl,hc',_⟩
 refine OkG.bif (fun _=>?_) (fun _=>OkG.bif (fun _=>?_) (fun _=>OkG.bif (fun _=>?_) (fun _=>OkG.bif (fun _=>?_) (fun _=>OkG.bif (fun _=>?_) (fun _=>OkG.bif (fun _=>?_) (fun _=>OkG.bif (fun _=>?_) (fun _=>?_)))))))
 ·refine OkG.call (below_ok hc' _ _) ?_
  rintro⟨r,b',i',h'⟩ ⟨rfl,hc',_⟩
  exact OkG.val ⟨hp'.set _ ⟨hnn.1,Nat.le_succ_of_le hnn.2⟩,rfl,hc'⟩
 ·refine OkG.call (pick_ok hc' _ (by simp)) ?_
  rintro⟨r,b',i',h'⟩ ⟨rfl,hc',_⟩
  exact OkG.val ⟨hp'.set _ ⟨hnn.1,Nat.le_succ_of_le hnn.2⟩,rfl,hc'⟩
 ·refine OkG.call (pick_ok hc' _ (by simp)) ?_
  rintro⟨r,b',i',h'⟩ ⟨rfl,hc',_⟩
  exact OkG.val ⟨hp'.set _ ⟨hnn.1,Nat.le_succ_of_le hnn.2⟩,rfl,hc'⟩
 ·exact OkG.val ⟨hp'.set _ ⟨hnn.1,Nat.le_succ_of_le hnn.2⟩,rfl,hc'⟩
 ·rw[apx_some (by simp;omega)]
  simp only[Option.bind_some]
  exact OkG.val ⟨(hp.app (Sm.one hnn.1 hnn.2)).mono (Nat.le_refl _) (by omega),rfl,hc'⟩
 ·rw[tkx_ok k0 (by omega)]
  simp only[Option.bind_some]
  exact OkG.val ⟨⟨by simp;omega,fun m hm=>hp'.nodes m (List.mem_of_mem_take hm)⟩,rfl,hc'⟩
 ·have:=hnn.2
  rw[bind2,Option.bind_some,apx_some (by simp;omega)]
  simp only[Option.bind_some]
  rw[inx_some k0 k1',eqix]
  simp only[Option.bind_some,decide_true,cond_true,en]
  exact OkG.val ⟨hp'.set _ ⟨hnn.1,by simp;omega⟩,rfl,hc'⟩
 ·exact OkG.val ⟨hp',rfl,hc'⟩))
end Go.Proofs.YtkbcahfajbdgnaaGreatDoorX
namespace Go.Proofs.YtkbcahfajbdgnaaGreatDoorX
open Go Go.Proofs.YtkbcahfajbdgnaaGreatDoorT PT
set_option linter.all false
structure Ss (N c:Nat) (s:List Tb):Prop where
 len:s.length≤N
 names:∀t∈s,t.1.size≤c
theorem Ss.mono {N M c d:Nat}{p:List Tb}(h:Ss N c p)(h1:N≤M)(h2:c≤d):Ss M d p:=⟨Nat.le_trans h.len h1,fun n hn=>Nat.le_trans (h.names n hn) h2⟩
theorem Ss.bsch {N c:Nat}{s:List Tb}(h:Ss N c s)(h1:N≤1073741824)(h2:c≤1073741824):BSch s:=⟨Nat.le_trans h.len h1,fun n hn=>by have:=h.names n hn;omega⟩
theorem Ss.set {N c:Nat}{p:List Tb}(h:Ss N c p) (k:Nat){n:Tb}(hn:n.1.size≤c):Ss N c (p.set k n):=⟨by simpa using h.len,fun m hm=>(List.mem_or_eq_of_mem_set hm).elim (h.names m) (fun e=>e▸hn)⟩
def tabs3:List Tb:=[((⟨#[116,49]⟩:ByteArray),(2,())),((⟨#[116,50]⟩:ByteArray),(3,())),((⟨#[116,51]⟩:ByteArray),(1,()))]
theorem tabs3_ok:Ss 3 2 tabs3:=⟨by decide,by
 intro t ht
 simp only[tabs3,List.mem_cons,List.not_mem_nil,or_false] at ht
 rcases ht with rfl|rfl|rfl <;> decide⟩
theorem tables_ok:F_1v=some tabs3:=U_3s.out rfl
theorem num_ok {a:Int}(h0:0≤a)(h1:a≤100):Ok (F_10 a) (fun t=>t.size≤101):=(U_5 a).ok (OkG.out (by
 refine OkG.bif (fun _=>OkG.val (by decide)) (fun hz=>?_)
 refine OkG.join (fun t=>t.size≤101) (Ok.of (Ok.loop (S:=Int×ByteArray) (fun s=>s.1.toNat) (fun s=>0≤s.1∧s.1≤100∧s.2.size+s.1≤101) ?_ _ ⟨h0,h1,?_⟩)) ?_
 ·rintro⟨v,t⟩ ⟨v0,v1,ht⟩ G hG
  simp only at v0 v1 ht
  unfold L_1x
  refine OkG.bif (fun h=>?_) (fun h=>OkG.val (by simp only;omega))
  have hv:v≠0:=by rintro rfl;simp at h
  rw[remx_ps v0 (by decide)]
  simp only[Option.bind_some]
  refine OkG.join (fun _=>True) (OkG.bif (fun _=>OkG.val trivial) (fun _=>OkG.val trivial)) ?_
  intro d _
  unfold J_2
  have hsz:(bsOf [IntKind.u8.wrap (IntKind.i64.wrap (48+d))]).size=1:=rfl
  have ha:∃z,addx (bsOf [IntKind.u8.wrap (IntKind.i64.wrap (48+d))]) t=some z∧z.size=1+t.size:=by
   unfold addx
   rw[show Nat.ble ((bsOf [IntKind.u8.wrap (IntKind.i64.wrap (48+d))]).size+t.size) 4611686018427387904=true from by rw[hsz,Nat.ble_eq];omega]
   exact⟨_,rfl,by rw[ByteArray.size_append,hsz]⟩
  obtain⟨z,hz,hzs⟩:=ha
  rw[hz,quox_some v0 (by omega) (by decide)]
  simp only[Option.bind_some]
  exact hG _ ⟨by simp only;omega,by simp only;omega,by simp only;omega⟩ (by simp only;omega)
 ·show((0:Nat):Int)+a≤101
  omega
 ·intro t ht
  unfold J_i
  refine OkG.bif (fun h=>?_) (fun _=>OkG.val ht)
  have:=of_decide_eq_true h
  omega))
theorem schema_ok {b:List Int}{i:Int}(hc:Cu b i)(h:Int):Ok (F_1t b i h) (fun y=>Ss 9 200 y.1∧y.2.1=b∧Cu b y.2.2.1):=(U_3q b i h).ok (OkG.out (by
 have h3:Ss 9 200 tabs3:=tabs3_ok.mono (by decide) (by decide)
 have hl3:tabs3.length=3:=rfl
 rw[tables_ok]
 simp only[Option.bind_some]
 refine OkG.join (fun y=>Ss 9 200 y.1∧y.2.1=b∧Cu b y.2.2.1) ?_ (fun s hs=>OkG.val hs)
 refine OkG.call (once_ok hc h 6) ?_
 rintro⟨r,b',i',h'⟩ ⟨rfl,hc'⟩
 refine OkG.bif (fun _=>?_) (fun _=>OkG.val ⟨h3,rfl,hc'⟩)
 refine OkG.call (below_ok hc' _ 3) ?_
 rintro⟨k,b',i',h'⟩ ⟨rfl,hc',k0,k1⟩
 have k1':=k1 (by decide)
 simp only at k0 k1' ⊢
 obtain⟨n,en,hn⟩:=ix_ex (l:=tabs3) k0 (by rw[hl3];exact k1')
 simp only[en,Option.bind_some]
 refine OkG.call (below_ok hc' _ _) ?_
 rintro⟨r4,b',i',h'⟩ ⟨rfl,hc',_⟩
 refine OkG.bif (fun _=>?_) (fun _=>OkG.bif (fun _=>?_) (fun _=>OkG.bif (fun _=>?_) (fun _=>OkG.bif (fun _=>?_) (fun _=>?_))))
 ·refine OkG.call (pick_ok hc' _ (by simp)) ?_
  rintro⟨r,b',i',h'⟩ ⟨rfl,hc',_⟩
  exact OkG.val ⟨h3.set _ (h3.names n hn),rfl,hc'⟩
 ·refine OkG.call (pickT_ok hc' _ (by simp)) ?_
  rintro⟨t,b',i',h'⟩ ⟨rfl,hc',ht⟩
  refine OkG.val ⟨h3.set _ ?_,rfl,hc'⟩
  simp only[List.mem_cons,List.not_mem_nil,or_false] at ht
  show t.size≤200
  rcases ht with rfl|rfl|rfl|rfl <;> decide
 ·rw[tkx_ok k0 (by rw[hl3];omega)]
  simp only[Option.bind_some]
  exact OkG.val ⟨⟨by simp[hl3];omega,fun m hm=>h3.names m (List.mem_of_mem_take hm)⟩,rfl,hc'⟩
 ·refine Ok.of (Ok.loop (S:=List STable×List Int×Int×Int) (fun s=>9-s.1.length) (fun s=>Ss 9 200 s.1∧s.2.1=b'∧Cu b' s.2.2.1) ?_ _ ⟨h3,rfl,hc'⟩)
  rintro⟨s,b',i',h'⟩ ⟨hs,rfl,hc'⟩ G hG
  simp only at hs
  have hsl:=hs.len
  unfold L_30
  refine OkG.call (below_ok hc' _ 2) ?_
  rintro⟨r2,b',i',h'⟩ ⟨rfl,hc',q0,q1⟩
  have q1':=q1 (by decide)
  simp only at q0 q1' ⊢
  have hw:IntKind.i64.wrap (8+r2)=8+r2:=wrap_sml (by omega) (by omega)
  rw[hw]
  refine OkG.bif (fun hb=>?_) (fun _=>OkG.val ⟨hs,rfl,hc'⟩)
  have hb':=of_decide_eq_true hb
  refine OkG.call (num_ok (by omega) (by omega)) ?_
  intro t ht
  have ha:∃z,addx (⟨#[122]⟩:ByteArray) t=some z∧z.size=1+t.size:=by
   have hsz:(⟨#[122]⟩:ByteArray).size=1:=rfl
   unfold addx
   rw[show Nat.ble ((⟨#[122]⟩:ByteArray).size+t.size) 4611686018427387904=true from by rw[hsz,Nat.ble_eq];omega]
   exact⟨_,rfl,by rw[ByteArray.size_append,hsz]⟩
  obtain⟨z,hz,hzs⟩:=ha
  rw[hz]
  simp only[Option.bind_some]
  rw[apx_some (by simp;omega)]
  simp only[Option.bind_some]
  refine hG _ ⟨⟨by simp;omega,?_⟩,rfl,hc'⟩ (by simp;omega)
  intro m hm
  rcases List.mem_append.1 hm with hm|hm
  ·exact hs.names m hm
  ·rw[List.mem_singleton.1 hm];simp only;omega
 ·exact OkG.val ⟨h3,rfl,hc'⟩))
theorem draw8_ok {code:List Int}(hl:code.length≤1073741824):Ok (F_44 code) (fun y=>y.1=code∧Cu code y.2.1∧Ss 9 200 y.2.2.2.1∧Sm 4101 4 y.2.2.2.2):=(U_42 code).ok (OkG.out (by
 have h3:Ss 9 200 tabs3:=tabs3_ok.mono (by decide) (by decide)
 refine OkG.call (new_ok hl) ?_
 rintro⟨b',i',h'⟩ ⟨rfl,hc'⟩
 rw[tables_ok]
 simp only[Option.bind_some]
 refine OkG.join (fun s=>Ss 9 200 s.1∧s.2.1=b'∧Cu b' s.2.2.1) ?_ ?_
 ·refine OkG.call (once_ok hc' _ 15) ?_
  rintro⟨r,b',i',h'⟩ ⟨rfl,hc'⟩
  refine OkG.bif (fun _=>?_) (fun _=>OkG.val ⟨h3,rfl,hc'⟩)
  refine OkG.call (schema_ok hc' _) ?_
  rintro⟨s,b',i',h'⟩ ⟨hs,rfl,hc'⟩
  exact OkG.val ⟨hs,rfl,hc'⟩
 ·rintro⟨s,b',i',h'⟩ ⟨hs,rfl,hc'⟩
  unfold J_4s
  refine OkG.call (rich_ok hc' _ hl) ?_
  rintro⟨p,b',i',h'⟩ ⟨hp,rfl,hc'⟩
  refine OkG.call (slots_ok hc' _ hp (by decide) (by decide)) ?_
  rintro⟨p2,b',i',h'⟩ ⟨hp2,rfl,hc'⟩
  refine OkG.call (once_ok hc' _ 15) ?_
  rintro⟨r,b',i',h'⟩ ⟨rfl,hc'⟩
  refine OkG.bif (fun _=>?_) (fun _=>OkG.val ⟨rfl,hc',hs,hp2.mono (by decide) (by decide)⟩)
  refine OkG.call (break_ok hc' _ hp2 (by decide) (by decide)) ?_
  rintro⟨p3,b',i',h'⟩ ⟨hp3,rfl,hc'⟩
  exact OkG.val ⟨rfl,hc',hs,hp3⟩))
theorem step_ok {b:List Int}{i:Int}(hc:Cu b i)(h:Int){s:List STable}(hs:BSch s){p:List SNode}(hp:BPlan p):Ok (F_47 b i h s p) (fun y=>y.2.1=b∧Cu b y.2.2.1):=(U_45 b i h s p).ok (OkG.out (by
 rw[V_32 hs hp]
 simp only[Option.bind_some]
 refine OkG.join (fun t=>(t.1=true→0<(stepsM s p).length)∧t.2.1=b∧Cu b t.2.2.1) ?_ ?_
 ·refine OkG.bif (fun h0=>?_) (fun _=>OkG.val ⟨fun h=>(by cases h),rfl,hc⟩)
  have h0':=of_decide_eq_true h0
  refine OkG.call (below_ok hc _ 4) ?_
  rintro⟨r,b',i',h'⟩ ⟨rfl,hc',_⟩
  exact OkG.val ⟨fun _=>by omega,rfl,hc'⟩
 ·rintro⟨t,b',i',h'⟩ ⟨ht,rfl,hc'⟩
  unfold J_4r
  refine OkG.bif (fun h0=>?_) (fun _=>?_)
  ·have hpos:=ht h0
   refine OkG.call (below_ok hc' _ _) ?_
   rintro⟨k,b',i',h'⟩ ⟨rfl,hc',k0,k1⟩
   have k1':=k1 (by omega)
   simp only at k0 k1' ⊢
   obtain⟨n,en,hn⟩:=ix_ex k0 k1'
   simp only[en,Option.bind_some]
   exact OkG.val ⟨rfl,hc'⟩
  ·refine OkG.call (below_ok hc' _ _) ?_
   rintro⟨r,b',i',h'⟩ ⟨rfl,hc',_⟩
   refine OkG.call (below_ok hc' _ _) ?_
   rintro⟨r,b',i',h'⟩ ⟨rfl,hc',_⟩
   exact OkG.val ⟨rfl,hc'⟩))
end Go.Proofs.YtkbcahfajbdgnaaGreatDoorX
namespace Go.Proofs.YtkbcahfajbdgnaaGreatDoorX
open Go Go.Proofs.YtkbcahfajbdgnaaGreatDoorT PT
set_option linter.all false
theorem applyM_false {s:List Tb}{p:List Nd}{x:Sp}(h:(applyM s p x).2=false):(applyM s p x).1=p:=by
 unfold applyM at h ⊢
 split
 ·rename_i h0
  rw[if_pos h0] at h
  split
  ·rfl
  ·rename_i t ht
   simp only[ht] at h
   split
   ·rfl
   ·rename_i u hu
    simp only[hu] at h
    split
    ·rfl
    ·rename_i u' hu'
     simp only[hu'] at h
     split
     ·rename_i hok
      rw[if_pos hok] at h
      cases h
     ·rfl
 ·rfl
theorem nodeOk_cols6 {n:Nd}(h:nodeOk n=true):n.2.2.2.2.2.2.1.length≤6:=by
 obtain⟨k,name,col,op,num,slot,cols,u⟩:=n
 simp only[nodeOk] at h
 simp only[Bool.and_eq_true] at h
 obtain⟨⟨⟨⟨_,h2⟩,_⟩,_⟩,h5⟩:=h
 by_cases hk:k=2
 ·subst hk
  rw[if_neg (by decide),if_neg (by decide),if_pos rfl] at h5
  simp only[Bool.and_eq_true] at h5
  have:=okIn_iff.1 h5.1.1.1.2
  simp only;omega
 ·simp[hk] at h2
  simp[h2]
theorem typed_bp2 {s:List Tb}{p:List Nd}(h:typedOk s p=true):BP2 p:=by
 obtain⟨t,rfl,ht⟩:=typedOk_iff.1 h
 refine⟨ht.plan.bplan.len,fun n hn=>?_⟩
 have:=nodeOk_cols6 (ht.plan.nodes n hn)
 omega
theorem Sm.bp2 {N c:Nat}{p:List Nd}(h:Sm N c p)(h1:N≤1073741824)(h2:c≤1073741824):BP2 p:=⟨Nat.le_trans h.len h1,fun n hn=>by have:=(h.nodes n hn).2;omega⟩
theorem big_ok (code:List Int):F_2o code=some (decide ((code.length:Int)>1048576)):=(U_1l code).out rfl
end Go.Proofs.YtkbcahfajbdgnaaGreatDoorX
namespace Go.Proofs.YtkbcahfajbdgnaaGreatDoorX
open Go Go.Proofs.YtkbcahfajbdgnaaGreatDoorT PT
set_option linter.all false
inductive Chain (s:List Tb) (rules:List Int):List Nd→List Sp→List Nd→Prop where
 |nil (p:List Nd):Chain s rules p [] p
 |cons {p p' q:List Nd}{x:Sp}{xs:List Sp}(hp:typedOk s p=true)(ha:applyM s p x=(p',true))(hr:hasR rules x=true)(h:Chain s rules p' xs q):Chain s rules p (x::xs) q
theorem Chain.rows {s:List Tb}{rules:List Int}{st:List Rows}(hst:storeOk s st=true){p q:List Nd}{xs:List Sp}(h:Chain s rules p xs q):rowsM s st q=rowsM s st p:=by
 induction h with
 |nil p=>rfl
 |cons hp ha hr h ih=>rw[ih,step_rows hst hp ha]
theorem Chain.differs {s:List Tb}{rules:List Int}{p q:List Nd}{xs:List Sp}(h:Chain s rules p xs q) (n:Int):differs s p q n=-1:=by
 unfold Go.Proofs.YtkbcahfajbdgnaaGreatDoorX.differs
 cases okIn n 0 50 with
 |false=>rfl
 |true=>
  rw[cond_true,findI_none.2]
  ·rfl
  ·rw[List.any_eq_false]
   intro i _
   unfold diffP
   by_cases h1:(evalPlan s (storeFrom s i) p).2=0
   ·by_cases h2:(evalPlan s (storeFrom s i) q).2=0
    ·obtain⟨a1,a2⟩:=eval_rows h1
     obtain⟨_,b2⟩:=eval_rows h2
     simp[a2,b2,h.rows a1]
    ·simp[h2]
   ·simp[h1]
end Go.Proofs.YtkbcahfajbdgnaaGreatDoorX
namespace Go.Proofs.YtkbcahfajbdgnaaGreatDoorX
open Go Go.Proofs.YtkbcahfajbdgnaaGreatDoorT
set_option linter.all false
def bA (l:List UInt8):ByteArray:=⟨l.toArray⟩
theorem bA_app (a b:List UInt8):bA a++bA b=bA (a++b):=by
 apply ByteArray.ext
 simp[bA]
theorem bA_size (a:List UInt8):(bA a).size=a.length:=by simp[bA,ByteArray.size]
theorem bA_data (t:ByteArray):bA t.data.toList=t:=by apply ByteArray.ext;simp[bA]
theorem digit_byte {u:Nat}(h:u<10):bsOf [IntKind.u8.wrap (IntKind.i64.wrap (48+(u:Int)))]=bA [UInt8.ofNat (48+u)]:=by
 have h1:IntKind.i64.wrap (48+(u:Int))=48+u:=wrap_sml (by omega) (by omega)
 have h2:IntKind.u8.wrap (48+(u:Int))=48+u:=by
  have:u=0∨u=1∨u=2∨u=3∨u=4∨u=5∨u=6∨u=7∨u=8∨u=9:=by omega
  rcases this with rfl|rfl|rfl|rfl|rfl|rfl|rfl|rfl|rfl|rfl <;> rfl
 rw[h1,h2]
 have h3:(48+(u:Int)).toNat=48+u:=by omega
 apply ByteArray.ext
 simp[bsOf,bA,h3]
theorem decDigits_small {u:Nat}(h:u<10):Lib.decDigits u=[UInt8.ofNat (48+u)]:=by rw[Lib.decDigits,dif_pos h]
theorem decDigits_big {u:Nat}(h:¬u<10):Lib.decDigits u=Lib.decDigits (u / 10)++[UInt8.ofNat (48+u % 10)]:=by rw[Lib.decDigits,dif_neg h]
def digs (u:Nat) (t:List UInt8):List UInt8:=if u=0 then t else Lib.decDigits u++t
theorem digs_step {u:Nat}(h:u≠0) (t:List UInt8):digs (u / 10) (UInt8.ofNat (48+u % 10)::t)=digs u t:=by
 unfold digs
 rw[if_neg h]
 by_cases hs:u<10
 ·rw[if_pos (by omega),decDigits_small hs,Nat.mod_eq_of_lt hs];rfl
 ·rw[if_neg (by omega),decDigits_big hs];simp
theorem addx_bA {a b:List UInt8}(h:a.length+b.length≤4611686018427387904):addx (bA a) (bA b)=some (bA (a++b)):=by
 unfold addx
 rw[bA_size,bA_size,Nat.ble_eq_true_of_le h,cond_true,bA_app]
theorem tmod_abs (v:Int):v.tmod 10=if v<0 then -((v.natAbs % 10:Nat):Int) else((v.natAbs % 10:Nat):Int):=by
 by_cases h:v<0
 ·rw[if_pos h]
  obtain⟨u,rfl⟩:∃u:Nat,v=-(u:Int):=⟨v.natAbs,by omega⟩
  rw[Int.neg_tmod]
  simp[Int.natAbs_neg]
  rfl
 ·rw[if_neg h]
  obtain⟨u,rfl⟩:∃u:Nat,v=(u:Int):=⟨v.natAbs,by omega⟩
  rfl
theorem tdiv_abs (v:Int):(v.tdiv 10).natAbs=v.natAbs / 10:=by
 rw[Int.natAbs_tdiv];rfl
theorem num_loop (v:Int) (t:ByteArray) (k:Nat)(h0:-9223372036854775808≤v)(h1:v≤9223372036854775807)(hk:v.natAbs<10 ^ k)(ht:t.size+k≤100) :
  loopF (fun f s=>L_1x f s.1 s.2) (v,t)=some (.go (bA (digs v.natAbs t.data.toList))):=by
 refine loopF_ind (S:=Int×ByteArray) (A:=Ex ByteArray ByteArray) (fun s=>s.1.natAbs) (fun s=>-9223372036854775808≤s.1∧s.1≤9223372036854775807∧∃k,s.1.natAbs<10 ^ k∧s.2.size+k≤100) (fun s=>.go (bA (digs s.1.natAbs s.2.data.toList))) ?_ (v,t) ⟨h0,h1,k,hk,ht⟩
 rintro⟨v,t⟩ ⟨h0,h1,k,hk,ht⟩ g hg
 simp only at h0 h1 hk ht ⊢
 unfold L_1x
 by_cases hv:v=0
 ·subst hv
  simp[digs,bA_data]
 ·have hb:(v != 0)=true:=bne_iff_ne.2 hv
  have hk1:k≠0:=by rintro rfl;simp at hk;omega
  obtain⟨k',rfl⟩:=Nat.exists_eq_succ_of_ne_zero hk1
  have hu:v.natAbs % 10<10:=Nat.mod_lt _ (by decide)
  have hrem:remx v 10=some (v.tmod 10):=rfl
  have hd:(joinK (bif decide (v.tmod 10<0) then some (Ex.go (R:=Ex ByteArray ByteArray) (IntKind.i64.wrap (0-v.tmod 10))) else some (.go (v.tmod 10))) fun s=>J_2 v t g s)=J_2 v t g ((v.natAbs % 10:Nat):Int):=by
   rw[tmod_abs]
   by_cases hn:v<0
   ·rw[if_pos hn]
    by_cases hz:v.natAbs % 10=0
    ·simp[hz]
    ·have:decide (-((v.natAbs % 10:Nat):Int)<0)=true:=by simp;omega
     rw[this,cond_true,joinK_go,show 0 - -((v.natAbs % 10:Nat):Int)=((v.natAbs % 10:Nat):Int) by omega,wrap_sml (by omega) (by omega)]
   ·rw[if_neg hn]
    have:decide (((v.natAbs % 10:Nat):Int)<0)=false:=by simp;omega
    rw[this,cond_false,joinK_go]
  have hq:quox v 10=some (v.tdiv 10):=by
   unfold quox
   have hab:=tdiv_abs v
   rw[show((10:Int)==0)=false from rfl,cond_false,wrap_sml (by omega) (by omega)]
  have hpw:10 ^ (k'+1)=10*10 ^ k':=by rw[Nat.pow_succ];omega
  have hab:=tdiv_abs v
  rw[hb,cond_true,hrem,Option.bind_some,hd]
  unfold J_2
  rw[digit_byte hu]
  have ha:addx (bA [UInt8.ofNat (48+v.natAbs % 10)]) t=some (bA (UInt8.ofNat (48+v.natAbs % 10)::t.data.toList)):=by
   have:=addx_bA (a:=[UInt8.ofNat (48+v.natAbs % 10)]) (b:=t.data.toList) (by simp;have:t.data.size=t.size:=rfl;omega)
   rw[bA_data] at this
   exact this
  rw[ha,hq]
  simp only[Option.bind_some]
  rw[hg _ ⟨by simp only;omega,by simp only;omega,k',by simp only;omega,by simp only[bA_size,List.length_cons,Array.length_toList];have:t.data.size=t.size:=rfl;omega⟩ (by simp only;omega)]
  simp only[hab]
  rw[show(bA (UInt8.ofNat (48+v.natAbs % 10)::t.data.toList)).data.toList=UInt8.ofNat (48+v.natAbs % 10)::t.data.toList by simp[bA],digs_step (by omega)]
theorem nDigits_le:∀(k u:Nat),u<10 ^ (k+1)→Lib.nDigits u≤k+1
 |0,u,h=>by rw[Lib.nDigits_small (by simpa using h)];omega
 |k+1,u,h=>by
  by_cases hs:u<10
  ·rw[Lib.nDigits_small hs];omega
  ·rw[Lib.nDigits_big hs]
   have:10 ^ (k+1+1)=10*10 ^ (k+1):=by rw[Nat.pow_succ];omega
   have:=nDigits_le k (u / 10) (by omega)
   omega
theorem dec_len {u:Nat}(h:u<100000000000000000000):(Lib.decDigits u).length≤20:=by
 rw[Lib.decDigits_length]
 exact nDigits_le 19 u h
def numT (a:Int):ByteArray:=bA (Lib.itoa a)
theorem V_37 {a:Int}(h0:-9223372036854775808≤a)(h1:a≤9223372036854775807):F_10 a=some (numT a):=(U_5 a).out (by
 unfold numT Lib.itoa
 by_cases ha:a=0
 ·subst ha
  simp[decDigits_small]
  rfl
 ·have hb:(a==0)=false:=by simp[ha]
  rw[hb,cond_false,num_loop a ByteArray.empty 19 h0 h1 (by omega) (by decide),joinK_go]
  unfold J_i digs
  have hn:¬a.natAbs=0:=by omega
  rw[if_neg hn]
  have he:ByteArray.empty.data.toList=[]:=rfl
  rw[he,List.append_nil]
  by_cases hneg:a<0
  ·have hm:(⟨#[45]⟩:ByteArray)=bA [45]:=rfl
   have hl:(Lib.decDigits a.natAbs).length≤20:=dec_len (by omega)
   rw[decide_eq_true hneg,cond_true,if_pos hneg,hm,addx_bA (by simp;omega)]
   rfl
  ·rw[decide_eq_false hneg,cond_false,if_neg hneg,show a.toNat=a.natAbs by omega])
end Go.Proofs.YtkbcahfajbdgnaaGreatDoorX
namespace Go.Proofs.YtkbcahfajbdgnaaGreatDoorX
open Go Go.Proofs.YtkbcahfajbdgnaaGreatDoorT PT
set_option linter.all false
def cellT (v:Int):List UInt8:=if v=-2000000 then[45] else Lib.itoa v
def rowT (row:List Int):List UInt8:=if row=[] then[40,41] else Lib.join (row.map cellT) [44]
theorem itoa_len {a:Int}(h0:-9223372036854775808≤a)(h1:a≤9223372036854775807):(Lib.itoa a).length≤21:=by
 unfold Lib.itoa
 split
 ·have:=dec_len (u:=a.natAbs) (by omega);simp;omega
 ·have:=dec_len (u:=a.toNat) (by omega);omega
def VB (r:List Int):Prop:=∀v∈r,-2000000≤v∧v≤1000000
theorem cellT_len {v:Int}(h:-2000000≤v∧v≤1000000):(cellT v).length≤21:=by
 unfold cellT
 split
 ·simp
 ·exact itoa_len (by omega) (by omega)
theorem lens_le {T:Type}(f:T→List UInt8) (b:Nat):∀(l:List T),(∀x∈l,(f x).length≤b)→Lib.lens (l.map f)≤b*l.length
 |[],_=>by simp[Lib.lens]
 |x::l,h=>by
  have h1:=h x (by simp)
  have h2:=lens_le f b l (fun y hy=>h y (by simp[hy]))
  simp only[Lib.lens,List.map_cons,List.sum_cons,List.length_cons] at h2 ⊢
  rw[Nat.mul_succ]
  omega
theorem joinT_len {T:Type}(f:T→List UInt8) (b:Nat) (l:List T)(h:∀x∈l,(f x).length≤b):(Lib.join (l.map f) [44]).length≤(b+1)*l.length:=by
 cases l with
 |nil=>simp[Lib.join_nil]
 |cons x l=>
  have:=lens_le f b (x::l) h
  rw[List.map_cons,Lib.join_length,←List.map_cons]
  have e:(b+1)*(x::l).length=b*(x::l).length+(x::l).length:=by rw[Nat.add_mul,Nat.one_mul]
  rw[e]
  simp only[List.length_cons,List.length_nil,List.length_map] at this ⊢
  omega
theorem rowT_len {r:List Int}(h:VB r):(rowT r).length≤2+22*r.length:=by
 unfold rowT
 split
 ·simp
 ·have:=joinT_len cellT 21 r (fun x hx=>cellT_len (h x hx));omega
theorem join_snoc (l:List (List UInt8)) (x:List UInt8)(h:l≠[]):Lib.join (l++[x]) [44]=Lib.join l [44]++44::x:=by
 obtain⟨y,l,rfl⟩:=List.exists_cons_of_ne_nil h
 rw[List.cons_append,Lib.join_cons,Lib.join_cons]
 simp[Lib.joinTail]
def VR (x:Rows):Prop:=∀r∈x,VB r
theorem valOk_vb {v:Int}(h:valOk v=true):-2000000≤v∧v≤1000000:=by
 unfold valOk at h
 rw[Bool.or_eq_true] at h
 rcases h with h|h
 ·have:=okIn_iff.1 h;omega
 ·have:=of_decide_eq_true h;omega
theorem vb_kc {c:Int}{r:List Int}(h:VB r):-2000000≤kc c r∧kc c r≤1000000:=by
 unfold kc
 rw[List.getD_eq_getElem?_getD]
 cases hx:r[c.toNat]? with
 |none=>simp
 |some v=>simpa using h v (List.mem_of_getElem? hx)
theorem VR.op1 {n:Nd}{x:Rows}(h:VR x):VR (op1 n x):=by
 unfold Go.Proofs.YtkbcahfajbdgnaaGreatDoorX.op1
 split
 ·rw[filterR_eq];exact fun r hr=>h r (List.mem_filter.1 hr).1
 ·split
  ·intro r hr
   unfold keepR at hr
   obtain⟨r',hr',rfl⟩:=List.mem_map.1 hr
   intro v hv
   obtain⟨c,_,rfl⟩:=List.mem_map.1 hv
   exact vb_kc (h r' hr')
  ·split
   ·exact fun r hr=>h r (srt_mem.1 hr)
   ·split
    ·exact fun r hr=>h r (List.mem_of_mem_take hr)
    ·exact fun r hr=>h r ((onceR_sublist x).subset hr)
theorem VR.op2 {n:Nd}{x y:Rows}(h:VR x) (k:VR y):VR (op2 n x y):=by
 unfold Go.Proofs.YtkbcahfajbdgnaaGreatDoorX.op2
 split
 ·intro r hr
  unfold joinR at hr
  obtain⟨a,ha,hr⟩:=List.mem_flatMap.1 hr
  obtain⟨b,hb,hr⟩:=List.mem_flatMap.1 hr
  cases hc:!(decide (kc n.2.2.1 a=-2000000))&&decide (kc n.2.2.1 a=kc n.2.2.2.2.1 b) with
  |false=>rw[hc] at hr;simp at hr
  |true=>
   rw[hc] at hr
   simp at hr
   subst hr
   intro v hv
   rcases List.mem_append.1 hv with hv|hv
   ·exact h a ha v hv
   ·exact k b hb v hv
 ·intro r hr
  rcases List.mem_append.1 hr with hr|hr
  ·exact h r hr
  ·exact k r hr
theorem storeOk_vr {s:List Tb}{st:List Rows}(h:storeOk s st=true):∀t∈st,VR t:=by
 unfold storeOk at h
 simp only[Bool.and_eq_true] at h
 intro t ht r hr v hv
 obtain⟨i,hi⟩:=List.getElem?_of_mem ht
 have hp:=allI_get h.2 hi
 unfold storeP at hp
 split at hp
 ·simp only[Bool.and_eq_true] at hp
  have h2:=List.all_eq_true.1 hp.2 r hr
  unfold rowP at h2
  rw[Bool.and_eq_true] at h2
  exact valOk_vb (List.all_eq_true.1 h2.2 v hv)
 ·cases hp
theorem evR_vr {s:List Tb}{st:List Rows}(h:∀t∈st,VR t):∀t:PT,VR (evR s st t)
 |.n0 n=>by
  unfold evR
  split
  ·rename_i j _
   cases hx:st[j]? with
   |none=>intro r hr;simp at hr
   |some t=>simpa using h t (List.mem_of_getElem? hx)
  ·intro r hr;simp at hr
 |.n1 n a=>VR.op1 (evR_vr h a)
 |.n2 n a b=>VR.op2 (evR_vr h a) (evR_vr h b)
theorem evalPlan_vr (s:List Tb) (st:List Rows) (p:List Nd):VR (evalPlan s st p).1:=by
 by_cases h:(evalPlan s st p).2=0
 ·obtain⟨a1,a2⟩:=eval_rows h
  rw[a2]
  unfold rowsM
  split
  ·exact evR_vr (storeOk_vr a1) _
  ·intro r hr;simp at hr
 ·have:(evalPlan s st p).1=[]:=by
   unfold evalPlan at h ⊢
   split
   ·rename_i hc
    rw[if_pos hc] at h
    split
    ·rename_i t ht
     simp only[ht] at h
     split
     ·rename_i x hx
      simp[hx] at h
     ·rfl
    ·rfl
   ·rfl
  rw[this]
  intro r hr;simp at hr
end Go.Proofs.YtkbcahfajbdgnaaGreatDoorX
namespace Go.Proofs.YtkbcahfajbdgnaaGreatDoorX
open Go Go.Proofs.YtkbcahfajbdgnaaGreatDoorT
set_option linter.all false
@[simp] theorem bA_list (l:List UInt8):(bA l).data.toList=l:=by simp[bA]
theorem addx_g {a b:ByteArray}(h:a.size+b.size≤4611686018427387904):addx a b=some (bA (a.data.toList++b.data.toList)):=by
 have:=addx_bA (a:=a.data.toList) (b:=b.data.toList) (by simp only[Array.length_toList];exact h)
 rwa [bA_data,bA_data] at this
theorem size_list (a:ByteArray):a.size=a.data.toList.length:=by rw[Array.length_toList];rfl
theorem V_3h {a:Int}(h0:-9223372036854775808≤a)(h1:a≤9223372036854775807):F_4a a=some (numT a):=(U_4a a).out (by
 unfold itoaF
 rw[decide_eq_true h0,decide_eq_true h1]
 rfl)
theorem V_25 {a:Int}(h0:-9223372036854775808≤a)(h1:a≤9223372036854775807):F_2j a=some (numT a):=(U_1d a).out (by rw[V_3h h0 h1];rfl)
theorem V_3i {xs:List ByteArray}{sep:ByteArray}(h1:xs.length≤140737488355328)(h2:(Lib.join (xs.map (·.data.toList)) sep.data.toList).length≤140737488355328):F_4b xs sep=some (bA (Lib.join (xs.map (·.data.toList)) sep.data.toList),xs):=(U_4b xs sep).out (by
 unfold joinF
 rw[Nat.ble_eq_true_of_le h1,Nat.ble_eq_true_of_le h2]
 rfl)
theorem V_z {r:List Int}(hl:r.length≤1073741824)(h:VB r):F_18 r=some (bA (rowT r)):=(U_o r).out (by
 unfold rowT
 by_cases h0:r=[]
 ·subst h0;rfl
 ·have hz:((r.length:Int)==0)=false:=by simp[h0]
  have e:=loop_map (f:=fun f s=>L_m r f s.1 s.2) r (fun v=>bA (cellT v)) (by omega)
   (fun i v a g hx ha=>by
    have l1:=(List.getElem?_eq_some_iff.1 hx).1
    have hv:=h v (mem_of_get hx)
    have hw:=wrap_nat (show i<9223372036854775807 by omega)
    simp only[L_m,lt_nat hx,cond_true,ix_some hx,Option.bind_some]
    by_cases hn:v=-2000000
    ·subst hn
     rw[show((-2000000:Int)==-2000000)=true from rfl,cond_true,apx_some (by simp[ha];omega)]
     simp only[Option.bind_some,joinK_go,J_a,hw]
     rfl
    ·rw[show(v==-2000000)=false by simp[hn],cond_false,V_25 (by omega) (by omega),Option.bind_some,apx_some (by simp[ha];omega)]
     simp only[Option.bind_some,joinK_go,J_a,hw,numT,cellT,if_neg hn])
   (fun a g=>by simp[L_m])
  have hm:(r.map fun v=>bA (cellT v)).map (·.data.toList)=r.map cellT:=by simp
  have hj:=joinT_len cellT 21 r (fun v hv=>cellT_len (h v hv))
  have hc:(⟨#[44]⟩:ByteArray).data.toList=[44]:=rfl
  rw[hz,cond_false,e,joinK_go,if_neg h0]
  unfold J_12
  rw[V_3i (by simp;omega) (by rw[hm,hc];omega),hm,hc]
  rfl)
theorem take_join (r:List Int){k:Nat}{v:Int}(hv:r[k]?=some v):Lib.join ((r.take (k+1)).map cellT) [44]=if k=0 then cellT v else Lib.join ((r.take k).map cellT) [44]++44::cellT v:=by
 have e:r.take (k+1)=r.take k++[v]:=by rw[List.take_add_one,hv];rfl
 rw[e,List.map_append,List.map_cons,List.map_nil]
 have l1:=(List.getElem?_eq_some_iff.1 hv).1
 by_cases hk:k=0
 ·subst hk
  simp[Lib.join_one]
 ·rw[if_neg hk,join_snoc]
  intro h
  have:=congrArg List.length h
  rw[List.length_map,List.length_take,List.length_nil] at this
  omega
theorem V_19 {r:List Int}(hl:r.length≤1073741824)(h:VB r):F_1m r=some (bA (rowT r)):=(U_2s r).out (by
 unfold rowT
 by_cases h0:r=[]
 ·subst h0;rfl
 ·have hz:((r.length:Int)==0)=false:=by simp[h0]
  have key:∀k,k≤r.length→(Lib.join ((r.take k).map cellT) [44]).length≤22*k:=by
   intro k hk
   have:=joinT_len cellT 21 (r.take k) (fun v hv=>cellT_len (h v (List.mem_of_mem_take hv)))
   rw[List.length_take,Nat.min_eq_left hk] at this
   exact this
  have e:=loopF_ind (S:=ByteArray×Int) (A:=Ex ByteArray ByteArray) (f:=fun f s=>L_2r r f s.1 s.2) (fun s=>r.length-s.2.toNat) (fun s=>∃k:Nat,s.2=k∧k≤r.length∧s.1=bA (Lib.join ((r.take k).map cellT) [44]))
   (fun _=>.go (bA (Lib.join (r.map cellT) [44]))) (by
    rintro⟨t,i⟩ ⟨k,hk,hkl,ht⟩ g hg
    simp only at hk ht
    subst hk ht
    simp only[L_2r]
    by_cases hlt:k<r.length
    ·have hx:=List.getElem?_eq_getElem hlt
     have hv:=h r[k] (mem_of_get hx)
     have hw:=wrap_nat (show k<9223372036854775807 by omega)
     have hkk:=key k hkl
     have hcl:=cellT_len hv
     rw[lt_nat hx,cond_true]
     have pre:(joinK (bif decide ((k:Int)>0) then(addx (bA (Lib.join ((r.take k).map cellT) [44])) (⟨#[44]⟩:ByteArray)).bind (fun z3=>some (Ex.go (R:=Ex (Ex ByteArray ByteArray) ByteArray) z3)) else some (.go (bA (Lib.join ((r.take k).map cellT) [44])))) fun s=>J_1 r k s) =
       J_1 r k (bA (Lib.join ((r.take k).map cellT) [44]++if k=0 then[] else[44])):=by
      by_cases hk0:k=0
      ·subst hk0;simp
      ·rw[show decide ((k:Int)>0)=true by simp;omega,cond_true,addx_g (by rw[bA_size];show _+1≤_;omega),if_neg hk0]
       simp only[Option.bind_some,joinK_go,bA_list]
     rw[pre]
     have post:J_1 r k (bA (Lib.join ((r.take k).map cellT) [44]++if k=0 then[] else[44]))=some (.go (bA (Lib.join ((r.take (k+1)).map cellT) [44]))):=by
      have hsz:(bA (Lib.join ((r.take k).map cellT) [44]++if k=0 then[] else[44])).size≤22*k+1:=by
       rw[bA_size,List.length_append]
       split <;> simp only[List.length_nil,List.length_cons] <;> omega
      rw[take_join r hx]
      unfold J_1
      rw[ix_some hx]
      simp only[Option.bind_some]
      have fin:∀c:ByteArray,c.data.toList=cellT r[k]→addx (bA (Lib.join ((r.take k).map cellT) [44]++if k=0 then[] else[44])) c=some (bA (if k=0 then cellT r[k] else Lib.join ((r.take k).map cellT) [44]++44::cellT r[k])):=by
       intro c hc
       have hcs:c.size≤21:=by rw[size_list,hc];exact hcl
       rw[addx_g (by omega),bA_list,hc]
       by_cases hk0:k=0
       ·subst hk0;simp[Lib.join_nil]
       ·simp[hk0]
      by_cases hn:r[k]=-2000000
      ·rw[show(r[k]==-2000000)=true by simp[hn],cond_true,fin ⟨#[45]⟩ (by rw[cellT,if_pos hn])]
       rfl
      ·rw[show(r[k]==-2000000)=false by simp[hn],cond_false,V_37 (by omega) (by omega),Option.bind_some,fin (numT r[k]) (by rw[cellT,if_neg hn,numT,bA_list])]
       rfl
     rw[post,joinK_go,J_35,hw]
     exact hg _ ⟨k+1,rfl,by omega,rfl⟩ (by simp only;omega)
    ·have hke:k=r.length:=by omega
     subst hke
     simp) (ByteArray.empty,0) ⟨0,rfl,Nat.zero_le _,by simp[Lib.join_nil];rfl⟩
  rw[hz,cond_false,e,if_neg h0]
  rfl)
end Go.Proofs.YtkbcahfajbdgnaaGreatDoorX
namespace Go.Proofs.YtkbcahfajbdgnaaGreatDoorX
open Go Go.Proofs.YtkbcahfajbdgnaaGreatDoorT
set_option linter.all false
def rowsT (x:Rows):List UInt8:=x.flatMap fun r=>32::rowT r
def tabT (t:Tb×Rows):List UInt8:=t.1.1.data.toList++58::(rowsT t.2++[10])
def storeT (l:List (Tb×Rows)):List UInt8:=l.flatMap tabT
structure RSm (x:Rows):Prop where
 len:x.length≤40
 row:∀r∈x,VB r∧r.length≤6
theorem flat_len {T:Type}(f:T→List UInt8) (b:Nat):∀(l:List T),(∀x∈l,(f x).length≤b)→(l.flatMap f).length≤b*l.length
 |[],_=>by simp
 |x::l,h=>by
  have h1:=h x (by simp)
  have h2:=flat_len f b l (fun y hy=>h y (by simp[hy]))
  simp only[List.flatMap_cons,List.length_append,List.length_cons]
  rw[Nat.mul_succ]
  omega
theorem rowsT_len {x:Rows}(h:RSm x):(rowsT x).length≤6000:=by
 have:=flat_len (fun r=>32::rowT r) 150 x (fun r hr=>by
  have:=rowT_len (h.row r hr).1
  have:=(h.row r hr).2
  simp only[List.length_cons]
  omega)
 have:=h.len
 unfold rowsT
 omega
theorem rowsT_take {x:Rows}{k:Nat}{r:List Int}(h:x[k]?=some r):rowsT (x.take (k+1))=rowsT (x.take k)++32::rowT r:=by
 have e:x.take (k+1)=x.take k++[r]:=by rw[List.take_add_one,h];rfl
 rw[e]
 simp[rowsT]
theorem RSm.take {x:Rows}(h:RSm x) (k:Nat):RSm (x.take k):=⟨by rw[List.length_take];have:=h.len;omega,fun r hr=>h.row r (List.mem_of_mem_take hr)⟩
theorem rows_impl {x:Rows}(h:RSm x){t:List UInt8}(ht:t.length≤1000000):loopF (fun f s=>L_2i x f s.1 s.2) (bA t,0)=some (.go (bA (t++rowsT x))):=by
 refine loopF_ind (S:=ByteArray×Int) (A:=Ex (Ex (Ex ByteArray ByteArray) ByteArray) ByteArray) (fun s=>x.length-s.2.toNat) (fun s=>∃k:Nat,s.2=k∧k≤x.length∧s.1=bA (t++rowsT (x.take k)))
  (fun _=>.go (bA (t++rowsT x))) ?_ (bA t,0) ⟨0,rfl,Nat.zero_le _,by simp[rowsT]⟩
 rintro⟨b,i⟩ ⟨k,hk,hkl,hb⟩ g hg
 simp only at hk hb
 subst hk hb
 have hxl:=h.len
 simp only[L_2i]
 by_cases hlt:k<x.length
 ·have hx:=List.getElem?_eq_getElem hlt
  have hr:=h.row x[k] (mem_of_get hx)
  have hl1:=rowsT_len (h.take k)
  have hl2:=rowT_len hr.1
  rw[lt_nat hx,cond_true,ix_some hx,Option.bind_some,V_z (by omega) hr.1,Option.bind_some,addx_g (by rw[bA_size];show 1+_≤_;omega)]
  rw[Option.bind_some,addx_g (by rw[bA_size,bA_size,List.length_append,List.length_append,bA_list];show _+(1+_)≤_;omega),Option.bind_some,wrap_nat (show k<9223372036854775807 by omega)]
  exact hg _ ⟨k+1,rfl,by omega,by simp[rowsT_take hx]⟩ (by simp only;omega)
 ·have hke:k=x.length:=by omega
  subst hke
  simp
theorem rows_spec {l:List Rows}{x:Rows}{j:Nat}(hj:l[j]?=some x)(h:RSm x){t:List UInt8}(ht:t.length≤1000000):loopF (fun f s=>L_2u l j f s.1 s.2) (bA t,0)=some (.go (bA (t++rowsT x))):=by
 refine loopF_ind (S:=ByteArray×Int) (A:=Ex (Ex (Ex ByteArray ByteArray) ByteArray) ByteArray) (fun s=>x.length-s.2.toNat) (fun s=>∃k:Nat,s.2=k∧k≤x.length∧s.1=bA (t++rowsT (x.take k)))
  (fun _=>.go (bA (t++rowsT x))) ?_ (bA t,0) ⟨0,rfl,Nat.zero_le _,by simp[rowsT]⟩
 rintro⟨b,i⟩ ⟨k,hk,hkl,hb⟩ g hg
 simp only at hk hb
 subst hk hb
 have hxl:=h.len
 simp only[L_2u,ix_some hj,Option.bind_some]
 by_cases hlt:k<x.length
 ·have hx:=List.getElem?_eq_getElem hlt
  have hr:=h.row x[k] (mem_of_get hx)
  have hl1:=rowsT_len (h.take k)
  have hl2:=rowT_len hr.1
  rw[lt_nat hx,cond_true,addx_g (by rw[bA_size,List.length_append];show _+1≤_;omega),Option.bind_some]
  simp only[ix_some hx,Option.bind_some,V_19 (show x[k].length≤1073741824 by omega) hr.1]
  rw[addx_g (by rw[bA_size,bA_size,List.length_append,bA_list,List.length_append];show _+1+_≤_;omega),Option.bind_some,wrap_nat (show k<9223372036854775807 by omega)]
  exact hg _ ⟨k+1,rfl,by omega,by simp[rowsT_take hx]⟩ (by simp only;omega)
 ·have hke:k=x.length:=by omega
  subst hke
  simp
end Go.Proofs.YtkbcahfajbdgnaaGreatDoorX
namespace Go.Proofs.YtkbcahfajbdgnaaGreatDoorX
open Go Go.Proofs.YtkbcahfajbdgnaaGreatDoorT
set_option linter.all false
theorem storeOk_zip {s:List Tb}{x:List Rows}(h:storeOk s x=true):x.length=s.length∧s.length≤8∧(∀t∈s,t.1.size≤12)∧∀t∈x,RSm t:=by
 have hv:=storeOk_vr h
 unfold storeOk at h
 simp only[Bool.and_eq_true,decide_eq_true_eq] at h
 have hs:=h.1.1
 unfold schemaOk at hs
 simp only[Bool.and_eq_true,decide_eq_true_eq] at hs
 have names:∀(i:Nat) (t:Tb),s[i]?=some t→t.1.size≤12∧1≤t.2.1∧t.2.1≤6:=by
  intro i t ht
  have hp:=allI_get hs.1 ht
  unfold schP at hp
  simp only[Bool.and_eq_true] at hp
  have:=okIn_iff.1 hp.1.2
  exact⟨(wordOk_len hp.1.1).2,by omega,by omega⟩
 refine⟨h.1.2,hs.2,fun t ht=>?_,fun t ht=>?_⟩
 ·obtain⟨i,hi⟩:=List.getElem?_of_mem ht
  exact(names i t hi).1
 ·obtain⟨i,hi⟩:=List.getElem?_of_mem ht
  have hp:=allI_get h.2 hi
  unfold storeP at hp
  split at hp
  ·rename_i tb htb
   simp only[Bool.and_eq_true,decide_eq_true_eq] at hp
   refine⟨hp.1,fun r hr=>⟨hv t ht r hr,?_⟩⟩
   have h2:=List.all_eq_true.1 hp.2 r hr
   unfold rowP at h2
   rw[Bool.and_eq_true] at h2
   have h3:=of_decide_eq_true h2.1
   rw[Nat.zero_add] at htb
   have h4:=names i tb htb
   omega
  ·cases hp
theorem tabT_len {t:Tb×Rows}(h1:t.1.1.size≤12)(h2:RSm t.2):(tabT t).length≤7000:=by
 have:=rowsT_len h2
 have e:t.1.1.data.toList.length=t.1.1.size:=(size_list _).symm
 unfold tabT
 simp only[List.length_append,List.length_cons,List.length_nil]
 omega
theorem store_take {s:List Tb}{x:List Rows}{k:Nat}{t:Tb}{r:Rows}(h1:s[k]?=some t)(h2:x[k]?=some r):storeT ((s.zip x).take (k+1))=storeT ((s.zip x).take k)++tabT (t,r):=by
 have hz:(s.zip x)[k]?=some (t,r):=by
  rw[List.getElem?_zip_eq_some]
  exact⟨h1,h2⟩
 have e:(s.zip x).take (k+1)=(s.zip x).take k++[(t,r)]:=by rw[List.take_add_one,hz];rfl
 rw[e]
 simp[storeT]
theorem store_take_len {s:List Tb}{x:List Rows}(hn:∀t∈s,t.1.size≤12)(hr:∀t∈x,RSm t)(hl:s.length≤8) (k:Nat):(storeT ((s.zip x).take k)).length≤56000:=by
 have:=flat_len tabT 7000 ((s.zip x).take k) (fun t ht=>by
  have hm:=List.mem_of_mem_take ht
  have:=List.of_mem_zip (a:=t.1) (b:=t.2) hm
  exact tabT_len (hn _ this.1) (hr _ this.2))
 have h2:((s.zip x).take k).length≤8:=by rw[List.length_take,List.length_zip];omega
 unfold storeT
 omega
def storeText (s:List Tb) (x:List Rows):ByteArray:=if storeOk s x=true then bA (storeT (s.zip x)) else ByteArray.empty
theorem V_20 {s:List STable}{x:List Rows}(hs:BSch s)(hb:BRows x):F_2b s x=some (storeText s x):=(U_y s x).out (by
 rw[V_p hs hb]
 unfold storeText
 cases h:storeOk s x with
 |false=>rfl
 |true=>
  obtain⟨hl,h8,hn,hr⟩:=storeOk_zip h
  have e:=loopF_ind (S:=ByteArray×Int) (A:=Ex ByteArray ByteArray) (f:=fun f z=>L_2h s x f z.1 z.2) (fun z=>s.length-z.2.toNat) (fun z=>∃k:Nat,z.2=k∧k≤s.length∧z.1=bA (storeT ((s.zip x).take k)))
   (fun _=>.go (bA (storeT (s.zip x)))) (by
    rintro⟨b,i⟩ ⟨k,hk,hkl,ht⟩ g hg
    simp only at hk ht
    subst hk ht
    simp only[L_2h]
    by_cases hlt:k<s.length
    ·have hx:=List.getElem?_eq_getElem hlt
     have hx2:x[k]?=some x[k]:=List.getElem?_eq_getElem (by omega)
     have hw:=wrap_nat (show k<9223372036854775807 by omega)
     have hlen:=store_take_len hn hr h8 k
     have hnm:=hn s[k] (mem_of_get hx)
     have hrk:=hr x[k] (mem_of_get hx2)
     have hrl:=rowsT_len hrk
     have hel:s[k].1.data.toList.length=s[k].1.size:=(size_list _).symm
     have h58:(⟨#[58]⟩:ByteArray).data.toList=[58]:=rfl
     have h10:(⟨#[10]⟩:ByteArray).data.toList=[10]:=rfl
     rw[lt_nat hx,cond_true,ix_some hx,Option.bind_some,addx_g (by show s[k].1.size+1≤_;omega),Option.bind_some,addx_g (by rw[bA_size,bA_size,List.length_append,h58];simp only[List.length_cons,List.length_nil];omega),Option.bind_some,ix_some hx2,Option.bind_some]
     simp only[bA_list,h58]
     rw[rows_impl hrk (by simp only[List.length_append,List.length_cons,List.length_nil];omega)]
     simp only[joinK_go,J_1h]
     rw[addx_g (by rw[bA_size];simp only[List.length_append,List.length_cons,List.length_nil];show _+1≤_;omega)]
     simp only[Option.bind_some,joinK_go,J_1g,hw,bA_list,h10]
     exact hg _ ⟨k+1,rfl,by omega,by rw[store_take hx hx2];simp[tabT]⟩ (by simp only;omega)
    ·have hke:k=s.length:=by omega
     subst hke
     have:(s.zip x).take s.length=s.zip x:=List.take_of_length_le (by rw[List.length_zip];omega)
     simp[this]) (ByteArray.empty,0) ⟨0,rfl,Nat.zero_le _,by simp[storeT];rfl⟩
  simp only[Option.bind_some,Bool.not_true,cond_false,e,joinK_go,if_true]
  rfl)
theorem V_33 {s:List STable}{x:List Rows}(hs:BSch s)(hb:BRows x):F_3p s x=some (storeText s x):=(U_33 s x).out (by
 rw[V_1c hs hb]
 unfold storeText
 cases h:storeOk s x with
 |false=>rfl
 |true=>
  obtain⟨hl,h8,hn,hr⟩:=storeOk_zip h
  have e:=loopF_ind (S:=ByteArray×Int) (A:=Ex ByteArray ByteArray) (f:=fun f z=>L_2t s x f z.1 z.2) (fun z=>s.length-z.2.toNat) (fun z=>∃k:Nat,z.2=k∧k≤s.length∧z.1=bA (storeT ((s.zip x).take k)))
   (fun _=>.go (bA (storeT (s.zip x)))) (by
    rintro⟨b,i⟩ ⟨k,hk,hkl,ht⟩ g hg
    simp only at hk ht
    subst hk ht
    simp only[L_2t]
    by_cases hlt:k<s.length
    ·have hx:=List.getElem?_eq_getElem hlt
     have hx2:x[k]?=some x[k]:=List.getElem?_eq_getElem (by omega)
     have hw:=wrap_nat (show k<9223372036854775807 by omega)
     have hlen:=store_take_len hn hr h8 k
     have hnm:=hn s[k] (mem_of_get hx)
     have hrk:=hr x[k] (mem_of_get hx2)
     have hrl:=rowsT_len hrk
     have hel:s[k].1.data.toList.length=s[k].1.size:=(size_list _).symm
     have h58:(⟨#[58]⟩:ByteArray).data.toList=[58]:=rfl
     have h10:(⟨#[10]⟩:ByteArray).data.toList=[10]:=rfl
     rw[lt_nat hx,cond_true,ix_some hx,Option.bind_some,addx_g (by rw[bA_size];omega),Option.bind_some,addx_g (by rw[bA_size,List.length_append,bA_list];show _+1≤_;omega),Option.bind_some]
     simp only[bA_list,h58]
     rw[rows_spec hx2 hrk (by simp only[List.length_append,List.length_cons,List.length_nil];omega)]
     simp only[joinK_go,J_3s]
     rw[addx_g (by rw[bA_size];simp only[List.length_append,List.length_cons,List.length_nil];show _+1≤_;omega)]
     simp only[Option.bind_some,joinK_go,J_3r,hw,bA_list,h10]
     exact hg _ ⟨k+1,rfl,by omega,by rw[store_take hx hx2];simp[tabT]⟩ (by simp only;omega)
    ·have hke:k=s.length:=by omega
     subst hke
     have:(s.zip x).take s.length=s.zip x:=List.take_of_length_le (by rw[List.length_zip];omega)
     simp[this]) (ByteArray.empty,0) ⟨0,rfl,Nat.zero_le _,by simp[storeT];rfl⟩
  simp only[Option.bind_some,Bool.not_true,cond_false,e,joinK_go,if_true]
  rfl)
end Go.Proofs.YtkbcahfajbdgnaaGreatDoorX
namespace Go.Proofs.YtkbcahfajbdgnaaGreatDoorX
open Go Go.Proofs.YtkbcahfajbdgnaaGreatDoorT
set_option linter.all false
def firstRow (s:List Tb) (p:List Nd) (seed:Int):ByteArray:=match (evalPlan s (storeFrom s seed) p).1 with
 |[]=>ByteArray.empty
 |r::_=>bA (rowT r)
theorem evalPlan_bad {s:List Tb}{st:List Rows}{p:List Nd}(h:(evalPlan s st p).2≠0):(evalPlan s st p).1=[]:=by
 unfold evalPlan at h ⊢
 split
 ·rename_i hc
  rw[if_pos hc] at h
  split
  ·rename_i t ht
   simp only[ht] at h
   split
   ·rename_i x hx
    simp[hx] at h
   ·rfl
  ·rfl
 ·rfl
theorem V_1r {s:List STable}{p:List SNode}{seed:Int}(hs:BSch s)(hp:BPlan p):F_i s p seed=some (firstRow s p seed):=(U_h s p seed).out (by
 have hv:=evalPlan_vr s (storeFrom s seed) p
 have hm:=evalPlan_small s (storeFrom s seed) p
 simp only[V_9 hs,V_7 hs (storeFrom_b _) hp,Option.bind_some]
 unfold firstRow
 cases hx:(evalPlan s (storeFrom s seed) p).1 with
 |nil=>rfl
 |cons r l=>
  rw[hx] at hv hm
  have hl:=hm.row r (by simp)
  have e:ix (r::l) 0=some r:=rfl
  rw[show(((r::l).length:Int)==0)=false by simp;omega,cond_false,e,Option.bind_some,V_z (by omega) (hv r (by simp))]
  rfl)
theorem V_2t {s:List STable}{p:List SNode}{seed:Int}(hs:BSch s)(hp:BPlan p):F_p s p seed=some (firstRow s p seed):=(U_2l s p seed).out (by
 have hv:=evalPlan_vr s (storeFrom s seed) p
 have hm:=evalPlan_small s (storeFrom s seed) p
 simp only[V_b hs,V_8 hs (storeFrom_b _) hp,Option.bind_some]
 unfold firstRow
 by_cases hc:(evalPlan s (storeFrom s seed) p).2=0
 ·rw[show((evalPlan s (storeFrom s seed) p).2 != 0)=false by simp[hc],cond_false,joinK_go]
  unfold J_2x
  cases hx:(evalPlan s (storeFrom s seed) p).1 with
  |nil=>rfl
  |cons r l=>
   rw[hx] at hv hm
   have hl:=hm.row r (by simp)
   have e:ix (r::l) 0=some r:=rfl
   rw[show(((r::l).length:Int)==0)=false by simp;omega,cond_false,e,Option.bind_some,V_19 (by omega) (hv r (by simp))]
   rfl
 ·rw[bne_iff_ne.2 hc,evalPlan_bad hc]
  rfl)
end Go.Proofs.YtkbcahfajbdgnaaGreatDoorX
namespace Go.Proofs.YtkbcahfajbdgnaaGreatDoorX
open Go Go.Proofs.YtkbcahfajbdgnaaGreatDoorT PT
set_option linter.all false
def fillN (v:List Int) (n:Nd):Nd:=if n.2.2.2.2.2.1=true then(n.1,n.2.1,n.2.2.1,n.2.2.2.1,pick v n.2.2.2.2.1,false,n.2.2.2.2.2.2.1,()) else n
def fillT (v:List Int):PT→PT
 |.n0 n=>.n0 (fillN v n)
 |.n1 n a=>.n1 (fillN v n) (fillT v a)
 |.n2 n a b=>.n2 (fillN v n) (fillT v a) (fillT v b)
theorem fillN_kind (v:List Int) (n:Nd):(fillN v n).1=n.1:=by unfold fillN;split <;> rfl
theorem fillN_name (v:List Int) (n:Nd):(fillN v n).2.1=n.2.1:=by unfold fillN;split <;> rfl
theorem fillN_col (v:List Int) (n:Nd):(fillN v n).2.2.1=n.2.2.1:=by unfold fillN;split <;> rfl
theorem fillN_cols (v:List Int) (n:Nd):(fillN v n).2.2.2.2.2.2.1=n.2.2.2.2.2.2.1:=by unfold fillN;split <;> rfl
theorem fillN_off {v:List Int}{n:Nd}(h:n.2.2.2.2.2.1=false):fillN v n=n:=by unfold fillN;rw[if_neg (by rw[h];decide)]
theorem fillN_colN (v:List Int) (n:Nd) (c:Int):fillN v (colN n c)=colN (fillN v n) c:=by
 unfold fillN colN
 simp only
 split <;> rfl
theorem fillN_colsN (v:List Int) (n:Nd) (c:List Int):fillN v (colsN n c)=colsN (fillN v n) c:=by
 unfold fillN colsN
 simp only
 split <;> rfl
theorem fillT_flat (v:List Int):∀t:PT,(fillT v t).flat=t.flat.map (fillN v)
 |.n0 n=>rfl
 |.n1 n a=>by simp[fillT,PT.flat,fillT_flat v a]
 |.n2 n a b=>by simp[fillT,PT.flat,fillT_flat v a,fillT_flat v b]
theorem fillT_size (v:List Int):∀t:PT,(fillT v t).size=t.size
 |.n0 n=>rfl
 |.n1 n a=>by simp[fillT,PT.size,fillT_size v a]
 |.n2 n a b=>by simp[fillT,PT.size,fillT_size v a,fillT_size v b]
theorem fillT_depth (v:List Int):∀t:PT,(fillT v t).depth=t.depth
 |.n0 n=>rfl
 |.n1 n a=>by simp[fillT,PT.depth,fillT_depth v a]
 |.n2 n a b=>by simp[fillT,PT.depth,fillT_depth v a,fillT_depth v b]
theorem fillT_ok (v:List Int):∀{t:PT},t.ok→(fillT v t).ok
 |.n0 n,h=>by simp only[fillT,PT.ok,fillN_kind];exact h
 |.n1 n a,h=>⟨by rw[fillN_kind];exact h.1,fillT_ok v h.2⟩
 |.n2 n a b,h=>⟨by rw[fillN_kind];exact h.1,fillT_ok v h.2.1,fillT_ok v h.2.2⟩
theorem fillT_hd (v:List Int) (t:PT):(fillT v t).hd=fillN v t.hd:=by cases t <;> rfl
theorem nodeOk_slot2 {n:Nd}(h:nodeOk n=true)(hs:n.2.2.2.2.2.1=true):(n.1=1∨n.1=6)∧0≤n.2.2.2.2.1∧n.2.2.2.2.1≤39:=by
 obtain⟨k,name,col,op,num,slot,cols,u⟩:=n
 simp only at hs
 subst hs
 simp only[nodeOk] at h
 simp only[Bool.and_eq_true] at h
 obtain⟨⟨_,h4⟩,h5⟩:=h
 have:=okIn_iff.1 (show okIn num 0 39=true by simpa using h4)
 refine⟨?_,this⟩
 by_cases k0:k=0
 ·subst k0;simp at h5
 ·by_cases k1:k=1
  ·exact .inl k1
  ·by_cases k6:k=6
   ·exact .inr k6
   ·exfalso
    rw[if_neg k0,if_neg k1] at h5
    by_cases k2:k=2
    ·subst k2;simp at h5
    ·rw[if_neg k2] at h5
     by_cases k3:k=3
     ·subst k3;simp at h5
     ·rw[if_neg k3] at h5
      by_cases k5:k=5
      ·subst k5;simp at h5
      ·rw[if_neg k5,if_neg k6] at h5
       by_cases k4:k=4∨k=7
       ·rw[if_pos k4] at h5;simp at h5
       ·rw[if_neg k4] at h5;cases h5
theorem nodeOk_fill {v:List Int}(hv:∀x∈v,0≤x∧x≤4){n:Nd}(h:nodeOk n=true):nodeOk (fillN v n)=true:=by
 cases hs:n.2.2.2.2.2.1 with
 |false=>rw[fillN_off hs];exact h
 |true=>
  obtain⟨hk,_⟩:=nodeOk_slot2 h hs
  have hp:0≤pick v n.2.2.2.2.1∧pick v n.2.2.2.2.1≤4:=by
   unfold pick
   cases hx:v[n.2.2.2.2.1.toNat]? with
   |none=>simp
   |some x=>simpa using hv x (List.mem_of_getElem? hx)
  obtain⟨k,name,col,op,num,slot,cols,u⟩:=n
  simp only at hs hk hp
  subst hs
  unfold fillN
  simp only[if_true]
  generalize pick v num=w at hp
  simp only[nodeOk] at h ⊢
  simp only[Bool.and_eq_true] at h ⊢
  obtain⟨⟨⟨⟨a,b⟩,c⟩,d⟩,e⟩:=h
  refine⟨⟨⟨⟨a,b⟩,c⟩,by simp⟩,?_⟩
  rcases hk with rfl|rfl
  ·rw[if_neg (by decide),if_pos rfl] at e ⊢
   simp only[Bool.and_eq_true] at e ⊢
   obtain⟨⟨⟨e1,e2⟩,e3⟩,e4⟩:=e
   refine⟨⟨⟨e1,e2⟩,okIn_iff.2 ⟨by omega,by omega⟩⟩,?_⟩
   have:op≠3:=by rintro rfl;simp at e4
   simp[this]
  ·simp only[show¬((6:Int)=0) by decide,show¬((6:Int)=1) by decide,show¬((6:Int)=2) by decide,show¬((6:Int)=3) by decide,show¬((6:Int)=5) by decide,if_false,if_true] at e ⊢
   simp only[Bool.and_eq_true] at e ⊢
   exact⟨e.1,okIn_iff.2 ⟨by omega,by omega⟩⟩
theorem fill_plan {v:List Int}(hv:∀x∈v,0≤x∧x≤4){t:PT}(h:PlanT t):PlanT (fillT v t):=
 ⟨fillT_ok v h.ok,by rw[fillT_depth];exact h.deep,by rw[fillT_size];exact h.size,fun n hn=>by
  rw[fillT_flat] at hn
  obtain⟨m,hm,rfl⟩:=List.mem_map.1 hn
  exact nodeOk_fill hv (h.nodes m hm)⟩
theorem fill_w {s:List Tb}(v:List Int):∀{t:PT},Good t→wT s (fillT v t)=wT s t
 |.n0 n,g=>by simp only[fillT,wT,fillN_name]
 |.n1 n a,g=>by simp only[fillT,wT,fill_w v g.c1,fillN_kind,fillN_col,fillN_cols]
 |.n2 n a b,g=>by
  have hn:nodeOk n=true:=g.nodes n (by simp[PT.flat])
  have hs:n.2.2.2.2.2.1=false:=by
   cases hs:n.2.2.2.2.2.1 with
   |false=>rfl
   |true=>
    obtain⟨hk,_⟩:=nodeOk_slot2 hn hs
    have:=g.ok.1
    rcases hk with hk|hk <;> rw[hk] at this <;> exact absurd this (by decide)
  simp only[fillT,wT,fill_w v g.l2,fill_w v g.r2,fillN_off hs]
theorem fill_typed {s:List Tb}{v:List Int}(hv:∀x∈v,0≤x∧x≤4){t:PT}(h:Typed s t):Typed s (fillT v t):=⟨fill_plan hv h.plan,h.sch,by rw[fill_w v h.plan.good];exact h.w⟩
theorem fill_turn {s:List Tb}{v:List Int}{r:Int}{u u':PT}(g:Good u)(h:turn s r u=some u'):turn s r (fillT v u)=some (fillT v u'):=by
 cases u with
 |n0 n=>cases h
 |n2 n a b=>cases h
 |n1 n c=>
  simp only[turn,fillT] at h ⊢
  split at h
  rotate_left
  ·cases h
  rename_i hk
  rw[fillT_hd,fillN_kind,fillN_kind,if_pos hk]
  cases c with
  |n0 m=>cases h
  |n1 m d=>
   simp only[turnC,fillT] at h ⊢
   split at h
   ·rename_i hr
    rw[if_pos hr]
    split at h
    ·cases h
    ·rename_i hns
     cases h
     have h1:n.2.2.2.2.2.1=false:=by cases hx:n.2.2.2.2.2.1 with|false=>rfl|true=>exact absurd (.inl hx) hns
     have h2:m.2.2.2.2.2.1=false:=by cases hx:m.2.2.2.2.2.1 with|false=>rfl|true=>exact absurd (.inr hx) hns
     rw[fillN_off h1,fillN_off h2,if_neg hns,fillT,fillN_off (n:=limN n m) h1]
   ·rename_i hr
    rw[if_neg hr]
    split at h
    ·rename_i hr3
     rw[if_pos hr3]
     split at h
     ·rename_i hc
      cases h
      rw[fillN_col,fillN_col,if_pos hc]
      rfl
     ·cases h
    ·rename_i hr3
     rw[if_neg hr3]
     split at h
     ·rename_i hr7
      rw[if_pos hr7]
      cases h
      rfl
     ·rename_i hr7
      rw[if_neg hr7]
      split at h
      ·rename_i hr8
       rw[if_pos hr8]
       cases h
       simp only[fillT,fillN_colsN,fillN_cols]
      ·rename_i hr8
       rw[if_neg hr8]
       split at h
       ·rename_i hr10
        rw[if_pos hr10]
        cases h
        simp only[fillT,fillN_colN,fillN_cols,fillN_col]
       ·rename_i hr10
        rw[if_neg hr10]
        cases h
        rfl
  |n2 m d e=>
   have gd:Good d:=g.c1.l2
   simp only[turnC,fillT] at h ⊢
   rw[fill_w v gd,fillN_col]
   split at h
   ·rename_i hr
    rw[if_pos hr]
    cases h
    rfl
   ·rename_i hr
    rw[if_neg hr]
    split at h
    ·rename_i hr5
     rw[if_pos hr5]
     split at h
     ·rename_i hc
      rw[if_pos hc]
      cases h
      rfl
     ·cases h
    ·rename_i hr5
     rw[if_neg hr5]
     split at h
     ·cases h
     ·rename_i hc
      rw[if_neg hc]
      cases h
      simp only[fillT,fillN_colN]
theorem fill_put (v:List Int):∀(t:PT) (k:Nat) (u:PT),put (fillT v t) k (fillT v u)=fillT v (put t k u)
 |t,0,u=>by cases t <;> simp[put,fillT]
 |.n0 n,k+1,u=>rfl
 |.n1 n a,k+1,u=>by simp[put,fillT,fill_put v a k u]
 |.n2 n a b,k+1,u=>by
  simp only[put,fillT,fillT_size]
  split
  ·simp[fillT,fill_put v a k u]
  ·simp[fillT,fill_put v b _ u]
theorem fill_subs (v:List Int):∀t:PT,subs (fillT v t)=(subs t).map (fillT v)
 |.n0 n=>rfl
 |.n1 n a=>by simp[subs,fillT,fill_subs v a]
 |.n2 n a b=>by simp[subs,fillT,fill_subs v a,fill_subs v b]
theorem fill_apply {s:List Tb}{v:List Int}(hv:∀x∈v,0≤x∧x≤4){p q:List Nd}(hp:typedOk s p=true){x:Sp}(h:applyM s p x=(q,true)) :
  typedOk s (p.map (fillN v))=true∧applyM s (p.map (fillN v)) x=(q.map (fillN v),true):=by
 obtain⟨t,rfl,ht⟩:=typedOk_iff.1 hp
 obtain⟨k,u,u',hk,hu,hu',rfl,h1,h2,h3⟩:=applyM_tree ht h
 rw[←fillT_flat,←fillT_flat]
 have hT:=fill_typed hv ht
 refine⟨typedOk_iff.2 ⟨_,rfl,hT⟩,?_⟩
 have g:=subs_good ht.plan.good (mem_of_get hu)
 have hus:(subs (fillT v t))[k]?=some (fillT v u):=by rw[fill_subs,List.getElem?_map,hu];rfl
 have hP:=fill_plan hv h1
 unfold applyM
 simp only[hk,Int.natCast_nonneg,if_true,planT_flat hT.plan,Int.toNat_natCast,hus,fill_turn g hu']
 rw[←put_flat hus,fill_put,if_pos (planOk_iff.2 ⟨_,hP,rfl⟩)]
theorem Chain.fill {s:List Tb}{rules:List Int}{v:List Int}(hv:∀x∈v,0≤x∧x≤4){p q:List Nd}{xs:List Sp}(h:Chain s rules p xs q):Chain s rules (p.map (fillN v)) xs (q.map (fillN v)):=by
 induction h with
 |nil p=>exact .nil _
 |cons hp ha hr h ih=>
  obtain⟨h1,h2⟩:=fill_apply hv hp ha
  exact .cons h1 h2 hr ih
end Go.Proofs.YtkbcahfajbdgnaaGreatDoorX
namespace Go.Proofs.YtkbcahfajbdgnaaGreatDoorX
open Go Go.Proofs.YtkbcahfajbdgnaaGreatDoorT PT
set_option linter.all false
theorem V_2o {s:List STable}(hs:BSch s){p:List SNode}(hp:BPlan p) (x:SStep):F_39 s p x=some (if typedOk s p=true then applyM s p x else(p,false)):=(U_2c s p x).out (by
 obtain⟨r,k,u0⟩:=x
 simp only[V_c hp,V_i hs hp,Option.bind_some]
 cases hty:typedOk s p with
 |false=>simp
 |true=>
  obtain⟨t,rfl,ht⟩:=typedOk_iff.1 hty
  have hsz:=ht.plan.size
  have hw:IntKind.i64.wrap ((t.flat.length:Int)-2)=(t.flat.length:Int)-2:=by simp only[len_flat];rw[wrap_sml] <;> omega
  simp only[V_0,Option.bind_some,hw,Bool.not_true,cond_false,if_true]
  cases hr:okIn r 0 11 with
  |false=>
   have:applyM s t.flat (r,k,u0)=(t.flat,false):=by
    unfold applyM
    simp only[planT_flat ht.plan]
    by_cases h0:0≤k
    ·rw[if_pos h0]
     cases hu:(subs t)[k.toNat]? with
     |none=>rfl
     |some u=>
      have g:=subs_good ht.plan.good (mem_of_get hu)
      have hn:=ovr_out hr
      have ht':turn s r u=none:=turn_none (by rintro n c rfl ⟨h1,_⟩;rw[hn] at h1;exact neg_kind g h1)
      simp only[ht']
    ·rw[if_neg h0]
   rw[this];simp
  |true=>
  cases hin:okIn k 0 ((t.flat.length:Int)-2) with
  |false=>
   have hn:¬(0≤k∧k≤(t.flat.length:Int)-2):=fun h'=>by rw[okIn_iff.2 h'] at hin;cases hin
   have:applyM s t.flat (r,k,u0)=(t.flat,false):=by
    unfold applyM
    simp only[planT_flat ht.plan]
    by_cases h0:0≤k
    ·rw[if_pos h0]
     cases hu:(subs t)[k.toNat]? with
     |none=>rfl
     |some u=>
      have hat:=subs_at (At.root t) hu
      have hle:=hat.le
      have ht':turn s r u=none:=by
       cases u with
       |n0 n=>rfl
       |n1 n c=>have:=c.size_pos;simp only[PT.size,len_flat] at hle hn;omega
       |n2 n a b=>rfl
      simp only[ht']
    ·rw[if_neg h0]
   rw[this];simp
  |true=>
   have hk:=okIn_iff.1 hin
   obtain⟨j,rfl⟩:∃j:Nat,k=j:=⟨k.toNat,by omega⟩
   have hj:j<(subs t).length:=by simp only[subs_len,len_flat] at hk ⊢;omega
   have hu:(subs t)[j]?=some (subs t)[j]:=List.getElem?_eq_getElem hj
   generalize (subs t)[j]=u at hu
   have hm:=mem_of_get hu
   have hat:=subs_at (At.root t) hu
   rw[Nat.zero_add] at hat
   have g:=subs_good ht.plan.good hm
   have w:=subs_w ht.w hm
   have ha:applyM s t.flat (r,(j:Int),u0)=(match turn s r u with
     |none=>(t.flat,false)
     |some u'=>if planOk (t.flat.take j++(u'.flat++t.flat.drop (j+u.size)))=true then(t.flat.take j++(u'.flat++t.flat.drop (j+u.size)),true) else(t.flat,false)):=by
    unfold applyM
    simp only[planT_flat ht.plan]
    rw[if_pos (by omega)]
    simp only[Int.toNat_natCast,hu]
    all_goals (cases turn s r u <;> rfl)
   rw[ha]
   have hx:=ix_some hat.hd
   have hle:=hat.le
   have hw1:IntKind.i64.wrap ((j:Int)+1)=((j+1:Nat):Int):=wrap_nat (by simp only[len_flat] at hk;omega)
   have hj1:t.flat[j+1]?=some t.flat[j+1]:=List.getElem?_eq_getElem (by simp only[len_flat] at hk ⊢;omega)
   have hx1:=ix_some hj1
   simp only[Bool.not_true,cond_false,joinK_go,J_2o,V_1k hr,Option.bind_some,hx,hw1,hx1,bne_dec]
   by_cases hm1:u.hd.1=(ovr r).1
   rotate_left
   ·have ht':turn s r u=none:=turn_none (by rintro n c rfl ⟨h1,_⟩;exact hm1 h1)
    simp[hm1,ht']
   have ha:=ovr_up hr
   rw[←hm1] at ha
   match u,hu,hm,hat,g,w,hx,hle,hm1,ha with
   |.n0 n,_,_,_,g,_,_,_,_,ha=>have:=g.ok;simp only[PT.ok,PT.hd] at this ha;omega
   |.n2 n a b,_,_,_,g,_,_,_,_,ha=>have:=g.ok.1;simp only[PT.hd] at this ha;omega
   |.n1 n c,hu,hm,hat,g,w,hx,hle,hm1,ha=>
   have hc:=hat.c1.hd
   rw[hj1] at hc
   have hc:=Option.some.inj hc
   rw[hc]
   by_cases hm2:c.hd.1=(ovr r).2
   rotate_left
   ·have ht':turn s r (.n1 n c)=none:=turn_none (by rintro n' c' e ⟨_,h1⟩;cases e;exact hm2 h1)
    simp[hm1,hm2,ht']
   have ht':turn s r (.n1 n c)=turnC s r n c:=by
    simp only[turn]
    exact if_pos ⟨hm1,hm2⟩
   obtain⟨l,e1,e2⟩:=V_1j ht.sch ht.plan.pl (by simp;omega) hat g w hr hm1 hm2
   have hend:=hat.V_4 g ht.plan.pl
   simp only[hm1,hm2,decide_true,Bool.not_true,cond_false,joinK_go,J_2p,e1,Option.bind_some]
   cases hu':turnC s r n c with
   |none=>simp[ht',hu']
   |some u'=>
    have hl:=e2 u' hu'
    subst hl
    rw[hu'] at ht'
    obtain⟨b1,b2⟩:=next_bplan ht.plan g ht' hat
    have hcat:F_1 [t.flat.take j,u'.flat,t.flat.drop (j+(PT.n1 n c).size)]=some (t.flat.take j++(u'.flat++t.flat.drop (j+(PT.n1 n c).size))):=by
     have hf:[t.flat.take j,u'.flat,t.flat.drop (j+(PT.n1 n c).size)].flatten=t.flat.take j++(u'.flat++t.flat.drop (j+(PT.n1 n c).size)):=by simp
     rw[V_j (by simp) (by rw[hf];exact⟨by omega,b2⟩),hf]
    simp only[Option.isSome_some,Bool.not_true,cond_false,slx0 (show j≤t.flat.length by omega),hend,slxE hle,Option.bind_some,hcat,V_a ⟨by omega,b2⟩,ht']
    cases planOk (t.flat.take j++(u'.flat++t.flat.drop (j+(PT.n1 n c).size))) <;> simp)
def stepA (s:List Tb) (p:List Nd) (x:Sp):List Nd×Bool:=if typedOk s p=true then applyM s p x else(p,false)
theorem stepA_b {s:List Tb}{p:List Nd}(hb:BPlan p)(h2:BP2 p) (x:Sp):BPlan (stepA s p x).1∧BP2 (stepA s p x).1:=by
 unfold stepA
 split
 ·rename_i hty
  cases ha:(applyM s p x).2 with
  |false=>rw[applyM_false ha];exact⟨hb,h2⟩
  |true=>
   have:=(applyM_typed hty (x:=x) (q:=(applyM s p x).1) (by rw[←ha])).1
   exact⟨typed_bplan this,typed_bp2 this⟩
 ·exact⟨hb,h2⟩
def replayM (s:List Tb):List Nd→List Sp→List Nd×Nat
 |p,[]=>(p,0)
 |p,x::xs=>if (stepA s p x).2=true then((replayM s (stepA s p x).1 xs).1,(replayM s (stepA s p x).1 xs).2+1) else(p,0)
theorem replay_b (s:List Tb):∀(xs:List Sp) (p:List Nd),BPlan p→BP2 p→BPlan (replayM s p xs).1∧BP2 (replayM s p xs).1
 |[],p,hb,h2=>⟨hb,h2⟩
 |x::xs,p,hb,h2=>by
  simp only[replayM]
  split
  ·obtain⟨h3,h4⟩:=stepA_b (s:=s) hb h2 x
   exact replay_b s xs _ h3 h4
  ·exact⟨hb,h2⟩
theorem replay_loop {s:List STable}(hs:BSch s){xs:List SStep}(hl:xs.length≤20){p:List SNode}(hb:BPlan p)(h2:BP2 p){L:(List SNode×Int×List SNode×Int→Option (Ex (List SNode×Int) (List SNode×Int×List SNode)))→List SNode×Int×List SNode×Int→Option (Ex (List SNode×Int) (List SNode×Int×List SNode))}
  (h1:∀f v2 v3 v4 (k:Nat) x,BPlan v4→xs[k]?=some x→L f (v2,v3,v4,(k:Int))=bif !(stepA s v4 x).2 then some (.ret (v4,(k:Int))) else f (v2,v3,(stepA s v4 x).1,((k+1:Nat):Int)))
  (hE:∀f v2 v3 v4,L f (v2,v3,v4,(xs.length:Int))=some (.go (v2,v3,v4))) :
  Ok (loopF L ([],0,p,0)) (fun x=>match x with|.ret r=>r=((replayM s p xs).1,((replayM s p xs).2:Int))|.go z=>z.2.2=(replayM s p xs).1∧(replayM s p xs).2=xs.length):=by
 refine Ok.loop (S:=List SNode×Int×List SNode×Int) (fun z=>xs.length-z.2.2.2.toNat)
  (fun z=>∃k:Nat,z.2.2.2=k∧k≤xs.length∧BPlan z.2.2.1∧BP2 z.2.2.1∧(replayM s z.2.2.1 (xs.drop k)).1=(replayM s p xs).1∧(replayM s z.2.2.1 (xs.drop k)).2+k=(replayM s p xs).2) ?_ _ ⟨0,rfl,Nat.zero_le _,hb,h2,by simp,by simp⟩
 rintro⟨v2,v3,v4,v5⟩ ⟨k,hk,hkl,hb,h2,r1,r2⟩ G hG
 simp only at hk hb h2 r1 r2
 subst hk
 by_cases hlt:k<xs.length
 ·have hx:=List.getElem?_eq_getElem hlt
  rw[List.drop_eq_getElem_cons hlt] at r1 r2
  simp only[replayM] at r1 r2
  obtain⟨b3,b4⟩:=stepA_b (s:=s) hb h2 xs[k]
  cases ha:(stepA s v4 xs[k]).2 with
  |false=>
   rw[ha] at r1 r2
   simp only[Bool.false_eq_true,if_false,Nat.zero_add] at r1 r2
   refine⟨.ret (v4,(k:Int)),fun g _=>by dsimp only;rw[h1 g v2 v3 v4 k _ hb hx,ha];rfl,?_⟩
   simp only
   rw[r1,r2]
  |true=>
   rw[ha] at r1 r2
   simp only[if_true] at r1 r2
   obtain⟨x,e,hq⟩:=hG (v2,v3,(stepA s v4 xs[k]).1,((k+1:Nat):Int)) ⟨k+1,rfl,by omega,b3,b4,r1,by simp only;omega⟩ (by simp only;omega)
   exact⟨x,fun g hg=>by dsimp only;rw[h1 g v2 v3 v4 k _ hb hx,ha];exact e g hg,hq⟩
 ·have hke:k=xs.length:=by omega
  subst hke
  rw[List.drop_length] at r1 r2
  simp only[replayM,Nat.zero_add] at r1 r2
  exact⟨.go (v2,v3,v4),fun g _=>hE g v2 v3 v4,r1,r2.symm⟩
def replayR (s:List Tb) (p:List Nd) (xs:List Sp):List Nd×Int:=if xs.length≤20 then((replayM s p xs).1,((replayM s p xs).2:Int)) else(p,0)
theorem V_2x {s:List STable}(hs:BSch s){p:List SNode}(hb:BPlan p)(h2:BP2 p) (xs:List SStep):F_3j s p xs=some (replayR s p xs):=(U_2q s p xs).out (by
 rw[V_c hb,Option.bind_some]
 unfold replayR
 by_cases hl:xs.length≤20
 ·rw[show decide ((xs.length:Int)>20)=false by simp;omega,cond_false,if_pos hl]
  obtain⟨x,e,hx⟩:=replay_loop hs hl hb h2 (L:=fun f z=>L_1h s xs f z.1 z.2.1 z.2.2.1 z.2.2.2)
   (fun f v2 v3 v4 k x hb hx=>by
    have l1:=(List.getElem?_eq_some_iff.1 hx).1
    simp only[L_1h,lt_nat hx,cond_true,ix_some hx,Option.bind_some,wrap_nat (show k<9223372036854775807 by omega)]
    rw[V_18 hs hb]
    rfl)
   (fun f v2 v3 v4=>by simp[L_1h])
  rw[e]
  cases x with
  |ret r=>simp only at hx;rw[hx];rfl
  |go z=>obtain⟨z1,z2,z3⟩:=z;simp only at hx;simp[hx.1,hx.2]
 ·rw[show decide ((xs.length:Int)>20)=true by simp;omega,if_neg hl]
  rfl)
theorem replayR_b {s:List Tb}{p:List Nd}(hb:BPlan p)(h2:BP2 p) (xs:List Sp):BPlan (replayR s p xs).1∧BP2 (replayR s p xs).1:=by
 unfold replayR
 split
 ·exact replay_b s xs p hb h2
 ·exact⟨hb,h2⟩
end Go.Proofs.YtkbcahfajbdgnaaGreatDoorX
namespace Go.Proofs.YtkbcahfajbdgnaaGreatDoorX
open Go Go.Proofs.YtkbcahfajbdgnaaGreatDoorT PT
set_option linter.all false
theorem nodeOk_name {n:Nd}(h:nodeOk n=true):n.2.1.size≤100:=by
 obtain⟨k,name,col,op,num,slot,cols,u⟩:=n
 simp only[nodeOk] at h
 simp only[Bool.and_eq_true] at h
 obtain⟨⟨⟨⟨h1,_⟩,_⟩,_⟩,h5⟩:=h
 by_cases hk:k=0
 ·subst hk
  rw[if_pos rfl] at h5
  simp only[Bool.and_eq_true] at h5
  have:=wordOk_len h5.1.1.1
  simp only;omega
 ·simp[hk] at h1
  simp[h1]
theorem typed_sm {s:List Tb}{p:List Nd}(h:typedOk s p=true):Sm 40 6 p:=by
 obtain⟨t,rfl,ht⟩:=typedOk_iff.1 h
 exact⟨by have:=ht.plan.size;simpa using this,fun n hn=>⟨nodeOk_name (ht.plan.nodes n hn),nodeOk_cols6 (ht.plan.nodes n hn)⟩⟩
theorem stepA_sm {s:List Tb}{p:List Nd}(h:Sm 4101 6 p) (x:Sp):Sm 4101 6 (stepA s p x).1:=by
 unfold stepA
 split
 ·rename_i hty
  cases ha:(applyM s p x).2 with
  |false=>rw[applyM_false ha];exact h
  |true=>exact(typed_sm (applyM_typed hty (x:=x) (q:=(applyM s p x).1) (by rw[←ha])).1).mono (by decide) (Nat.le_refl _)
 ·exact h
theorem steps_draw {b:List Int}{i:Int}(hc:Cu b i)(h:Int){s:List STable}(hs:BSch s){p:List SNode}(hp:Sm 4101 6 p){n:Int}(hn:n≤3):Ok (F_48 b i h s p n) (fun y=>y.1.length≤3∧y.2.1=b∧Cu b y.2.2.1):=(U_46 b i h s p n).ok (OkG.out (by
 refine OkG.join (fun t=>t.1.length≤3∧t.2.1=b∧Cu b t.2.2.1) ?_ (fun t ht=>OkG.val ht)
 refine Ok.of (Ok.loop (S:=List SNode×List SStep×Int×List Int×Int×Int) (fun z=>(3-z.2.2.1).toNat) (fun z=>Sm 4101 6 z.1∧0≤z.2.2.1∧z.2.2.1≤3∧(z.2.1.length:Int)=z.2.2.1∧z.2.2.2.1=b∧Cu b z.2.2.2.2.1) ?_ _ ⟨hp,by simp,by simp,by simp,rfl,hc⟩)
 rintro⟨p1,out,j,b',i',h'⟩ ⟨sp,j0,j3,hl,rfl,hc'⟩ G hG
 simp only at j0 j3 hl sp
 unfold L_33
 refine OkG.bif (fun hb=>?_) (fun _=>OkG.val ⟨by simp only;omega,rfl,hc'⟩)
 have hb':j<n:=of_decide_eq_true hb
 have bp:=sp.bplan (by decide) (by decide)
 refine OkG.call (step_ok hc' _ hs bp) ?_
 rintro⟨⟨x1,x2,u⟩,b',i',h'⟩ ⟨rfl,hc'⟩
 have e:=V_2o hs bp (x1,(x2,()))
 have hsm:=stepA_sm (s:=s) sp (x1,(x2,()))
 unfold stepA at hsm
 simp only[e,Option.bind_some]
 rw[apx_some (by simp;omega)]
 simp only[Option.bind_some]
 have hw:IntKind.i64.wrap (j+1)=j+1:=wrap_sml (by omega) (by omega)
 rw[hw]
 exact hG _ ⟨hsm,by simp only;omega,by simp only;omega,by simp;omega,rfl,hc'⟩ (by simp only;omega)))
theorem Chain.bags {s:List Tb}{rules:List Int}{p q:List Nd}{xs:List Sp}(h:Chain s rules p xs q) (n:Int):bags s p q n=-1:=by
 unfold Go.Proofs.YtkbcahfajbdgnaaGreatDoorX.bags
 cases okIn n 0 50 with
 |false=>rfl
 |true=>
  rw[cond_true,findI_none.2]
  ·rfl
  ·rw[List.any_eq_false]
   intro i _
   unfold bagP
   by_cases h1:(evalPlan s (storeFrom s i) p).2=0
   ·by_cases h2:(evalPlan s (storeFrom s i) q).2=0
    ·obtain⟨a1,a2⟩:=eval_rows h1
     obtain⟨_,b2⟩:=eval_rows h2
     simp[a2,b2,h.rows a1,sameBag]
    ·simp[h2]
   ·simp[h1]
end Go.Proofs.YtkbcahfajbdgnaaGreatDoorX
namespace Go.Proofs.YtkbcahfajbdgnaaGreatDoorX
open Go Go.Proofs.YtkbcahfajbdgnaaGreatDoorT
set_option linter.all false
structure Wds (W:List ByteArray):Prop where
 len:W.length≤2001
 ne:∀w∈W,1≤w.size
 sz:∀w∈W,w.size≤2000
end Go.Proofs.YtkbcahfajbdgnaaGreatDoorX
namespace Go.Proofs.YtkbcahfajbdgnaaGreatDoorX
open Go Go.Proofs.YtkbcahfajbdgnaaGreatDoorT PT
set_option linter.all false
def verbs:List ByteArray:=[⟨#[115,99,97,110]⟩,⟨#[102,105,108,116,101,114]⟩,⟨#[107,101,101,112]⟩,⟨#[106,111,105,110]⟩,⟨#[98,111,116,104]⟩,⟨#[115,111,114,116]⟩,⟨#[108,105,109,105,116]⟩,⟨#[111,110,99,101]⟩]
def opsW:List ByteArray:=[⟨#[61]⟩,⟨#[60]⟩,⟨#[62]⟩,⟨#[110,111,110,101]⟩]
def inW (l:List ByteArray) (w:ByteArray):Option Nat:=findI (fun y=>decide (y=w)) l 0
def rWord {A:Type}(W:List ByteArray) (f:ByteArray→Option A) (k:Nat):Except Nat (A×Nat):=match W[k]? with
 |some w=>match f w with
  |some a=>.ok (a,k+1)
  |none=>.error k
 |none=>.error k
def thn {A B:Type}(m:Except Nat (A×Nat)) (g:A→Nat→Except Nat (B×Nat)):Except Nat (B×Nat):=match m with
 |.ok x=>g x.1 x.2
 |.error e=>.error e
def rNum (W:List ByteArray) (k:Nat):Except Nat (Int×Nat):=rWord W readM k
def isDollar (w:ByteArray):Bool:=match w.data.toList with
 |c::_=>c.toNat==36
 |[]=>false
def slotM (w:ByteArray):Option (Int×Bool):=bif isDollar w then(match readM (bA w.data.toList.tail) with|some v=>if 0≤v then some (v,true) else none|none=>none) else(match readM w with|some v=>some (v,false)|none=>none)
def wordM (w:ByteArray):Option ByteArray:=if wordOk w=true then some w else none
def numIn (lo hi:Int) (w:ByteArray):Option Int:=match readM w with
 |some v=>if okIn v lo hi=true then some v else none
 |none=>none
def rCols (W:List ByteArray):Nat→Nat→List Int→List Int×Nat×Bool
 |0,k,cs=>(cs,k,true)
 |n+1,k,cs=>match rNum W k with
  |.ok x=>rCols W n x.2 (cs++[x.1])
  |.error e=>(cs,e,false)
def rNode (W:List ByteArray) (k:Nat):Except Nat (Nd×Nat):=thn (rWord W (inW verbs) k) fun v k=>
 if v=0 then thn (rWord W wordM k) fun w k=>.ok ((0,w,0,0,0,false,[],()),k)
 else if v=1 then thn (rNum W k) fun c k=>thn (rWord W (inW opsW) k) fun o k=>
  if o=3 then .ok ((1,ByteArray.empty,c,3,0,false,[],()),k) else thn (rWord W slotM k) fun x k=>.ok ((1,ByteArray.empty,c,(o:Int),x.1,x.2,[],()),k)
 else if v=2 then thn (rWord W (numIn 1 6) k) fun n k=>if (rCols W n.toNat k []).2.2=true then .ok ((2,ByteArray.empty,0,0,0,false,(rCols W n.toNat k []).1,()),(rCols W n.toNat k []).2.1) else .error (rCols W n.toNat k []).2.1
 else if v=3 then thn (rNum W k) fun c k=>thn (rNum W k) fun m k=>.ok ((3,ByteArray.empty,c,0,m,false,[],()),k)
 else if v=5 then thn (rNum W k) fun c k=>.ok ((5,ByteArray.empty,c,0,0,false,[],()),k)
 else if v=6 then thn (rWord W slotM k) fun x k=>.ok ((6,ByteArray.empty,0,0,x.1,x.2,[],()),k)
 else .ok (((v:Int),ByteArray.empty,0,0,0,false,[],()),k)
def rPlan (W:List ByteArray):Nat→Nat→Nat→List Nd→Except Nat (List Nd×Nat)
 |0,_,k,_=>.error k
 |f+1,want,k,acc=>if want=0 then .ok (acc,k) else match rNode W k with
  |.error e=>.error e
  |.ok x=>rPlan W f (want-1+(arity x.1.1).toNat) x.2 (acc++[x.1])
theorem rWord_ok {A:Type}{W:List ByteArray}{f:ByteArray→Option A}{k k':Nat}{a:A}(h:rWord W f k=.ok (a,k')):k'=k+1∧k<W.length∧∃w,W[k]?=some w∧f w=some a:=by
 unfold rWord at h
 cases hw:W[k]? with
 |none=>rw[hw] at h;cases h
 |some w=>
  rw[hw] at h
  simp only at h
  cases hf:f w with
  |none=>rw[hf] at h;cases h
  |some b=>
   rw[hf] at h
   injection h with h
   injection h with h1 h2
   exact⟨h2.symm,(List.getElem?_eq_some_iff.1 hw).1,w,rfl,by rw[hf,h1]⟩
theorem rWord_err {A:Type}{W:List ByteArray}{f:ByteArray→Option A}{k e:Nat}(h:rWord W f k=.error e):e=k∧(W.length≤k∨∃w,W[k]?=some w∧f w=none):=by
 unfold rWord at h
 cases hw:W[k]? with
 |none=>
  rw[hw] at h
  injection h with h
  exact⟨h.symm,.inl (List.getElem?_eq_none_iff.1 hw)⟩
 |some w=>
  rw[hw] at h
  simp only at h
  cases hf:f w with
  |none=>
   rw[hf] at h
   injection h with h
   exact⟨h.symm,.inr ⟨w,rfl,hf⟩⟩
  |some b=>rw[hf] at h;cases h
theorem inW_lt {l:List ByteArray}{w:ByteArray}{v:Nat}(h:inW l w=some v):v<l.length:=by
 obtain⟨h1,x,h2,h3⟩:=findI_some h
 have:=(List.getElem?_eq_some_iff.1 h2).1
 omega
theorem rCols_facts (W:List ByteArray):∀(n k:Nat) (cs:List Int),k≤W.length→k≤(rCols W n k cs).2.1∧(rCols W n k cs).2.1≤W.length∧(rCols W n k cs).1.length≤cs.length+n
 |0,k,cs,h=>⟨Nat.le_refl _,h,Nat.le_refl _⟩
 |n+1,k,cs,h=>by
  unfold rCols
  cases hr:rNum W k with
  |error e=>
   have:=rWord_err hr
   simp only
   omega
  |ok x=>
   obtain⟨v,k'⟩:=x
   obtain⟨h1,h2,-⟩:=rWord_ok hr
   have:=rCols_facts W n k' (cs++[v]) (by omega)
   simp only[List.length_append,List.length_cons,List.length_nil] at this ⊢
   omega
theorem arb (k:Int)(h:okIn k 0 7=true):0≤arity k∧arity k≤2:=by
 have:=okIn_iff.1 h
 unfold arity
 split
 ·omega
 ·split
  ·omega
  ·split <;> omega
theorem rNode_facts {W:List ByteArray}(hW:Wds W){k k':Nat}{n:Nd}(h:rNode W k=.ok (n,k')):k<k'∧k'≤W.length∧0≤arity n.1∧arity n.1≤2∧n.2.1.size≤2000∧n.2.2.2.2.2.2.1.length≤6:=by
 unfold rNode at h
 cases h1:rWord W (inW verbs) k with
 |error e=>rw[h1] at h;cases h
 |ok x=>
  obtain⟨v,k1⟩:=x
  obtain⟨e1,l1,w,-,hv⟩:=rWord_ok h1
  have hv8:=inW_lt hv
  rw[h1] at h
  simp only[thn] at h
  have he0:ByteArray.empty.size=0:=rfl
  have hv':v=0∨v=1∨v=2∨v=3∨v=4∨v=5∨v=6∨v=7:=by simp only[verbs,List.length_cons,List.length_nil] at hv8;omega
  rcases hv' with rfl|rfl|rfl|rfl|rfl|rfl|rfl|rfl
  ·rw[if_pos rfl] at h
   cases h2:rWord W wordM k1 with
   |error e=>rw[h2] at h;cases h
   |ok y=>
    rw[h2] at h
    obtain⟨w2,k2⟩:=y
    obtain⟨e2,l2,w',hw',hf⟩:=rWord_ok h2
    cases h
    have:w2.size≤2000:=by
     unfold wordM at hf
     split at hf
     ·cases hf
      exact hW.sz _ (List.mem_of_getElem? hw')
     ·cases hf
    refine⟨by omega,by omega,(arb _ rfl).1,(arb _ rfl).2,this,by simp⟩
  ·rw[if_neg (by decide),if_pos rfl] at h
   cases h2:rNum W k1 with
   |error e=>rw[h2] at h;cases h
   |ok y=>
    rw[h2] at h
    obtain⟨c,k2⟩:=y
    obtain⟨e2,l2,-⟩:=rWord_ok h2
    simp only at h
    cases h3:rWord W (inW opsW) k2 with
    |error e=>rw[h3] at h;cases h
    |ok z=>
     rw[h3] at h
     obtain⟨o,k3⟩:=z
     obtain⟨e3,l3,-⟩:=rWord_ok h3
     simp only at h
     by_cases ho:o=3
     ·rw[if_pos ho] at h
      cases h
      exact⟨by omega,by omega,(arb _ rfl).1,(arb _ rfl).2,by simp[he0],by simp⟩
     ·rw[if_neg ho] at h
      cases h4:rWord W slotM k3 with
      |error e=>rw[h4] at h;cases h
      |ok u=>
       rw[h4] at h
       obtain⟨x,k4⟩:=u
       obtain⟨e4,l4,-⟩:=rWord_ok h4
       cases h
       exact⟨by omega,by omega,(arb _ rfl).1,(arb _ rfl).2,by simp[he0],by simp⟩
  ·rw[if_neg (by decide),if_neg (by decide),if_pos rfl] at h
   cases h2:rWord W (numIn 1 6) k1 with
   |error e=>rw[h2] at h;cases h
   |ok y=>
    rw[h2] at h
    obtain⟨m,k2⟩:=y
    obtain⟨e2,l2,w',hw',hf⟩:=rWord_ok h2
    have hm:1≤m∧m≤6:=by
     unfold numIn at hf
     split at hf
     ·split at hf
      ·rename_i hk
       cases hf
       exact okIn_iff.1 hk
      ·cases hf
     ·cases hf
    have hc:=rCols_facts W m.toNat k2 [] (by omega)
    simp only[List.length_nil] at h hc
    split at h
    ·cases h
     exact⟨by omega,by omega,(arb _ rfl).1,(arb _ rfl).2,by simp[he0],by simp only;omega⟩
    ·cases h
  ·rw[if_neg (by decide),if_neg (by decide),if_neg (by decide),if_pos rfl] at h
   cases h2:rNum W k1 with
   |error e=>rw[h2] at h;cases h
   |ok y=>
    rw[h2] at h
    obtain⟨c,k2⟩:=y
    obtain⟨e2,l2,-⟩:=rWord_ok h2
    simp only at h
    cases h3:rNum W k2 with
    |error e=>rw[h3] at h;cases h
    |ok z=>
     rw[h3] at h
     obtain⟨o,k3⟩:=z
     obtain⟨e3,l3,-⟩:=rWord_ok h3
     cases h
     exact⟨by omega,by omega,(arb _ rfl).1,(arb _ rfl).2,by simp[he0],by simp⟩
  ·cases h
   exact⟨by omega,by omega,(arb _ rfl).1,(arb _ rfl).2,by simp[he0],by simp⟩
  ·rw[if_neg (by decide),if_neg (by decide),if_neg (by decide),if_neg (by decide),if_pos rfl] at h
   cases h2:rNum W k1 with
   |error e=>rw[h2] at h;cases h
   |ok y=>
    rw[h2] at h
    obtain⟨c,k2⟩:=y
    obtain⟨e2,l2,-⟩:=rWord_ok h2
    cases h
    exact⟨by omega,by omega,(arb _ rfl).1,(arb _ rfl).2,by simp[he0],by simp⟩
  ·rw[if_neg (by decide),if_neg (by decide),if_neg (by decide),if_neg (by decide),if_neg (by decide),if_pos rfl] at h
   cases h2:rWord W slotM k1 with
   |error e=>rw[h2] at h;cases h
   |ok y=>
    rw[h2] at h
    obtain⟨c,k2⟩:=y
    obtain⟨e2,l2,-⟩:=rWord_ok h2
    cases h
    exact⟨by omega,by omega,(arb _ rfl).1,(arb _ rfl).2,by simp[he0],by simp⟩
  ·cases h
   exact⟨by omega,by omega,(arb _ rfl).1,(arb _ rfl).2,by simp[he0],by simp⟩
end Go.Proofs.YtkbcahfajbdgnaaGreatDoorX
namespace Go.Proofs.YtkbcahfajbdgnaaGreatDoorX
open Go Go.Proofs.YtkbcahfajbdgnaaGreatDoorT PT
set_option linter.all false
@[simp] theorem no_verb:inW verbs ByteArray.empty=none:=by decide
@[simp] theorem no_op:inW opsW ByteArray.empty=none:=by decide
end Go.Proofs.YtkbcahfajbdgnaaGreatDoorX
namespace Go.Proofs.YtkbcahfajbdgnaaGreatDoorX
open Go Go.Proofs.YtkbcahfajbdgnaaGreatDoorT PT
set_option linter.all false
structure RdS (W:List ByteArray) (M:Except Nat (List Nd×Nat)) (want k:Nat) (acc:List Nd) (f:Nat):Prop where
 eq:rPlan W f want k acc=M
 fuel:W.length<f+k
 place:k≤W.length
 len:acc.length≤k
 bound:want≤acc.length+1
 nodes:∀n∈acc,n.2.1.size≤2000∧n.2.2.2.2.2.2.1.length≤6
theorem RdS.step {W:List ByteArray}(hW:Wds W){M:Except Nat (List Nd×Nat)}{want k f:Nat}{acc:List Nd}(h:RdS W M want k acc f)(hw:want≠0){n:Nd}{k':Nat}(hn:rNode W k=.ok (n,k')) :
  ∃f',f=f'+1∧RdS W M (want-1+(arity n.1).toNat) k' (acc++[n]) f':=by
 obtain⟨h1,h2,h3,h4,h5,h6⟩:=rNode_facts hW hn
 obtain⟨eq,fuel,hk,len,hwant,nodes⟩:=h
 obtain⟨f',rfl⟩:∃f',f=f'+1:=⟨f-1,by omega⟩
 refine⟨f',rfl,?_,by omega,h2,by simp only[List.length_append,List.length_cons,List.length_nil];omega,by simp only[List.length_append,List.length_cons,List.length_nil];omega,fun m hm=>?_⟩
 ·unfold rPlan at eq
  rw[if_neg hw,hn] at eq
  exact eq
 ·rcases List.mem_append.1 hm with hm|hm
  ·exact nodes m hm
  ·rw[List.mem_singleton.1 hm]
   exact⟨h5,h6⟩
theorem RdS.done {W:List ByteArray}{M:Except Nat (List Nd×Nat)}{k f:Nat}{acc:List Nd}(h:RdS W M 0 k acc f):M=.ok (acc,k):=by
 obtain⟨eq,fuel,hk,len,hwant,nodes⟩:=h
 obtain⟨f',rfl⟩:∃f',f=f'+1:=⟨f-1,by omega⟩
 unfold rPlan at eq
 rw[if_pos rfl] at eq
 exact eq.symm
end Go.Proofs.YtkbcahfajbdgnaaGreatDoorX
namespace Go.Proofs.YtkbcahfajbdgnaaGreatDoorX
open Go Go.Proofs.YtkbcahfajbdgnaaGreatDoorT PT
set_option linter.all false
def vbt (k:Nat):List UInt8:=(verbs.getD k ByteArray.empty).data.toList
def ob (k:Nat):List UInt8:=(opsW.getD k ByteArray.empty).data.toList
def nW (slot:Bool) (v:Int):List UInt8:=bif slot then 36::Lib.itoa v else Lib.itoa v
def ndW (n:Nd):List (List UInt8):=
 if n.1=0 then[vbt 0,n.2.1.data.toList]
 else if n.1=1 then[vbt 1,Lib.itoa n.2.2.1,ob n.2.2.2.1.toNat]++(if n.2.2.2.1=3 then[] else[nW n.2.2.2.2.2.1 n.2.2.2.2.1])
 else if n.1=2 then[vbt 2,Lib.itoa (n.2.2.2.2.2.2.1.length:Int)]++n.2.2.2.2.2.2.1.map Lib.itoa
 else if n.1=3 then[vbt 3,Lib.itoa n.2.2.1,Lib.itoa n.2.2.2.2.1]
 else if n.1=5 then[vbt 5,Lib.itoa n.2.2.1]
 else if n.1=6 then[vbt 6,nW n.2.2.2.2.2.1 n.2.2.2.2.1]
 else[vbt n.1.toNat]
def jn (l:List (List UInt8)):List UInt8:=Lib.join l [32]
def ndT (n:Nd):List UInt8:=jn (ndW n)
end Go.Proofs.YtkbcahfajbdgnaaGreatDoorX
namespace Go.Proofs.YtkbcahfajbdgnaaGreatDoorX
open Go Go.Proofs.YtkbcahfajbdgnaaGreatDoorT PT
set_option linter.all false
abbrev Stp:=Int×Int×Unit
def stT (x:Stp):List UInt8:=Lib.itoa x.1++64::Lib.itoa x.2.1
def stsT (l:List Stp):List UInt8:=if l.length≤20 then jn (l.map stT) else[]
def stOk (x:Stp):Bool:=okIn x.1 0 1000000&&okIn x.2.1 0 1000000
def I64 (v:Int):Prop:=-9223372036854775808≤v∧v≤9223372036854775807
def W64s (l:List Stp):Prop:=∀x∈l,I64 x.1∧I64 x.2.1
end Go.Proofs.YtkbcahfajbdgnaaGreatDoorX
namespace Go.Proofs.YtkbcahfajbdgnaaGreatDoorX
open Go Go.Proofs.YtkbcahfajbdgnaaGreatDoorT PT
set_option linter.all false
def verbT:Nat→List UInt8
 |1=>[99,97,116]
 |2=>[115,116,97,116]
 |3=>[100,114,111,112]
 |_=>[]
def lnOk (x:List UInt8):Bool:=decide (x.length≤300)
def nlB (ls:List (List UInt8)):List UInt8:=ls.flatMap fun x=>x++[10]
def linesR (ls:List (List UInt8)):ByteArray×Bool:=if ls.all lnOk=true then(bA (nlB ls),true) else(ByteArray.empty,false)
def stepsL (o:Opn):List UInt8:=[115,116,101,112,115,32]++stsT o.2.2.2.1
def offerL (o:Opn):List UInt8:=[111,102,102,101,114,32]++jn (o.2.2.1.map ndT)
def askL (o:Opn):List UInt8:=[97,115,107,32]++jn (o.2.1.map ndT)
def opL (o:Opn):ByteArray×Bool:=
 if o.1=0 then(if planOk o.2.1=true∧planOk o.2.2.1=true∧o.2.2.2.1.length≤20∧o.2.2.2.1.all stOk=true then linesR [stepsL o,offerL o,askL o] else(ByteArray.empty,false))
 else if okIn o.1 1 3=true then(if o.2.1=[]∧o.2.2.1=[]∧o.2.2.2.1=[] then linesR [verbT o.1.toNat] else(ByteArray.empty,false))
 else(ByteArray.empty,false)
structure OpH (o:Opn):Prop where
 q:BPlan o.2.1
 f:BPlan o.2.2.1
 w:W64s o.2.2.2.1
 n:o.2.2.2.1.length≤1073741824
end Go.Proofs.YtkbcahfajbdgnaaGreatDoorX
namespace Go.Proofs.YtkbcahfajbdgnaaGreatDoorX
open Go Go.Proofs.YtkbcahfajbdgnaaGreatDoorT PT
set_option linter.all false
def opB (o:Opn):List UInt8:=(opL o).1.data.toList
def outL (l:List Opn):List UInt8:=l.flatMap opB
end Go.Proofs.YtkbcahfajbdgnaaGreatDoorX
namespace Go.Proofs.YtkbcahfajbdgnaaGreatDoorX
open Go Go.Proofs.YtkbcahfajbdgnaaGreatDoorT PT
set_option linter.all false
theorem alt_ok {code:List Int}(k:Int)(hl:code.length≤1073741824):Ok (F_2n code k) (fun l=>l.length≤1073741824):=(U_1k code k).ok (OkG.out (by
 refine OkG.join (fun l=>l.length≤1073741824) ?_ (fun s hs=>OkG.val hs)
 refine Ok.of (Ok.loop (S:=List Int×Int) (fun s=>3001-s.2.toNat) (fun s=>0≤s.2∧s.2≤3000∧(s.1.length:Int)=s.2+1) ?_ _ ⟨Int.le_refl _,by simp,by simp⟩)
 rintro⟨q,k⟩ ⟨k0,k1,hq⟩ G hG
 simp only at k0 k1 hq
 unfold L_2w
 refine OkG.join (fun c=>c=true→k<code.length∧k<3000) ?_ ?_
 ·refine OkG.bif (fun h1=>OkG.val fun h2=>⟨of_decide_eq_true h1,of_decide_eq_true h2⟩) (fun _=>OkG.val fun h=>by cases h)
 ·intro c hc
  unfold J_20
  refine OkG.bif (fun hcc=>?_) (fun _=>OkG.val (by simp only;omega))
  obtain⟨h1,h2⟩:=hc hcc
  obtain⟨x,ex,-⟩:=ix_ex k0 h1
  have hkw:IntKind.i64.wrap (k+1)=k+1:=wrap_sml (by omega) (by omega)
  simp only[ex,Option.bind_some]
  rw[apx_some (by simp;omega),hkw]
  simp only[Option.bind_some]
  exact hG _ ⟨by simp only;omega,by simp only;omega,by simp;omega⟩ (by simp only;omega)))
end Go.Proofs.YtkbcahfajbdgnaaGreatDoorX
namespace Go.Proofs.YtkbcahfajbdgnaaGreatDoorX
open Go Go.Proofs.YtkbcahfajbdgnaaGreatDoorT PT
set_option linter.all false
theorem differs_self (s:List Tb) (p:List Nd) (n:Int):differs s p p n=-1:=by
 unfold differs
 have:findI (fun i:Nat=>diffP s p p (i:Int)) (List.range n.toNat) 0=none:=findI_none.2 (by
  rw[List.any_eq_false]
  intro i _
  simp[diffP])
 rw[this]
 cases okIn n 0 50 <;> rfl
theorem findI_le {T:Type}{p q:T→Bool}(h:∀x,p x=true→q x=true):∀(l:List T) (i j:Nat),findI p l i=some j→∃m,findI q l i=some m∧m≤j
 |[],_,_,e=>by cases e
 |x::l,i,j,e=>by
  simp only[findI] at e ⊢
  cases hq:q x with
  |true=>
   simp only[cond_true]
   refine⟨i,rfl,?_⟩
   cases hp:p x with
   |true=>rw[hp] at e;simp at e;omega
   |false=>
    rw[hp] at e
    simp only[cond_false] at e
    have:=(findI_some e).1
    omega
  |false=>
   have hp:p x=false:=by
    cases hp:p x with
    |true=>rw[h x hp] at hq;cases hq
    |false=>rfl
   rw[hp] at e
   simp only[cond_false] at e ⊢
   exact findI_le h l (i+1) j e
theorem bag_diff (s:List Tb) (p q:List Nd) (n:Int):¬(bags s p q n≥0∧(differs s p q n<0∨differs s p q n>bags s p q n)):=by
 rintro⟨h1,h2⟩
 unfold bags at h1 h2
 unfold differs at h2
 cases hn:okIn n 0 50 with
 |false=>rw[hn] at h1;simp at h1
 |true=>
  rw[hn] at h1 h2
  simp only[cond_true] at h1 h2
  cases hb:findI (fun i:Nat=>bagP s p q (i:Int)) (List.range n.toNat) 0 with
  |none=>rw[hb] at h1;simp[fint] at h1
  |some j=>
   obtain⟨m,hm,hle⟩:=findI_le (q:=fun i:Nat=>diffP s p q (i:Int)) (fun i hi=>by
    simp only[bagP,Bool.and_eq_true,decide_eq_true_eq,Bool.not_eq_true'] at hi
    simp only[diffP,Bool.and_eq_true,decide_eq_true_eq,Bool.not_eq_true',decide_eq_false_iff_not]
    refine⟨hi.1,fun e=>?_⟩
    have h3:=hi.2
    rw[e] at h3
    simp[sameBag] at h3) _ _ _ hb
   rw[hb,hm] at h2
   simp only[fint] at h2
   omega
theorem cellV_ok (y:Int):valOk (cellV y)=true:=by
 unfold cellV valOk
 split
 ·simp
 ·have:okIn (y % 6) (-1000000) 1000000=true:=okIn_iff.2 (by omega)
  rw[this];rfl
theorem rowF_vals:∀(k:Nat) (x:Int),(rowF k x).1.all valOk=true
 |0,x=>rfl
 |k+1,x=>by
  simp only[rowF,List.all_cons,cellV_ok,Bool.true_and]
  exact rowF_vals k _
theorem rowsF_vals (w:Nat):∀(k:Nat) (x:Int),OkX x→∀r∈(rowsF w k x).1,r.all valOk=true
 |0,x,_=>by simp[rowsF]
 |k+1,x,h=>by
  obtain⟨-,h2⟩:=rowF_ok w h
  intro r hr
  simp only[rowsF,List.mem_cons] at hr
  rcases hr with rfl|hr
  ·exact rowF_vals w x
  ·exact rowsF_vals w k _ h2 r hr
theorem tabsF_store {s:List Tb}:∀(ts:List Tb) (x:Int) (k:Nat),OkX x→(∀j t,ts[j]?=some t→s[k+j]?=some t)→(∀t∈ts,1≤t.2.1∧t.2.1≤6)→allI (storeP s) (tabsF ts x) k=true
 |[],_,_,_,_,_=>rfl
 |t::ts,x,k,h,hs,hw=>by
  obtain⟨h1,h2,h3⟩:=rowsF_ok t.2.1.toNat (nxt x % 5).toNat (nxt_ok x)
  have hv:=rowsF_vals t.2.1.toNat (nxt x % 5).toNat (nxt x) (nxt_ok x)
  have hw0:=hw t (by simp)
  have hk:s[k]?=some t:=by have:=hs 0 t rfl;simpa using this
  simp only[tabsF,allI,Bool.and_eq_true]
  refine⟨?_,tabsF_store ts _ (k+1) h2 (fun j u hj=>by have:=hs (j+1) u (by simpa using hj);rwa [show k+1+j=k+(j+1) by omega]) (fun u hu=>hw u (by simp[hu]))⟩
  unfold storeP
  rw[hk]
  simp only[Bool.and_eq_true,decide_eq_true_eq,List.all_eq_true]
  refine⟨by omega,fun r hr=>?_⟩
  unfold rowP
  rw[hv r hr,h3 r hr]
  simp
  omega
theorem store_made {s:List Tb}{seed:Int}(h1:schemaOk s=true)(h2:okIn seed 0 65536=true):storeOk s (storeFrom s seed)=true∧∀t∈storeFrom s seed,t.length≤4:=by
 have hw:∀t∈s,1≤t.2.1∧t.2.1≤6:=fun t ht=>(schemaOk_get h1 ht).2
 have hx:OkX seed:=okIn_iff.1 h2
 obtain⟨h3,h4⟩:=tabsF_ok (ts:=s) hx (fun t ht=>(hw t ht).2)
 have e:storeFrom s seed=tabsF s seed:=by unfold storeFrom;rw[if_pos ⟨h1,h2⟩]
 rw[e]
 refine⟨?_,fun t ht=>(h4 t ht).1⟩
 unfold storeOk
 rw[h1,h3,tabsF_store s seed 0 hx (fun j t hj=>by simpa using hj) hw]
 simp
def cntR (x:List Rows):Nat:=(x.map List.length).sum
theorem cntR_le {x:List Rows}(h:∀t∈x,t.length≤4):cntR x≤4*x.length:=by
 unfold cntR
 induction x with
 |nil=>simp
 |cons t x ih=>
  have h1:=h t (by simp)
  have h2:=ih (fun u hu=>h u (by simp[hu]))
  simp only[List.map_cons,List.sum_cons,List.length_cons]
  omega
theorem cntR_take (x:List Rows) (i:Nat)(h:∀t∈x,t.length≤1000)(hi:i≤1000):cntR (x.take i)≤1000*i:=by
 unfold cntR
 induction i with
 |zero=>simp
 |succ i ih=>
  have:=ih (by omega)
  rw[List.take_add_one]
  cases hx:x[i]? with
  |none=>simp only[Option.toList_none,List.append_nil];omega
  |some t=>
   have ht:=h t (List.mem_of_getElem? hx)
   rw[List.map_append,List.sum_append]
   simp only[Option.toList_some,List.map_cons,List.map_nil,List.sum_cons,List.sum_nil]
   omega
theorem V_1o {x:List Rows}(hl:x.length≤1000)(h:∀t∈x,t.length≤1000):F_16 x=some ((cntR x:Nat):Int):=(U_c x).out (by
 have e:=loopF_ind (S:=Int×Int) (A:=Ex Int Int) (f:=fun f s=>L_2f x f s.1 s.2) (fun s=>x.length-s.2.toNat)
  (fun s=>∃i:Nat,i≤x.length∧s=(((cntR (x.take i):Nat):Int),(i:Int))) (fun _=>.go ((cntR x:Nat):Int))
  (by
   rintro s ⟨i,hi,rfl⟩ g hg
   dsimp only at hg ⊢
   unfold L_2f
   by_cases hlt:i<x.length
   ·have hx:x[i]?=some x[i]:=List.getElem?_eq_getElem hlt
    have ht:=h _ (List.getElem_mem hlt)
    have hc:=cntR_take x i h (by omega)
    have e1:cntR (x.take (i+1))=cntR (x.take i)+x[i].length:=by unfold cntR;rw[List.take_add_one,hx,List.map_append,List.sum_append];simp only[Option.toList_some,List.map_cons,List.map_nil,List.sum_cons,List.sum_nil,Nat.add_zero]
    rw[lt_nat hx,cond_true,ix_some hx,Option.bind_some,wrap_sml (by omega) (by omega),wrap_nat (by omega),show((cntR (x.take i):Nat):Int)+(x[i].length:Int)=((cntR (x.take (i+1)):Nat):Int) by omega]
    exact hg _ ⟨i+1,by omega,rfl⟩ (by simp only[Int.toNat_natCast];omega)
   ·have hi2:i=x.length:=by omega
    subst hi2
    rw[lt_self,cond_false,List.take_length])
  (0,0) ⟨0,by omega,by simp[cntR]⟩
 rw[e,joinK_go]
 rfl)
theorem most_sum_fold (f:Nat→Int)(hf:∀i,f i≤200):∀k:Nat,-1≤(List.range k).foldl (fun a i=>mmx true a (f i)) (-1)∧(List.range k).foldl (fun a i=>mmx true a (f i)) (-1)≤200∧
  (0≤(List.range k).foldl (fun a i=>mmx true a (f i)) (-1)→(List.range k).foldl (fun a i=>a+mmx true 0 (f i)) 0≤(List.range k).foldl (fun a i=>mmx true a (f i)) (-1)*(k:Int))∧
  ((List.range k).foldl (fun a i=>mmx true a (f i)) (-1)<0→(List.range k).foldl (fun a i=>a+mmx true 0 (f i)) 0=0)
 |0=>by simp
 |k+1=>by
  obtain⟨h1,h2,h3,h4⟩:=most_sum_fold f hf k
  simp only[List.range_succ,List.foldl_append,List.foldl_cons,List.foldl_nil]
  generalize (List.range k).foldl (fun a i=>mmx true a (f i)) (-1)=M at *
  generalize (List.range k).foldl (fun a i=>a+mmx true 0 (f i)) 0=S at *
  have hfk:=hf k
  generalize f k=y at *
  simp only[mmx_max]
  refine⟨by omega,by omega,fun hM=>?_,fun hM=>?_⟩
  ·have e:max M y*((k+1:Nat):Int)=max M y*(k:Int)+max M y:=by rw[Int.natCast_succ,Int.mul_add,Int.mul_one]
   rw[e]
   have hk:M*(k:Int)≤max M y*(k:Int):=Int.mul_le_mul_of_nonneg_right (by omega) (by omega)
   have h0:0≤max M y*(k:Int):=Int.mul_nonneg hM (by omega)
   by_cases hm:0≤M
   ·have:=h3 hm
    omega
   ·have:=h4 (by omega)
    omega
  ·have:=h4 (by omega)
   omega
theorem most_sum (s:List Tb) (p:List Nd){n:Int}(hn:okIn n 0 50=true):-1≤mostRows s p n∧mostRows s p n≤200∧(0≤mostRows s p n→rowsSum s p n≤mostRows s p n*n):=by
 obtain⟨k,rfl⟩:∃k:Nat,n=(k:Int):=⟨n.toNat,by have:=okIn_iff.1 hn;omega⟩
 unfold mostRows rowsSum
 rw[hn,cond_true,cond_true,Int.toNat_natCast]
 obtain⟨h1,h2,h3,-⟩:=most_sum_fold (fun i=>rowsAt s p (i:Int)) (fun i=>(rowsAt_range s p _).2) k
 exact⟨h1,h2,h3⟩
end Go.Proofs.YtkbcahfajbdgnaaGreatDoorX
namespace Go.Proofs.YtkbcahfajbdgnaaGreatDoorX
open Go Go.Proofs.YtkbcahfajbdgnaaGreatDoorT PT
set_option linter.all false
theorem seed_draw {b:List Int}{i:Int}(hc:Cu b i)(h:Int):Ok (F_49 b i h) (fun _=>True):=(U_48 b i h).ok (OkG.out (by
 refine OkG.call (below_ok hc h 200) ?_
 rintro⟨r,b2,i',h'⟩ ⟨e2,hc2,-⟩
 simp only at e2 hc2
 subst e2
 refine OkG.call (below_ok hc2 _ 200) ?_
 rintro⟨r2,b3,i',h'⟩ ⟨e3,hc3,-⟩
 simp only at e3 hc3
 subst e3
 refine OkG.call (pick_ok hc3 _ (by simp)) ?_
 rintro⟨r3,b4,i',h'⟩ ⟨e4,hc4,-⟩
 exact OkG.val trivial))
theorem drawStore_ok {code:List Int}(hl:code.length≤1073741824):Ok (F_3f code) (fun y=>Ss 9 200 y.1):=(U_2j code).ok (OkG.out (by
 refine OkG.call (new_ok hl) ?_
 rintro⟨b,i,h⟩ ⟨rfl,hc⟩
 refine OkG.call (schema_ok hc _) ?_
 rintro⟨s,b2,i',h'⟩ ⟨hs,e2,hc2⟩
 simp only at hs e2 hc2
 subst e2
 refine OkG.call (seed_draw hc2 _) ?_
 intro y _
 exact OkG.val hs))
theorem drawDiffers_ok {code:List Int}(hl:code.length≤1073741824):Ok (F_3e code) (fun y=>BSch y.1∧BPlan y.2.1∧BPlan y.2.2.1):=(U_2i code).ok (OkG.out (by
 refine OkG.call (draw8_ok hl) ?_
 rintro⟨b0,i',h',s,p⟩ ⟨e0,hc0,hs,hp⟩
 simp only at e0 hc0 hs hp
 subst e0
 have bs:=hs.bsch (by decide) (by decide)
 have hp6:Sm 4101 6 p:=hp.mono (Nat.le_refl _) (by decide)
 have bp:=hp6.bplan (by decide) (by decide)
 have b2:=hp6.bp2 (by decide) (by decide)
 refine OkG.call (below_ok hc0 _ 3) ?_
 rintro⟨r,b1,i',h'⟩ ⟨e1,hc1,r0,r1⟩
 simp only at e1 hc1 r0 r1
 subst e1
 have r1':=r1 (by decide)
 refine OkG.call (steps_draw hc1 _ bs hp6 (n:=r) (by omega)) ?_
 rintro⟨xs,b2',i',h'⟩ ⟨hxl,e2,hc2⟩
 simp only at hxl e2 hc2
 subst e2
 simp only[V_2x bs bp b2,Option.bind_some]
 obtain⟨rb,rb2⟩:=replayR_b (s:=s) bp b2 xs
 generalize replayR s p xs=q at rb rb2
 obtain⟨q,n⟩:=q
 simp only at rb rb2
 refine OkG.join (fun t=>BPlan t.1∧t.2.1=b2'∧Cu b2' t.2.2.1) ?_ ?_
 ·refine OkG.join (fun t=>t.1=b2'∧Cu b2' t.2.1∧(t.2.2.2=true→0<q.length)) ?_ ?_
  ·refine OkG.call (once_ok hc2 _ 2) ?_
   rintro⟨c,b3,i',h'⟩ ⟨e3,hc3⟩
   simp only at e3 hc3
   subst e3
   refine OkG.bif (fun _=>OkG.val ⟨rfl,hc3,fun h=>?_⟩) (fun _=>OkG.val ⟨rfl,hc3,fun h=>by cases h⟩)
   have:=of_decide_eq_true h
   simp only at this
   omega
  ·rintro⟨b3,i',h',c⟩ ⟨e3,hc3,hpos⟩
   simp only at e3 hc3 hpos
   subst e3
   unfold J_2t
   refine OkG.bif (fun hcc=>?_) (fun _=>OkG.val ⟨rb,rfl,hc3⟩)
   have hp0:=hpos hcc
   refine OkG.call (below_ok hc3 _ _) ?_
   rintro⟨k,b4,i',h'⟩ ⟨e4,hc4,k0,k1⟩
   simp only at e4 hc4 k0 k1
   subst e4
   have k1':=k1 (by omega)
   obtain⟨x,ex,hx⟩:=ix_ex k0 k1'
   simp only[ex,Option.bind_some]
   refine OkG.join (fun _=>True) ?_ ?_
   ·exact OkG.bif (fun _=>OkG.val trivial) (fun _=>OkG.val trivial)
   ·intro c' _
    unfold J_2u
    refine OkG.bif (fun _=>?_) (fun _=>OkG.val ⟨rb,rfl,hc4⟩)
    simp only[ex,Option.bind_some]
    refine OkG.val ⟨⟨by simpa using rb.len,fun m hm=>?_⟩,rfl,hc4⟩
    rcases List.mem_or_eq_of_mem_set hm with hm|rfl
    ·exact rb.nodes m hm
    ·exact⟨(rb.nodes x hx).name,(rb.nodes x hx).cols⟩
 ·rintro⟨q2,b3,i',h'⟩ ⟨bq,e3,hc3⟩
  simp only at bq e3 hc3
  subst e3
  unfold J_2s
  refine OkG.call (pick_ok hc3 _ (by simp)) ?_
  rintro⟨m,b4,i',h'⟩ ⟨e4,hc4,-⟩
  exact OkG.val ⟨bs,bp,bq⟩))
end Go.Proofs.YtkbcahfajbdgnaaGreatDoorX
namespace Go.Proofs.YtkbcahfajbdgnaaGreatDoorX
open Go Go.Proofs.YtkbcahfajbdgnaaGreatDoorT
set_option linter.all false
def CNd (n:Nd):Prop:=n.2.2.2.2.2.2.1.length≤1073741824
end Go.Proofs.YtkbcahfajbdgnaaGreatDoorX
namespace Go.Proofs.YtkbcahfajbdgnaaGreatDoorX
open Go Go.Proofs.YtkbcahfajbdgnaaGreatDoorT
set_option linter.all false
structure COp (o:Opn):Prop where
 l1:o.2.1.length≤1073741824
 c1:∀n∈o.2.1,CNd n
 l2:o.2.2.1.length≤1073741824
 c2:∀n∈o.2.2.1,CNd n
 l3:o.2.2.2.1.length≤1073741824
end Go.Proofs.YtkbcahfajbdgnaaGreatDoorX
namespace Go.Proofs.YtkbcahfajbdgnaaGreatDoorX
open Go Go.Proofs.YtkbcahfajbdgnaaGreatDoorT
set_option linter.all false
structure CEn (e:En):Prop where
 l1:e.2.1.length≤1073741824
 c1:∀n∈e.2.1,CNd n
 l2:e.2.2.1.length≤1073741824
 c2:∀n∈e.2.2.1,CNd n
end Go.Proofs.YtkbcahfajbdgnaaGreatDoorX
namespace Go.Proofs.YtkbcahfajbdgnaaGreatDoorX
open Go Go.Proofs.YtkbcahfajbdgnaaGreatDoorT
set_option linter.all false
theorem wl_ByteS {n:Nat}{x:List Int}(h:wfT (.sl n (.int .u8)) x):x.length≤maxLen:=h.1
end Go.Proofs.YtkbcahfajbdgnaaGreatDoorX
namespace Go.Proofs.YtkbcahfajbdgnaaGreatDoorX
open Go Go.Proofs.YtkbcahfajbdgnaaGreatDoorT PT
set_option linter.all false
theorem pure_FnTried {a0:List Int}(w0:a0.length≤maxLen):F_2m a0=some true:=(U_1j a0).out (by
 rw[big_ok,Option.bind_some]
 cases hb:decide ((a0.length:Int)>1048576) with
 |true=>rfl
 |false=>
  have hl:=of_decide_eq_false hb
  obtain⟨⟨s,p,q,n⟩,ed,bs,bp,bq⟩:=drawDiffers_ok (code:=a0) (by omega)
  simp only at bs bp bq
  rw[cond_false,ed,Option.bind_some]
  simp only
  rw[V_y bs bp bq,Option.bind_some,V_1q bs bp bq,Option.bind_some,V_2s bs bp bq,Option.bind_some,bne_self_eq_false,cond_false,V_2r bs bp bq,Option.bind_some,bne_self_eq_false,cond_false,
   V_y bs bp bp,Option.bind_some,differs_self,show((-1:Int) != -1)=false from rfl,cond_false]
  have hbd:=bag_diff s p q n
  have h1:(bif decide (bags s p q n≥0) then(bif decide (differs s p q n<0) then some (Ex.go (R:=Bool) true) else some (.go (decide (differs s p q n>bags s p q n)))) else some (.go false))=some (.go false):=by
   by_cases h0:bags s p q n≥0
   ·rw[decide_eq_true h0,cond_true]
    by_cases h2:differs s p q n<0
    ·exact absurd ⟨h0,.inl h2⟩ hbd
    ·rw[decide_eq_false h2,cond_false]
     by_cases h3:differs s p q n>bags s p q n
     ·exact absurd ⟨h0,.inr h3⟩ hbd
     ·rw[decide_eq_false h3]
   ·rw[decide_eq_false h0,cond_false]
  rw[h1,joinK_go]
  unfold J_1y
  obtain⟨c2,ec,hc⟩:=alt_ok (code:=a0) 1 (by omega)
  obtain⟨⟨t,seed⟩,et,ht⟩:=drawStore_ok hc
  simp only at ht
  have bt:=ht.bsch (by decide) (by decide)
  have htl:=ht.len
  rw[cond_false,ec,Option.bind_some,et,Option.bind_some]
  simp only
  have br:=storeFrom_b (s:=t) seed
  rw[V_9 bt,Option.bind_some,V_20 bt br,Option.bind_some,V_b bt,Option.bind_some,V_33 bt br,Option.bind_some]
  simp only[beq_self_eq_true,Bool.not_true,cond_false]
  rw[V_h bt,Option.bind_some]
  have h2:(bif schemaOk t then
    (bif (decide (seed≥0)) then
    (bif (decide (seed≤65536)) then
    (F_j t (storeFrom t seed)).bind (fun y16=>(bif (!y16) then
    some (Ex.go (R:=Bool) true)
    else(F_16 (storeFrom t seed)).bind (fun y17=>some (.go (decide (y17>(IntKind.i64.wrap (4*(t.length:Int)))))))))
    else some (.go false))
    else some (.go false))
    else some (.go false))=some (.go false):=by
   cases hs:schemaOk t with
   |false=>rfl
   |true=>
    rw[cond_true]
    by_cases h0:seed≥0
    ·rw[decide_eq_true h0,cond_true]
     by_cases h6:seed≤65536
     ·obtain⟨m1,m2⟩:=store_made hs (okIn_iff.2 ⟨h0,h6⟩)
      have hlen:(storeFrom t seed).length=t.length:=by
       have m3:=m1
       unfold storeOk at m3
       simp only[Bool.and_eq_true,decide_eq_true_eq] at m3
       exact m3.1.2
      have hc4:=cntR_le m2
      rw[decide_eq_true h6,cond_true,V_p bt br,m1,Option.bind_some,Bool.not_true,cond_false,V_1o (by omega) (fun u hu=>by have:=m2 u hu;omega),Option.bind_some,wrap_sml (by omega) (by omega),decide_eq_false (by omega)]
     ·rw[decide_eq_false h6,cond_false]
    ·rw[decide_eq_false h0,cond_false]
  rw[h2,joinK_go]
  unfold J_1z
  rw[cond_false]
  simp only
  rw[V_1y bs bp,Option.bind_some,V_1s bs bp,Option.bind_some,V_2z bs bp,Option.bind_some,beq_self_eq_true,cond_true,V_2v bs bp,Option.bind_some,beq_self_eq_true,cond_true,
   V_1r bs bp,Option.bind_some,V_2t bs bp,Option.bind_some,beq_self_eq_true,cond_true,V_n bs bp,Option.bind_some,V_t bs bp,Option.bind_some,beq_self_eq_true]
  have h3:(bif decide (n<0) then some (Ex.go (R:=Bool) true) else(bif decide (n>50) then some (.go true) else(bif decide (IntKind.i64.wrap (mostRows s p n*n)≥rowsSum s p n) then some (.go true) else(bif decide (mostRows s p n<0) then some (.go true) else some (.go false)))))=some (.go true):=by
   by_cases h0:n<0
   ·rw[decide_eq_true h0,cond_true]
   ·rw[decide_eq_false h0,cond_false]
    by_cases h5:n>50
    ·rw[decide_eq_true h5,cond_true]
    ·rw[decide_eq_false h5,cond_false]
     obtain⟨m1,m2,m3⟩:=most_sum s p (n:=n) (okIn_iff.2 ⟨by omega,by omega⟩)
     by_cases hm:mostRows s p n<0
     ·rw[decide_eq_true hm,cond_true]
      cases decide (IntKind.i64.wrap (mostRows s p n*n)≥rowsSum s p n) <;> rfl
     ·have h4:=m3 (by omega)
      have u1:mostRows s p n*n≤200*50:=Int.le_trans (Int.mul_le_mul_of_nonneg_right m2 (by omega)) (Int.mul_le_mul_of_nonneg_left (by omega) (by decide))
      have u0:0≤mostRows s p n*n:=Int.mul_nonneg (by omega) (by omega)
      rw[wrap_sml (by omega) (by omega),decide_eq_true h4,cond_true]
  rw[h3,joinK_go]
  rfl)
end Go.Proofs.YtkbcahfajbdgnaaGreatDoorX
