/- Rules over any program: data as trees of cells, an evaluator that is checked once, and plain words. -/
import Derived.Test.YtkbcahfajbdgnaaGreatDoorTrtrA
set_option linter.all false
namespace Go.Proofs.YtkbcahfajbdgnaaGreatDoorT
open Go
variable {P:Program}{fr:Fr}
theorem Core.part {Γ:Ctx}{a:Act}{w:World}{Z:Nat→Prop}{β:Nat→List Nat}{γ:Nat→Value}(h:Core P fr Γ a w Z β γ){t r:Nat}(ht:Nat.blt t fr.n=true)(hne:t≠r){v:Value}{b1 b2:List Nat}{e er:Ent}
  (hs:Sub (b1++b2) (β r))
  (he:∀β' ev',β' t=b1→ev' t=v→(∀u,u≠t→ev' u=ev fr.n a γ u)→EntOk P w Z β' ev' t e)
  (her:∀β' ev',β' r=b2→(∀u,u≠t→ev' u=ev fr.n a γ u)→EntOk P w Z β' ev' r er) :
  Core P fr (upd Γ [⟨t,true,some e⟩,⟨r,false,some er⟩]) (a.put (some t) v) w Z (fun u=>if u=t then b1 else if u=r then b2 else β u) γ:=by
 have hm1:∀b,b∈b1→b∈β r:=fun b hb=>hs.mem (by simp[hb])
 have hm2:∀b,b∈b2→b∈β r:=fun b hb=>hs.mem (by simp[hb])
 have hnd:=hs.nodup (h.nodup r)
 have hlk:∀u,look [⟨t,true,some e⟩,⟨r,false,some er⟩] u=if u=t then some ⟨t,true,some e⟩ else if u=r then some ⟨r,false,some er⟩ else none:=by
  intro u
  have hq:∀x:Nat,u≠x→Nat.beq x u=false:=by
   intro x hx
   cases hb:Nat.beq x u with
   |false=>rfl
   |true=>exact absurd (Nat.eq_of_beq_eq_true hb).symm hx
  simp only[look]
  by_cases hu:u=t
  ·subst hu;simp
  ·rw[hq t hu]
   by_cases hr:u=r
   ·subst hr;simp[hu]
   ·rw[hq r hr];simp[hu,hr]
 refine h.turn _ (by simpa[Act.put] using h.defers) (by simpa[Act.put] using h.size) h.evo h.zlt (fun b hb=>⟨hb,rfl⟩) h.znew ?_ ?_ ?_ ?_ ?_ (fun _ _ _ _=>rfl) ?_
 ·intro u b hb
  by_cases hu:u=t
  ·simp only[hu,if_true] at hb;exact h.own r b (hm1 b hb)
  ·by_cases hr:u=r
   ·rw[if_neg hu,if_pos hr] at hb;exact h.own r b (hm2 b hb)
   ·simp only[hu,hr,if_false] at hb;exact h.own u b hb
 ·intro u
  by_cases hu:u=t
  ·simpa[hu] using(List.nodup_append.1 hnd).1
  ·by_cases hr:u=r
   ·rw[if_neg hu,if_pos hr];exact(List.nodup_append.1 hnd).2.1
   ·simpa[hu,hr] using h.nodup u
 ·intro u u' b huu hb hb'
  have hdj:=(List.nodup_append.1 hnd).2.2
  by_cases hu:u=t
  ·rw[if_pos hu] at hb
   have hu':u'≠t:=fun e=>huu (hu.trans e.symm)
   rw[if_neg hu'] at hb'
   by_cases hr':u'=r
   ·rw[if_pos hr'] at hb';exact hdj b hb b hb' rfl
   ·rw[if_neg hr'] at hb';exact h.disj r u' b (Ne.symm hr') (hm1 b hb) hb'
  ·rw[if_neg hu] at hb
   by_cases hu':u'=t
   ·rw[if_pos hu'] at hb'
    by_cases hr:u=r
    ·rw[if_pos hr] at hb;exact hdj b hb' b hb rfl
    ·rw[if_neg hr] at hb;exact h.disj r u b (Ne.symm hr) (hm1 b hb') hb
   ·rw[if_neg hu'] at hb'
    by_cases hr:u=r
    ·rw[if_pos hr] at hb
     have hr':u'≠r:=fun e=>huu (hr.trans e.symm)
     rw[if_neg hr'] at hb'
     exact h.disj r u' b (Ne.symm hr') (hm2 b hb) hb'
    ·rw[if_neg hr] at hb
     by_cases hr':u'=r
     ·rw[if_pos hr'] at hb';exact h.disj r u b (Ne.symm hr) (hm2 b hb') hb
     ·rw[if_neg hr'] at hb';exact h.disj u u' b huu hb hb'
 ·intro u hu
  rw[ev_put h.size ht]
  rw[hlk] at hu
  by_cases hut:u=t
  ·simp[hut] at hu
  ·simp[hut]
 ·intro u hu
  rw[hlk] at hu
  by_cases hut:u=t
  ·simp[hut] at hu
  ·by_cases hr:u=r
   ·simp[hut,hr] at hu
    exact absurd hu (by split <;> simp)
   ·simp[hut,hr]
 ·intro u p e' hl hp
  rw[hlk] at hl
  by_cases hut:u=t
  ·subst hut
   simp at hl
   subst hl
   simp at hp
   subst hp
   exact he _ _ (by simp) (by rw[ev_put h.size ht];simp) (fun u hu=>by rw[ev_put h.size ht];simp[hu])
  ·rw[if_neg hut] at hl
   by_cases hr:u=r
   ·subst hr
    simp at hl
    subst hl
    simp at hp
    subst hp
    exact her _ _ (by simp[hut]) (fun u hu=>by rw[ev_put h.size ht];simp[hu])
   ·rw[if_neg hr] at hl;cases hl
theorem RT.get {w:World}{Z:Nat→Prop}:∀{xs:List (Option Dt)}{ys:List Value}{bs:List Nat}(_:RT P w Z xs ys bs){i:Nat}{X:Dt},xs[i]?=some (some X)→
  ∃y b1 b2,ys[i]?=some y∧RD P w Z X y b1∧RT P w Z (xs.set i none) ys b2∧Sub (b1++b2) bs
 |[],_,_,_,i,X,hi=>by simp at hi
 |none::xs,ys,bs,h,i,X,hi=>by
  obtain⟨y,ys',rfl,hr⟩:=h
  cases i with
  |zero=>simp at hi
  |succ i=>
   obtain⟨z,b1,b2,h1,h2,h3,h4⟩:=RT.get hr (i:=i) (X:=X) (by simpa using hi)
   exact⟨z,b1,b2,by simpa using h1,h2,⟨y,ys',rfl,h3⟩,h4⟩
 |some x::xs,ys,bs,h,i,X,hi=>by
  obtain⟨y,ys',c1,c2,rfl,rfl,hc,hr⟩:=h
  cases i with
  |zero=>
   simp at hi
   subst hi
   exact⟨y,c1,c2,by simp,hc,⟨y,ys',rfl,hr⟩,Sub.refl _⟩
  |succ i=>
   obtain⟨z,b1,b2,h1,h2,h3,h4⟩:=RT.get hr (i:=i) (X:=X) (by simpa using hi)
   refine⟨z,b1,c1++b2,by simpa using h1,h2,⟨y,ys',c1,b2,rfl,rfl,hc,h3⟩,?_⟩
   intro q
   have:=h4 q
   simp only[List.count_append] at this ⊢
   omega
theorem la_ext {E:Ctx}{o:Oper}{t s i:Nat}{xs:List (Option Dt)}{X:Dt}(ho:o.op=.extract (.tmp s) i)(hd:o.dst=some t)(ht:Nat.blt t fr.n=true)(hs:Nat.blt s fr.n=true)(hne:Nat.beq t s=false)
  (hx:E s=some (.tup xs))(hi:xs[i]?=some (some X)):LA P fr E o [⟨t,true,some (.d X)⟩,⟨s,false,some (.tup (xs.set i none))⟩]:=by
 intro Γ hle a w K Q ⟨Z,β,γ,h⟩ hk
 have he:=h.ent s _ (hle s _ hx)
 simp only[EntOk] at he
 obtain⟨ys,hy,hr⟩:=he
 obtain⟨y,b1,b2,h1,h2,h3,h4⟩:=RT.get hr hi
 have hts:t≠s:=by rintro rfl;simp at hne
 refine wp_of_run (w':=w) (v:=y) ?_ (hk _ _ ?_)
 ·unfold execOp
  rw[ho]
  have hlt:i<ys.length:=(List.getElem?_eq_some_iff.1 h1).1
  have hyi:ys[i]=y:=(List.getElem?_eq_some_iff.1 h1).2
  simp[eval_ev (γ:=γ) hs,hy,Instr.extract,hlt,hyi]
 ·rw[hd]
  refine⟨Z,_,γ,h.part ht hts (b1:=b1) (b2:=b2) h4 ?_ ?_⟩
  ·intro β' ev' hb hv _
   simp only[EntOk]
   rw[hb,hv]
   exact h2
  ·intro β' ev' hb hv
   simp only[EntOk]
   rw[hb,hv s (Ne.symm hts)]
   exact⟨ys,hy,h3⟩
def LX (P:Program) (fr:Fr) (E:Ctx) (o:Oper) (δ:Value→List Up):Prop:=
 ∀Γ:Ctx,E_le E Γ→∀a w (K:Act→World→Prop) Q,St P fr Γ a w→(∀a' w' y,St P fr (upd Γ (δ y)) a' w'→K a' w')→o.wp P a w K Q
theorem la_ldft {E:Ctx}{o:Oper}{t:Nat}{T T':TypeId}{x:Operand}{r k:Nat}{c:C}{cs:List C}(ho:o.op=.load T x)(hd:o.dst=some t)(ht:Nat.blt t fr.n=true)
  (hT:flatT P T=true)(hx:flOf fr.n E x=some (r,k,T',cs))(hc:cs[k]?=some c)(hr:Nat.beq r t=false):LX P fr E o (fun y=>[⟨t,true,some (.d (.one c))⟩,⟨r,false,some (.box T' (cs.set k (.v y)))⟩]):=by
 intro Γ hle a w K Q ⟨Z,β,γ,h⟩ hk
 obtain⟨hgr,b,vs,bs,hv,hr',hb,hrl,hβ⟩:=flOf_ok h (flOf_le hle hx)
 obtain⟨u1,y,u2,d1,d,d2,hvu,hbd,hlu,hr1,hry,hr2⟩:=RL.get hrl hc
 have htr:t≠r:=by rintro rfl;simp at hr
 have hk':k<cs.length:=(List.getElem?_eq_some_iff.1 hc).1
 have hcell:w.cell? ⟨b,k,none⟩=some y:=by
  have:=cell_row hb k
  rw[add_at] at this
  rw[this]
  have e1:vs[k]?=vs.toList[k]?:=by simp
  rw[e1,hvu,←hlu]
  simp
 have hrun:=run_load_flat (P:=P) hT hcell
 refine wp_of_run (w':=w) (v:=y) ?_ (hk _ _ y ?_)
 ·unfold execOp
  rw[ho]
  simp[hv,hrun]
 ·rw[hd]
  refine⟨Z,_,γ,h.part ht htr (b1:=d) (b2:=b::(d1++d2)) ?_ ?_ ?_⟩
  ·rw[hβ,hbd]
   intro q
   simp only[List.count_append,List.count_cons]
   omega
  ·intro β' ev' hb' hv' _
   simp only[EntOk,RD]
   rw[hb',hv']
   exact hry
  ·intro β' ev' hb' hv'
   simp only[EntOk]
   refine⟨b,vs,d1++d2,by rw[hv' r (Ne.symm htr)];exact hr',hb,?_,hb'⟩
   rw[List.set_eq_take_append_cons_drop,if_pos hk',hvu]
   refine(RL.app _ _ _ _).2 ⟨u1,y::u2,d1,d2,rfl,rfl,hr1,?_⟩
   simp only[RL]
   exact⟨y,u2,[],d2,rfl,rfl,by simp only[RC];exact⟨trivial,RC.one hry,trivial⟩,hr2⟩
theorem setCells_drawn {b:Nat}:∀(vs:List Value) (o:Nat) (w:World),w.drawn≤(w.setCells b o vs).drawn
 |[],_,_=>Nat.le_refl _
 |v::vs,o,w=>setCells_drawn vs (o+1) (w.setCell ⟨b,o,none⟩ v)
theorem setCells_row {b:Nat}{T:TypeId}:∀(vs:List Value) (o:Nat) (w:World) (cur:Array Value),w.heap[b]?=some (.cells cur T (0,0))→o+vs.length≤cur.size→
  ∃cur',(w.setCells b o vs).heap[b]?=some (.cells cur' T (0,0))∧cur'.toList=cur.toList.take o++vs++cur.toList.drop (o+vs.length)∧(∀b',b'≠b→(w.setCells b o vs).heap[b']?=w.heap[b']?)∧
   (w.setCells b o vs).os=w.os∧(w.setCells b o vs).tape=w.tape∧(w.setCells b o vs).output=w.output∧(w.setCells b o vs).heap.size=w.heap.size
 |[],o,w,cur,hb,_=>⟨cur,hb,by simp,fun _ _=>rfl,rfl,rfl,rfl,rfl⟩
 |v::vs,o,w,cur,hb,hl=>by
  simp only[List.length_cons] at hl
  obtain⟨cur',h1,h2,h3,h4,h5,h6,h7⟩:=setCells_row vs (o+1) (w.setCell ⟨b,o,none⟩ v) (cur.setIfInBounds o v) (setRow_of hb) (by simp;omega)
  have hg:=Grow.setCell w b o v (bs:=fun _=>True) trivial
  refine⟨cur',h1,?_,fun b' hb'=>(h3 b' hb').trans ?_,h4.trans hg.os,h5.trans hg.tape,h6.trans hg.output,h7.trans (by simp[World.setCell])⟩
  ·rw[h2,Array.toList_setIfInBounds]
   have ho:o<cur.toList.length:=by simp;omega
   have e1:(cur.toList.set o v).take (o+1)=cur.toList.take o++[v]:=by
    have hl2:(cur.toList.take o).length=o:=by rw[List.length_take];omega
    rw[List.set_eq_take_append_cons_drop,if_pos ho,List.take_append,hl2,List.take_of_length_le (by omega)]
    simp
   have e2:(cur.toList.set o v).drop (o+1+vs.length)=cur.toList.drop (o+1+vs.length):=by
    apply List.ext_getElem?
    intro j
    rw[List.getElem?_drop,List.getElem?_drop,List.getElem?_set_ne (by omega)]
   rw[e1,e2]
   simp only[List.length_cons,List.append_assoc,List.cons_append,List.nil_append]
   rw[show o+1+vs.length=o+(vs.length+1) by omega]
  ·simp only[World.setCell,Array.getElem?_modify]
   rw[if_neg (Ne.symm hb')]
theorem la_stes {E:Ctx}{o:Oper}{T Et:TypeId}{p x:Operand}{r i:Nat}{cs':List C}{S:List Nat}{α:Type}{f:α→List C}{xs:List α}{z z':α}(ho:o.op=.store T p x)(hd:o.dst=none)
  (hT:szOf P T=szOf P Et)(hi:(P.info? T).isSome=true)(hp:elOf fr.n E p=some (r,Et,i,0,xs.map f))(hz:xs[i]?=some z)(hx:tk fr.n E x=some (.agg cs',S))(hl:cs'.length=szOf P Et)(hf:cs'=f z')
  (hS:S.contains r=false)(hSn:S.Nodup) :
  LA P fr E o (⟨r,false,some (.d (.one (.sl true Et ((xs.set i z').map f))))⟩::S.map rmv):=by
 subst hf
 intro Γ hle a w K Q ⟨Z,β,γ,h⟩ hK
 obtain⟨hgr,g0,n0,cap0,hev,hv,hrc⟩:=elOf_ok h (elOf_le hle hp)
 obtain⟨bx,⟨ys,hye,hx1⟩,hx2⟩:=tk_sub h (tk_le hle hx)
 have he:(xs.map f)[i]?=some (f z):=by simp[hz]
 obtain⟨g,cap,cur,v1,v,v2,b1,b,b2,op⟩:=own_get hrc he
 have hgg:g0=g:=by have:=op.hy;rw[hev] at this;simp at this;exact this.1
 subst hgg
 have hyl:ys.length=szOf P Et:=by rw[RL.length _ hx1,hl]
 have hcur:(i*szOf P Et+szOf P Et)≤cur.size:=by
  have:=congrArg List.length op.row
  rw[Array.length_toList] at this
  simp only[List.length_append] at this
  have h1:=op.l1
  have h2:=op.l
  omega
 obtain⟨cur',hc1,hc2,hc3,hc4,hc5,hc6,hc7⟩:=setCells_row (T:=Et) ys (i*szOf P Et) w cur op.heap (by rw[hyl];exact hcur)
 have hthere:w.there g0 (i*szOf P Et) ys.toArray.size:=by
  intro j hj
  have hj':j<szOf P Et:=by simpa[hyl] using hj
  refine⟨?_,by simp[World.frozen?,op.heap]⟩
  have:=cell_row op.heap (i*szOf P Et+j)
  rw[add_at] at this
  rw[this]
  simp;omega
 have hinfo:(P.info? T).map (·.size)=some ys.toArray.size:=by
  cases hq:P.info? T with
  |none=>rw[hq] at hi;cases hi
  |some inf=>
   have:inf.size=szOf P T:=by simp[szOf,hq]
   simp[this,hT,hyl]
 have hrun:=run_storeAt_mid (P:=P) w g0 (i*szOf P Et) T ys.toArray hthere hinfo (all_oneCell_toArray (RL.one _ hx1))
 have hrS:r∉S:=by simpa using hS
 have hnd:=h.nodup r
 rw[op.hbs] at hnd
 have hgr':g0∈β r:=by rw[op.hbs];simp
 have hdis:∀b',b'∈bx→b'∉β r:=by
  intro b' hb' hb''
  obtain⟨s,hs1,hs2⟩:=flat_mem hx2 b' hb'
  exact h.disj s r b' (by rintro rfl;exact hrS hs1) hs2 hb''
 unfold Oper.wp
 have hexec:(execOp a.eval o).run P w=.ok .skip (w.setCells g0 (i*szOf P Et) ys):=by
  unfold execOp
  rw[ho]
  simp[hv,hye,hrun]
 rw[hexec]
 simp only[Oper.upon,hd,Act.put]
 have hng:∀b',b'∈b1++bx++b2→b'≠g0:=by
  rintro b' hb' rfl
  simp only[List.mem_append] at hb'
  simp only[List.nodup_cons,List.mem_append] at hnd
  rcases hb' with(hb'|hb')|hb'
  ·exact hnd.1 (by simp[hb'])
  ·exact hdis b' hb' hgr'
  ·exact hnd.1 (by simp[hb'])
 have hnZ:∀b',Z b'→b'≠g0:=by rintro b' hz rfl;exact(h.own r b' hgr').2.1 hz
 have hblk:∀b',(Z b'∨b'∈b1++bx++b2)→(w.setCells g0 (i*szOf P Et) ys).heap[b']?=w.heap[b']?:=
  fun b' hb'=>hc3 b' (by rcases hb' with hb'|hb';exact hnZ b' hb';exact hng b' hb')
 have hre:RL P (w.setCells g0 (i*szOf P Et) ys) Z (f z') ys bx:=RL.mono (fun _ h=>h) _ (fun b' hb'=>hblk b' (by rcases hb' with h|h;exact .inl h;exact .inr (by simp[h]))) hx1
 have hput:=own_put op (e':=f z') (v':=ys) (be:=bx) (cur':=cur') hc1 (by
   have hrow2:=op.row
   rw[hc2]
   have t1:cur.toList.take (i*szOf P Et)=v1:=by
    rw[hrow2,←op.l1,List.append_assoc,List.append_assoc,List.take_left]
   have t2:cur.toList.drop (i*szOf P Et+ys.length)=v2++cur.toList.drop ((xs.map f).length*szOf P Et):=by
    have:i*szOf P Et+ys.length=(v1++v).length:=by simp[op.l1,op.l,hyl]
    rw[this]
    conv=>lhs;rw[hrow2]
    rw[List.append_assoc,List.drop_left]
   rw[t1,t2]
   simp) (by rw[hyl,op.l]) (fun b' hb'=>hblk b' (by
    rcases hb' with h|h
    ·exact .inl h
    ·exact .inr (by simp only[List.mem_append] at h ⊢;rcases h with h|h <;> simp[h]))) hl hre
 refine hK _ _ ⟨Z,_,γ,h.poke S hrS (bn:=g0::(b1++bx++b2)) ⟨hc4,hc5,hc6,by omega,fun b' _ hn=>hc3 b' (by rintro rfl;exact hn (.inl hgr')),setCells_drawn _ _ _⟩ ?_ ?_ ?_⟩
 ·intro b' hb'
  rw[op.hbs]
  simp only[List.mem_cons,List.mem_append] at hb' ⊢
  rcases hb' with rfl|((hb'|hb')|hb')
  ·simp
  ·simp[hb']
  ·right;exact flat_mem hx2 b' hb'
  ·simp[hb']
 ·rw[List.nodup_cons]
  refine⟨fun hm=>hng g0 hm rfl,?_⟩
  have hxn:=hx2.nodup (h.flat hSn)
  have hdx:∀b',b'∈bx→b'∉b1++b++b2:=fun b' hb' hm=>hdis b' hb' (by rw[op.hbs];exact List.mem_cons_of_mem _ hm)
  rw[List.nodup_iff_count] at hxn ⊢
  have hn2:=List.nodup_iff_count.1 (List.nodup_cons.1 hnd).2
  intro q
  have h1:=hxn q
  have h2:=hn2 q
  simp only[List.count_append] at h2 ⊢
  by_cases hq:q∈bx
  ·have h3:=List.count_eq_zero.2 (hdx q hq)
   simp only[List.count_append] at h3
   omega
  ·have h3:=List.count_eq_zero.2 hq
   omega
 ·intro β' h1 _
  simp only[EntOk,RD]
  rw[h1,List.map_set]
  exact hput
end Go.Proofs.YtkbcahfajbdgnaaGreatDoorT
namespace Go.Proofs.YtkbcahfajbdgnaaGreatDoorT
open Go
variable {P:Program}{fr:Fr}
theorem run_equal_bool {T:TypeId}(hT:P.underlying T=some .bool) (a c:Bool) (w:World):(Op.equal T (.bool a) (.bool c)).run P w=.ok (a==c) w:=by
 have h:∀d,(Op.equalIn (d+1) T (.bool a) (.bool c)).run P w=.ok (a==c) w:=by
  intro d
  unfold Op.equalIn
  rw[Sem.run_bind,run_underlying hT w]
  rfl
 exact h 9999
theorem w_ct {Γ:Ctx}{c:Operand}{x y:Code}{Q:Exit→Act→World→Prop}(hc:vs fr.n Γ c=some (.bool true))(ht:W P fr Γ x Q):W P fr Γ (.cond c x y) Q:=w_cond hc (fun _=>ht) (fun e=>by cases e)
theorem w_cf {Γ:Ctx}{c:Operand}{x y:Code}{Q:Exit→Act→World→Prop}(hc:vs fr.n Γ c=some (.bool false))(hf:W P fr Γ y Q):W P fr Γ (.cond c x y) Q:=w_cond hc (fun e=>by cases e) (fun _=>hf)
section
variable {E:Ctx}{o:Oper}{t:Nat}{T T' Et:TypeId}{x y:Operand}{α:Type}{f:α→List C}{xs ys:List α}{z:α}{i j:Int}{rr:Option Nat}{r k:Nat}{b:Bool}
theorem r_pick {c:Operand}{v:Value}(ho:o.op=.pick c x y)(hd:o.dst=some t)(ht:Nat.blt t fr.n=true)(hc:vs fr.n E c=some (.bool b))(hv:vs fr.n E (bif b then x else y)=some v):LA P fr E o [⟨t,true,some (.d (.one (.v v)))⟩]:=by
 refine LA.val hd ht fun Γ a w Z β γ hle h=>⟨v,?_,fun β' ev' hb hb' hv1 hv'=>?_⟩
 ·unfold execOp
  rw[ho]
  simp only[vs_ok h (vs_le hle hc)]
  cases b with
  |true=>simp[asBool,vs_ok h (vs_le hle (by simpa using hv))]
  |false=>simp[asBool,vs_ok h (vs_le hle (by simpa using hv))]
 ·unfold vs at hv
  split at hv
  ·rename_i r u hq
   simp at hv
   subst hv
   have:=vwr_ok h (vwr_le hle hq)
   simp only[RD,RC] at this
   simp only[EntOk,RD,RC]
   exact⟨hv1,this.2.1,hb⟩
  ·cases hv
theorem r_bsl {n m:Nat}{parts:Array (Nat×Operand)}{Xs:List Dt}{S:List Nat}(ho:o.op=.buildSlice T n parts)(hd:o.dst=some t)(ht:Nat.blt t fr.n=true)(hT:elemT P T Et=true)(hin:inOrd parts.toList 0=true)(hn:Nat.beq parts.size n=true)(hn2:Nat.ble n 65536=true)
  (hx:tkL fr.n E (parts.toList.map (·.2))=some (Xs,S))(hf:Xs.map cells=xs.map f)(hm:szOf P Et=m)(hl:(Xs.all fun x=>Nat.beq (cells x).length m)=true)(hS:nodupB S=true) :
  LA P fr E o (⟨t,true,some (.d (.one (.sl true Et (xs.map f))))⟩::S.map rmv):=by
 subst hm
 exact la_bsl ho hd ht hT hin hn hn2 hx hf (fun x hx=>Nat.eq_of_beq_eq_true (List.all_eq_true.1 hl x hx)) (nodupB_ok hS)
theorem r_stes {cs':List C}{S:List Nat}{v:α}{m:Nat}(ho:o.op=.store T x y)(hd:o.dst=none)(hT:szOf P T=m)(hE:szOf P Et=m)(hi:(P.info? T).isSome=true)(hp:elOf fr.n E x=some (r,Et,i.toNat,0,xs.map f))
  (hz:stx xs i v=some ys)(hx:tk fr.n E y=some (.agg cs',S))(hl:Nat.beq cs'.length m=true)(hf:cs'=f v)(hS:S.contains r=false)(hSn:nodupB S=true) :
  LA P fr E o (⟨r,false,some (.d (.one (.sl true Et (ys.map f))))⟩::S.map rmv):=by
 obtain⟨_,_,rfl,z,hz'⟩:=stx_ok hz
 exact la_stes ho hd (hT.trans hE.symm) hi hp hz' hx (by rw[hE];exact Nat.eq_of_beq_eq_true hl) hf hS (nodupB_ok hSn)
def quox (a b:Int):Option Int:=bif b==0 then none else some (IntKind.i64.wrap (a.tdiv b))
def remx (a b:Int):Option Int:=bif b==0 then none else some (a.tmod b)
theorem r_quo (ho:o.op=.binOp .quo T x y T')(hd:o.dst=some t)(ht:Nat.blt t fr.n=true)(hx:vs fr.n E x=some (.int .i64 i))(hy:vs fr.n E y=some (.int .i64 j)){q:Int}(hq:quox i j=some q):LA P fr E o [⟨t,true,some (.d (iv q))⟩]:=by
 refine la_bin ho hd ht hx hy ?_
 unfold quox at hq
 cases hb:j==0 with
 |true=>rw[hb] at hq;cases hq
 |false=>
  rw[hb] at hq
  simp at hq hb
  simp[binV,hb,hq]
theorem r_rem (ho:o.op=.binOp .rem T x y T')(hd:o.dst=some t)(ht:Nat.blt t fr.n=true)(hx:vs fr.n E x=some (.int .i64 i))(hy:vs fr.n E y=some (.int .i64 j)){q:Int}(hq:remx i j=some q):LA P fr E o [⟨t,true,some (.d (iv q))⟩]:=by
 refine la_bin ho hd ht hx hy ?_
 unfold remx at hq
 cases hb:j==0 with
 |true=>rw[hb] at hq;cases hq
 |false=>
  rw[hb] at hq
  simp at hq hb
  simp[binV,hb,hq]
theorem r_conv {k1 k2:IntKind}{n:Int}(ho:o.op=.convert T T' x)(hd:o.dst=some t)(ht:Nat.blt t fr.n=true)(h1:P.underlying T=some (.int k1))(h2:P.underlying T'=some (.int k2))(hx:vs fr.n E x=some (.int k1 n)) :
  LA P fr E o [⟨t,true,some (.d (.one (.v (.int k2 (k2.wrap n)))))⟩]:=
 LA.scal hd ht rfl fun Γ a w Z β γ hle h=>by
  unfold execOp
  rw[ho]
  simp[convert,run_underlying h1,run_underlying h2,vs_ok h (vs_le hle hx),Conv.intToInt]
theorem r_eqb {a c:Bool}(ho:o.op=.binOp .eql T x y T')(hd:o.dst=some t)(ht:Nat.blt t fr.n=true)(hT:P.underlying T=some .bool)(hx:vs fr.n E x=some (.bool a))(hy:vs fr.n E y=some (.bool c)) :
  LA P fr E o [⟨t,true,some (.d (bv (a==c)))⟩]:=
 LA.scal hd ht rfl fun Γ a w Z β γ hle h=>by
  unfold execOp
  rw[ho]
  simp[binOp,eqGuard,vs_ok h (vs_le hle hx),vs_ok h (vs_le hle hy),run_equal_bool hT]
theorem r_neb {a c:Bool}(ho:o.op=.binOp .neq T x y T')(hd:o.dst=some t)(ht:Nat.blt t fr.n=true)(hT:P.underlying T=some .bool)(hx:vs fr.n E x=some (.bool a))(hy:vs fr.n E y=some (.bool c)) :
  LA P fr E o [⟨t,true,some (.d (bv (a != c)))⟩]:=
 LA.scal hd ht rfl fun Γ a w Z β γ hle h=>by
  unfold execOp
  rw[ho]
  simp[binOp,eqGuard,vs_ok h (vs_le hle hx),vs_ok h (vs_le hle hy),run_equal_bool hT,bne]
end
theorem r_call {E:Ctx}{o:Oper}{t:Nat}{x:Operand}{xs:Array Operand}{ats:Array TypeId}{f:FuncId}{caps:List Nat}{n':Nat}{pars gh posts:List Ent}{res:Ent}(R B:List Nat)
  {pes:List (Ent×Option Nat)}(ho:o.op=.call ⟨.value x,xs,ats⟩)(hd:o.dst=some t)(ht:Nat.blt t fr.n=true)(hx:calE fr.n E x=some (f,caps))
  (hc:Ret P f n' pars gh res posts)(ha:argL fr.n E R B n' xs.toList caps=some pes)(hp:pes.map (·.1)=pars)(hg:rootL E R=some gh)
  (hS:nodupB ((pes.map (·.2)).filterMap id++R++B)=true) (ht':inB (R++B) t=false)(hl:Nat.ble pes.length n'=true)(hm:mov res=true)(hms:posts.all mov=true)
  (hlp:Nat.beq posts.length R.length=true)(hcl:B=[]∨Clean P res∧∀e,e∈posts→Clean P e) :
  LA P fr E o (⟨t,true,some res⟩::(pokes R (upg E R posts)++((pes.map (·.2)).filterMap id).map rmv)):=
 la_call R B ho hd ht hx hc ha hp hg hS ht' hl hm (fun e he=>List.all_eq_true.1 hms e he) (Nat.eq_of_beq_eq_true hlp) hcl
def bix (s:ByteArray) (i:Int):Option Int:=bif decide (0≤i)&&decide (i<(s.size:Int)) then some (bt s i) else none
theorem r_index {E:Ctx}{o:Oper}{t:Nat}{T:TypeId}{x y:Operand}{s:ByteArray}{i z:Int}(ho:o.op=.index T x y)(hd:o.dst=some t)(ht:Nat.blt t fr.n=true)
  (hT:P.underlying T=some .string)(hx:vs fr.n E x=some (.string s))(hy:vs fr.n E y=some (.int .i64 i))(hz:bix s i=some z):LA P fr E o [⟨t,true,some (.d (.one (.v (.int .u8 z))))⟩]:=by
 unfold bix at hz
 cases hb:decide (0≤i)&&decide (i<(s.size:Int)) with
 |false=>rw[hb] at hz;cases hz
 |true=>
  rw[hb] at hz
  simp only[Bool.and_eq_true,decide_eq_true_eq] at hb
  simp at hz
  subst hz
  exact la_index ho hd ht hT hx hy hb.1 hb.2
end Go.Proofs.YtkbcahfajbdgnaaGreatDoorT
namespace Go.Proofs.YtkbcahfajbdgnaaGreatDoorT
open Go
variable {P:Program}{fr:Fr}
structure Pq where
 E:List (Nat×Ent×Option Nat)
 δ:List Up
 A:List Nat
def Pq.pl (q:Pq):Pl:=⟨q.E.map fun x=>(x.1,x.2.1),q.δ,q.A⟩
def newOf (L:List Pq) (i u:Nat):Option Ent:=match L[i]? with
 |some p=>(match look p.δ u with|some q=>q.e|none=>none)
 |none=>none
def QE (Γ0:Ctx) (L:List Pq):List (Nat×Ent×Option Nat)→Prop
 |[]=>True
 |(u,e,none)::E=>Γ0 u=some e∧QE Γ0 L E
 |(u,e,some i)::E=>newOf L i u=some e∧QE Γ0 L E
def QEs (Γ0:Ctx) (L:List Pq):List Pq→Prop
 |[]=>True
 |p::ps=>QE Γ0 L p.E∧QEs Γ0 L ps
def qb (L:List Pl) (k:Nat) (A:List Nat):List (Nat×Ent×Option Nat)→Bool
 |[]=>true
 |(u,e,none)::E=>free (fun j p=>Nat.beq j k||inB p.A k) u e 0 L&&qb L k A E
 |(u,e,some i)::E=>(inB A i&&match L[i]? with
   |some p=>free (fun j q=>Nat.beq j k||inB q.A k||Nat.beq j i||inB p.A j) u e 0 L
   |none=>false)&&qb L k A E
def qbs (L:List Pl):Nat→List Pq→Bool
 |_,[]=>true
 |k,p::ps=>qb L k p.A p.E&&qbs L (k+1) ps
def qbE (L:List Pl):List (Nat×Ent×Option Nat)→Bool
 |[]=>true
 |(u,e,none)::E=>free (fun _ _=>false) u e 0 L&&qbE L E
 |(u,e,some i)::E=>(match L[i]? with
   |some p=>free (fun j _=>Nat.beq j i||inB p.A j) u e 0 L
   |none=>false)&&qbE L E
theorem newOf_ok {L:List Pq}{i u:Nat}{e:Ent}(h:newOf L i u=some e):∃p,(L.map Pq.pl)[i]?=some p∧(match look p.δ u with|some q=>q.e|none=>none)=some e:=by
 unfold newOf at h
 cases hl:L[i]? with
 |none=>rw[hl] at h;cases h
 |some p=>rw[hl] at h;exact⟨p.pl,by simp[hl],h⟩
theorem q_srcs {Γ0:Ctx}{L:List Pq}{k:Nat}{A:List Nat}:∀{E:List (Nat×Ent×Option Nat)},QE Γ0 L E→qb (L.map Pq.pl) k A E=true→Srcs Γ0 (L.map Pq.pl) k A (E.map fun x=>(x.1,x.2.1))
 |[],_,_=>trivial
 |(u,e,none)::E,h,hb=>by
  simp only[qb,Bool.and_eq_true] at hb
  exact⟨.inl ⟨h.1,hb.1⟩,q_srcs h.2 hb.2⟩
 |(u,e,some i)::E,h,hb=>by
  simp only[qb,Bool.and_eq_true] at hb
  obtain⟨p,hp,hn⟩:=newOf_ok h.1
  obtain⟨⟨h1,h2⟩,h3⟩:=hb
  rw[hp] at h2
  exact⟨.inr ⟨i,p,h1,hp,hn,h2⟩,q_srcs h.2 h3⟩
theorem q_ends {Γ0:Ctx}{L:List Pq}:∀{E:List (Nat×Ent×Option Nat)},QE Γ0 L E→qbE (L.map Pq.pl) E=true→SrcEs Γ0 (L.map Pq.pl) (E.map fun x=>(x.1,x.2.1))
 |[],_,_=>trivial
 |(u,e,none)::E,h,hb=>by
  simp only[qbE,Bool.and_eq_true] at hb
  exact⟨.inl ⟨h.1,hb.1⟩,q_ends h.2 hb.2⟩
 |(u,e,some i)::E,h,hb=>by
  simp only[qbE,Bool.and_eq_true] at hb
  obtain⟨p,hp,hn⟩:=newOf_ok h.1
  obtain⟨h2,h3⟩:=hb
  rw[hp] at h2
  exact⟨.inr ⟨i,p,hp,hn,h2⟩,q_ends h.2 h3⟩
theorem q_sss {Γ0:Ctx}{L:List Pq}:∀{k:Nat}{ps:List Pq},QEs Γ0 L ps→qbs (L.map Pq.pl) k ps=true→Sss Γ0 (L.map Pq.pl) k (ps.map Pq.pl)
 |_,[],_,_=>trivial
 |k,p::ps,h,hb=>by
  simp only[qbs,Bool.and_eq_true] at hb
  exact⟨q_srcs h.1 hb.1,q_sss h.2 hb.2⟩
def QLs (P:Program) (fr:Fr) (ops:Array Oper):Nat→List Pq→Prop
 |_,[]=>True
 |k,p::ps=>LW P fr ops k (mk (p.E.map fun x=>(x.1,x.2.1))) p.δ∧QLs P fr ops (k+1) ps
theorem q_lws {ops:Array Oper}:∀{k:Nat}{ps:List Pq},QLs P fr ops k ps→LWs P fr ops k (ps.map Pq.pl)
 |_,[],_=>trivial
 |_,_::_,h=>⟨h.1,q_lws h.2⟩
theorem w_drawnq {Γ:Ctx}{Q:Exit→Act→World→Prop}{id:Nat}{ops:Array Oper}(L:List Pq) (E1:List (Nat×Ent×Option Nat))(hm:P.follows .mixedOrders=true)(hl:QLs P fr ops 0 L)(hs:QEs Γ L L)(he:QE Γ L E1)
  (hb:(qbs (L.map Pq.pl) 0 L&&qbE (L.map Pq.pl) E1&&aheadsB ops (L.map Pq.pl) 0 (L.map Pq.pl)&&Nat.beq (L.map Pq.pl).length ops.size)=true)
  (hk:∀a w,St P fr (mk (E1.map fun x=>(x.1,x.2.1))) a w→Q .normal a w):W P fr Γ (.region id ops true) Q:=by
 simp only[Bool.and_eq_true] at hb
 obtain⟨⟨⟨h1,h2⟩,h3⟩,h4⟩:=hb
 exact wp_any (L.map Pq.pl) hm (plans_of (q_lws hl) (q_sss hs h1)) h3 h4 (q_ends he h2) hk
end Go.Proofs.YtkbcahfajbdgnaaGreatDoorT
namespace Go.Proofs.YtkbcahfajbdgnaaGreatDoorT
open Go
variable {P:Program}{fr:Fr}
def structT (P:Program) (T:TypeId) (offs:List (Nat×Nat)):Bool:=match P.underlying T with
 |some (.struct fs)=>(fs.toList.map fun f=>(f.offset,szOf P f.type))==offs&&fs.toList.all (fun f=>(P.info? f.type).isSome)
 |_=>false
theorem run_places {w:World}:∀(fs:List Field),(fs.all fun f=>(P.info? f.type).isSome)=true→
  (fs.mapM fun (f:Field)=>(do pure (f.offset,←sizeOf f.type):Sem (Nat×Nat))).run P w=.ok (fs.map fun f=>(f.offset,szOf P f.type)) w
 |[],_=>rfl
 |f::fs,h=>by
  simp only[List.all_cons,Bool.and_eq_true] at h
  have ih:=run_places (w:=w) fs h.2
  cases hq:P.info? f.type with
  |none=>rw[hq] at h;simp at h
  |some i=>
   have hs:szOf P f.type=i.size:=by simp[szOf,hq]
   simp[List.mapM_cons,sizeOf,typeInfo,hq,hs]
   simp[sizeOf,typeInfo] at ih
   simp[ih]
theorem RL.setc {w:World}{Z:Nat→Prop}{cs:List C}{vs:List Value}{bs:List Nat}(h:RL P w Z cs vs bs){k:Nat}{c:C}{y:Value}{b:List Nat}(hk:k<cs.length)(hc:RC P w Z c y b) :
  ∃bs',RL P w Z (cs.set k c) (vs.set k y) bs'∧Sub bs' (bs++b):=by
 obtain⟨u1,y0,u2,d1,d,d2,hvu,hbd,hlu,hr1,hry,hr2⟩:=RL.get h (List.getElem?_eq_getElem hk)
 refine⟨d1++(b++d2),?_,?_⟩
 ·rw[List.set_eq_take_append_cons_drop,if_pos hk]
  have hv:vs.set k y=u1++y::u2:=by rw[hvu,←hlu];simp
  rw[hv]
  refine(RL.app _ _ _ _).2 ⟨u1,y::u2,d1,b++d2,rfl,rfl,hr1,?_⟩
  simp only[RL]
  exact⟨y,u2,b,d2,rfl,rfl,hc,hr2⟩
 ·rw[hbd]
  intro q
  simp only[List.count_append]
  omega
def fillC:List C→List (Nat×C)→List C
 |cs,[]=>cs
 |cs,(k,c)::ps=>fillC (cs.set k c) ps
def placeOk (offs:List (Nat×Nat)) (n:Nat):List Nat→List Nat→Bool
 |[],[]=>true
 |i::is,k::ks=>(match offs[i]? with
   |some (o,s)=>Nat.beq o k&&Nat.beq s 1&&Nat.blt k n
   |none=>false)&&placeOk offs n is ks
 |_,_=>false
theorem fill_ok {w:World}{Z:Nat→Prop}{offs:List (Nat×Nat)}:∀(is ks:List Nat) (vs:List Value) (cs':List C) (cs:List C) (cur:Array Value) (bs bv:List Nat),placeOk offs cs.length is ks=true→
  is.length=vs.length→RDs P w Z (cs'.map .one) vs bv→RL P w Z cs cur.toList bs→
  ∃cur' bs',Instr.fill (offs[·]?) cur (is.zip vs)=some cur'∧RL P w Z (fillC cs (ks.zip cs')) cur'.toList bs'∧Sub bs' (bs++bv)
 |[],ks,vs,cs',cs,cur,bs,bv,hp,hl,hv,hr=>by
  have hv0:vs=[]:=by simpa using hl.symm
  subst hv0
  cases ks with
  |cons k ks=>simp[placeOk] at hp
  |nil=>exact⟨cur,bs,rfl,by simpa[fillC] using hr,fun q=>by simp⟩
 |i::is,ks,vs,cs',cs,cur,bs,bv,hp,hl,hv,hr=>by
  cases ks with
  |nil=>simp[placeOk] at hp
  |cons k ks=>
   cases vs with
   |nil=>simp at hl
   |cons v vs=>
    cases cs' with
    |nil=>simp[RDs] at hv
    |cons c cs'=>
     simp only[List.map_cons,RDs] at hv
     obtain⟨y,ys',b1,b2,hy,rfl,hc,hv'⟩:=hv
     simp at hy
     obtain⟨rfl,rfl⟩:=hy
     simp only[RD] at hc
     simp only[placeOk,Bool.and_eq_true] at hp
     obtain⟨hp1,hp2⟩:=hp
     cases ho:offs[i]? with
     |none=>rw[ho] at hp1;cases hp1
     |some q=>
      obtain⟨o,s⟩:=q
      rw[ho] at hp1
      simp only[Bool.and_eq_true] at hp1
      obtain⟨⟨h1,h2⟩,h3⟩:=hp1
      have ho':o=k:=Nat.eq_of_beq_eq_true h1
      have hs':s=1:=Nat.eq_of_beq_eq_true h2
      have hk:k<cs.length:=by simpa[Nat.blt_eq] using h3
      subst ho' hs'
      have hcells:v.cells=#[v]:=by have:=RC.one hc;cases v <;> simp_all [Value.oneCell',Value.cells]
      obtain⟨bs1,hr1,hs1⟩:=RL.setc hr hk hc
      have hcl:cur.toList.length=cs.length:=RL.length _ hr
      obtain⟨cur',bs',hf,hr',hs2⟩:=fill_ok is ks vs cs' (cs.set o c) (cur.setIfInBounds o v) bs1 b2 (by simpa using hp2) (by simpa using hl) hv' (by simpa using hr1)
      refine⟨cur',bs',?_,by simpa[fillC] using hr',?_⟩
      ·simp only[List.zip_cons_cons,Instr.fill,ho,hcells]
       have hsz:¬cur.size<o+1:=by simp at hcl;omega
       simpa[hsz] using hf
      ·refine hs2.trans ?_
       intro q
       have:=hs1 q
       simp only[List.count_append] at this ⊢
       omega
theorem la_bld {E:Ctx}{o:Oper}{t:Nat}{T:TypeId}{parts:Array (Nat×Operand)}{offs:List (Nat×Nat)}{ks:List Nat}{zcs cs' cs:List C}{S:List Nat}(ho:o.op=.build T parts)(hd:o.dst=some t)(ht:Nat.blt t fr.n=true)
  (hT:structT P T offs=true)(hz:zeroOk P T zcs)(hx:tkL fr.n E (parts.toList.map (·.2))=some (cs'.map .one,S))(hp:placeOk offs zcs.length (parts.toList.map (·.1)) ks=true)(hf:fillC zcs (ks.zip cs')=cs)(hS:nodupB S=true) :
  LA P fr E o (⟨t,true,some (.d (.agg cs))⟩::S.map rmv):=by
 subst hf
 intro Γ hle a w K Q ⟨Z,β,γ,h⟩ hk
 obtain⟨bv,hv,hvs⟩:=tkL_sub h (tkL_le hle hx)
 obtain⟨z,hz1,hz2⟩:=hz
 unfold structT at hT
 cases hu:P.underlying T with
 |none=>rw[hu] at hT;cases hT
 |some d=>
  rw[hu] at hT
  cases d <;> simp only[Bool.false_eq_true] at hT
  rename_i fs
  simp only[Bool.and_eq_true,beq_iff_eq] at hT
  obtain⟨hoffs,hinfo⟩:=hT
  obtain⟨cur',bs',hfill,hr',hsub⟩:=fill_ok (P:=P) (w:=w) (Z:=Z) (offs:=offs) (parts.toList.map (·.1)) ks ((parts.toList.map (·.2)).map a.eval) cs' zcs z.cells [] bv hp (by simp) hv (hz2 w Z)
  have hpl:=run_places (P:=P) (w:=w) fs.toList hinfo
  have hzip:(parts.map fun (x:Nat×Operand)=>(x.1,a.eval x.2)).toList=(parts.toList.map (·.1)).zip ((parts.toList.map (·.2)).map a.eval):=by
   simp only[Array.toList_map,List.map_map]
   induction parts.toList with
   |nil=>rfl
   |cons p ps ih=>simp[ih]
  refine wp_of_run (w':=w) (v:=.agg cur') ?_ (hk _ _ ?_)
  ·unfold execOp
   rw[ho]
   have hzv:(zeroValue T).run P w=.ok z w:=by
    cases hi:P.info? T with
    |none=>rw[hi] at hz1;simp at hz1
    |some i=>rw[hi] at hz1;simp at hz1;simp[zeroValue,typeInfo,hi,hz1]
   have hma:(fs.mapM fun (f:Field)=>(do pure (f.offset,←sizeOf f.type):Sem (Nat×Nat))).run P w=.ok offs.toArray w:=by
    have e2:(fs.mapM fun (f:Field)=>(do pure (f.offset,←sizeOf f.type):Sem (Nat×Nat)))=List.toArray <$> fs.toList.mapM fun (f:Field)=>(do pure (f.offset,←sizeOf f.type):Sem (Nat×Nat)):=by
     rw[Array.mapM_eq_mapM_toList]
    rw[e2]
    simp only[map_eq_pure_bind,Sem.run_bind,hpl]
    rw[←hoffs]
    rfl
   have hfn:(fun i=>offs.toArray[i]?)=(fun i:Nat=>offs[i]?):=by funext i;simp
   have hbuild:(Instr.build T (parts.map fun (x:Nat×Operand)=>(x.1,a.eval x.2))).run P w=.ok (.agg cur') w:=by
    unfold Instr.build
    rw[Sem.run_bind,hzv]
    simp only[Result.andThen_ok]
    rw[Sem.run_bind,run_underlying hu w]
    simp only[Result.andThen_ok]
    rw[Sem.run_bind,hma]
    simp only[Result.andThen_ok,hzip,hfn,hfill]
    rfl
   simpa using congrArg (fun r=>r.andThen fun v w'=>Result.ok (Next.value v) w') hbuild
  ·rw[hd]
   refine⟨Z,_,γ,h.give S ht (bn:=bs') (Grow.refl w _) ?_ ?_ ?_⟩
   ·intro b hb
    have hm:b∈bv:=by have:=hsub.mem hb;simpa using this
    obtain⟨s,hs1,hs2⟩:=flat_mem hvs b hm
    exact⟨(h.own s b hs2).1,.inr ⟨s,hs1,hs2⟩⟩
   ·have:Sub bs' (S.flatMap β):=by simpa using Sub.trans hsub (by simpa using hvs)
    exact this.nodup (h.flat (nodupB_ok hS))
   ·intro β' ev' h1 h2 _ _
    simp only[EntOk,RD]
    rw[h1,h2]
    exact⟨cur'.toList,by simp,hr'⟩
end Go.Proofs.YtkbcahfajbdgnaaGreatDoorT
namespace Go.Proofs.YtkbcahfajbdgnaaGreatDoorT
open Go
variable {P:Program}{fr:Fr}
theorem St.put {Γ:Ctx}{a:Act}{w:World}(h:St P fr Γ a w) (t r:Nat){y:Value}{Et:TypeId}{i k:Nat}{c c':C}{α:Type}{f:α→List C}{xs:List α}{z z':α}
  (ht:Γ t=some (.dv y (.one c')))(hr:Γ r=some (.d (.one (.sl true Et ((xs.map f).set i ((f z).set k (.v y)))))))(hne:Nat.beq r t=false)(hz:xs[i]?=some z)(hc:(f z)[k]?=some c)(hf:(f z).set k c'=f z') :
  St P fr (upd Γ (⟨r,false,some (.d (.one (.sl true Et ((xs.set i z').map f))))⟩::[t].map rmv)) a w:=by
 obtain⟨Z,β,γ,h⟩:=h
 have h1:=h.ent t _ ht
 have h2:=h.ent r _ hr
 simp only[EntOk,RD] at h1 h2
 have hk':k<(f z).length:=(List.getElem?_eq_some_iff.1 hc).1
 have hi:i<(xs.map f).length:=by simpa using(List.getElem?_eq_some_iff.1 hz).1
 have htr:r≠t:=by rintro rfl;simp at hne
 have he:((xs.map f).set i ((f z).set k (.v y)))[i]?=some ((f z).set k (.v y)):=by
  rw[List.getElem?_set_self hi]
 obtain⟨g,cap,cur,v1,v,v2,b1,b,b2,op⟩:=own_get h2 he
 have hce:((f z).set k (.v y))[k]?=some (.v y):=by rw[List.getElem?_set_self hk']
 obtain⟨u1,y0,u2,d1,d,d2,hvu,hbd,hlu,hr1,hry,hr2⟩:=RL.get op.r hce
 simp only[RC] at hry
 obtain⟨hy0,_,hd0⟩:=hry
 subst hy0 hd0
 have hlk:u1.length=k:=hlu
 have e1:((f z).set k (.v y0)).take k=(f z).take k:=by rw[List.take_set];rw[List.set_eq_of_length_le (by rw[List.length_take];omega)]
 have e2:((f z).set k (.v y0)).drop (k+1)=(f z).drop (k+1):=by
  apply List.ext_getElem?
  intro j
  rw[List.getElem?_drop,List.getElem?_drop,List.getElem?_set_ne (by omega)]
 have hval:ev fr.n a γ t=y0:=h1.1
 have hre:RL P w Z (f z') v (d1++(β t++d2)):=by
  rw[←hf,List.set_eq_take_append_cons_drop,if_pos hk',hvu]
  rw[e1] at hr1
  rw[e2] at hr2
  refine(RL.app _ _ _ _).2 ⟨u1,y0::u2,d1,β t++d2,rfl,rfl,hr1,?_⟩
  simp only[RL]
  refine⟨y0,u2,β t,d2,rfl,rfl,?_,hr2⟩
  have:=h1.2
  rwa [hval] at this
 have hput:=own_put op (e':=f z') (v':=v) (be:=d1++(β t++d2)) (cur':=cur) op.heap op.row rfl (fun _ _=>rfl) (by rw[←hf,List.length_set];have:=op.width _ (List.mem_of_getElem? he);rwa [List.length_set] at this) hre
 have hset:((xs.map f).set i ((f z).set k (.v y0))).set i (f z')=(xs.set i z').map f:=by
  rw[List.set_set,List.map_set]
 rw[hset] at hput
 refine⟨Z,_,γ,h.poke [t] (by simpa using htr) (bn:=g::(b1++(d1++(β t++d2))++b2)) (Grow.refl _ _) ?_ ?_ ?_⟩
 ·intro b' hb'
  rw[op.hbs,hbd]
  simp only[List.mem_cons,List.mem_append] at hb' ⊢
  rcases hb' with rfl|((hb'|(hb'|(hb'|hb')))|hb')
  ·simp
  ·simp[hb']
  ·simp[hb']
  ·exact .inr ⟨t,by simp,hb'⟩
  ·simp[hb']
  ·simp[hb']
 ·have hn1:=h.nodup r
  have hn2:=h.nodup t
  rw[op.hbs,hbd] at hn1
  rw[List.nodup_iff_count] at hn1 hn2 ⊢
  intro q
  have q1:=hn1 q
  have q2:=hn2 q
  simp only[List.count_cons,List.count_append,List.count_nil] at q1 q2 ⊢
  by_cases hq:q∈β t
  ·have hnr:q∉β r:=fun hm=>h.disj r t q htr hm hq
   rw[op.hbs,hbd] at hnr
   have:=List.count_eq_zero.2 hnr
   simp only[List.count_cons,List.count_append,List.count_nil] at this
   omega
  ·have:=List.count_eq_zero.2 hq
   omega
 ·intro β' hb1 _
  simp only[EntOk,RD]
  rw[hb1]
  exact hput
end Go.Proofs.YtkbcahfajbdgnaaGreatDoorT
namespace Go.Proofs.YtkbcahfajbdgnaaGreatDoorT
open Go
variable {P:Program}{fr:Fr}
def addx (s t:ByteArray):Option ByteArray:=bif Nat.ble (s.size+t.size) 4611686018427387904 then some (s++t) else none
theorem r_sadd {E:Ctx}{o:Oper}{t:Nat}{T T':TypeId}{x y:Operand}{s1 s2 s3:ByteArray}(ho:o.op=.binOp .add T x y T')(hd:o.dst=some t)(ht:Nat.blt t fr.n=true)(hx:vs fr.n E x=some (.string s1))(hy:vs fr.n E y=some (.string s2))(hc:addx s1 s2=some s3) :
  LA P fr E o [⟨t,true,some (.d (sv s3))⟩]:=by
 unfold addx at hc
 cases hb:Nat.ble (s1.size+s2.size) 4611686018427387904 with
 |false=>rw[hb] at hc;cases hc
 |true=>
  rw[hb] at hc
  simp at hc
  subst hc
  have hle:=Nat.le_of_ble_eq_true hb
  refine LA.scal hd ht rfl fun Γ a w Z β γ hle' h=>?_
  unfold execOp
  rw[ho]
  have hlim:¬((s1.size+s2.size:Nat):Int)>IntKind.i64.max:=by
   have:IntKind.i64.max=9223372036854775807:=by decide
   rw[this];omega
  have hrun:(Op.stringOp .add s1 s2).run P w=.ok (.string (s1++s2)) w:=by
   unfold Op.stringOp
   simp only[if_neg hlim]
   rfl
  simp[binOp,eqGuard,vs_ok h (vs_le hle' hx),vs_ok h (vs_le hle' hy),hrun]
def bsOf (xs:List Int):ByteArray:=xs.foldl (fun r n=>r.push (UInt8.ofNat n.toNat)) ByteArray.empty
theorem bytes_row {w:World}{Z:Nat→Prop}{f:Int→List C}(hf:∀x,f x=[.v (.int .u8 x)]):∀{xs:List Int}{vs:List Value}{bs:List Nat},RLL P w Z (xs.map f) vs bs→vs=xs.map (Value.int .u8)
 |[],vs,bs,h=>by simp only[List.map_nil,RLL] at h;simp[h.1]
 |x::xs,vs,bs,h=>by
  simp only[List.map_cons,RLL] at h
  obtain⟨v1,v2,b1,b2,rfl,rfl,h1,h2⟩:=h
  rw[hf] at h1
  simp only[RL,RC] at h1
  obtain⟨y,vs',c1,c2,rfl,_,hy,hv',_⟩:=h1
  rw[bytes_row hf h2,hv',hy.1]
  rfl
theorem run_b2s {w:World}{Z:Nat→Prop}{b:Bool}{Et:TypeId}{f:Int→List C}(hf:∀x,f x=[.v (.int .u8 x)]){xs:List Int}{v:Value}{bs:List Nat}(h:RC P w Z (.sl b Et (xs.map f)) v bs) :
  (Conv.bytesToString v).run P w=.ok (.string (bsOf xs)) w:=by
 simp only[RC] at h
 rcases h with⟨rfl,h2,_⟩|⟨ad,cap,vs,_,_,rfl,_,_,_,hc,_,hr⟩|⟨g,cap,cur,bs',_,_,rfl,hle,_,hg,hs,hk,hr⟩
 ·have:xs=[]:=by simpa using h2
  subst this
  rfl
 ·have hv:=bytes_row hf hr
  rw[List.length_map]
  refine run_bytesToString w ad _ cap xs ?_
  have:=run_loadCells_list (P:=P) w ad vs (fun j u hu=>hc j u hu)
  rw[hv] at this
  simpa using this
 ·have hv:=bytes_row hf hr
  rw[List.length_map]
  refine run_bytesToString w _ _ cap xs ?_
  have:=run_loadCells_list (P:=P) w ⟨g,0,none⟩ (xs.map (Value.int .u8)) (fun j u hu=>by
   rw[cell_row hg]
   rw[←hv,List.getElem?_take] at hu
   split at hu
   ·simpa using hu
   ·cases hu)
  simpa using this
theorem r_b2s {E:Ctx}{o:Oper}{t r:Nat}{T T' Et E1:TypeId}{x:Operand}{xs:List Int}{f:Int→List C}(ho:o.op=.convert T T' x)(hd:o.dst=some t)(ht:Nat.blt t fr.n=true)(h1:P.underlying T=some (.slice E1))(h2:P.underlying T'=some .string)(h3:P.underlying E1=some (.int .u8))
  (hf:∀x,f x=[.v (.int .u8 x)])(hx:slOf fr.n E x=some (r,Et,xs.map f)):LA P fr E o [⟨t,true,some (.d (sv (bsOf xs)))⟩]:=
 LA.scal hd ht rfl fun Γ a w Z β γ hle h=>by
  obtain⟨_,hev,hv⟩:=slOf_ok h (slOf_le hle hx)
  have hrun:=run_b2s (P:=P) hf hv
  unfold execOp
  rw[ho]
  have hsl:∃ad n cap,ev fr.n a γ r=.slice ad n cap:=by
   simp only[RC] at hv
   rcases hv with⟨q,_,_⟩|⟨ad,cap,vs,_,_,q,_⟩|⟨g,cap,cur,bs',_,_,q,_⟩
   ·exact⟨_,_,_,q⟩
   ·exact⟨_,_,_,q⟩
   ·exact⟨_,_,_,q⟩
  obtain⟨ad,n,cap,hq⟩:=hsl
  rw[hq] at hrun
  cases ad <;> simp[convert,run_underlying h1,run_underlying h2,run_underlying h3,hev,hq,hrun]
def ClC (P:Program) (c:C):Prop:=∀w Z Z' y bs,RC P w Z c y bs→RC P w Z' c y bs
def ClL (P:Program) (cs:List C):Prop:=∀w Z Z' vs bs,RL P w Z cs vs bs→RL P w Z' cs vs bs
theorem cl_v {x:Value}:ClC P (.v x):=fun w Z Z' y bs h=>by simpa[RC] using h
theorem cl_n:ClL P []:=fun w Z Z' vs bs h=>by simpa[RL] using h
theorem cl_c {c:C}{cs:List C}(h:ClC P c)(hs:ClL P cs):ClL P (c::cs):=fun w Z Z' vs bs hr=>by
 simp only[RL] at hr ⊢
 obtain⟨y,vs',b1,b2,e1,e2,h1,h2⟩:=hr
 exact⟨y,vs',b1,b2,e1,e2,h _ _ _ _ _ h1,hs _ _ _ _ _ h2⟩
theorem cl_rll {α:Type}{f:α→List C}(h:∀x,ClL P (f x)){w:World}{Z Z':Nat→Prop}:∀{xs:List α}{vs:List Value}{bs:List Nat},RLL P w Z (xs.map f) vs bs→RLL P w Z' (xs.map f) vs bs
 |[],vs,bs,hr=>by simpa[RLL] using hr
 |x::xs,vs,bs,hr=>by
  simp only[List.map_cons,RLL] at hr ⊢
  obtain⟨v1,v2,b1,b2,e1,e2,h1,h2⟩:=hr
  exact⟨v1,v2,b1,b2,e1,e2,h x _ _ _ _ _ h1,cl_rll h h2⟩
theorem cl_s {α:Type}{f:α→List C}{Et:TypeId}{xs:List α}(h:∀x,ClL P (f x)):ClC P (.sl true Et (xs.map f)):=fun w Z Z' y bs hr=>by
 simp only[RC] at hr ⊢
 rcases hr with hr|⟨ad,cap,vs,ho,_⟩|⟨g,cap,cur,bs',ho,hb,hy,h1,h2,hg,hs,hk,hrl⟩
 ·exact .inl hr
 ·cases ho
 ·exact .inr (.inr ⟨g,cap,cur,bs',ho,hb,hy,h1,h2,hg,hs,hk,cl_rll h hrl⟩)
theorem clean_one {c:C}(h:ClC P c):Clean P (.d (.one c)):=fun w Z Z' v bs hr=>h _ _ _ _ _ hr
theorem clean_agg {cs:List C}(h:ClL P cs):Clean P (.d (.agg cs)):=fun w Z Z' v bs hr=>by
 obtain⟨vs,h1,h2⟩:=hr
 exact⟨vs,h1,h _ _ _ _ _ h2⟩
end Go.Proofs.YtkbcahfajbdgnaaGreatDoorT
namespace Go.Proofs.YtkbcahfajbdgnaaGreatDoorT
open Go
variable {P:Program}{fr:Fr}
theorem look_app (a b:List Up) (u:Nat):look (a++b) u=(match look a u with|some p=>some p|none=>look b u):=by
 induction a with
 |nil=>rfl
 |cons p a ih=>
  simp only[List.cons_append,look]
  cases Nat.beq p.t u with
  |true=>rfl
  |false=>simpa using ih
theorem hit_app (a b:List Up) (e:Ent):hit (a++b) e=(hit a e||hit b e):=by
 induction a with
 |nil=>rfl
 |cons p a ih=>simp only[List.cons_append,hit,ih,Bool.or_assoc]
theorem upd_upd {Γ:Ctx}{φ δ:List Up}(h:∀u p e,look φ u=some p→p.e=some e→hit δ e=false):upd (upd Γ φ) δ=upd Γ (δ++φ):=by
 funext u
 unfold upd
 rw[look_app]
 cases hd:look δ u with
 |some p=>rfl
 |none=>
  simp only
  cases hf:look φ u with
  |some p=>
   simp only
   cases he:p.e with
   |none=>rfl
   |some e=>simp[h u p e hf he]
  |none=>
   simp only
   cases Γ u with
   |none=>rfl
   |some e=>
    simp only[hit_app]
    cases h1:hit φ e <;> cases h2:hit δ e <;> simp[h2]
theorem upd_le {E Γ:Ctx}(hle:E_le E Γ) (φ:List Up):E_le (upd E φ) (upd Γ φ):=by
 intro t e h
 unfold upd at h ⊢
 cases hf:look φ t with
 |some p=>rw[hf] at h;exact h
 |none=>
  rw[hf] at h
  simp only at h ⊢
  cases hE:E t with
  |none=>rw[hE] at h;cases h
  |some e0=>rw[hE] at h;rw[hle t e0 hE];exact h
theorem LA.freeze {E:Ctx}{o:Oper}{δ:List Up}{s:Nat}{X:Dt}(hs:E s=some (.d X))(h:LA P fr (upd E [⟨s,false,some (.d (shD X))⟩]) o δ):LA P fr E o (δ++[⟨s,false,some (.d (shD X))⟩]):=by
 intro Γ hle a w K Q hst hk
 refine h _ (upd_le hle _) a w K Q (hst.freeze s (hle s _ hs)) (fun a' w' hst'=>hk a' w' ?_)
 rw[←upd_upd]
 ·exact hst'
 ·intro u p e hl he
  simp only[look] at hl
  cases hb:Nat.beq s u with
  |false=>rw[hb] at hl;cases hl
  |true=>
   rw[hb] at hl
   cases hl
   cases he
   have:∀δ:List Up,∀X:Dt,hit δ (.d X)=false:=by
    intro δ X
    induction δ with
    |nil=>rfl
    |cons p δ ih=>simp only[hit,ih];cases p.hard <;> rfl
   exact this _ _
theorem la_slo {E:Ctx}{o:Oper}{t s:Nat}{T Et:TypeId}{lo hi:Option Operand}{j:Int}{α:Type}{f:α→List C}{xs:List α}(ho:o.op=.slice T (.tmp s) lo hi none)(hd:o.dst=some t)(ht:Nat.blt t fr.n=true)
  (hsn:Nat.blt s fr.n=true)(hT:elemT P T Et=true)(hx:E s=some (.d (.one (.sl true Et (xs.map f)))))(hlo:sbnd fr.n E lo 0 0)(hhi:sbnd fr.n E hi xs.length j)(h0:0≤j)(h2:j≤(xs.length:Int)) :
  LA P fr E o (⟨t,true,some (.d (.one (.sl true Et ((xs.take j.toNat).map f))))⟩::[s].map rmv):=by
 intro Γ hle a w K Q ⟨Z,β,γ,h⟩ hk
 obtain⟨inf,zz,hu,hin,hzz,hzs,hpos,hby,hsz,_⟩:=elemT_ok hT
 have he:=h.ent s _ (hle s _ hx)
 simp only[EntOk,RD] at he
 have hlo':=sbnd_ok h hle hlo
 have hhi':=sbnd_ok h hle hhi
 have hev:a.eval (.tmp s)=ev fr.n a γ s:=eval_ev hsn
 simp only[RC] at he
 rcases he with⟨h3,h4,h5⟩|⟨_,_,_,hf,_⟩|⟨g,cap,cur,bs',_,hbs,hy,h3,h4,hg,hcs,hkk,hrl⟩
 ·have hxs:xs=[]:=by simpa using h4
  subst hxs
  have hj:j=0:=by simp at h2;omega
  subst hj
  refine wp_of_run (w':=w) (v:=.slice none 0 0) ?_ (hk _ _ ?_)
  ·unfold execOp
   rw[ho]
   have e1:=run_bounds (P:=P) w true 0 0 _ _ _ _ hlo' hhi' (Int.le_refl 0) (Int.le_refl 0) (by simp)
   simp[Instr.sliceAt,run_underlying hu,Instr.slice,hev,h3,e1,sizeOf,typeInfo,hin]
  ·rw[hd]
   refine⟨Z,_,γ,h.give [s] ht (bn:=[]) (Grow.refl w _) (by simp) (by simp) ?_⟩
   intro β' ev' hb hv _ _
   simp[EntOk,RD,RC,hb,hv]
 ·cases hf
 ·refine wp_of_run (w':=w) (v:=.slice (some ⟨g,0,none⟩) j.toNat cap) ?_ (hk _ _ ?_)
  ·unfold execOp
   rw[ho]
   have h3':xs.length≤cap:=by simpa using h3
   have e1:=run_bounds (P:=P) w true xs.length cap _ _ 0 j hlo' hhi' (Int.le_refl 0) h0 (by omega)
   have hadd:(if cap=0 then some (⟨g,0,none⟩:Addr) else some ((⟨g,0,none⟩:Addr).add (0*inf.size)))=some ⟨g,0,none⟩:=by
    split
    ·rfl
    ·simp[Addr.add]
   have hy2:ev fr.n a γ s=.slice (some ⟨g,0,none⟩) xs.length cap:=by simpa using hy
   simp only[Int.toNat_zero] at e1
   simp[Instr.sliceAt,run_underlying hu,Instr.slice,hev,hy2,e1,sizeOf,typeInfo,hin]
   intro _
   simp[Addr.add]
  ·rw[hd]
   have hsplit:xs.map f=(xs.take j.toNat).map f++(xs.drop j.toNat).map f:=by rw[←List.map_append,List.take_append_drop]
   have hk2:∀l:List α,(∀q∈l,q∈xs)→∀e∈l.map f,e.length=szOf P Et:=by
    intro l hl e he
    obtain⟨q,hq1,rfl⟩:=List.mem_map.1 he
    exact hkk _ (List.mem_map_of_mem (hl q hq1))
   have hlt:(xs.take j.toNat).length=j.toNat:=by rw[List.length_take];omega
   have hrl0:=hrl
   rw[hsplit] at hrl
   obtain⟨v1,v2,b1,b2,hvs,hbb,hr1,hr2⟩:=(RLL.app _ _ _ _).1 hrl
   have l1:=RLL.length _ (hk2 _ (fun q hq=>List.mem_of_mem_take hq)) hr1
   have hjl:j.toNat≤xs.length:=by omega
   have hv1:cur.toList.take (j.toNat*szOf P Et)=v1:=by
    have e2:(cur.toList.take ((xs.map f).length*szOf P Et)).take (j.toNat*szOf P Et)=v1:=by
     rw[show(xs.map f).length=((xs.take j.toNat).map f++(xs.drop j.toNat).map f).length by rw[←hsplit],hvs]
     rw[List.length_map,hlt] at l1
     rw[←l1,List.take_left]
    rw[List.take_take,Nat.min_eq_left] at e2
    ·exact e2
    ·exact Nat.mul_le_mul_right _ (by simpa using hjl)
   refine⟨Z,_,γ,h.give [s] ht (bn:=g::b1) (Grow.refl w _) ?_ ?_ ?_⟩
   ·intro b hb
    have:b∈β s:=by
     rw[hbs,hbb]
     rcases List.mem_cons.1 hb with rfl|hb
     ·simp
     ·simp[hb]
    exact⟨(h.own s b this).1,.inr ⟨s,by simp,this⟩⟩
   ·have:=h.nodup s
    rw[hbs,hbb] at this
    simp only[List.nodup_cons,List.mem_append,List.nodup_append] at this ⊢
    exact⟨fun hm=>this.1 (.inl hm),this.2.1⟩
   ·intro β' ev' hb hv _ _
    simp only[EntOk,RD,RC]
    right;right
    refine⟨g,cap,cur,b1,trivial,hb,?_,?_,h4,hg,hcs,hk2 _ (fun q hq=>List.mem_of_mem_take hq),?_⟩
    ·rw[hv,List.length_map,hlt]
    ·rw[List.length_map,hlt]
     have:xs.length≤cap:=by simpa using h3
     omega
    ·rw[List.length_map,hlt,hv1]
     exact hr1
def ssx (s:ByteArray) (i j:Int):Option ByteArray:=bif decide (0≤i)&&decide (i≤j)&&decide (j≤(s.size:Int)) then some (s.extract i.toNat j.toNat) else none
theorem la_sls {E:Ctx}{o:Oper}{t:Nat}{T:TypeId}{x:Operand}{lo hi:Option Operand}{i j:Int}{s s':ByteArray}(ho:o.op=.slice T x lo hi none)(hd:o.dst=some t)(ht:Nat.blt t fr.n=true)
  (hT:P.underlying T=some .string)(hx:vs fr.n E x=some (.string s))(hlo:sbnd fr.n E lo 0 i)(hhi:sbnd fr.n E hi s.size j)(hs:ssx s i j=some s'):LA P fr E o [⟨t,true,some (.d (sv s'))⟩]:=
 LA.scal hd ht rfl fun Γ a w Z β γ hle h=>by
  unfold ssx at hs
  cases hb:decide (0≤i)&&decide (i≤j)&&decide (j≤(s.size:Int)) with
  |false=>rw[hb] at hs;cases hs
  |true=>
   rw[hb] at hs
   simp at hs
   subst hs
   simp only[Bool.and_eq_true,decide_eq_true_eq] at hb
   unfold execOp
   rw[ho]
   have e1:=run_bounds (P:=P) w false s.size s.size _ _ _ _ (sbnd_ok h hle hlo) (sbnd_ok h hle hhi) hb.1.1 hb.1.2 hb.2
   simp[Instr.sliceAt,run_underlying hT,Instr.slice,vs_ok h (vs_le hle hx),e1]
end Go.Proofs.YtkbcahfajbdgnaaGreatDoorT
namespace Go.Proofs.YtkbcahfajbdgnaaGreatDoorT
open Go
variable {P:Program}{fr:Fr}
def isV:C→Bool
 |.v _=>true
 |_=>false
theorem RL.flat {w:World}{Z Z':Nat→Prop}:∀{cs:List C}{vs:List Value}{bs:List Nat},cs.all isV=true→RL P w Z cs vs bs→RL P w Z' cs vs bs
 |[],_,_,_,h=>h
 |c::cs,vs,bs,hf,h=>by
  simp only[List.all_cons,Bool.and_eq_true] at hf
  simp only[RL] at h ⊢
  obtain⟨y,vs',b1,b2,rfl,rfl,hc,hr⟩:=h
  refine⟨y,vs',b1,b2,rfl,rfl,?_,RL.flat hf.2 hr⟩
  cases c with
  |v x=>simpa only[RC] using hc
  |sl o E es=>cases hf.1
theorem RLL.flat {w:World}{Z Z':Nat→Prop}:∀{es:List (List C)}{vs:List Value}{bs:List Nat},(∀e∈es,e.all isV=true)→RLL P w Z es vs bs→RLL P w Z' es vs bs
 |[],_,_,_,h=>h
 |e::es,vs,bs,hf,h=>by
  simp only[RLL] at h ⊢
  obtain⟨v1,v2,b1,b2,rfl,rfl,hc,hr⟩:=h
  exact⟨v1,v2,b1,b2,rfl,rfl,RL.flat (hf e (by simp)) hc,RLL.flat (fun e' he'=>hf e' (by simp[he'])) hr⟩
theorem la_appb {E:Ctx}{o:Oper}{t:Nat}{T Et:TypeId}{s x:Operand}{Ss:List Nat}{r:Option Nat}{b:Bool}{α:Type}{f:α→List C}{xs ys zs:List α}
  (ho:o.op=.call {callee:=.builtin .append,args:=#[s,x],argTypes:=#[T,T]})(hd:o.dst=some t)(ht:Nat.blt t fr.n=true)(hT:elemT P T Et=true)
  (hs:tk fr.n E s=some (.one (.sl true Et (xs.map f)),Ss))(hx:vwr fr.n E x=some (r,.one (.sl b Et (ys.map f))))(hf:∀y,(f y).all isV=true)
  (hz:apx xs ys=some zs)(hS:nodupB Ss=true) :
  LA P fr E o (⟨t,true,some (.d (.one (.sl true Et (zs.map f))))⟩::Ss.map rmv):=by
 obtain⟨hlen,rfl⟩:=apx_ok hz
 have hS:=nodupB_ok hS
 intro Γ hle a w K Q ⟨Z,β,γ,h⟩ hk
 obtain⟨b1,hs1,hs2⟩:=tk_sub h (tk_le hle hs)
 have hx1:=vwr_ok h (vwr_le hle hx)
 simp only[RD] at hs1 hx1
 obtain⟨b2,hsrc,hsub⟩:=RC.toSrc hx1
 have hb2:b2=[]:=by
  cases b2 with
  |nil=>rfl
  |cons q l=>have:=hsub.mem (x:=q) (by simp);simp at this
 subst hb2
 have hsrc:Src P w Z Et (ys.map f) (a.eval x) []:=by
  rcases hsrc with h1|⟨ad,c,news,h1,h2,h3,h4,h5⟩
  ·exact .inl h1
  ·exact .inr ⟨ad,c,news,h1,h2,h3,h4,RLL.flat (fun e he=>by obtain⟨q,_,rfl⟩:=List.mem_map.1 he;exact hf q) h5⟩
 have hfl:=h.flat hS
 have hmem:∀b,b∈b1→∃s,s∈Ss∧b∈β s:=fun b hb=>by
  obtain⟨s,h1,h2⟩:=List.mem_flatMap.1 (hs2.mem hb);exact⟨s,h1,h2⟩
 have hlt:∀b,b∈b1++[]→b<w.heap.size:=fun b hb=>by
  obtain⟨s,h1,h2⟩:=hmem b (by simpa using hb);exact(h.own s b h2).1
 obtain⟨v',w',b',hrun,hgr,hres,hb',hb'lt⟩:=run_app (P:=P) (ty:=o.type) hT hs1 hsrc (by simpa using hlen) (by simpa using hs2.nodup hfl)
  (fun b hb=>by obtain⟨s,h1,h2⟩:=hmem b hb;exact(h.own s b h2).2.1) hlt h.zlt
 refine wp_of_run (w':=w') (v:=v') ?_ (hk _ _ ?_)
 ·unfold execOp
  rw[ho]
  simp[resolve,invoke,builtin,hrun]
 ·rw[hd]
  refine⟨Z,_,γ,h.give Ss ht (bn:=b') (hgr.mono fun b hb=>hmem b hb) ?_ ?_ ?_⟩
  ·intro b hb
   refine⟨hb'lt b hb,?_⟩
   rcases List.mem_cons.1 (hb'.mem hb) with rfl|hb
   ·exact .inl (Nat.le_refl _)
   ·exact .inr (hmem b (by simpa using hb))
  ·refine hb'.nodup ?_
   rw[List.nodup_cons]
   exact⟨fun hm=>by have:=hlt _ hm;omega,by simpa using hs2.nodup hfl⟩
  ·intro β' ev' h1 h2 _ _
   simp only[EntOk,RD]
   rw[h2,h1,List.map_append]
   exact hres
theorem RL.mid {w:World}{Z:Nat→Prop}{cs:List C}{vs:List Value}{bs:List Nat}(h:RL P w Z cs vs bs) (k n:Nat)(hn:k+n≤cs.length) :
  ∃v1 v v2 b1 b b2,vs=v1++v++v2∧bs=b1++b++b2∧v1.length=k∧v.length=n∧RL P w Z (cs.take k) v1 b1∧RL P w Z ((cs.drop k).take n) v b∧RL P w Z (cs.drop (k+n)) v2 b2:=by
 have hsplit:cs=cs.take k++((cs.drop k).take n++cs.drop (k+n)):=by
  rw[←List.drop_drop,List.take_append_drop,List.take_append_drop]
 rw[hsplit] at h
 obtain⟨v1,v2',b1,b2',rfl,rfl,h1,h2⟩:=(RL.app _ _ _ _).1 h
 obtain⟨v,v2,b,b2,rfl,rfl,h3,h4⟩:=(RL.app _ _ _ _).1 h2
 refine⟨v1,v,v2,b1,b,b2,by simp,by simp,?_,?_,h1,h3,h4⟩
 ·rw[RL.length _ h1,List.length_take];omega
 ·rw[RL.length _ h3,List.length_take,List.length_drop];omega
theorem la_rowbb {E:Ctx}{o:Oper}{t:Nat}{T T':TypeId}{x:Operand}{r k m:Nat}{cs cs':List C}(ho:o.op=.load T x)(hd:o.dst=some t)(ht:Nat.blt t fr.n=true)
  (hT:rowT P T=true)(hx:flOf fr.n E x=some (r,k,T',cs))(hm:szOf P T=m)(hn:k+m≤cs.length)(hs:((cs.drop k).take m).map shC=cs')(hr:Nat.beq r t=false):LA P fr E o [⟨t,true,some (.bor r (.agg cs'))⟩]:=by
 subst hm
 refine LA.val hd ht fun Γ a w Z β γ hle h=>?_
 obtain⟨_,b,vs,bs,hv,hr',hb,hl,hβ⟩:=flOf_ok h (flOf_le hle hx)
 obtain⟨v1,v,v2,b1,bb,b2,hvs,hbs,hl1,hlv,_,hre,_⟩:=RL.mid hl k (szOf P T) hn
 refine⟨.agg v.toArray,?_,fun β' ev' hb hb' hv' hv''=>?_⟩
 ·unfold execOp
  rw[ho]
  have:=run_load_row (P:=P) hT (ad:=⟨b,k,none⟩) (w:=w) (vs:=v) (by rw[hlv]) (fun j x hj=>by
   have h6:(⟨b,k,none⟩:Addr).add j=⟨b,k+j,none⟩:=by unfold Addr.add;split <;> simp_all
   have h5:=cell_row hb (k+j)
   rw[add_at] at h5
   rw[h6,h5,←Array.getElem?_toList,hvs,←hl1]
   exact get_mid hj)
  simp[hv,this]
 ·simp only[EntOk]
  rw[hv']
  refine⟨v,by simp,?_⟩
  have h1:=RL.share _ hre
  rw[shL_map,hs] at h1
  refine RL.mono ?_ _ (fun _ _=>rfl) h1
  intro b' hz
  simp only[zr]
  rw[hb' r (by rintro rfl;simp at hr),hβ,hbs]
  rcases hz with hz|hz
  ·exact .inl hz
  ·right;simp[hz]
theorem la_rowb {E:Ctx}{o:Oper}{t:Nat}{T T':TypeId}{x:Operand}{r k m:Nat}{cs:List C}(ho:o.op=.load T x)(hd:o.dst=some t)(ht:Nat.blt t fr.n=true)
  (hT:rowT P T=true)(hx:flOf fr.n E x=some (r,k,T',cs))(hm:szOf P T=m)(hn:k+m≤cs.length)(hp:((cs.drop k).take m).all plainC=true):LA P fr E o [⟨t,true,some (.d (.agg ((cs.drop k).take m)))⟩]:=by
 subst hm
 refine LA.val hd ht fun Γ a w Z β γ hle h=>?_
 obtain⟨_,b,vs,bs,hv,hr',hb,hl,hβ⟩:=flOf_ok h (flOf_le hle hx)
 obtain⟨v1,v,v2,b1,bb,b2,hvs,hbs,hl1,hlv,_,hre,_⟩:=RL.mid hl k (szOf P T) hn
 refine⟨.agg v.toArray,?_,fun β' ev' hb hb' hv' hv''=>?_⟩
 ·unfold execOp
  rw[ho]
  have:=run_load_row (P:=P) hT (ad:=⟨b,k,none⟩) (w:=w) (vs:=v) (by rw[hlv]) (fun j x hj=>by
   have h6:(⟨b,k,none⟩:Addr).add j=⟨b,k+j,none⟩:=by unfold Addr.add;split <;> simp_all
   have h5:=cell_row hb (k+j)
   rw[add_at] at h5
   rw[h6,h5,←Array.getElem?_toList,hvs,←hl1]
   exact get_mid hj)
  simp[hv,this]
 ·simp only[EntOk,RD]
  have:=plainL_nil _ hp hre
  subst this
  rw[hb,hv']
  exact⟨v,by simp,hre⟩
theorem la_rowst {E:Ctx}{o:Oper}{T T':TypeId}{p x:Operand}{r k:Nat}{cs cs':List C}{S:List Nat}(ho:o.op=.store T p x)(hd:o.dst=none)
  (hT:szOf P T=cs'.length)(hi:(P.info? T).isSome=true)(hp:flOf fr.n E p=some (r,k,T',cs))(hx:tk fr.n E x=some (.agg cs',S))(hl:k+cs'.length≤cs.length)
  (hS:S.contains r=false)(hSn:nodupB S=true) :
  LA P fr E o (⟨r,false,some (.box T' (cs.take k++cs'++cs.drop (k+cs'.length)))⟩::S.map rmv):=by
 have hSn:=nodupB_ok hSn
 intro Γ hle a w K Q ⟨Z,β,γ,h⟩ hK
 obtain⟨hgr,g0,vs,bs,hv,hev,hb,hrl,hβ⟩:=flOf_ok h (flOf_le hle hp)
 obtain⟨bx,⟨ys,hye,hx1⟩,hx2⟩:=tk_sub h (tk_le hle hx)
 have hyl:ys.length=cs'.length:=RL.length _ hx1
 obtain⟨v1,v,v2,b1,b,b2,hvs,hbs,hl1,hlv,hr1,hre0,hr2⟩:=RL.mid hrl k cs'.length hl
 have hsz:vs.size=cs.length:=by have:=RL.length _ hrl;simpa using this
 obtain⟨cur',hc1,hc2,hc3,hc4,hc5,hc6,hc7⟩:=setCells_row (T:=T') ys k w vs hb (by rw[hyl,hsz];exact hl)
 have hthere:w.there g0 k ys.toArray.size:=by
  intro j hj
  have hj':j<cs'.length:=by simpa[hyl] using hj
  refine⟨?_,by simp[World.frozen?,hb]⟩
  have:=cell_row hb (k+j)
  rw[add_at] at this
  rw[this]
  simp;omega
 have hinfo:(P.info? T).map (·.size)=some ys.toArray.size:=by
  cases hq:P.info? T with
  |none=>rw[hq] at hi;cases hi
  |some inf=>
   have:inf.size=szOf P T:=by simp[szOf,hq]
   simp[this,hT,hyl]
 have hrun:=run_storeAt_mid (P:=P) w g0 k T ys.toArray hthere hinfo (all_oneCell_toArray (RL.one _ hx1))
 have hrS:r∉S:=by simpa using hS
 have hnd:=h.nodup r
 rw[hβ,hbs] at hnd
 have hgr':g0∈β r:=by rw[hβ];simp
 have hdis:∀b',b'∈bx→b'∉β r:=by
  intro b' hb' hb''
  obtain⟨s,hs1,hs2⟩:=flat_mem hx2 b' hb'
  exact h.disj s r b' (by rintro rfl;exact hrS hs1) hs2 hb''
 unfold Oper.wp
 have hexec:(execOp a.eval o).run P w=.ok .skip (w.setCells g0 k ys):=by
  unfold execOp
  rw[ho]
  simp[hv,hye,hrun]
 rw[hexec]
 simp only[Oper.upon,hd,Act.put]
 have hng:∀b',b'∈b1++bx++b2→b'≠g0:=by
  rintro b' hb' rfl
  simp only[List.mem_append] at hb'
  simp only[List.nodup_cons,List.mem_append] at hnd
  rcases hb' with(hb'|hb')|hb'
  ·exact hnd.1 (by simp[hb'])
  ·exact hdis b' hb' hgr'
  ·exact hnd.1 (by simp[hb'])
 have hnZ:∀b',Z b'→b'≠g0:=by rintro b' hz rfl;exact(h.own r b' hgr').2.1 hz
 have hblk:∀b',(Z b'∨b'∈b1++bx++b2)→(w.setCells g0 k ys).heap[b']?=w.heap[b']?:=
  fun b' hb'=>hc3 b' (by rcases hb' with hb'|hb';exact hnZ b' hb';exact hng b' hb')
 refine hK _ _ ⟨Z,_,γ,h.poke S hrS (bn:=g0::(b1++bx++b2)) ⟨hc4,hc5,hc6,by omega,fun b' _ hn=>hc3 b' (by rintro rfl;exact hn (.inl hgr')),setCells_drawn _ _ _⟩ ?_ ?_ ?_⟩
 ·intro b' hb'
  rw[hβ,hbs]
  simp only[List.mem_cons,List.mem_append] at hb' ⊢
  rcases hb' with rfl|((hb'|hb')|hb')
  ·simp
  ·simp[hb']
  ·right;exact flat_mem hx2 b' hb'
  ·simp[hb']
 ·rw[List.nodup_cons]
  refine⟨fun hm=>hng g0 hm rfl,?_⟩
  have hxn:=hx2.nodup (h.flat hSn)
  have hdx:∀b',b'∈bx→b'∉b1++b++b2:=fun b' hb' hm=>hdis b' hb' (by rw[hβ,hbs];exact List.mem_cons_of_mem _ hm)
  rw[List.nodup_iff_count] at hxn ⊢
  have hn2:=List.nodup_iff_count.1 (List.nodup_cons.1 hnd).2
  intro q
  have h1:=hxn q
  have h2:=hn2 q
  simp only[List.count_append] at h2 ⊢
  by_cases hq:q∈bx
  ·have h3:=List.count_eq_zero.2 (hdx q hq)
   simp only[List.count_append] at h3
   omega
  ·have h3:=List.count_eq_zero.2 hq
   omega
 ·intro β' h1 _
  simp only[EntOk]
  refine⟨g0,cur',b1++bx++b2,hev,hc1,?_,h1⟩
  have t1:vs.toList.take k=v1:=by rw[hvs,←hl1,List.append_assoc,List.take_left]
  have t2:vs.toList.drop (k+ys.length)=v2:=by
   have:k+ys.length=(v1++v).length:=by simp[hl1,hlv,hyl]
   rw[this,hvs,List.drop_left]
  rw[hc2,t1,t2]
  refine(RL.app _ _ _ _).2 ⟨v1++ys,v2,b1++bx,b2,rfl,rfl,(RL.app _ _ _ _).2 ⟨v1,ys,b1,bx,rfl,rfl,?_,?_⟩,?_⟩
  ·exact RL.mono (fun _ h=>h) _ (fun b' hb'=>hblk b' (by rcases hb' with h|h;exact .inl h;exact .inr (by simp[h]))) hr1
  ·exact RL.mono (fun _ h=>h) _ (fun b' hb'=>hblk b' (by rcases hb' with h|h;exact .inl h;exact .inr (by simp[h]))) hx1
  ·exact RL.mono (fun _ h=>h) _ (fun b' hb'=>hblk b' (by rcases hb' with h|h;exact .inl h;exact .inr (by simp[h]))) hr2
theorem la_ldh {E:Ctx}{o:Oper}{t:Nat}{T T':TypeId}{x:Operand}{r k:Nat}{c:C}{cs:List C}(ho:o.op=.load T x)(hd:o.dst=some t)(ht:Nat.blt t fr.n=true)
  (hT:flatT P T=true)(hx:flOf fr.n E x=some (r,k,T',cs))(hc:cs[k]?=some c)(hr:Nat.beq r t=false):LA P fr E o [⟨t,true,some (.d (.one c))⟩,⟨r,false,some (.hbox T' cs k)⟩]:=by
 intro Γ hle a w K Q hst hk
 refine la_ldft ho hd ht hT hx hc hr Γ hle a w K Q hst (fun a' w' y hs'=>hk a' w' ?_)
 obtain⟨Z,β,γ,h⟩:=hs'
 have htr:t≠r:=by rintro rfl;simp at hr
 have hbt:Nat.beq t r=false:=by
  cases hb:Nat.beq t r with
  |false=>rfl
  |true=>exact absurd (Nat.eq_of_beq_eq_true hb) htr
 refine⟨Z,β,γ,⟨h.gh,h.defers,h.size,h.evo,h.zlt,h.zin,h.znew,h.own,h.nodup,h.disj,h.gl,?_⟩⟩
 intro u e hu
 by_cases hur:u=r
 ·subst hur
  have h1:=h.ent u (.box T' (cs.set k (.v y))) (by simp[upd,look,hbt])
  have h2:e=.hbox T' cs k:=by simpa[upd,look,hbt] using hu.symm
  subst h2
  exact⟨y,h1⟩
 ·refine h.ent u e ?_
  have hru:Nat.beq r u=false:=by
   cases hb:Nat.beq r u with
   |false=>rfl
   |true=>exact absurd (Nat.eq_of_beq_eq_true hb).symm hur
  unfold upd at hu ⊢
  simp only[look,hru,cond_false] at hu ⊢
  exact hu
def hlOf (n:Nat) (Γ:Ctx):Operand→Option (Nat×Nat×TypeId×List C×Nat)
 |.tmp t=>bif Nat.blt t n then
   match Γ t with
   |some (.fld r k)=>match Γ r with
    |some (.hbox T cs j)=>some (r,k,T,cs,j)
    |_=>none
   |some (.hbox T cs j)=>some (t,0,T,cs,j)
   |some (.eq r)=>match Γ r with
    |some (.hbox T cs j)=>some (r,0,T,cs,j)
    |_=>none
   |_=>none
  else none
 |_=>none
theorem hlOf_ok {E Γ:Ctx}{a:Act}{w:World}{Z:Nat→Prop}{β:Nat→List Nat}{γ:Nat→Value}(h:Core P fr Γ a w Z β γ)(hle:E_le E Γ){x:Operand}{r k j:Nat}{T:TypeId}{cs:List C}
  (hv:hlOf fr.n E x=some (r,k,T,cs,j)):∃y b vs bs,a.eval x=.pointer (some ⟨b,k,none⟩)∧ev fr.n a γ r=.pointer (some ⟨b,0,none⟩)∧w.heap[b]?=some (.cells vs T (0,0))∧RL P w Z (cs.set j (.v y)) vs.toList bs∧β r=b::bs:=by
 cases x with
 |const v=>simp[hlOf] at hv
 |global g=>simp[hlOf] at hv
 |func f=>simp[hlOf] at hv
 |tmp t=>
  simp only[hlOf] at hv
  cases ht:Nat.blt t fr.n with
  |false=>rw[ht] at hv;cases hv
  |true=>
   rw[ht] at hv
   simp only[cond_true] at hv
   rw[eval_ev (γ:=γ) ht]
   cases hg:E t with
   |none=>rw[hg] at hv;cases hv
   |some e=>
    have he:=h.ent t e (hle t e hg)
    rw[hg] at hv
    cases e <;> simp only at hv <;> try cases hv
    ·rename_i q
     cases hq:E q with
     |none=>rw[hq] at hv;cases hv
     |some e0=>
      have he0:=h.ent q e0 (hle q e0 hq)
      rw[hq] at hv
      cases e0 <;> simp only at hv <;> cases hv
      obtain⟨y,b,vs,bs,h1,h2,h3,h4⟩:=he0
      simp only[EntOk] at he
      exact⟨y,b,vs,bs,he.trans h1,h1,h2,h3,h4⟩
    ·rename_i q k'
     cases hq:E q with
     |none=>rw[hq] at hv;cases hv
     |some e0=>
      have he0:=h.ent q e0 (hle q e0 hq)
      rw[hq] at hv
      cases e0 <;> simp only at hv <;> cases hv
      obtain⟨y,b,vs,bs,h1,h2,h3,h4⟩:=he0
      obtain⟨b',h5,h6⟩:=he
      rw[h1] at h5
      cases h5
      exact⟨y,b,vs,bs,h6,h1,h2,h3,h4⟩
    ·obtain⟨y,b,vs,bs,h1,h2,h3,h4⟩:=he
     exact⟨y,b,vs,bs,h1,h1,h2,h3,h4⟩
theorem la_sth {E:Ctx}{o:Oper}{T T':TypeId}{p x:Operand}{r k:Nat}{c':C}{cs:List C}{S:List Nat}(ho:o.op=.store T p x)(hd:o.dst=none)
  (hT:szOf P T=1)(hi:(P.info? T).isSome=true)(hp:hlOf fr.n E p=some (r,k,T',cs,k))(hk:Nat.blt k cs.length=true)(hx:tk fr.n E x=some (.one c',S))(hS:S.contains r=false) :
  LA P fr E o (⟨r,false,some (.box T' (cs.set k c'))⟩::S.map rmv):=by
 have hkl:k<cs.length:=by simpa[Nat.blt_eq] using hk
 intro Γ hle a w K Q ⟨Z,β,γ,h⟩ hK
 obtain⟨y0,b,vs,bs,hv,hr',hb,hl,hβ⟩:=hlOf_ok h hle hp
 obtain⟨bx,hx1,hx2,hx3⟩:=tk_ok h (tk_le hle hx)
 have hc:(cs.set k (.v y0))[k]?=some (.v y0):=by simp[hkl]
 obtain⟨v1,y,v2,b1,b2,b3,hvs,hbs,hlen,hl1,hrc,hl2⟩:=RL.get hl hc
 have hk':vs[k]?=some y:=by rw[←Array.getElem?_toList,hvs,List.getElem?_append_right (by omega)];simp[hlen]
 have hy:w.cell? ⟨b,k,none⟩=some y:=by simp[World.cell?,hb,hk']
 have hf:w.frozen? ⟨b,k,none⟩=false:=by simp[World.frozen?,hb]
 have hrun:=run_store_flat (P:=P) hT hi hy hf (RC.one hx1)
 unfold Oper.wp
 have hexec:(execOp a.eval o).run P w=.ok .skip (w.setCell ⟨b,k,none⟩ (a.eval x)):=by
  unfold execOp
  rw[ho]
  simp[hv,hrun]
 rw[hexec]
 simp only[Oper.upon,hd,Act.put]
 have hb2:b2=[]:=by simp only[RC] at hrc;exact hrc.2.2
 subst hb2
 refine hK _ _ ⟨Z,_,γ,h.poke S (by simpa using hS) (bn:=b::(b1++bx++b3)) (Grow.setCell _ _ _ _ (.inl (by rw[hβ];simp))) ?_ ?_ ?_⟩
 ·intro b' hb'
  simp only[List.mem_cons,List.mem_append] at hb'
  rcases hb' with rfl|(hb'|hb')|hb'
  ·left;rw[hβ];simp
  ·left;rw[hβ,hbs];simp[hb']
  ·right;exact(hx3 b' hb').2
  ·left;rw[hβ,hbs];simp[hb']
 ·have hnd:=h.nodup r
  rw[hβ,hbs] at hnd
  have hdis:∀b',b'∈bx→b'∉β r:=by
   intro b' hb' hb''
   obtain⟨s,hs1,hs2⟩:=(hx3 b' hb').2
   exact h.disj s r b' (by rintro rfl;simp at hS;exact hS hs1) hs2 hb''
  rw[hβ,hbs] at hdis
  rw[List.nodup_cons]
  constructor
  ·simp only[List.mem_append]
   rintro((h'|h')|h')
   ·simp only[List.nodup_cons,List.mem_append] at hnd;exact hnd.1 (.inl (.inl h'))
   ·exact hdis b h' (by simp)
   ·simp only[List.nodup_cons,List.mem_append] at hnd;exact hnd.1 (.inr h')
  ·rw[List.nodup_iff_count]
   have hn2:=List.nodup_iff_count.1 (List.nodup_cons.1 hnd).2
   have hxn:=List.nodup_iff_count.1 hx2
   intro q
   have h1:=hxn q
   have h2:=hn2 q
   simp only[List.count_append,List.count_nil] at h2 ⊢
   by_cases hq:q∈bx
   ·have h3:q∉b1++[]++b3:=fun hm=>hdis q hq (List.mem_cons_of_mem _ hm)
    have h3:=List.count_eq_zero.2 h3
    simp only[List.count_append] at h3
    omega
   ·have h3:=List.count_eq_zero.2 hq
    omega
 ·intro β' h1 _
  simp only[EntOk]
  refine⟨b,vs.setIfInBounds k (a.eval x),b1++bx++b3,hr',setRow_of hb,?_,h1⟩
  have hng:∀b',b'∈b1++bx++b3→b'≠b:=by
   rintro b' hb' rfl
   have hnd:=h.nodup r
   rw[hβ,hbs] at hnd
   simp only[List.mem_append] at hb'
   simp only[List.nodup_cons,List.mem_append] at hnd
   rcases hb' with(hb'|hb')|hb'
   ·exact hnd.1 (by simp[hb'])
   ·obtain⟨s,hs1,hs2⟩:=(hx3 b' hb').2
    exact h.disj s r b' (by rintro rfl;simp at hS;exact hS hs1) hs2 (by rw[hβ];simp)
   ·exact hnd.1 (by simp[hb'])
  have hnZ:∀b',Z b'→b'≠b:=by rintro b' hz rfl;exact(h.own r b' (by rw[hβ];simp)).2.1 hz
  have hblk:∀b',(Z b'∨b'∈b1++bx++b3)→(w.setCell ⟨b,k,none⟩ (a.eval x)).heap[b']?=w.heap[b']?:=by
   intro b' hb'
   have:b'≠b:=by rcases hb' with hb'|hb';exact hnZ b' hb';exact hng b' hb'
   simp only[World.setCell,Array.getElem?_modify]
   rw[if_neg (Ne.symm this)]
  have hset:(vs.setIfInBounds k (a.eval x)).toList=v1++a.eval x::v2:=by
   rw[Array.toList_setIfInBounds,hvs,←hlen]
   simp
  rw[hset]
  have hcs:cs.set k c'=cs.take k++c'::cs.drop (k+1):=by rw[List.set_eq_take_append_cons_drop,if_pos hkl]
  rw[hcs]
  have e1:(cs.set k (.v y0)).take k=cs.take k:=by
   rw[List.set_eq_take_append_cons_drop,if_pos hkl,List.take_append_of_le_length (by simp;omega),List.take_take,Nat.min_self]
  have e2:(cs.set k (.v y0)).drop (k+1)=cs.drop (k+1):=by
   apply List.ext_getElem?
   intro j
   rw[List.getElem?_drop,List.getElem?_drop,List.getElem?_set_ne (by omega)]
  rw[e1] at hl1
  rw[e2] at hl2
  refine(RL.app _ _ _ _).2 ⟨v1,a.eval x::v2,b1,bx++b3,rfl,by simp,?_,?_⟩
  ·exact RL.mono (fun _ h=>h) _ (fun b' hb'=>hblk b' (by rcases hb' with h|h;exact .inl h;exact .inr (by simp[h]))) hl1
  ·simp only[RL]
   refine⟨a.eval x,v2,bx,b3,rfl,rfl,?_,?_⟩
   ·exact RC.mono (fun _ h=>h) _ (fun b' hb'=>hblk b' (by rcases hb' with h|h;exact .inl h;exact .inr (by simp[h]))) hx1
   ·exact RL.mono (fun _ h=>h) _ (fun b' hb'=>hblk b' (by rcases hb' with h|h;exact .inl h;exact .inr (by simp[h]))) hl2
end Go.Proofs.YtkbcahfajbdgnaaGreatDoorT
namespace Go.Proofs.YtkbcahfajbdgnaaGreatDoorT
open Go
variable {P:Program}{fr:Fr}
theorem St.nilBox {Γ:Ctx}{a:Act}{w:World}{r k:Nat}{T:TypeId}{cs:List C}{o:Bool}{E:TypeId}{δ:List Up}(hk:k<cs.length)
  (h:St P fr (upd Γ (⟨r,false,some (.box T (cs.set k (.v (.slice none 0 0))))⟩::δ)) a w):St P fr (upd Γ (⟨r,false,some (.box T (cs.set k (.sl o E [])))⟩::δ)) a w:=by
 obtain⟨Z,β,γ,h⟩:=h
 refine⟨Z,β,γ,⟨h.gh,h.defers,h.size,h.evo,h.zlt,h.zin,h.znew,h.own,h.nodup,h.disj,h.gl,?_⟩⟩
 intro u e hu
 by_cases hur:u=r
 ·subst hur
  have h1:=h.ent u (.box T (cs.set k (.v (.slice none 0 0)))) (by simp[upd,look])
  have h2:e=.box T (cs.set k (.sl o E [])):=by simpa[upd,look] using hu.symm
  subst h2
  simp only[EntOk] at h1 ⊢
  obtain⟨b,vs,bs,e1,e2,e3,e4⟩:=h1
  refine⟨b,vs,bs,e1,e2,?_,e4⟩
  have hg:(cs.set k (.v (.slice none 0 0)))[k]?=some (.v (.slice none 0 0)):=by simp[hk]
  obtain⟨v1,y,v2,b1,bb,b2,hvs,hbs,hl1,hr1,hc,hr2⟩:=RL.get e3 hg
  simp only[RC] at hc
  obtain⟨rfl,_,rfl⟩:=hc
  rw[List.set_eq_take_append_cons_drop,if_pos hk]
  have e5:(cs.set k (.v (.slice none 0 0))).take k=cs.take k:=by
   rw[List.set_eq_take_append_cons_drop,if_pos hk,List.take_append_of_le_length (by simp;omega),List.take_take,Nat.min_self]
  have e6:(cs.set k (.v (.slice none 0 0))).drop (k+1)=cs.drop (k+1):=by
   apply List.ext_getElem?
   intro j
   rw[List.getElem?_drop,List.getElem?_drop,List.getElem?_set_ne (by omega)]
  rw[e5] at hr1
  rw[e6] at hr2
  rw[hvs,hbs]
  refine(RL.app _ _ _ _).2 ⟨v1,_::v2,b1,b2,rfl,by simp,hr1,?_⟩
  simp only[RL]
  exact⟨_,v2,[],b2,rfl,rfl,rc_n,hr2⟩
 ·refine h.ent u e ?_
  have hru:Nat.beq r u=false:=by
   cases hb:Nat.beq r u with
   |false=>rfl
   |true=>exact absurd (Nat.eq_of_beq_eq_true hb).symm hur
  have hhit:∀x y:Option Ent,∀e0,hit (⟨r,false,x⟩::δ) e0=hit (⟨r,false,y⟩::δ) e0:=fun _ _ _=>rfl
  unfold upd at hu ⊢
  simp only[look,hru,cond_false] at hu ⊢
  cases hl:look δ u with
  |some p=>rw[hl] at hu;exact hu
  |none=>
   rw[hl] at hu
   simp only at hu ⊢
   cases hg:Γ u with
   |none=>rw[hg] at hu;cases hu
   |some e0=>
    rw[hg] at hu
    simp only at hu ⊢
    rw[hhit _ (some (.box T (cs.set k (.sl o E []))))]
    exact hu
theorem la_stn {E:Ctx}{o:Oper}{T T':TypeId}{p:Operand}{r k:Nat}{cs:List C}(ob:Bool) (Et:TypeId)(ho:o.op=.store T p (.const (.slice none 0 0)))(hd:o.dst=none)
  (hT:szOf P T=1)(hi:(P.info? T).isSome=true)(hp:flOf fr.n E p=some (r,k,T',cs))(hk:Nat.blt k cs.length=true) :
  LA P fr E o [⟨r,false,some (.box T' (cs.set k (.sl ob Et [])))⟩]:=by
 have hkl:k<cs.length:=by simpa[Nat.blt_eq] using hk
 intro Γ hle a w K Q hst hK
 refine la_stf (P:=P) (c':=.v (.slice none 0 0)) (S:=[]) ho hd hT hi hp (List.getElem?_eq_getElem hkl) rfl rfl Γ hle a w K Q hst (fun a' w' hs'=>hK a' w' ?_)
 exact St.nilBox hkl hs'
end Go.Proofs.YtkbcahfajbdgnaaGreatDoorT
namespace Go.Proofs.YtkbcahfajbdgnaaGreatDoorT
open Go
variable {P:Program}{fr:Fr}
def capOf (n:Nat) (E:Ctx):Operand→Option Nat
 |.tmp s=>bif Nat.blt s n then match E s with
   |some (.box _ _)=>some s
   |some (.eq r)=>some r
   |_=>none
  else none
 |_=>none
def capsOf (n:Nat) (E:Ctx):List Operand→Option (List Nat)
 |[]=>some []
 |x::xs=>match capOf n E x,capsOf n E xs with
  |some r,some rs=>some (r::rs)
  |_,_=>none
theorem capsOf_ok {E Γ:Ctx}(hle:E_le E Γ){a:Act}{w:World}{Z:Nat→Prop}{β:Nat→List Nat}{γ:Nat→Value}(h:Core P fr Γ a w Z β γ):∀{xs:List Operand}{rs:List Nat},capsOf fr.n E xs=some rs→xs.map a.eval=rs.map (ev fr.n a γ)
 |[],_,hx=>by simp only[capsOf] at hx;cases hx;rfl
 |x::xs,rs,hx=>by
  simp only[capsOf] at hx
  split at hx
  ·rename_i r rs' h1 h2
   cases hx
   have ih:=capsOf_ok hle h h2
   simp only[List.map_cons,ih]
   congr 1
   unfold capOf at h1
   split at h1
   ·rename_i s
    cases hs:Nat.blt s fr.n with
    |false=>rw[hs] at h1;cases h1
    |true=>
     rw[hs] at h1
     simp only[cond_true] at h1
     rw[eval_ev (γ:=γ) hs]
     split at h1
     ·cases h1;rfl
     ·rename_i r' he
      cases h1
      exact h.ent s _ (hle s _ he)
     ·cases h1
   ·cases h1
  ·cases hx
theorem la_mkf {E:Ctx}{o:Oper}{t f:Nat}{xs:Array Operand}{rs:List Nat}(ho:o.op=.makeFunc (.func f) #[] xs)(hd:o.dst=some t)(ht:Nat.blt t fr.n=true)
  (hx:capsOf fr.n E xs.toList=some rs)(hne:(Ent.fn f rs).hdep t=false):LA P fr E o [⟨t,true,some (.fn f rs)⟩]:=by
 refine LA.val hd ht fun Γ a w Z β γ hle h=>?_
 have hcs:=capsOf_ok hle h hx
 refine⟨.func (.func f) #[] (xs.map a.eval),?_,fun β' ev' hb hb' hv hv'=>?_⟩
 ·unfold execOp
  rw[ho]
  simp[Instr.makeFunc]
 ·simp only[EntOk,hv]
  congr 1
  rw[←Array.toList_inj]
  simp only[Array.toList_map,hcs]
  refine List.map_congr_left (fun r hr=>(hv' r ?_).symm)
  rintro rfl
  simp only[Ent.hdep,List.any_eq_false] at hne
  exact absurd (by simp) (hne r hr)
theorem put_same {a:Act}{γ:Nat→Value}{n t:Nat}(hs:a.tmps.size=n)(ht:t<n):a.put (some t) (ev n a γ t)=a:=by
 obtain⟨tmps,d⟩:=a
 simp only at hs
 simp only[Act.put,ev,ht,if_true]
 congr 1
 apply Array.ext_getElem?
 intro i
 rw[Array.getElem?_setIfInBounds]
 by_cases hi:t=i
 ·subst hi
  have:t<tmps.size:=by omega
  simp[this,Array.getD_eq_getD_getElem?]
 ·simp[hi]
theorem St.innTake {Γ:Ctx}{a:Act}{w:World}(h:St P fr Γ a w){s r:Nat}{Et:TypeId}{i k:Nat}{c:C}{α:Type}{f:α→List C}{xs:List α}{z:α}(hs:Nat.blt s fr.n=true)
  (hi:Γ s=some (.inn r Et i k))(hr:Γ r=some (.d (.one (.sl true Et (xs.map f)))))(hne:Nat.beq s r=false)(hz:xs[i]?=some z)(hc:(f z)[k]?=some c) :
  ∃y,St P fr (upd Γ [⟨s,true,some (.dv y (.one c))⟩,⟨r,false,some (.d (.one (.sl true Et ((xs.map f).set i ((f z).set k (.v y))))))⟩]) a w:=by
 obtain⟨Z,β,γ,h⟩:=h
 have h1:=h.ent s _ hi
 have h2:=h.ent r _ hr
 simp only[EntOk,RD] at h1 h2
 obtain⟨g0,n0,cap0,hev,_,hcell⟩:=h1
 have hsn:s<fr.n:=by simpa[Nat.blt_eq] using hs
 have he:(xs.map f)[i]?=some (f z):=by simp[hz]
 obtain⟨g,cap,cur,v1,v,v2,b1,b,b2,op⟩:=own_get h2 he
 have hgg:g0=g:=by have:=op.hy;rw[hev] at this;simp at this;exact this.1
 subst hgg
 have hk':k<(f z).length:=(List.getElem?_eq_some_iff.1 hc).1
 obtain⟨u1,y,u2,d1,d,d2,hvu,hbd,hlu,hr1,hry,hr2⟩:=RL.get op.r hc
 have hidx:cur.toList[i*szOf P Et+k]?=some y:=by
  rw[op.row,←op.l1,←hlu,hvu]
  simp
 have hy:w.cell? ⟨g0,i*szOf P Et+k,none⟩=some y:=by
  have:=cell_row op.heap (i*szOf P Et+k)
  rw[add_at] at this
  rw[this];simpa using hidx
 have hval:ev fr.n a γ s=y:=by rw[hcell] at hy;simpa using hy
 have hre:RL P w Z ((f z).set k (.v y)) v (d1++d2):=by
  rw[List.set_eq_take_append_cons_drop,if_pos hk',hvu]
  refine(RL.app _ _ _ _).2 ⟨u1,y::u2,d1,d2,rfl,rfl,hr1,?_⟩
  simp only[RL]
  exact⟨y,u2,[],d2,rfl,rfl,by simp only[RC];exact⟨trivial,RC.one hry,trivial⟩,hr2⟩
 have hput:=own_put op (e':=(f z).set k (.v y)) (v':=v) (be:=d1++d2) (cur':=cur) op.heap op.row rfl (fun _ _=>rfl) (by rw[List.length_set];exact op.width _ (List.mem_of_getElem? he)) hre
 have hsr:s≠r:=by rintro rfl;simp at hne
 have:=h.part hs hsr (v:=ev fr.n a γ s) (b1:=d) (b2:=g0::(b1++(d1++d2)++b2)) (e:=.dv y (.one c)) (er:=.d (.one (.sl true Et ((xs.map f).set i ((f z).set k (.v y)))))) ?_ ?_ ?_
 ·refine⟨y,Z,fun u=>if u=s then d else if u=r then g0::(b1++(d1++d2)++b2) else β u,γ,?_⟩
  rw[put_same h.size hsn] at this
  exact this
 ·rw[op.hbs,hbd]
  intro q
  simp only[List.count_append,List.count_cons]
  omega
 ·intro β' ev' hb' hv' _
  simp only[EntOk,RD]
  rw[hb',hv',hval]
  exact⟨rfl,hry⟩
 ·intro β' ev' hb' hv'
  simp only[EntOk,RD]
  rw[hb',hv' r (Ne.symm hsr)]
  exact hput
theorem hit_d (δ:List Up) (X:Dt):hit δ (.d X)=false:=by
 induction δ with
 |nil=>rfl
 |cons p δ ih=>simp only[hit,ih];cases p.hard <;> rfl
theorem hit_dv (δ:List Up) (y:Value) (X:Dt):hit δ (.dv y X)=false:=by
 induction δ with
 |nil=>rfl
 |cons p δ ih=>simp only[hit,ih];cases p.hard <;> rfl
theorem la_callinn {E:Ctx}{o:Oper}{t s r:Nat}{x:Operand}{xo:Array Operand}{ats:Array TypeId}{f':FuncId}{n':Nat}{pars:List Ent}{res post:Dt}{Et:TypeId}{i k:Nat}{c c':C}{α:Type}{f:α→List C}{xs:List α}{z z':α}
  {pes:Value→List (Ent×Option Nat)}
  (ho:o.op=.call ⟨.value x,xo,ats⟩)(hd:o.dst=some t)(ht:Nat.blt t fr.n=true)(hs:Nat.blt s fr.n=true)(hx:∀E',calE fr.n E' x=some (f',[]))
  (hi:E s=some (.inn r Et i k))(hr:E r=some (.d (.one (.sl true Et (xs.map f)))))(hz:xs[i]?=some z)(hc:(f z)[k]?=some c)(hf:(f z).set k c'=f z')
  (hret:Ret P f' n' pars [.d (.one c)] (.d res) [.d (.one c')])(hpost:post=.one c')
  (ha:∀y,argL fr.n (upd E [⟨s,true,some (.dv y (.one c))⟩,⟨r,false,some (.d (.one (.sl true Et ((xs.map f).set i ((f z).set k (.v y))))))⟩]) [s] [] n' xo.toList []=some (pes y))
  (hp:∀y,(pes y).map (·.1)=pars) (ho':∀y,((pes y).map (·.2)).filterMap id=[])(hl:∀y,Nat.ble (pes y).length n'=true)
  (hst:Nat.beq s t=false)(hsr:Nat.beq s r=false)(hrt:Nat.beq r t=false) :
  LA P fr E o [⟨r,false,some (.d (.one (.sl true Et ((xs.set i z').map f))))⟩,rmv s,⟨t,true,some (.d res)⟩]:=by
 intro Γ hle a w K Q hstt hK
 obtain⟨y,h1⟩:=hstt.innTake hs (hle s _ hi) (hle r _ hr) hsr hz hc
 let φ:List Up:=[⟨s,true,some (.dv y (.one c))⟩,⟨r,false,some (.d (.one (.sl true Et ((xs.map f).set i ((f z).set k (.v y))))))⟩]
 have hbrs:Nat.beq r s=false:=by
  cases hb:Nat.beq r s with
  |false=>rfl
  |true=>rw[Nat.eq_of_beq_eq_true hb] at hsr;simp at hsr
 have hE:(upd E φ) s=some (.dv y (.one c)):=by simp[upd,φ,look]
 have hla:=la_call (P:=P) (fr:=fr) (E:=upd E φ) [s] [] (caps:=[]) (posts:=[.d (.one c')]) (gh:=[.d (.one c)]) (res:=.d res) ho hd ht (hx _) hret (ha y) (hp y)
  (by simp[rootL,hE,mov,degE]) (by simp[ho' y,nodupB,inB]) (by simp only[List.append_nil,inB,List.any_cons,List.any_nil,Bool.or_false];cases hb:Nat.beq t s with|false=>rfl|true=>rw[Nat.eq_of_beq_eq_true hb] at hst;simp at hst) (hl y) rfl (by simp[mov]) rfl (.inl rfl)
 simp only[ho' y,upg,hE,keepv,pokes,List.map_nil,List.append_nil] at hla
 refine hla _ (upd_le hle φ) a w K Q h1 (fun a' w' h2=>hK a' w' ?_)
 have hs2:(upd (upd Γ φ) [⟨t,true,some (.d res)⟩,⟨s,false,some (.dv y (.one c'))⟩]) s=some (.dv y (.one c')):=by
  have hts:Nat.beq t s=false:=by
   cases hb:Nat.beq t s with
   |false=>rfl
   |true=>rw[Nat.eq_of_beq_eq_true hb] at hst;simp at hst
  simp[upd,look,hts]
 have hr2:(upd (upd Γ φ) [⟨t,true,some (.d res)⟩,⟨s,false,some (.dv y (.one c'))⟩]) r=some (.d (.one (.sl true Et ((xs.map f).set i ((f z).set k (.v y)))))):=by
  have htr:Nat.beq t r=false:=by
   cases hb:Nat.beq t r with
   |false=>rfl
   |true=>rw[Nat.eq_of_beq_eq_true hb] at hrt;simp at hrt
  simp only[upd,look,htr,hsr,cond_false,φ]
  simp[hit_d]
 have h3:=h2.put s r hs2 hr2 hbrs hz hc hf
 have e1:upd (upd Γ φ) [⟨t,true,some (.d res)⟩,⟨s,false,some (.dv y (.one c'))⟩]=upd Γ ([⟨t,true,some (.d res)⟩,⟨s,false,some (.dv y (.one c'))⟩]++φ):=by
  refine upd_upd ?_
  intro u p e hl he
  simp only[φ,look] at hl
  cases hb:Nat.beq s u with
  |true=>rw[hb] at hl;cases hl;cases he;exact hit_dv _ _ _
  |false=>
   rw[hb] at hl
   cases hb2:Nat.beq r u with
   |true=>rw[hb2] at hl;cases hl;cases he;exact hit_d _ _
   |false=>rw[hb2] at hl;cases hl
 rw[e1] at h3
 have e2:upd (upd Γ ([⟨t,true,some (.d res)⟩,⟨s,false,some (.dv y (.one c'))⟩]++φ)) (⟨r,false,some (.d (.one (.sl true Et ((xs.set i z').map f))))⟩::[s].map rmv) =
   upd Γ ((⟨r,false,some (.d (.one (.sl true Et ((xs.set i z').map f))))⟩::[s].map rmv)++([⟨t,true,some (.d res)⟩,⟨s,false,some (.dv y (.one c'))⟩]++φ)):=by
  refine upd_upd ?_
  intro u p e hl he
  simp only[φ,List.cons_append,List.nil_append,look] at hl
  cases hb0:Nat.beq t u with
  |true=>rw[hb0] at hl;cases hl;cases he;exact hit_d _ _
  |false=>
   rw[hb0] at hl
   cases hb:Nat.beq s u with
   |true=>rw[hb] at hl;cases hl;cases he;exact hit_dv _ _ _
   |false=>
    rw[hb] at hl
    cases hb2:Nat.beq r u with
    |true=>rw[hb2] at hl;cases hl;cases he;exact hit_d _ _
    |false=>rw[hb2] at hl;cases hl
 rw[e2] at h3
 refine h3.weaken (fun u e hu=>?_)
 unfold upd at hu ⊢
 simp only[List.map_cons,List.map_nil,List.cons_append,List.nil_append,φ,look,rmv] at hu ⊢
 cases hb1:Nat.beq r u with
 |true=>rw[hb1] at hu;exact hu
 |false=>
  rw[hb1] at hu
  cases hb2:Nat.beq s u with
  |true=>rw[hb2] at hu;exact hu
  |false=>
   rw[hb2] at hu
   cases hb3:Nat.beq t u with
   |true=>rw[hb3] at hu;exact hu
   |false=>
    rw[hb3] at hu
    simp only[cond_false] at hu ⊢
    cases hg:Γ u with
    |none=>rw[hg] at hu;cases hu
    |some e0=>
     rw[hg] at hu
     simp only at hu ⊢
     have hh:∀a b cc:Bool,∀e0:Ent,(Ent.sdep e0 r||((Ent.hdep e0 s)||((Ent.hdep e0 t)||false)))=(Ent.sdep e0 r||(Ent.hdep e0 s||(Ent.hdep e0 t||(Ent.sdep e0 s||(Ent.hdep e0 s||(Ent.sdep e0 r||false)))))):=by
      intro _ _ _ e0
      have hsd:Ent.sdep e0 s=true→Ent.hdep e0 s=true:=by
       intro h;cases e0 <;> simp_all [Ent.hdep,Ent.sdep];rename_i q _;cases q <;> simp_all
      cases h1:Ent.sdep e0 r <;> cases h2:Ent.hdep e0 s <;> cases h3:Ent.hdep e0 t <;> cases h4:Ent.sdep e0 s <;> simp_all
     simp only[hit,cond_true,cond_false] at hu ⊢
     rw[←hh true true true e0]
     exact hu
end Go.Proofs.YtkbcahfajbdgnaaGreatDoorT
namespace Go.Proofs.YtkbcahfajbdgnaaGreatDoorT
open Go
variable {P:Program}{fr:Fr}
theorem Core.val {Γ:Ctx}{a:Act}{w:World}{Z:Nat→Prop}{β:Nat→List Nat}{γ:Nat→Value}(h:Core P fr Γ a w Z β γ){t:Nat}(ht:Nat.blt t fr.n=true){v:Value}{e:Ent}
  (he:∀β' ev',β' t=[]→(∀u,u≠t→β' u=β u)→ev' t=v→(∀u,u≠t→ev' u=ev fr.n a γ u)→EntOk P w Z β' ev' t e):St P fr (upd Γ [⟨t,true,some e⟩]) (a.put (some t) v) w:=by
 refine⟨Z,fun u=>if u=t then[] else β u,γ,?_⟩
 have hlook:∀u,look [⟨t,true,some e⟩] u=if u=t then some ⟨t,true,some e⟩ else none:=by
  intro u
  simp only[look]
  by_cases hu:u=t
  ·subst hu;simp
  ·have:Nat.beq t u=false:=by
    cases hb:Nat.beq t u with
    |false=>rfl
    |true=>exact absurd (Nat.eq_of_beq_eq_true hb).symm hu
   simp[this,hu]
 refine h.turn _ (by simpa[Act.put] using h.defers) (by simpa[Act.put] using h.size) h.evo h.zlt (fun b hb=>⟨hb,rfl⟩) h.znew ?_ ?_ ?_ ?_ ?_ ?_ ?_
 ·intro u b hb
  by_cases hu:u=t
  ·simp[hu] at hb
  ·simp only[hu,if_false] at hb;exact h.own u b hb
 ·intro u
  by_cases hu:u=t
  ·simp[hu]
  ·simp only[hu,if_false];exact h.nodup u
 ·intro u u' b hne hb
  by_cases hu:u=t
  ·simp[hu] at hb
  ·simp only[hu,if_false] at hb
   by_cases hu':u'=t
   ·simp[hu']
   ·simp only[hu',if_false];exact h.disj u u' b hne hb
 ·intro u hu
  rw[ev_put h.size ht]
  rw[hlook] at hu
  by_cases hut:u=t
  ·simp[hut] at hu
  ·simp[hut]
 ·intro u hu
  rw[hlook] at hu
  by_cases hut:u=t
  ·simp[hut] at hu
  ·simp[hut]
 ·intro u _ b _;rfl
 ·intro u p e' hl hp
  rw[hlook] at hl
  by_cases hut:u=t
  ·subst hut
   simp at hl
   subst hl
   simp at hp
   subst hp
   exact he _ _ (by simp) (fun u hu=>by simp[hu]) (by rw[ev_put h.size ht];simp) (fun u hu=>by rw[ev_put h.size ht];simp[hu])
  ·simp[hut] at hl
def isNilV:Value→Bool
 |.slice none _ _=>true
 |_=>false
theorem run_nilb {ρ:Operand→Value}{o:Oper}{op:BinOp}{pos:Bool}{T T' E:TypeId}{x:Operand}{a:Option Addr}{l c:Nat}(hop:op=bif pos then .eql else .neq)(ho:o.op=.binOp op T x (.const (.slice none 0 0)) T')
  (hT:P.underlying T=some (.slice E))(hx:ρ x=.slice a l c)(hn:ρ (.const (.slice none 0 0))=.slice none 0 0) (w:World):(execOp ρ o).run P w=.ok (.value (.bool (isNilV (.slice a l c)==pos))) w:=by
 have hq:∀(w:World),(Op.equal T (.slice a l c) (.slice none 0 0)).run P w=.ok (isNilV (.slice a l c)) w:=by
  intro w
  unfold Op.equal Op.maxDepth Op.equalIn
  rw[Sem.run_bind,run_underlying hT w]
  cases a <;> rfl
 subst hop
 unfold execOp
 rw[ho]
 simp only[hx,hn]
 cases pos with
 |true=>
  simp only[cond_true,eqGuard,binOp]
  simp[Sem.run_bind,hq]
  try rfl
 |false=>
  simp only[cond_false,eqGuard,binOp]
  simp[Sem.run_bind,hq]
  try rfl
theorem st_nilb {E:Ctx}{o:Oper}{t:Nat}{op:BinOp}{pos:Bool}{T T' Et Eu:TypeId}{x:Operand}{r:Option Nat}{b:Bool}{es:List (List C)}(hop:op=bif pos then .eql else .neq)(ho:o.op=.binOp op T x (.const (.slice none 0 0)) T')
  (hd:o.dst=some t)(ht:Nat.blt t fr.n=true)(hT:P.underlying T=some (.slice Eu))(hx:vwr fr.n E x=some (r,.one (.sl b Et es))){a:Act}{w:World}{K:Act→World→Prop}{Q:Exit→Act→World→Prop}(hs:St P fr E a w)
  (hk:∀c:Bool,(es.isEmpty=false→c=false)→∀a' w',St P fr (upd E [⟨t,true,some (.d (.one (.v (.bool (c==pos)))))⟩]) a' w'→K a' w'):o.wp P a w K Q:=by
 obtain⟨Z,β,γ,h⟩:=hs
 have hv:=vwr_ok h hx
 simp only[RD] at hv
 have hsl:∃ad l c,a.eval x=.slice ad l c∧(es.isEmpty=false→isNilV (.slice ad l c)=false):=by
  simp only[RC] at hv
  rcases hv with⟨h1,h2,_⟩|⟨ad,cap,vs,_,_,h1,_⟩|⟨g,cap,cur,bs',_,_,h1,_⟩
  ·exact⟨_,_,_,h1,fun h=>by subst h2;cases h⟩
  ·exact⟨_,_,_,h1,fun _=>rfl⟩
  ·exact⟨_,_,_,h1,fun _=>rfl⟩
 obtain⟨ad,l,c,h1,h2⟩:=hsl
 have hrun:=run_nilb (P:=P) hop ho hT h1 rfl w
 refine wp_of_run hrun ?_
 rw[hd]
 exact hk _ h2 _ _ (h.val ht (fun β' ev' hb _ hv _=>by simp[EntOk,RD,RC,hb,hv,Value.oneCell']))
end Go.Proofs.YtkbcahfajbdgnaaGreatDoorT
namespace Go.Proofs.YtkbcahfajbdgnaaGreatDoorT
open Go
variable {P:Program}{fr:Fr}
theorem St.unbor {Γ:Ctx}{a:Act}{w:World}(h:St P fr Γ a w) (t:Nat){r:Nat}{cs:List C}(hf:cs.all isV=true)(hx:Γ t=some (.bor r (.agg cs))):St P fr (upd Γ [⟨t,false,some (.d (.agg cs))⟩]) a w:=by
 obtain⟨Z,β,γ,h⟩:=h
 have hlk:∀u,look [⟨t,false,some (.d (.agg cs))⟩] u=if u=t then some ⟨t,false,some (.d (.agg cs))⟩ else none:=by
  intro u
  simp only[look]
  by_cases hu:u=t
  ·subst hu;simp
  ·have:Nat.beq t u=false:=by
    cases hb:Nat.beq t u with
    |false=>rfl
    |true=>exact absurd (Nat.eq_of_beq_eq_true hb).symm hu
   simp[this,hu]
 refine⟨Z,fun u=>if u=t then[] else β u,γ,h.turn _ h.defers h.size h.evo h.zlt (fun b hb=>⟨hb,rfl⟩) h.znew ?_ ?_ ?_ (fun _ _=>rfl) ?_ (fun _ _ _ _=>rfl) ?_⟩
 ·intro u b hb
  by_cases hu:u=t
  ·simp[hu] at hb
  ·simp only[hu,if_false] at hb
   exact h.own u b hb
 ·intro u
  by_cases hu:u=t
  ·simp[hu]
  ·simpa[hu] using h.nodup u
 ·intro u u' b hne hb hb'
  by_cases hu:u=t
  ·simp[hu] at hb
  ·by_cases hu':u'=t
   ·simp[hu'] at hb'
   ·simp only[hu,hu',if_false] at hb hb'
    exact h.disj u u' b hne hb hb'
 ·intro u hu
  rw[hlk] at hu
  by_cases hut:u=t
  ·simp[hut] at hu
  ·simp[hut]
 ·intro u p e hl hpe
  rw[hlk] at hl
  by_cases hut:u=t
  ·subst hut
   simp at hl
   subst hl
   simp at hpe
   subst hpe
   have he:=h.ent u _ hx
   simp only[EntOk,RD] at he ⊢
   simp only[if_true]
   obtain⟨vs,h1,h2⟩:=he
   exact⟨vs,h1,RL.flat hf h2⟩
  ·simp[hut] at hl
theorem LA.unbor {E:Ctx}{o:Oper}{t r:Nat}{cs:List C}(h:LA P fr E o [⟨t,true,some (.bor r (.agg cs))⟩])(hf:cs.all isV=true):LA P fr E o [⟨t,true,some (.d (.agg cs))⟩]:=by
 intro Γ hle a w K Q hs hk
 refine h Γ hle a w K Q hs (fun a' w' hs'=>hk a' w' ?_)
 have hx:upd Γ [⟨t,true,some (.bor r (.agg cs))⟩] t=some (.bor r (.agg cs)):=by simp[upd,look]
 refine(hs'.unbor t hf hx).weaken ?_
 intro u e he
 simp only[upd,look] at he ⊢
 cases hb:Nat.beq t u with
 |true=>rw[hb] at he;exact he
 |false=>
  rw[hb] at he
  simp only[cond_false] at he ⊢
  cases hg:Γ u with
  |none=>rw[hg] at he;cases he
  |some e0=>
   rw[hg] at he
   simp only[hit,cond_true,cond_false,Bool.or_false] at he ⊢
   have hsd:Ent.sdep e0 t=true→Ent.hdep e0 t=true:=by
    intro h;cases e0 <;> simp_all [Ent.hdep,Ent.sdep];rename_i q _;cases q <;> simp_all
   cases h1:Ent.hdep e0 t with
   |true=>rw[h1] at he;cases he
   |false=>
    rw[h1] at he
    have h2:Ent.sdep e0 t=false:=by
     cases h2:Ent.sdep e0 t with
     |false=>rfl
     |true=>rw[hsd h2] at h1;cases h1
    simpa[h2] using he
end Go.Proofs.YtkbcahfajbdgnaaGreatDoorT
namespace Go.Proofs.YtkbcahfajbdgnaaGreatDoorT
open Go
variable {P:Program}{fr:Fr}
theorem la_nillen {E:Ctx}{o:Oper}{t:Nat}{T E':TypeId}{x:Operand}{c:Bool}(ho:o.op=.call {callee:=.builtin (bif c then .cap else .len),args:=#[x],argTypes:=#[T]})(hd:o.dst=some t)(ht:Nat.blt t fr.n=true)
  (hT:P.underlying T=some (.slice E'))(hx:vs fr.n E x=some (.slice none 0 0)):LA P fr E o [⟨t,true,some (.d (.one (.v (.int .i64 0))))⟩]:=
 LA.scal hd ht rfl fun Γ a w Z β γ hle h=>by
  have hv:=vs_ok h (vs_le hle hx)
  unfold execOp
  rw[ho]
  cases c
  ·simp[resolve,invoke,builtin,Builtin.len_,run_underlying hT,hv,goInt]
  ·simp[resolve,invoke,builtin,Builtin.cap_,run_underlying hT,hv,goInt]
theorem la_nilslc {E:Ctx}{o:Oper}{t:Nat}{T Et:TypeId}{x:Operand}{lo hi:Option Operand}(ho:o.op=.slice T x lo hi none)(hd:o.dst=some t)(ht:Nat.blt t fr.n=true)
  (hT:elemT P T Et=true)(hx:vs fr.n E x=some (.slice none 0 0))(hlo:sbnd fr.n E lo 0 0)(hhi:sbnd fr.n E hi 0 0) :
  LA P fr E o [⟨t,true,some (.d (.one (.v (.slice none 0 0))))⟩]:=
 LA.scal hd ht rfl fun Γ a w Z β γ hle h=>by
  obtain⟨inf,zz,hu,hin,hzz,hzs,hpos,hby,hsz,_⟩:=elemT_ok hT
  have hv:=vs_ok h (vs_le hle hx)
  have hlo':=sbnd_ok h hle hlo
  have hhi':=sbnd_ok h hle hhi
  have e1:=run_bounds (P:=P) w true 0 0 _ _ _ _ hlo' hhi' (by omega) (by omega) (by omega)
  unfold execOp
  rw[ho]
  simp[Instr.sliceAt,run_underlying hu,Instr.slice,hv,e1,sizeOf,typeInfo,hin]
theorem la_nilapp {E:Ctx}{o:Oper}{t:Nat}{T T' Et:TypeId}{s x:Operand}{k:IntKind}{i:Int}{cs:List C}{α:Type}{f:α→List C}{z:α}
  (ho:o.op=.call {callee:=.builtin .append,args:=#[s,x],argTypes:=#[T,T']})(hd:o.dst=some t)(ht:Nat.blt t fr.n=true)(hT:elemT P T Et=true) (hT':P.underlying T'=some (.int k))
  (hs:vs fr.n E s=some (.slice none 0 0))(hx:vs fr.n E x=some (.int .i64 i))(hz:zeroOk P Et cs)(hf:cs=f z)(h0:0≤i)(h1:i≤2147483648) :
  LA P fr E o [⟨t,true,some (.d (.one (.sl true Et ((List.replicate i.toNat z).map f))))⟩]:=by
 subst hf
 intro Γ hle a w K Q ⟨Z,β,γ,h⟩ hk
 obtain⟨inf,zz,hu,hi,hzz,hzs,hpos,hby,hsz,_⟩:=elemT_ok hT
 obtain⟨z',hz1,hz2⟩:=hz
 have hze:z'=zz:=by rw[hi] at hz1;simp[hzz] at hz1;exact hz1.symm
 subst hze
 have hvs:=vs_ok h (vs_le hle hs)
 have hvx:=vs_ok h (vs_le hle hx)
 have hl:(f z).length=szOf P Et:=by
  have:=RL.length _ (hz2 w Z)
  rw[hsz,←hzs]
  simpa using this.symm
 have hpos':0<z'.cells.size:=by omega
 have hzc:∀n,(Builtin.zeroCells z'.cells n).toList=(List.replicate n z'.cells.toList).flatten:=fun n=>range_rep z'.cells hpos' n
 by_cases hi0:i=0
 ·subst hi0
  refine wp_of_run (w':=w) (v:=.slice none 0 0) ?_ (hk _ _ ?_)
  ·have hw0:IntKind.i64.wrap 0=0:=by decide
   unfold execOp
   rw[ho]
   simp[resolve,invoke,builtin,hvs,hvx,Builtin.append_,run_underlying hu,run_underlying hT',sizeOf,typeInfo,hi,asInt,asIntOf,hw0]
  ·rw[hd]
   exact h.val ht (fun β' ev' hb _ hv _=>by simp[EntOk,RD,RC,hb,hv])
 ·obtain⟨n,rfl⟩:∃n:Nat,i=(n:Int):=⟨i.toNat,by omega⟩
  have hn0:0<n:=by omega
  have hb:n*inf.bytes≤140737488355328:=Nat.le_trans (Nat.mul_le_mul (show n≤2147483648 by omega) hby) (by decide)
  have hrun:=Lib.run_append_grow_zeros (P:=P) w T T' o.type Et inf z' .i64 k hu hT' hi hzz none 0 0 [] (by simp[Builtin.firstCells]) n hn0 hpos (by omega) (by omega) (by omega) (by
   have:Builtin.nextslicecap (0+n) 0=0+n:=by unfold Builtin.nextslicecap;simp;intro h;omega
   rw[this];simp;omega)
  simp only[Nat.zero_add] at hrun
  have hG:=grownCap_ge w n 0 Et
  have hGm:=grownCap_le_maxLen w n 0 Et (by unfold maxLen;omega)
  refine wp_of_run (w':=w.drew.alloc (.cells ((#[]:Array Value)++Builtin.zeroCells z'.cells n++Builtin.zeroCells z'.cells (grownCap w n 0 Et-n)) Et)) (v:=.slice (some ⟨w.heap.size,0,none⟩) n (grownCap w n 0 Et)) ?_ (hk _ _ ?_)
  ·unfold execOp
   rw[ho]
   have hrun2:=hrun
   simp at hrun2
   simp[resolve,invoke,builtin,hvs,hvx,hrun2]
  ·rw[hd]
   have hgrow:Grow w (w.drew.alloc (.cells ((#[]:Array Value)++Builtin.zeroCells z'.cells n++Builtin.zeroCells z'.cells (grownCap w n 0 Et-n)) Et)) (fun b=>∃s,s∈([]:List Nat)∧b∈β s):=by
    have:=Grow.alloc w (.cells ((#[]:Array Value)++Builtin.zeroCells z'.cells n++Builtin.zeroCells z'.cells (grownCap w n 0 Et-n)) Et) (fun b=>∃s,s∈([]:List Nat)∧b∈β s)
    exact⟨this.os,this.tape,this.output,this.size,this.block,Nat.le_succ _⟩
   refine⟨Z,_,γ,h.give [] ht (bn:=[w.heap.size]) hgrow ?_ (by simp) ?_⟩
   ·intro b hb'
    simp at hb'
    subst hb'
    exact⟨by show w.drew.heap.size<_;simp,.inl (Nat.le_refl _)⟩
   ·intro β' ev' h2 h3 _ _
    simp only[EntOk,RD,RC]
    rw[h2,h3]
    generalize hW:w.drew.alloc (.cells ((#[]:Array Value)++Builtin.zeroCells z'.cells n++Builtin.zeroCells z'.cells (grownCap w n 0 Et-n)) Et)=W
    have hr:=RLL.rep (P:=P) (hz2 W Z) n
    refine .inr (.inr ⟨w.heap.size,grownCap w n 0 Et,(#[]:Array Value)++Builtin.zeroCells z'.cells n++Builtin.zeroCells z'.cells (grownCap w n 0 Et-n),[],trivial,rfl,by simp,by simpa using hG,hGm,?_,?_,?_,?_⟩)
    ·rw[←hW];exact heap_alloc_new w.drew _
    ·simp[size_zeroCells,hzs,hsz]
     rw[←Nat.add_mul]
     congr 1
     omega
    ·intro e he
     simp at he
     rw[he.2]
     exact hl
    ·have e1:((List.replicate (n:Int).toNat z).map f).length*szOf P Et=n*inf.size:=by simp[hsz]
     rw[e1]
     have e2:((#[]:Array Value)++Builtin.zeroCells z'.cells n++Builtin.zeroCells z'.cells (grownCap w n 0 Et-n)).toList.take (n*inf.size)=(List.replicate n z'.cells.toList).flatten:=by
      rw[Array.toList_append,Array.toList_append]
      simp only[List.nil_append]
      rw[List.take_append_of_le_length (by rw[Array.length_toList,size_zeroCells,hzs];exact Nat.le_refl _),←hzc n,List.take_of_length_le (by rw[Array.length_toList,size_zeroCells,hzs];exact Nat.le_refl _)]
     rw[e2]
     simpa[List.map_replicate] using hr
theorem St.nilown {Γ:Ctx}{a:Act}{w:World}(h:St P fr Γ a w) (t:Nat) (o:Bool) (E:TypeId)(hx:Γ t=some (.d (.one (.v (.slice none 0 0))))):St P fr (upd Γ [⟨t,false,some (.d (.one (.sl o E [])))⟩]) a w:=by
 obtain⟨Z,β,γ,h⟩:=h
 have hlk:∀u,look [⟨t,false,some (.d (.one (.sl o E [])))⟩] u=if u=t then some ⟨t,false,some (.d (.one (.sl o E [])))⟩ else none:=by
  intro u
  simp only[look]
  by_cases hu:u=t
  ·subst hu;simp
  ·have:Nat.beq t u=false:=by
    cases hb:Nat.beq t u with
    |false=>rfl
    |true=>exact absurd (Nat.eq_of_beq_eq_true hb).symm hu
   simp[this,hu]
 refine⟨Z,β,γ,h.turn _ h.defers h.size h.evo h.zlt (fun b hb=>⟨hb,rfl⟩) h.znew h.own h.nodup h.disj (fun _ _=>rfl) (fun _ _=>rfl) (fun _ _ _ _=>rfl) ?_⟩
 intro u p e hl hpe
 rw[hlk] at hl
 by_cases hut:u=t
 ·subst hut
  simp at hl
  subst hl
  simp at hpe
  subst hpe
  have he:=h.ent u _ hx
  simp only[EntOk,RD,RC] at he ⊢
  exact .inl ⟨he.1,trivial,he.2.2⟩
 ·simp[hut] at hl
end Go.Proofs.YtkbcahfajbdgnaaGreatDoorT
namespace Go.Proofs.YtkbcahfajbdgnaaGreatDoorT
open Go
variable {P:Program}{fr:Fr}
def inx (n:Nat) (i:Int):Option Unit:=bif decide (0≤i)&&decide (i<(n:Int)) then some () else none
theorem inx_ok {n:Nat}{i:Int}{u:Unit}(h:inx n i=some u):0≤i∧i<(n:Int):=by
 unfold inx at h
 cases hb:decide (0≤i)&&decide (i<(n:Int)) with
 |false=>rw[hb] at h;cases h
 |true=>simpa using hb
theorem inx_some {n:Nat}{i:Int}(h0:0≤i)(h1:i<(n:Int)):inx n i=some ():=by simp[inx,h0,h1]
theorem la_qix {E:Ctx}{o:Oper}{t s:Nat}{T Et:TypeId}{y:Operand}{r n:Nat}{i:Int}
  (ho:o.op=.indexAddr T (.tmp s) y)(hd:o.dst=some t)(ht:Nat.blt t fr.n=true)(hT:elemT P T Et=true)(hsn:Nat.blt s fr.n=true)
  (hx:E s=some (.eqn r n))(hy:vs fr.n E y=some (.int .i64 i))(h0:0≤i)(h1:i<(n:Int))(hr:Nat.beq r t=false) :
  LA P fr E o [⟨t,true,some (.elt r Et i.toNat 0)⟩]:=by
 refine LA.val hd ht fun Γ a w Z β γ hle h=>?_
 obtain⟨inf,z,hu,hi,hz,hzs,hpos,hby,hsz,_⟩:=elemT_ok hT
 have he:=h.ent s _ (hle s _ hx)
 simp only[EntOk] at he
 obtain⟨hev,hsl⟩:=he
 rcases hsl with rfl|⟨g,cap,hsl⟩
 ·simp at h1;omega
 refine⟨.pointer (some ⟨g,i.toNat*szOf P Et+0,none⟩),?_,fun β' ev' hb hb' hv hv'=>?_⟩
 ·unfold execOp
  rw[ho]
  simp[Instr.indexAt,eval_ev (γ:=γ) hsn,hev,hsl,vs_ok h (vs_le hle hy),asIntOf,run_underlying hu,h0,sizeOf,typeInfo,hi,hsz,h1,add_at]
 ·simp only[EntOk]
  exact⟨g,_,cap,by rw[hv' r (by rintro rfl;simp at hr)];exact hsl,hv⟩
def QTurn (Γ Γ':Ctx):Prop:=∀t e,Γ' t=some e→Γ t=some e∨(∃r E es,Γ t=some (.eq r)∧Γ r=some (.d (.one (.sl true E es)))∧e=.eqn r es.length)∨(∃r n,Γ t=some (.eqn r n)∧e=.eq r)
theorem St.qturn {Γ Γ':Ctx}{a:Act}{w:World}(h:St P fr Γ a w)(hq:QTurn Γ Γ'):St P fr Γ' a w:=by
 obtain⟨Z,β,γ,h⟩:=h
 refine⟨Z,β,γ,⟨h.gh,h.defers,h.size,h.evo,h.zlt,h.zin,h.znew,h.own,h.nodup,h.disj,h.gl,fun t e ht=>?_⟩⟩
 rcases hq t e ht with h1|⟨r,E,es,h1,h2,rfl⟩|⟨r,n,h1,rfl⟩
 ·exact h.ent t e h1
 ·have h3:=h.ent t _ h1
  have h4:=h.ent r _ h2
  simp only[EntOk,RD] at h3 h4 ⊢
  refine⟨h3,?_⟩
  by_cases hne:es=[]
  ·exact .inl (by simp[hne])
  ·obtain⟨g,cap,cur,bs',_,hy,_⟩:=RC.own h4 hne
   exact .inr ⟨g,cap,hy⟩
 ·have h3:=h.ent t _ h1
  simp only[EntOk] at h3 ⊢
  exact h3.1
end Go.Proofs.YtkbcahfajbdgnaaGreatDoorT
namespace Go.Proofs.YtkbcahfajbdgnaaGreatDoorT
open Go
theorem freeze_drawn (w:World) (a:Addr) (n:Nat):(w.freeze a n).drawn=w.drawn:=by unfold World.freeze;split <;> rfl
variable {P:Program}{fr:Fr}
def bytesOf (s:ByteArray):List Int:=s.data.toList.map fun b=>(b.toNat:Int)
theorem LA.newz {E:Ctx}{o:Oper}{t:Nat}{e:Ent}(hd:o.dst=some t)(ht:Nat.blt t fr.n=true)
  (hrun:∀(Γ:Ctx) a w Z β γ,E_le E Γ→Core P fr Γ a w Z β γ→∃v w',(execOp a.eval o).run P w=.ok (.value v) w'∧Grow w w' (fun _=>False)∧
   ∀β' ev',β' t=[]→ev' t=v→EntOk P w' (fun b=>Z b∨(w.heap.size≤b∧b<w'.heap.size)) β' ev' t e) :
  LA P fr E o [⟨t,true,some e⟩]:=by
 intro Γ hle a w K Q ⟨Z,β,γ,h⟩ hk
 obtain⟨v,w',hr,hg,he⟩:=hrun Γ a w Z β γ hle h
 refine wp_of_run hr (hk _ _ ⟨fun b=>Z b∨(w.heap.size≤b∧b<w'.heap.size),fun u=>if u=t then[] else β u,γ,?_⟩)
 rw[hd]
 have hlook:∀u,look [⟨t,true,some e⟩] u=if u=t then some ⟨t,true,some e⟩ else none:=by
  intro u
  simp only[look]
  by_cases hu:u=t
  ·subst hu;simp
  ·have:Nat.beq t u=false:=by
    cases hb:Nat.beq t u with
    |false=>rfl
    |true=>exact absurd (Nat.eq_of_beq_eq_true hb).symm hu
   simp[this,hu]
 have hblk:∀b,b<w.heap.size→w'.heap[b]?=w.heap[b]?:=fun b hb=>hg.block b hb (fun h=>h)
 refine h.turn _ (by simpa[Act.put] using h.defers) (by simpa[Act.put] using h.size) ?_ ?_ (fun b hb=>⟨.inl hb,hblk b (h.zlt b hb)⟩) ?_ ?_ ?_ ?_ ?_ ?_ ?_ ?_
 ·refine⟨hg.os.trans h.evo.os,hg.tape.trans h.evo.tape,hg.output.trans h.evo.output,Nat.le_trans h.evo.size hg.size,fun b hlt hM=>?_,h.evo.drawn.trans (Dle.of hg.drawn)⟩
  rw[hblk b (Nat.lt_of_lt_of_le hlt h.evo.size)]
  exact h.evo.block b hlt hM
 ·rintro b (hb|hb)
  ·exact Nat.lt_of_lt_of_le (h.zlt b hb) hg.size
  ·exact hb.2
 ·rintro b (hb|hb)
  ·exact h.znew b hb
  ·exact .inr (.inl (Nat.le_trans h.evo.size hb.1))
 ·intro u b hb
  by_cases hu:u=t
  ·simp[hu] at hb
  ·simp only[hu,if_false] at hb
   obtain⟨h1,h2,h3⟩:=h.own u b hb
   refine⟨Nat.lt_of_lt_of_le h1 hg.size,?_,h3⟩
   rintro(hz|hz)
   ·exact h2 hz
   ·omega
 ·intro u
  by_cases hu:u=t
  ·simp[hu]
  ·simp only[hu,if_false];exact h.nodup u
 ·intro u u' b hne hb
  by_cases hu:u=t
  ·simp[hu] at hb
  ·simp only[hu,if_false] at hb
   by_cases hu':u'=t
   ·simp[hu']
   ·simp only[hu',if_false];exact h.disj u u' b hne hb
 ·intro u hu
  rw[ev_put h.size ht]
  rw[hlook] at hu
  by_cases hut:u=t
  ·simp[hut] at hu
  ·simp[hut]
 ·intro u hu
  rw[hlook] at hu
  by_cases hut:u=t
  ·simp[hut] at hu
  ·simp[hut]
 ·intro u _ b hb
  exact hblk b (h.own u b hb).1
 ·intro u p e' hl hp
  rw[hlook] at hl
  by_cases hut:u=t
  ·subst hut
   simp at hl
   subst hl
   simp at hp
   subst hp
   exact he _ _ (by simp) (by rw[ev_put h.size ht];simp)
  ·simp[hut] at hl
theorem rll_bytes {w:World}{Z:Nat→Prop}{f:Int→List C}(hf:∀x,f x=[.v (.int .u8 x)]):∀l:List Int,RLL P w Z (l.map f) (l.map (Value.int .u8)) []
 |[]=>by simp[RLL]
 |x::l=>by
  simp only[List.map_cons,RLL]
  refine⟨[.int .u8 x],l.map (Value.int .u8),[],[],rfl,rfl,?_,rll_bytes hf l⟩
  rw[hf]
  simp only[RL,RC]
  exact⟨_,[],[],[],rfl,rfl,⟨rfl,rfl,rfl⟩,rfl,rfl⟩
theorem la_s2b {E:Ctx}{o:Oper}{t:Nat}{T T' Et:TypeId}{u:TypeDesc}{x:Operand}{s:ByteArray}{f:Int→List C}(ho:o.op=.convert T T' x)(hd:o.dst=some t)(ht:Nat.blt t fr.n=true)
  (h1:P.underlying T=some u)(h2:P.underlying T'=some (.slice Et))(h3:P.underlying Et=some (.int .u8))(hsz:szOf P Et=1)(hf:∀x,f x=[.v (.int .u8 x)])(hx:vs fr.n E x=some (.string s))
  (hb:s.size≤1073741824):LA P fr E o [⟨t,true,some (.d (.one (.sl false Et ((bytesOf s).map f))))⟩]:=by
 refine LA.newz hd ht fun Γ a w Z β γ hle h=>?_
 refine⟨.slice (some ⟨w.heap.size,0,none⟩) s.size (grownCap w s.size 0 Et),Lib.bytesWorld w Et s,?_,?_,fun β' ev' h4 h5=>?_⟩
 ·unfold execOp
  rw[ho]
  have:=Lib.run_convert_string_bytes (P:=P) w T T' Et s h1 h2 h3
  simp[vs_ok h (vs_le hle hx),this]
 ·refine⟨?_,?_,?_,?_,fun b hb _=>Lib.bytesWorld_at_old w Et s b hb,by unfold Lib.bytesWorld;rw[freeze_drawn];exact Nat.le_succ _⟩
  ·simp[Lib.bytesWorld,World.freeze];rfl
  ·simp[Lib.bytesWorld,World.freeze]
  ·simp[Lib.bytesWorld,World.freeze];rfl
  ·rw[Lib.bytesWorld_size];omega
 ·simp only[EntOk,RD,RC]
  rw[h4,h5]
  have hlen:((bytesOf s).map f).length=s.size:=by simp[bytesOf]
  refine .inr (.inl ⟨⟨w.heap.size,0,none⟩,grownCap w s.size 0 Et,(bytesOf s).map (Value.int .u8),trivial,rfl,by rw[hlen],?_,?_,.inr (.inr ⟨Nat.le_refl _,by rw[Lib.bytesWorld_size];exact Nat.lt_succ_self _⟩),?_,?_,rll_bytes hf _⟩)
  ·rw[hlen];exact grownCap_ge _ _ _ _
  ·exact grownCap_le_maxLen _ _ _ _ (by unfold maxLen;omega)
  ·intro k y hy
   have hk:k<s.size:=by
    have:=(List.getElem?_eq_some_iff.1 hy).1
    simpa[bytesOf] using this
   rw[show(⟨w.heap.size,0,none⟩:Addr).add k=⟨w.heap.size,k,none⟩ by rw[add_at]]
   rw[Lib.bytesWorld_cell w Et s k hk]
   rw[←hy]
   have hl:k<s.data.toList.length:=hk
   simp only[bytesOf,List.map_map,List.getElem?_map,List.getElem?_eq_getElem hl,List.getD_eq_getElem?_getD,Option.map_some,Option.getD_some,Function.comp]
  ·intro e he
   simp only[List.mem_map] at he
   obtain⟨z,_,rfl⟩:=he
   rw[hf,hsz];rfl
end Go.Proofs.YtkbcahfajbdgnaaGreatDoorT
namespace Go.Proofs.YtkbcahfajbdgnaaGreatDoorT
open Go
variable {P:Program}{fr:Fr}
theorem rll_bytes_nil {w:World}{Z:Nat→Prop}{f:Int→List C}(hf:∀x,f x=[.v (.int .u8 x)]):∀{l:List Int}{vs:List Value}{bs:List Nat},RLL P w Z (l.map f) vs bs→bs=[]
 |[],vs,bs,h=>by simp[RLL] at h;exact h.2
 |x::l,vs,bs,h=>by
  simp only[List.map_cons,RLL] at h
  obtain⟨v1,v2,b1,b2,rfl,rfl,h1,h2⟩:=h
  rw[hf] at h1
  simp only[RL,RC] at h1
  obtain⟨_,_,_,_,rfl,rfl,⟨_,_,rfl⟩,_,rfl⟩:=h1
  rw[rll_bytes_nil hf h2]
  rfl
theorem strCells_bytes (s:ByteArray):Lib.strCells s=(bytesOf s).map (Value.int .u8):=by
 simp[Lib.strCells,bytesOf,Function.comp]
theorem run_apps {T T2 Et ty:TypeId}{w:World}{Z:Nat→Prop}{f:Int→List C}(hf:∀x,f x=[.v (.int .u8 x)]){xs:List Int}{v:Value}{b1:List Nat}{s:ByteArray}(hT:elemT P T Et=true)
  (hu2:P.underlying T2=some .string)(hs1:szOf P Et=1)(h1:RC P w Z (.sl true Et (xs.map f)) v b1)(hlen:xs.length+s.size≤2147483648)(hlt:∀b,b∈b1→b<w.heap.size) :
  ∃v' w' b',(Builtin.append_ #[T,T2] ty #[v,.string s]).run P w=.ok v' w'∧Grow w w' (fun b=>b∈b1)∧RC P w' Z (.sl true Et ((xs++bytesOf s).map f)) v' b'∧b'.Nodup∧
   ∀b,b∈b'→b<w'.heap.size∧(w.heap.size≤b∨b∈b1):=by
 obtain⟨i,z,hu,hi,hz,hzs,hpos,hby,hsz,_⟩:=elemT_ok hT
 have hi1:i.size=1:=by rw[←hsz];exact hs1
 have hz1:z.cells.size=1:=by rw[hzs];exact hi1
 have hbl:(bytesOf s).length=s.size:=by simp[bytesOf]
 have helm:∀e∈(xs++bytesOf s).map f,e.length=szOf P Et:=by
  intro e he
  simp only[List.mem_map] at he
  obtain⟨y,_,rfl⟩:=he
  rw[hf,hs1];rfl
 have hgro:∀n c:Nat,n≤2147483648→(Builtin.nextslicecap n c)*i.bytes≤281474976710656∨True:=fun _ _ _=>.inr trivial
 have fresh:∀(cap:Nat) (row:Array Value),xs.length+s.size≤cap→cap≤maxLen→row.size=cap→row.toList.take (xs.length+s.size)=(xs++bytesOf s).map (Value.int .u8)→
   RC P (w.drew.alloc (.cells row Et)) Z (.sl true Et ((xs++bytesOf s).map f)) (.slice (some ⟨w.heap.size,0,none⟩) (xs.length+s.size) cap) [w.heap.size]∧Grow w (w.drew.alloc (.cells row Et)) (fun b=>b∈b1)∧w.heap.size<(w.drew.alloc (.cells row Et)).heap.size:=by
  intro cap row hc1 hc2 hc3 hc4
  refine⟨?_,⟨rfl,rfl,rfl,by simp,fun k hk _=>heap_alloc_old w.drew _ hk,Nat.le_succ _⟩,by simp⟩
  simp only[RC]
  refine .inr (.inr ⟨w.heap.size,cap,row,[],trivial,rfl,by simp[hbl],by simp[hbl];omega,hc2,heap_alloc_new w.drew _,by rw[hs1];omega,helm,?_⟩)
  have e:((xs++bytesOf s).map f).length*szOf P Et=xs.length+s.size:=by rw[hs1];simp[hbl]
  rw[e,hc4]
  exact rll_bytes hf _
 simp only[RC] at h1
 rcases h1 with⟨rfl,h2,rfl⟩|⟨_,_,_,h,_⟩|⟨g,cap,cur,bs',_,rfl,rfl,hle,hcm,hg,hcs,hk,hr⟩
 ·have hx:xs=[]:=by simpa using h2
  subst hx
  by_cases hm:s.size=0
  ·refine⟨.slice none 0 0,w,[],?_,Grow.refl _ _,?_,List.nodup_nil,by simp⟩
   ·have hff:=Lib.run_firstCells_string (P:=P) w 1 s
    have hn:Lib.strCells s=[]:=List.eq_nil_of_length_eq_zero (by rw[Lib.strCells_length];exact hm)
    rw[hm] at hff
    simp[Builtin.append_,run_underlying hu,run_underlying hu2,sizeOf,typeInfo,hi,hi1,Builtin.lenOf,hm,hff]
   ·have hb0:bytesOf s=[]:=List.eq_nil_of_length_eq_zero (by rw[hbl];exact hm)
    simp only[RC]
    exact .inl ⟨trivial,by simp[hb0],trivial⟩
  ·have hrun:=run_append_nil_string (P:=P) w T T2 ty Et i z hu hu2 hi hz s (by omega) (by omega) (by
    have:s.size*i.bytes≤2147483648*65536:=Nat.mul_le_mul (by simp at hlen;omega) hby
    omega)
   have hge:=grownCap_ge w s.size 0 Et
   obtain⟨r1,r2,r3⟩:=fresh (grownCap w s.size 0 Et) (s.data.map (fun b=>Value.int .u8 b.toNat)++Builtin.zeroCells z.cells (grownCap w s.size 0 Et-s.size)) (by simp;omega) (grownCap_le_maxLen w s.size 0 Et (by unfold maxLen;simp at hlen;omega))
    (by simp[size_zeroCells,hz1];have:s.data.size=s.size:=rfl;omega)
    (by
     have e:(s.data.map (fun b=>Value.int .u8 b.toNat)).toList=(bytesOf s).map (Value.int .u8):=by simp[bytesOf,Function.comp]
     rw[Array.toList_append,e]
     simp only[List.length_nil,Nat.zero_add,List.nil_append]
     rw[List.take_left' (by simp[hbl])])
   simp only[List.length_nil,Nat.zero_add] at r1
   exact⟨_,_,[w.heap.size],hrun,r2,r1,by simp,fun b hb=>by rw[List.mem_singleton.1 hb];exact⟨r3,.inl (Nat.le_refl _)⟩⟩
 ·cases h
 ·have hb':=rll_bytes_nil hf hr
  subst hb'
  have hrow:=bytes_row hf hr
  rw[hs1,Nat.mul_one] at hrow hcs
  simp only[List.length_map] at hrow hle ⊢
  by_cases hroom:xs.length+s.size≤cap
  ·have hrun:=Lib.run_append_room_string (P:=P) w T T2 ty Et i hu hu2 hi hi1 g xs.length cap cur hg s hroom (by omega)
   refine⟨_,_,[g],hrun,⟨rfl,rfl,rfl,by simp,fun k _ hk=>setRow_other w g k _ (fun e=>hk (by simp[e])),Nat.le_refl _⟩,?_,by simp,fun b hb=>by
    rw[List.mem_singleton.1 hb];exact⟨by simpa using hlt g (by simp),.inr (by simp)⟩⟩
   simp only[RC]
   refine .inr (.inr ⟨g,cap,_,[],trivial,rfl,by simp[hbl],by simp[hbl];omega,hcm,setRow_heap w g cur _ Et _ hg,?_,helm,?_⟩)
   ·rw[hs1]
    simp only[List.size_toArray,List.length_append,List.length_take,List.length_drop,Array.length_toList,Lib.strCells_length]
    omega
   ·have e:((xs++bytesOf s).map f).length*szOf P Et=xs.length+s.size:=by rw[hs1];simp[hbl]
    rw[e,hrow,strCells_bytes]
    have e2:(xs.map (Value.int .u8)++(bytesOf s).map (Value.int .u8)++cur.toList.drop (xs.length+s.size)).toArray.toList.take (xs.length+s.size)=(xs++bytesOf s).map (Value.int .u8):=by
     simp only[List.map_append]
     rw[List.take_left' (by simp[hbl])]
    rw[e2]
    exact rll_bytes hf _
  ·have holds:∀j u,(xs.map (Value.int .u8))[j]?=some u→w.cell? ((⟨g,0,none⟩:Addr).add j)=some u:=by
    intro j u hj
    rw[cell_row hg]
    rw[←hrow,List.getElem?_take] at hj
    split at hj
    ·simpa using hj
    ·cases hj
   have hrun:=Lib.run_append_grow_string (P:=P) w T T2 ty Et i z hu hu2 hi hz ⟨g,0,none⟩ xs.length cap (xs.map (Value.int .u8)) (by rw[hi1];simp) holds s (by omega) (by omega) (growslice_fits (by omega) (by
    have:(xs.length+s.size)*i.bytes≤2147483648*65536:=Nat.mul_le_mul hlen hby
    omega))
   have hge:=grownCap_ge w (xs.length+s.size) cap Et
   obtain⟨r1,r2,r3⟩:=fresh (grownCap w (xs.length+s.size) cap Et) ((xs.map (Value.int .u8)).toArray++(Lib.strCells s).toArray++Builtin.zeroCells z.cells (grownCap w (xs.length+s.size) cap Et-(xs.length+s.size))) hge (grownCap_le_maxLen w _ cap Et (by unfold maxLen;omega))
    (by simp only[Array.size_append,List.size_toArray,size_zeroCells,hz1,Lib.strCells_length,List.length_map];omega)
    (by
     rw[strCells_bytes]
     simp only[Array.toList_append,List.map_append]
     rw[List.take_left' (by simp[hbl])])
   exact⟨_,_,[w.heap.size],hrun,r2,r1,by simp,fun b hb=>by rw[List.mem_singleton.1 hb];exact⟨r3,.inl (Nat.le_refl _)⟩⟩
theorem la_apps {E:Ctx}{o:Oper}{t:Nat}{T T2 Et:TypeId}{s x:Operand}{Ss:List Nat}{f:Int→List C}{xs:List Int}{str:ByteArray}
  (ho:o.op=.call {callee:=.builtin .append,args:=#[s,x],argTypes:=#[T,T2]})(hd:o.dst=some t)(ht:Nat.blt t fr.n=true)(hT:elemT P T Et=true)(hu2:P.underlying T2=some .string)(hs1:szOf P Et=1)
  (hf:∀x,f x=[.v (.int .u8 x)])(hs:tk fr.n E s=some (.one (.sl true Et (xs.map f)),Ss))(hx:vs fr.n E x=some (.string str))(hlen:xs.length+str.size≤2147483648)(hS:Ss.Nodup) :
  LA P fr E o (⟨t,true,some (.d (.one (.sl true Et ((xs++bytesOf str).map f))))⟩::Ss.map rmv):=by
 intro Γ hle a w K Q ⟨Z,β,γ,h⟩ hk
 obtain⟨b1,hs1',hs2⟩:=tk_sub h (tk_le hle hs)
 simp only[RD] at hs1'
 have hmem:∀b,b∈b1→∃s,s∈Ss∧b∈β s:=fun b hb=>by
  obtain⟨s,h1,h2⟩:=List.mem_flatMap.1 (hs2.mem hb);exact⟨s,h1,h2⟩
 have hlt:∀b,b∈b1→b<w.heap.size:=fun b hb=>by
  obtain⟨s,h1,h2⟩:=hmem b hb;exact(h.own s b h2).1
 obtain⟨v',w',b',hrun,hgr,hres,hnd,hb'⟩:=run_apps (P:=P) (ty:=o.type) hf hT hu2 hs1 hs1' hlen hlt
 refine wp_of_run (w':=w') (v:=v') ?_ (hk _ _ ?_)
 ·unfold execOp
  rw[ho]
  simp[resolve,invoke,builtin,vs_ok h (vs_le hle hx),hrun]
 ·rw[hd]
  refine⟨Z,_,γ,h.give Ss ht (bn:=b') (hgr.mono fun b hb=>hmem b hb) ?_ hnd ?_⟩
  ·intro b hb
   obtain⟨h1,h2⟩:=hb' b hb
   exact⟨h1,h2.imp id (hmem b)⟩
  ·intro β' ev' h2 h3 _ _
   simp only[EntOk,RD]
   rw[h2,h3]
   exact hres
end Go.Proofs.YtkbcahfajbdgnaaGreatDoorT
namespace Go.Proofs.YtkbcahfajbdgnaaGreatDoorT
open Go
variable {P:Program}{fr:Fr}
theorem run_convert_same {w:World}{T Et:TypeId}{g n c:Nat}{cur:Array Value}(ht:P.underlying T=some (.slice Et))(he:P.underlying Et=some (.int .u8))(hg:w.heap[g]?=some (.cells cur Et (0,0))) :
  (convert T T (.slice (some ⟨g,0,none⟩) n c)).run P w=.ok (.slice (some ⟨g,0,none⟩) n c) (w.freeze ⟨g,cur.size,none⟩ 1):=by
 have hsh:w.shape? g=some (Et,cur.size):=by unfold World.shape?;rw[hg]
 simp[convert,run_underlying ht,run_underlying he,markStringish,hsh]
theorem freeze_other {w:World}{g k b:Nat}(h:b≠g):(w.freeze ⟨g,k,none⟩ 1).heap[b]?=w.heap[b]?:=by
 unfold World.freeze
 rw[if_neg (by decide)]
 simp only[Array.getElem?_modify]
 rw[if_neg (by omega)]
theorem freeze_here {w:World}{g k:Nat}{cur:Array Value}{Et:TypeId}(hg:w.heap[g]?=some (.cells cur Et (0,0))):(w.freeze ⟨g,k,none⟩ 1).heap[g]?=some (.cells cur Et (k,k+1)):=by
 unfold World.freeze
 rw[if_neg (by decide)]
 simp only[Array.getElem?_modify,if_true,hg]
 rfl
theorem freeze_size {w:World}{g k:Nat}:(w.freeze ⟨g,k,none⟩ 1).heap.size=w.heap.size:=by
 unfold World.freeze
 rw[if_neg (by decide)]
 simp
theorem la_same {E:Ctx}{o:Oper}{t s:Nat}{T Et:TypeId}{f:Int→List C}{xs:List Int}(ho:o.op=.convert T T (.tmp s))(hd:o.dst=some t)(ht:Nat.blt t fr.n=true)(hs:Nat.blt s fr.n=true)(hst:Nat.beq s t=false)
  (h1:P.underlying T=some (.slice Et))(h3:P.underlying Et=some (.int .u8))(hsz:szOf P Et=1)(hf:∀x,f x=[.v (.int .u8 x)])(hx:E s=some (.d (.one (.sl true Et (xs.map f)))))(hne:xs≠[]) :
  LA P fr E o [⟨t,true,some (.d (.one (.sl false Et (xs.map f))))⟩,⟨s,true,none⟩]:=by
 intro Γ hle a w K Q ⟨Z,β,γ,h⟩ hk
 have hst':s≠t:=by rintro rfl;simp at hst
 have he:=h.ent s _ (hle s _ hx)
 simp only[EntOk,RD] at he
 obtain⟨g,cap,cur,bs',hbs,hy,hle',hcm,hg,hcs,hkk,hrl⟩:=RC.own he (by simpa using hne)
 have hb0:=rll_bytes_nil hf hrl
 subst hb0
 have hrow:=bytes_row hf hrl
 rw[hsz,Nat.mul_one] at hrow hcs
 rw[List.length_map] at hy hle' hrow
 have hgs:g∈β s:=by rw[hbs];simp
 obtain⟨og1,og2,og3⟩:=h.own s g hgs
 have hrun:=run_convert_same (P:=P) (n:=xs.length) (c:=cap) h1 h3 hg
 refine wp_of_run (w':=w.freeze ⟨g,cur.size,none⟩ 1) (v:=.slice (some ⟨g,0,none⟩) xs.length cap) ?_ (hk _ _ ⟨fun b=>Z b∨b∈β s,fun u=>if u=t∨u=s then[] else β u,γ,?_⟩)
 ·unfold execOp
  rw[ho]
  simp[eval_ev (γ:=γ) hs,hy,hrun]
 rw[hd]
 have hlook:∀u,look [⟨t,true,some (.d (.one (.sl false Et (xs.map f))))⟩,⟨s,true,none⟩] u=if u=t then some ⟨t,true,some (.d (.one (.sl false Et (xs.map f))))⟩ else if u=s then some ⟨s,true,none⟩ else none:=by
  intro u
  simp only[look]
  by_cases hu:u=t
  ·subst hu;simp
  ·have e1:Nat.beq t u=false:=by
    cases hb:Nat.beq t u with
    |false=>rfl
    |true=>exact absurd (Nat.eq_of_beq_eq_true hb).symm hu
   by_cases hu2:u=s
   ·subst hu2;simp[e1,hu]
   ·have e2:Nat.beq s u=false:=by
     cases hb:Nat.beq s u with
     |false=>rfl
     |true=>exact absurd (Nat.eq_of_beq_eq_true hb).symm hu2
    simp[e1,e2,hu,hu2]
 have hsame:∀b,b≠g→(w.freeze ⟨g,cur.size,none⟩ 1).heap[b]?=w.heap[b]?:=fun b hb=>freeze_other hb
 refine h.turn _ (by simpa[Act.put] using h.defers) (by simpa[Act.put] using h.size) ?_ ?_ (fun b hb=>⟨.inl hb,hsame b (by rintro rfl;exact og2 hb)⟩) ?_ ?_ ?_ ?_ ?_ ?_ ?_ ?_
 ·refine⟨?_,?_,?_,by rw[freeze_size];exact h.evo.size,fun b hlt hM=>?_,h.evo.drawn.trans (Dle.of (by unfold World.freeze;rw[if_neg (by decide)];exact Nat.le_refl _))⟩
  ·exact Eq.trans (by unfold World.freeze;rw[if_neg (by decide)]) h.evo.os
  ·exact Eq.trans (by unfold World.freeze;rw[if_neg (by decide)]) h.evo.tape
  ·exact Eq.trans (by unfold World.freeze;rw[if_neg (by decide)]) h.evo.output
  ·rw[hsame b (by rintro rfl;rcases og3 with h'|h';omega;exact hM h')]
   exact h.evo.block b hlt hM
 ·rintro b (hb|hb)
  ·rw[freeze_size];exact h.zlt b hb
  ·rw[freeze_size];exact(h.own s b hb).1
 ·rintro b (hb|hb)
  ·exact h.znew b hb
  ·exact .inr (h.own s b hb).2.2
 ·intro u b hb
  by_cases hu:u=t∨u=s
  ·simp[hu] at hb
  ·simp only[hu,if_false] at hb
   obtain⟨k1,k2,k3⟩:=h.own u b hb
   refine⟨by rw[freeze_size];exact k1,?_,k3⟩
   rintro(hz|hz)
   ·exact k2 hz
   ·exact h.disj u s b (fun e=>hu (.inr e)) hb hz
 ·intro u
  by_cases hu:u=t∨u=s
  ·simp[hu]
  ·simp only[hu,if_false];exact h.nodup u
 ·intro u u' b hne' hb
  by_cases hu:u=t∨u=s
  ·simp[hu] at hb
  ·simp only[hu,if_false] at hb
   by_cases hu':u'=t∨u'=s
   ·simp[hu']
   ·simp only[hu',if_false];exact h.disj u u' b hne' hb
 ·intro u hu
  rw[ev_put h.size ht]
  rw[hlook] at hu
  by_cases hut:u=t
  ·simp[hut] at hu
  ·simp[hut]
 ·intro u hu
  rw[hlook] at hu
  by_cases hut:u=t
  ·simp[hut] at hu
  ·by_cases hus:u=s
   ·simp[hut,hus,hst'] at hu
   ·simp[hut,hus]
 ·intro u hu b hb
  rw[hlook] at hu
  by_cases hut:u=t
  ·simp[hut] at hu
  ·by_cases hus:u=s
   ·simp[hut,hus,hst'] at hu
   ·refine hsame b ?_
    rintro rfl
    exact h.disj u s b hus hb hgs
 ·intro u p e' hl hp
  rw[hlook] at hl
  by_cases hut:u=t
  ·subst hut
   simp at hl
   subst hl
   simp at hp
   subst hp
   simp only[EntOk,RD,RC]
   rw[ev_put h.size ht]
   simp only[true_or,if_true]
   refine .inr (.inl ⟨⟨g,0,none⟩,cap,xs.map (Value.int .u8),trivial,trivial,by simp,by simpa using hle',hcm,.inr (.inr hgs),?_,hkk,rll_bytes hf _⟩)
   intro k y hy'
   have hc:=cell_row (freeze_here (k:=cur.size) hg) k
   rw[hc]
   rw[←hrow,List.getElem?_take] at hy'
   split at hy'
   ·simpa using hy'
   ·cases hy'
  ·by_cases hus:u=s
   ·simp[hut,hus,hst'] at hl
    subst hl
    cases hp
   ·simp[hut,hus] at hl
end Go.Proofs.YtkbcahfajbdgnaaGreatDoorT
namespace Go.Proofs.YtkbcahfajbdgnaaGreatDoorT
open Go
variable {P:Program}{fr:Fr}
theorem la_ldhb {E:Ctx}{o:Oper}{t:Nat}{T T':TypeId}{x:Operand}{r k j:Nat}{c:C}{cs:List C}(ho:o.op=.load T x)(hd:o.dst=some t)(ht:Nat.blt t fr.n=true)
  (hT:flatT P T=true)(hx:hlOf fr.n E x=some (r,k,T',cs,j))(hc:cs[k]?=some c)(hkj:Nat.beq k j=false)(hr:Nat.beq r t=false) :
  LA P fr E o [⟨t,true,some (.d (.one c))⟩,⟨r,false,some (.eq r)⟩]:=by
 intro Γ hle a w K Q ⟨Z,β,γ,h⟩ hk
 obtain⟨y0,b,vs,bs,hv,hr',hb,hrl,hβ⟩:=hlOf_ok h hle hx
 have hne:k≠j:=by rintro rfl;simp at hkj
 have hc':(cs.set j (.v y0))[k]?=some c:=by rw[List.getElem?_set_ne (Ne.symm hne)];exact hc
 obtain⟨u1,y,u2,d1,d,d2,hvu,hbd,hlu,hr1,hry,hr2⟩:=RL.get hrl hc'
 have htr:t≠r:=by rintro rfl;simp at hr
 have hcell:w.cell? ⟨b,k,none⟩=some y:=by
  have:=cell_row hb k
  rw[add_at] at this
  rw[this]
  have e1:vs[k]?=vs.toList[k]?:=by simp
  rw[e1,hvu,←hlu]
  simp
 have hrun:=run_load_flat (P:=P) hT hcell
 refine wp_of_run (w':=w) (v:=y) ?_ (hk _ _ ?_)
 ·unfold execOp
  rw[ho]
  simp[hv,hrun]
 ·rw[hd]
  refine⟨Z,_,γ,h.part ht htr (b1:=d) (b2:=b::(d1++d2)) ?_ ?_ ?_⟩
  ·rw[hβ,hbd]
   intro q
   simp only[List.count_append,List.count_cons]
   omega
  ·intro β' ev' hb' hv' _
   simp only[EntOk,RD]
   rw[hb',hv']
   exact hry
  ·intro β' ev' hb' hv'
   simp only[EntOk]
end Go.Proofs.YtkbcahfajbdgnaaGreatDoorT
namespace Go.Proofs.YtkbcahfajbdgnaaGreatDoorT
open Go
variable {P:Program}{fr:Fr}
theorem la_extb0 {E:Ctx}{o:Oper}{t s:Nat}{T:TypeId}{cs:List C}{xs:List (Option Dt)}(ho:o.op=.extract (.tmp s) 0)(hd:o.dst=some t)(ht:Nat.blt t fr.n=true)(hs:Nat.blt s fr.n=true)(hne:Nat.beq t s=false)
  (hx:E s=some (.tupb T cs xs)):LA P fr E o [⟨t,true,some (.box T cs)⟩,⟨s,false,some (.tup (none::xs))⟩]:=by
 intro Γ hle a w K Q ⟨Z,β,γ,h⟩ hk
 have he:=h.ent s _ (hle s _ hx)
 simp only[EntOk] at he
 obtain⟨b,vs,bs,ys,bs',hy,hb,hrl,hrt,hβ⟩:=he
 have hts:t≠s:=by rintro rfl;simp at hne
 refine wp_of_run (w':=w) (v:=.pointer (some ⟨b,0,none⟩)) ?_ (hk _ _ ?_)
 ·unfold execOp
  rw[ho]
  simp[eval_ev (γ:=γ) hs,hy,Instr.extract]
 ·rw[hd]
  refine⟨Z,_,γ,h.part ht hts (b1:=b::bs) (b2:=bs') ?_ ?_ ?_⟩
  ·rw[hβ]
   intro q
   simp only[List.count_append,List.count_cons]
   omega
  ·intro β' ev' hb' hv _
   simp only[EntOk]
   exact⟨b,vs,bs,hv,hb,hrl,hb'⟩
  ·intro β' ev' hb' hv
   simp only[EntOk]
   rw[hb',hv s (Ne.symm hts)]
   exact⟨_,hy,_,ys,rfl,hrt⟩
theorem la_extbj {E:Ctx}{o:Oper}{t s i:Nat}{T:TypeId}{cs:List C}{xs:List (Option Dt)}{X:Dt}(ho:o.op=.extract (.tmp s) (i+1))(hd:o.dst=some t)(ht:Nat.blt t fr.n=true)(hs:Nat.blt s fr.n=true)(hne:Nat.beq t s=false)
  (hx:E s=some (.tupb T cs xs))(hi:xs[i]?=some (some X)):LA P fr E o [⟨t,true,some (.d X)⟩,⟨s,false,some (.tupb T cs (xs.set i none))⟩]:=by
 intro Γ hle a w K Q ⟨Z,β,γ,h⟩ hk
 have he:=h.ent s _ (hle s _ hx)
 simp only[EntOk] at he
 obtain⟨b,vs,bs,ys,bs',hy,hb,hrl,hrt,hβ⟩:=he
 obtain⟨y,b1,b2,h1,h2,h3,h4⟩:=RT.get hrt hi
 have hts:t≠s:=by rintro rfl;simp at hne
 refine wp_of_run (w':=w) (v:=y) ?_ (hk _ _ ?_)
 ·unfold execOp
  rw[ho]
  have hlt:i<ys.length:=(List.getElem?_eq_some_iff.1 h1).1
  have hyi:ys[i]=y:=(List.getElem?_eq_some_iff.1 h1).2
  simp[eval_ev (γ:=γ) hs,hy,Instr.extract,hlt,hyi]
 ·rw[hd]
  refine⟨Z,_,γ,h.part ht hts (b1:=b1) (b2:=b::(bs++b2)) ?_ ?_ ?_⟩
  ·rw[hβ]
   intro q
   have:=h4 q
   simp only[List.count_append,List.count_cons] at this ⊢
   omega
  ·intro β' ev' hb' hv _
   simp only[EntOk]
   rw[hb',hv]
   exact h2
  ·intro β' ev' hb' hv
   simp only[EntOk]
   rw[hb',hv s (Ne.symm hts)]
   exact⟨b,vs,bs,ys,b2,hy,hb,hrl,h3,rfl⟩
theorem fin_box {Γ:Ctx}{a:Act}{w:World}{fn:Func}{t u:Nat}{T:TypeId}{cs:List C}{posts:List Ent}(h:St P fr Γ a w)(hrs:fn.results.toList=[.tmp t])(ht:Nat.blt t fr.n=true)(hu:Nat.blt u fr.n=true)
  (htu:t=u∨Γ t=some (.eq u))(hx:Γ u=some (.box T cs))(hp:PostsOk Γ fr.n posts):Fin P fr fn (.box T cs) posts a w:=by
 obtain⟨Z,β,γ,h⟩:=h
 have he:=h.ent u _ hx
 have hev:ev fr.n a γ t=a.tmps.getD t undef:=(eval_ev (a:=a) ht).symm
 have htv:ev fr.n a γ t=ev fr.n a γ u:=by
  rcases htu with rfl|h1
  ·rfl
  ·have:=h.ent t _ h1
   simpa[EntOk] using this
 have hres:=results_run (P:=P) hrs (w:=w) (tmps:=a.tmps) (vs:=[a.tmps.getD t undef]) (by simp[rvRun])
 refine fin_core h (ts:=[u]) (bs:=β u) hres ?_ (by simpa using Sub.refl _) (by simpa[Nat.blt_eq] using hu) (by simp) hp
 simp only[EntOk] at he
 rw[←htv,hev] at he
 simpa[OwnOk,EntOk] using he
theorem fin_boxs {Γ:Ctx}{a:Act}{w:World}{fn:Func}{t u:Nat}{T:TypeId}{cs:List C}{r:ResultVar}{rs:List ResultVar}{Xs:List Dt}{ts:List Nat}{posts:List Ent}(h:St P fr Γ a w)(hrs:fn.results.toList=.tmp t::r::rs)
  (ht:Nat.blt t fr.n=true)(hu:Nat.blt u fr.n=true)(htu:t=u∨Γ t=some (.eq u))(hx:Γ u=some (.box T cs))(hr:RvsOk P fr.n Γ (r::rs) Xs ts)(hnd:nodupB (u::ts)=true)(hp:PostsOk Γ fr.n posts) :
  Fin P fr fn (.tupb T cs (Xs.map some)) posts a w:=by
 obtain⟨Z,β,γ,h⟩:=h
 have he:=h.ent u _ hx
 have hev:ev fr.n a γ t=a.tmps.getD t undef:=(eval_ev (a:=a) ht).symm
 have htv:ev fr.n a γ t=ev fr.n a γ u:=by
  rcases htu with rfl|h1
  ·rfl
  ·have:=h.ent t _ h1
   simpa[EntOk] using this
 obtain⟨vs,bs,h1,h2,h3,h4⟩:=rvs_ok h hr
 have hall:∀q:List ResultVar,(q.mapM (rvRun a.tmps)).run P w=.ok vs w→((ResultVar.tmp t::q).mapM (rvRun a.tmps)).run P w=.ok (a.tmps.getD t undef::vs) w:=by
  intro q hq
  rw[List.mapM_cons]
  simp[rvRun,hq]
 have hres:=results_run (P:=P) hrs (w:=w) (tmps:=a.tmps) (vs:=a.tmps.getD t undef::vs) (hall _ h1)
 have hne:¬(a.tmps.getD t undef::vs).toArray.size=1:=by
  simp only[List.length_cons] at h4
  simp
  intro e
  rw[e] at h4
  simp at h4
 rw[dif_neg hne] at hres
 simp only[EntOk] at he
 obtain⟨b,cur,bs0,g1,g2,g3,g4⟩:=he
 rw[←htv,hev] at g1
 refine fin_core h (ts:=u::ts) (bs:=b::(bs0++bs)) hres ?_ ?_ ?_ (nodupB_ok hnd) hp
 ·simp only[OwnOk,EntOk]
  exact⟨b,cur,bs0,vs,bs,by rw[g1],g2,g3,h2,rfl⟩
 ·rw[List.flatMap_cons,g4]
  exact Sub.app (Sub.refl (b::bs0)) h3
 ·intro u hu'
  rcases List.mem_cons.1 hu' with rfl|hu'
  ·simpa[Nat.blt_eq] using hu
  ·exact rvs_lt hr u hu'
theorem la_nilp {E:Ctx}{o:Oper}{t:Nat}{q:Option Addr}(ho:o.op=.move (.const (.pointer q))∨o.op=.assign (.const (.pointer q)))(hd:o.dst=some t)(ht:Nat.blt t fr.n=true):LA P fr E o [⟨t,true,none⟩]:=by
 have h:LA P fr E o [⟨t,true,some (.d (.one (.v (.pointer q))))⟩]:=la_mv ho hd ht rfl rfl
 intro Γ hle a w K Q hs hk
 refine h Γ hle a w K Q hs (fun a' w' h'=>hk a' w' (h'.weaken ?_))
 intro u e hu
 simp only[upd,look] at hu ⊢
 cases hb:Nat.beq t u with
 |true=>rw[hb] at hu;simp at hu
 |false=>rw[hb] at hu;exact hu
end Go.Proofs.YtkbcahfajbdgnaaGreatDoorT
namespace Go.Proofs.YtkbcahfajbdgnaaGreatDoorT
open Go
variable {P:Program}{fr:Fr}
theorem RC.half {w:World}{Z:Nat→Prop}{E:TypeId}{es:List (List C)}{y:Value}{bs:List Nat}(h:RC P w Z (.sl true E es) y bs) :
  ∃b1 b2,bs=b1++b2∧RC P w (fun b=>Z b∨b∈b2) (.sl true E (es.map (List.map shC))) y b1:=by
 simp only[RC] at h
 rcases h with⟨h1,h2,h3⟩|⟨ad,cap,vs,ho,hb,hy,h1,h2,hz,hc,hl,hr⟩|⟨g,cap,cur,bs',ho,hb,hy,h1,h2,hg,hs,hl,hr⟩
 ·refine⟨[],[],by simp[h3],?_⟩
  simp only[RC]
  exact .inl ⟨h1,by simp[h2],trivial⟩
 ·cases ho
 ·refine⟨[g],bs',by simp[hb],?_⟩
  have hsh:=RLL.share es hr
  rw[shLL_map] at hsh
  simp only[RC]
  refine .inr (.inr ⟨g,cap,cur,[],trivial,rfl,by simpa using hy,by simpa using h1,h2,hg,hs,by simpa using hl,?_⟩)
  simpa using hsh
theorem RD.half {w:World}{Z:Nat→Prop}{E:TypeId}{es:List (List C)}{y:Value}{bs:List Nat}(h:RD P w Z (.one (.sl true E es)) y bs) :
  ∃b1 b2,bs=b1++b2∧RD P w (fun b=>Z b∨b∈b2) (.one (.sl true E (es.map (List.map shC)))) y b1:=RC.half h
theorem St.hfreeze {Γ:Ctx}{a:Act}{w:World}(h:St P fr Γ a w) (t:Nat){E:TypeId}{es:List (List C)}(hx:Γ t=some (.d (.one (.sl true E es)))):St P fr (upd Γ [⟨t,false,some (.d (.one (.sl true E (es.map (List.map shC)))))⟩]) a w:=by
 obtain⟨Z,β,γ,h⟩:=h
 have he0:=h.ent t _ hx
 simp only[EntOk] at he0
 obtain⟨b1,b2,hb12,hnew⟩:=RD.half he0
 have m1:∀b,b∈b1→b∈β t:=fun b hb=>by rw[hb12];simp[hb]
 have m2:∀b,b∈b2→b∈β t:=fun b hb=>by rw[hb12];simp[hb]
 have hnd:=h.nodup t
 rw[hb12] at hnd
 have hlk:∀u,look [⟨t,false,some (.d (.one (.sl true E (es.map (List.map shC)))))⟩] u=if u=t then some ⟨t,false,some (.d (.one (.sl true E (es.map (List.map shC)))))⟩ else none:=by
  intro u
  simp only[look]
  by_cases hu:u=t
  ·subst hu;simp
  ·have:Nat.beq t u=false:=by
    cases hb:Nat.beq t u with
    |false=>rfl
    |true=>exact absurd (Nat.eq_of_beq_eq_true hb).symm hu
   simp[this,hu]
 refine⟨fun b=>Z b∨b∈b2,fun u=>if u=t then b1 else β u,γ,h.turn _ h.defers h.size h.evo ?_ (fun b hb=>⟨.inl hb,rfl⟩) ?_ ?_ ?_ ?_ (fun _ _=>rfl) ?_ (fun _ _ _ _=>rfl) ?_⟩
 ·rintro b (hb|hb)
  ·exact h.zlt b hb
  ·exact(h.own t b (m2 b hb)).1
 ·rintro b (hb|hb)
  ·exact h.znew b hb
  ·exact .inr (h.own t b (m2 b hb)).2.2
 ·intro u b hb
  by_cases hu:u=t
  ·simp only[hu,if_true] at hb
   refine⟨(h.own t b (m1 b hb)).1,?_,(h.own t b (m1 b hb)).2.2⟩
   rintro(hz|hz)
   ·exact(h.own t b (m1 b hb)).2.1 hz
   ·exact(List.nodup_append.1 hnd).2.2 b hb b hz rfl
  ·simp only[hu,if_false] at hb
   refine⟨(h.own u b hb).1,?_,(h.own u b hb).2.2⟩
   rintro(hz|hz)
   ·exact(h.own u b hb).2.1 hz
   ·exact h.disj u t b hu hb (m2 b hz)
 ·intro u
  by_cases hu:u=t
  ·simpa[hu] using(List.nodup_append.1 hnd).1
  ·simpa[hu] using h.nodup u
 ·intro u u' b hne hb hb'
  by_cases hu:u=t
  ·simp only[hu,if_true] at hb
   by_cases hu':u'=t
   ·exact hne (hu.trans hu'.symm)
   ·simp only[hu',if_false] at hb'
    exact h.disj t u' b (fun e=>hu' e.symm) (m1 b hb) hb'
  ·simp only[hu,if_false] at hb
   by_cases hu':u'=t
   ·simp only[hu',if_true] at hb'
    exact h.disj u t b hu hb (m1 b hb')
   ·simp only[hu',if_false] at hb'
    exact h.disj u u' b hne hb hb'
 ·intro u hu
  rw[hlk] at hu
  by_cases hut:u=t
  ·simp[hut] at hu
  ·simp[hut]
 ·intro u p e hl hpe
  rw[hlk] at hl
  by_cases hut:u=t
  ·subst hut
   simp at hl
   subst hl
   simp at hpe
   subst hpe
   simp only[EntOk,if_true]
   exact hnew
  ·simp[hut] at hl
theorem Core.swap {Γ:Ctx}{a:Act}{w:World}{Z:Nat→Prop}{β:Nat→List Nat}{γ:Nat→Value}(h:Core P fr Γ a w Z β γ){t r:Nat}(ht:Nat.blt t fr.n=true)(hne:t≠r){v:Value}{e er:Ent}
  (he:∀β' ev',β' t=β r→ev' t=v→(∀u,u≠t→ev' u=ev fr.n a γ u)→EntOk P w Z β' ev' t e)
  (her:∀β' ev',ev' t=v→(∀u,u≠t→ev' u=ev fr.n a γ u)→EntOk P w Z β' ev' r er) :
  Core P fr (upd Γ [⟨t,true,some e⟩,⟨r,false,some er⟩]) (a.put (some t) v) w Z (fun u=>if u=t then β r else if u=r then[] else β u) γ:=by
 have hlk:∀u,look [⟨t,true,some e⟩,⟨r,false,some er⟩] u=if u=t then some ⟨t,true,some e⟩ else if u=r then some ⟨r,false,some er⟩ else none:=by
  intro u
  have hq:∀x:Nat,u≠x→Nat.beq x u=false:=by
   intro x hx
   cases hb:Nat.beq x u with
   |false=>rfl
   |true=>exact absurd (Nat.eq_of_beq_eq_true hb).symm hx
  simp only[look]
  by_cases hu:u=t
  ·subst hu;simp
  ·rw[hq t hu]
   by_cases hr:u=r
   ·subst hr;simp[hu]
   ·rw[hq r hr];simp[hu,hr]
 refine h.turn _ (by simpa[Act.put] using h.defers) (by simpa[Act.put] using h.size) h.evo h.zlt (fun b hb=>⟨hb,rfl⟩) h.znew ?_ ?_ ?_ ?_ ?_ (fun _ _ _ _=>rfl) ?_
 ·intro u b hb
  by_cases hu:u=t
  ·simp only[hu,if_true] at hb;exact h.own r b hb
  ·by_cases hr:u=r
   ·rw[if_neg hu,if_pos hr] at hb;simp at hb
   ·simp only[hu,hr,if_false] at hb;exact h.own u b hb
 ·intro u
  by_cases hu:u=t
  ·simpa[hu] using h.nodup r
  ·by_cases hr:u=r
   ·rw[if_neg hu,if_pos hr];exact List.nodup_nil
   ·simpa[hu,hr] using h.nodup u
 ·intro u u' b huu hb hb'
  by_cases hu:u=t
  ·rw[if_pos hu] at hb
   have hu':u'≠t:=fun e=>huu (hu.trans e.symm)
   rw[if_neg hu'] at hb'
   by_cases hr':u'=r
   ·rw[if_pos hr'] at hb';simp at hb'
   ·rw[if_neg hr'] at hb';exact h.disj r u' b (Ne.symm hr') hb hb'
  ·rw[if_neg hu] at hb
   by_cases hu':u'=t
   ·rw[if_pos hu'] at hb'
    by_cases hr:u=r
    ·rw[if_pos hr] at hb;simp at hb
    ·rw[if_neg hr] at hb;exact h.disj r u b (Ne.symm hr) hb' hb
   ·rw[if_neg hu'] at hb'
    by_cases hr:u=r
    ·rw[if_pos hr] at hb;simp at hb
    ·rw[if_neg hr] at hb
     by_cases hr':u'=r
     ·rw[if_pos hr'] at hb';simp at hb'
     ·rw[if_neg hr'] at hb';exact h.disj u u' b huu hb hb'
 ·intro u hu
  rw[ev_put h.size ht]
  rw[hlk] at hu
  by_cases hut:u=t
  ·simp[hut] at hu
  ·simp[hut]
 ·intro u hu
  rw[hlk] at hu
  by_cases hut:u=t
  ·simp[hut] at hu
  ·by_cases hr:u=r
   ·simp[hut,hr] at hu
    exact absurd hu (by split <;> simp)
   ·simp[hut,hr]
 ·intro u p e' hl hpe
  rw[hlk] at hl
  have hev:∀u,u≠t→ev fr.n (a.put (some t) v) γ u=ev fr.n a γ u:=fun u hu=>by rw[ev_put h.size ht];simp[hu]
  have hevt:ev fr.n (a.put (some t) v) γ t=v:=by rw[ev_put h.size ht];simp
  by_cases hut:u=t
  ·subst hut
   simp at hl
   subst hl
   simp at hpe
   subst hpe
   exact he _ _ (by simp) hevt hev
  ·by_cases hr:u=r
   ·subst hr
    simp[hut] at hl
    subst hl
    simp at hpe
    subst hpe
    exact her _ _ hevt hev
   ·simp[hut,hr] at hl
theorem la_swap {E:Ctx}{o:Oper}{t s:Nat}{X:Dt}(ho:o.op=.move (.tmp s)∨o.op=.assign (.tmp s))(hd:o.dst=some t)(ht:Nat.blt t fr.n=true)(hs:Nat.blt s fr.n=true)(hne:Nat.beq s t=false)
  (hx:E s=some (.d X)):LA P fr E o [⟨t,true,some (.d X)⟩,⟨s,false,some (.eq t)⟩]:=by
 intro Γ hle a w K Q ⟨Z,β,γ,h⟩ hk
 have he:=h.ent s _ (hle s _ hx)
 have hts:t≠s:=by rintro rfl;simp at hne
 refine wp_of_run (w':=w) (v:=a.eval (.tmp s)) (run_mv ho w) (hk _ _ ?_)
 rw[hd]
 refine⟨Z,_,γ,h.swap ht hts ?_ ?_⟩
 ·intro β' ev' hb hv _
  simp only[EntOk] at he ⊢
  rw[hb,hv,eval_ev (γ:=γ) hs]
  exact he
 ·intro β' ev' hv hu
  simp only[EntOk]
  rw[hv,hu s (Ne.symm hts),eval_ev (γ:=γ) hs]
theorem la_sw {E:Ctx}{o:Oper}{t s:Nat}{T:TypeId}{es:List (List C)}(ho:o.op=.move (.tmp s)∨o.op=.assign (.tmp s))(hd:o.dst=some t)(ht:Nat.blt t fr.n=true)(hs:Nat.blt s fr.n=true)(hne:Nat.beq s t=false)
  (hx:E s=some (.d (.one (.sl true T es)))):LA P fr E o [⟨t,true,some (.d (.one (.sl true T (es.map (List.map shC)))))⟩,⟨s,false,some (.eq t)⟩]:=by
 intro Γ hle a w K Q hst hk
 have h1:=hst.hfreeze s (hle s _ hx)
 have hE:upd Γ [⟨s,false,some (.d (.one (.sl true T (es.map (List.map shC)))))⟩] s=some (.d (.one (.sl true T (es.map (List.map shC))))):=by simp[upd,look]
 refine la_swap (P:=P) (fr:=fr) ho hd ht hs hne hE _ (fun _ _ h=>h) a w K Q h1 (fun a' w' h2=>hk a' w' (h2.weaken ?_))
 intro u e hu
 unfold upd at hu ⊢
 simp only[look] at hu ⊢
 cases hb:Nat.beq t u with
 |true=>rw[hb] at hu;exact hu
 |false=>
  rw[hb] at hu
  simp only[cond_false] at hu ⊢
  cases hc:Nat.beq s u with
  |true=>rw[hc] at hu;exact hu
  |false=>
   rw[hc] at hu
   simp only[cond_false] at hu ⊢
   cases hg:Γ u with
   |none=>rw[hg] at hu;cases hu
   |some e0=>
    rw[hg] at hu
    simp only[hit,cond_true,cond_false,Bool.or_false] at hu ⊢
    cases h3:Ent.hdep e0 t <;> cases h4:Ent.sdep e0 s <;> rw[h3,h4] at hu <;> simp at hu ⊢
    first
     |exact hu
     |(rw[h4];exact⟨h3,hu⟩)
     |(simp_all)
end Go.Proofs.YtkbcahfajbdgnaaGreatDoorT
namespace Go.Proofs.YtkbcahfajbdgnaaGreatDoorT
open Go
variable {P:Program}{fr:Fr}
theorem hlk1 (t:Nat) (e:Ent) (u:Nat):look [⟨t,false,some e⟩] u=if u=t then some ⟨t,false,some e⟩ else none:=by
 simp only[look]
 by_cases hu:u=t
 ·subst hu;simp
 ·have:Nat.beq t u=false:=by
   cases hb:Nat.beq t u with
   |false=>rfl
   |true=>exact absurd (Nat.eq_of_beq_eq_true hb).symm hu
  simp[this,hu]
theorem Core.re {Γ:Ctx}{a:Act}{w:World}{Z:Nat→Prop}{β:Nat→List Nat}{γ:Nat→Value}(h:Core P fr Γ a w Z β γ) (t:Nat){e:Ent}(he:EntOk P w Z β (ev fr.n a γ) t e):Core P fr (upd Γ [⟨t,false,some e⟩]) a w Z β γ:=by
 refine h.turn _ h.defers h.size h.evo h.zlt (fun b hb=>⟨hb,rfl⟩) h.znew h.own h.nodup h.disj (fun _ _=>rfl) (fun _ _=>rfl) (fun _ _ _ _=>rfl) ?_
 intro u p e' hl hpe
 rw[hlk1] at hl
 by_cases hut:u=t
 ·subst hut
  simp at hl
  subst hl
  simp at hpe
  subst hpe
  exact he
 ·simp[hut] at hl
theorem St.unhel {Γ:Ctx}{a:Act}{w:World}(h:St P fr Γ a w) (t:Nat){E:TypeId}{es:List (List C)}{i k:Nat}(hx:Γ t=some (.hel E es i k)) :
  ∃y,St P fr (upd Γ [⟨t,false,some (.d (.one (.sl true E (es.set i ((es[i]?.getD []).set k (.v y))))))⟩]) a w:=by
 obtain⟨Z,β,γ,h⟩:=h
 have he:=h.ent t _ hx
 simp only[EntOk] at he
 obtain⟨y,he⟩:=he
 exact⟨y,Z,β,γ,h.re t (by simpa[EntOk,RD] using he)⟩
theorem St.tohel {Γ:Ctx}{a:Act}{w:World}(h:St P fr Γ a w) (t:Nat){E:TypeId}{es:List (List C)}{i k:Nat}{y:Value}(hx:Γ t=some (.d (.one (.sl true E (es.set i ((es[i]?.getD []).set k (.v y))))))) :
  St P fr (upd Γ [⟨t,false,some (.hel E es i k)⟩]) a w:=by
 obtain⟨Z,β,γ,h⟩:=h
 have he:=h.ent t _ hx
 simp only[EntOk,RD] at he
 exact⟨Z,β,γ,h.re t (by simp only[EntOk];exact⟨y,he⟩)⟩
theorem St.undv {Γ:Ctx}{a:Act}{w:World}(h:St P fr Γ a w) (t:Nat){X:Dt}{y:Value}(hx:Γ t=some (.dv y X)):St P fr (upd Γ [⟨t,false,some (.d X)⟩]) a w:=by
 obtain⟨Z,β,γ,h⟩:=h
 have he:=h.ent t _ hx
 simp only[EntOk] at he
 exact⟨Z,β,γ,h.re t (by simp only[EntOk];exact he.2)⟩
theorem hit_hel (δ:List Up) (E:TypeId) (es:List (List C)) (i k:Nat):hit δ (.hel E es i k)=false:=by
 induction δ with
 |nil=>rfl
 |cons p δ ih=>simp only[hit,ih];cases p.hard <;> rfl
theorem beq_ne {a b:Nat}(h:a≠b):Nat.beq a b=false:=by
 cases hb:Nat.beq a b with
 |false=>rfl
 |true=>exact absurd (Nat.eq_of_beq_eq_true hb) h
theorem la_appinn {E:Ctx}{o:Oper}{t s r q:Nat}{T Et Ei:TypeId}{i k:Nat}{α α':Type}{f:α→List C}{xs:List α}{z:α}{g:α'→List C}{ys zs:List α'}
  (ho:o.op=.call {callee:=.builtin .append,args:=#[.tmp s,.tmp q],argTypes:=#[T,T]})(hd:o.dst=some t)(ht:Nat.blt t fr.n=true)(hT:elemT P T Ei=true)(hsn:Nat.blt s fr.n=true)(hqn:Nat.blt q fr.n=true)
  (hs:E s=some (.inn r Et i k))(hr:E r=some (.d (.one (.sl true Et (xs.map f)))))(hz:xs[i]?=some z)(hc:(f z)[k]?=some (.sl true Ei (ys.map g)))(hq:E q=some (.d (.one (.sl true Ei (zs.map g)))))
  (hlen:ys.length+zs.length≤2147483648)(hsr:Nat.beq s r=false)(hsq:Nat.beq s q=false)(hrq:Nat.beq r q=false) :
  LA P fr E o ((⟨t,true,some (.d (.one (.sl true Ei ((ys++zs).map g))))⟩::[s,q].map rmv)++[⟨s,true,some (.d (.one (.sl true Ei (ys.map g))))⟩,⟨r,false,some (.hel Et (xs.map f) i k)⟩]):=by
 intro Γ hle a w K Q hst hK
 have nsr:s≠r:=by rintro rfl;simp at hsr
 have nsq:s≠q:=by rintro rfl;simp at hsq
 have nrq:r≠q:=by rintro rfl;simp at hrq
 obtain⟨y,h1⟩:=hst.innTake hsn (hle s _ hs) (hle r _ hr) hsr hz hc
 have hes:(xs.map f)[i]?.getD []=f z:=by simp[hz]
 have h2:=h1.undv s (X:=.one (.sl true Ei (ys.map g))) (y:=y) (by simp[upd,look])
 have h3:=h2.tohel r (E:=Et) (es:=xs.map f) (i:=i) (k:=k) (y:=y) (by
  rw[hes]
  simp[upd,look,beq_ne nsr,hit_d])
 let φ:List Up:=[⟨s,true,some (.d (.one (.sl true Ei (ys.map g))))⟩,⟨r,false,some (.hel Et (xs.map f) i k)⟩]
 have h4:St P fr (upd Γ φ) a w:=by
  refine h3.weaken (fun u e hu=>?_)
  simp only[upd,look,φ] at hu ⊢
  by_cases hur:u=r
  ·subst hur
   simp[beq_ne nsr] at hu ⊢
   exact hu
  ·by_cases hus:u=s
   ·subst hus
    simp[beq_ne (Ne.symm hur),hit_d] at hu ⊢
    exact hu
   ·simp[beq_ne (Ne.symm hur),beq_ne (Ne.symm hus)] at hu ⊢
    cases hg:Γ u with
    |none=>rw[hg] at hu;simp at hu
    |some e0=>
     rw[hg] at hu
     simp only[hit,cond_true,cond_false,Bool.or_false] at hu ⊢
     have hsd:Ent.sdep e0 s=true→Ent.hdep e0 s=true:=by
      intro h;cases e0 <;> simp_all [Ent.hdep,Ent.sdep];rename_i q' _;cases q' <;> simp_all
     cases h5:Ent.hdep e0 s <;> cases h6:Ent.sdep e0 r <;> simp_all
 have hqE:(upd E φ) q=some (.d (.one (.sl true Ei (zs.map g)))):=by
  simp[upd,look,φ,beq_ne nsq,beq_ne nrq,hq,hit_d]
 have hsE:(upd E φ) s=some (.d (.one (.sl true Ei (ys.map g)))):=by simp[upd,look,φ]
 have hla:=la_app (P:=P) (fr:=fr) (E:=upd E φ) (s:=.tmp s) (x:=.tmp q) (Ss:=[s]) (Sx:=[q]) (o2:=true) (f:=g) (xs:=ys) (ys:=zs) (es2:=zs.map g) ho hd ht hT
  (by simp[tk,hsn,hsE,plain,plainC]) (by simp[tk,hqn,hqE,plain,plainC]) rfl hlen (by simp[nsq])
 refine hla _ (upd_le hle φ) a w K Q h4 (fun a' w' h5=>hK a' w' ?_)
 rw[upd_upd] at h5
 ·exact h5
 ·intro u p e hl he
  simp only[φ,look] at hl
  cases hb:Nat.beq s u with
  |true=>rw[hb] at hl;cases hl;cases he;exact hit_d _ _
  |false=>
   rw[hb] at hl
   cases hb2:Nat.beq r u with
   |true=>rw[hb2] at hl;cases hl;cases he;exact hit_hel _ _ _ _ _
   |false=>rw[hb2] at hl;cases hl
theorem la_ixh {E:Ctx}{o:Oper}{t s r:Nat}{T Et:TypeId}{y:Operand}{i:Int}{es:List (List C)}{i0 k0:Nat}
  (ho:o.op=.indexAddr T (.tmp s) y)(hd:o.dst=some t)(ht:Nat.blt t fr.n=true)(hsn:Nat.blt s fr.n=true)(hT:elemT P T Et=true)
  (hs:s=r∨E s=some (.eq r))(hx:E r=some (.hel Et es i0 k0))(hy:vs fr.n E y=some (.int .i64 i))(h0:0≤i)(h1:i<(es.length:Int))(hr:Nat.beq r t=false) :
  LA P fr E o [⟨t,true,some (.elt r Et i.toNat 0)⟩]:=by
 refine LA.val hd ht fun Γ a w Z β γ hle h=>?_
 obtain⟨inf,z,hu,hi,hz,hzs,hpos,hby,hsz,_⟩:=elemT_ok hT
 have he:=h.ent r _ (hle r _ hx)
 simp only[EntOk] at he
 obtain⟨y0,hrc⟩:=he
 have hev:a.eval (.tmp s)=ev fr.n a γ r:=by
  rw[eval_ev (γ:=γ) hsn]
  rcases hs with rfl|hs
  ·rfl
  ·have:=h.ent s _ (hle s _ hs)
   simpa[EntOk] using this
 generalize hes:es.set i0 ((es[i0]?.getD []).set k0 (.v y0))=es' at hrc
 have hl:es'.length=es.length:=by rw[←hes,List.length_set]
 have hne:es'≠[]:=by rintro rfl;simp at hl;omega
 obtain⟨g,cap,cur,bs',hbs,hy',hle',hcm,hg,hcs,hk,hrl⟩:=RC.own hrc hne
 refine⟨.pointer (some ⟨g,i.toNat*szOf P Et+0,none⟩),?_,fun β' ev' hb hb' hv hv'=>?_⟩
 ·unfold execOp
  rw[ho]
  have hil:i<((es'.length:Nat):Int):=by omega
  simp[Instr.indexAt,hev,hy',vs_ok h (vs_le hle hy),asIntOf,run_underlying hu,h0,sizeOf,typeInfo,hi,hsz,hil,add_at]
 ·simp only[EntOk]
  exact⟨g,_,cap,by rw[hv' r (by rintro rfl;simp at hr)];exact hy',hv⟩
theorem la_felth {E:Ctx}{o:Oper}{t s:Nat}{T Et:TypeId}{f k r i k0:Nat}(ho:o.op=.fieldAddr T (.tmp s) f)(hd:o.dst=some t)(ht:Nat.blt t fr.n=true)(hsn:Nat.blt s fr.n=true)
  (hT:fldAt P T f k=true)(hx:E s=some (.elt r Et i k0))(hr:Nat.beq r t=false):LA P fr E o [⟨t,true,some (.elt r Et i (k0+k))⟩]:=by
 refine LA.val hd ht fun Γ a w Z β γ hle h=>?_
 have he:=h.ent s _ (hle s _ hx)
 simp only[EntOk] at he
 obtain⟨g,n,cap,h1,h2⟩:=he
 refine⟨.pointer (some ⟨g,i*szOf P Et+(k0+k),none⟩),?_,fun β' ev' hb hb' hv' hv''=>?_⟩
 ·unfold execOp
  rw[ho]
  have:(⟨g,i*szOf P Et+k0,none⟩:Addr).add k=⟨g,i*szOf P Et+(k0+k),none⟩:=by
   unfold Addr.add
   split
   ·simp_all
   ·simp[Nat.add_assoc]
  simp[eval_ev (γ:=γ) hsn,h2,run_fldAt hT,this]
 ·simp only[EntOk]
  exact⟨g,n,cap,by rw[hv'' r (by rintro rfl;simp at hr)];exact h1,hv'⟩
theorem la_sthe {E:Ctx}{o:Oper}{T Et:TypeId}{s q r i k:Nat}{c':C}{α:Type}{f:α→List C}{xs:List α}{z z':α}(ho:o.op=.store T (.tmp s) (.tmp q))(hd:o.dst=none)
  (hT:szOf P T=1)(hi:(P.info? T).isSome=true)(hsn:Nat.blt s fr.n=true)(hqn:Nat.blt q fr.n=true)(hs:E s=some (.elt r Et i k))(hx:E r=some (.hel Et (xs.map f) i k))(hz:xs[i]?=some z)(hk:Nat.blt k (f z).length=true)
  (hq:E q=some (.d (.one c')))(hp:plainC c'=false)(hf:(f z).set k c'=f z')(hrq:Nat.beq r q=false)(hrs:Nat.beq r s=false) :
  LA P fr E o (⟨r,false,some (.d (.one (.sl true Et ((xs.set i z').map f))))⟩::[q].map rmv):=by
 intro Γ hle a w K Q hst hK
 have nrq:r≠q:=by rintro rfl;simp at hrq
 have nrs:r≠s:=by rintro rfl;simp at hrs
 obtain⟨y,h1⟩:=hst.unhel r (hle r _ hx)
 have hes:(xs.map f)[i]?.getD []=f z:=by simp[hz]
 rw[hes] at h1
 have hil:i<xs.length:=(List.getElem?_eq_some_iff.1 hz).1
 let φ:List Up:=[⟨r,false,some (.d (.one (.sl true Et ((xs.map f).set i ((f z).set k (.v y))))))⟩]
 have hrE:(upd E φ) r=some (.d (.one (.sl true Et (((xs.map f).set i ((f z).set k (.v y))).map id)))):=by simp[upd,look,φ]
 have hsE:(upd E φ) s=some (.elt r Et i k):=by simp[upd,look,φ,beq_ne nrs,hs,hit,Ent.sdep]
 have hqE:(upd E φ) q=some (.d (.one c')):=by simp[upd,look,φ,beq_ne nrq,hq,hit_d]
 have hla:=la_ste (P:=P) (fr:=fr) (E:=upd E φ) (p:=.tmp s) (x:=.tmp q) (S:=[q]) (f:=id) (xs:=(xs.map f).set i ((f z).set k (.v y))) (z:=(f z).set k (.v y)) (z':=f z') (c':=c') (r:=r) (i:=i) (k:=k) (Et:=Et) ho hd hT hi
  (by simp only[elOf,hsn,cond_true,hsE,hrE];simp) (by simp[hil]) (by simpa using hk) (by simp[tk,hqn,hqE,plain,hp]) (by simpa using hf) (by simpa using fun e=>nrq e) (by simp)
 refine hla _ (upd_le hle φ) a w K Q h1 (fun a' w' h5=>hK a' w' (h5.weaken ?_))
 intro u e hu
 simp only[upd,look,φ,List.map_cons,List.map_nil,rmv] at hu ⊢
 by_cases hur:u=r
 ·subst hur
  simp at hu ⊢
  exact hu▸rfl
 ·by_cases huq:u=q
  ·subst huq
   simp[beq_ne (Ne.symm hur)] at hu
  ·simp[beq_ne (Ne.symm hur),beq_ne (Ne.symm huq)] at hu ⊢
   cases hg:Γ u with
   |none=>rw[hg] at hu;simp at hu
   |some e0=>
    rw[hg] at hu
    simp only[hit,cond_true,cond_false,Bool.or_false] at hu ⊢
    cases h5:Ent.hdep e0 q <;> cases h6:Ent.sdep e0 r <;> simp_all
end Go.Proofs.YtkbcahfajbdgnaaGreatDoorT
namespace Go.Proofs.YtkbcahfajbdgnaaGreatDoorT
open Go
variable {P:Program}{fr:Fr}
theorem St.bfreeze {Γ:Ctx}{a:Act}{w:World}(h:St P fr Γ a w) (t:Nat){T:TypeId}{cs:List C}(hx:Γ t=some (.box T cs)):St P fr (upd Γ [⟨t,false,some (.box T (cs.map shC))⟩]) a w:=by
 obtain⟨Z,β,γ,h⟩:=h
 have hlk:∀u,look [⟨t,false,some (Ent.box T (cs.map shC))⟩] u=if u=t then some ⟨t,false,some (.box T (cs.map shC))⟩ else none:=by
  intro u
  simp only[look]
  by_cases hu:u=t
  ·subst hu;simp
  ·have:Nat.beq t u=false:=by
    cases hb:Nat.beq t u with
    |false=>rfl
    |true=>exact absurd (Nat.eq_of_beq_eq_true hb).symm hu
   simp[this,hu]
 obtain⟨b0,vs,bs,e1,e2,e3,e4⟩:=h.ent t _ hx
 have hb0:b0∈β t:=by rw[e4];simp
 have hbs:∀b,b∈bs→b∈β t:=fun b hb=>by rw[e4];simp[hb]
 have hnd:=h.nodup t
 rw[e4,List.nodup_cons] at hnd
 refine⟨fun b=>Z b∨b∈bs,fun u=>if u=t then[b0] else β u,γ,h.turn _ h.defers h.size h.evo ?_ (fun b hb=>⟨.inl hb,rfl⟩) ?_ ?_ ?_ ?_ (fun _ _=>rfl) ?_ (fun _ _ _ _=>rfl) ?_⟩
 ·rintro b (hb|hb)
  ·exact h.zlt b hb
  ·exact(h.own t b (hbs b hb)).1
 ·rintro b (hb|hb)
  ·exact h.znew b hb
  ·exact .inr (h.own t b (hbs b hb)).2.2
 ·intro u b hb
  by_cases hu:u=t
  ·simp only[hu,if_true,List.mem_singleton] at hb
   subst hb
   refine⟨(h.own t b hb0).1,?_,(h.own t b hb0).2.2⟩
   rintro(hz|hz)
   ·exact(h.own t b hb0).2.1 hz
   ·exact hnd.1 hz
  ·simp only[hu,if_false] at hb
   refine⟨(h.own u b hb).1,?_,(h.own u b hb).2.2⟩
   rintro(hz|hz)
   ·exact(h.own u b hb).2.1 hz
   ·exact h.disj u t b hu hb (hbs b hz)
 ·intro u
  by_cases hu:u=t
  ·simp[hu]
  ·simpa[hu] using h.nodup u
 ·intro u u' b hne hb hb'
  by_cases hu:u=t
  ·by_cases hu':u'=t
   ·exact hne (hu.trans hu'.symm)
   ·simp only[hu,if_true,List.mem_singleton] at hb
    subst hb
    simp only[hu',if_false] at hb'
    exact h.disj t u' b (fun e=>hu' e.symm) hb0 hb'
  ·by_cases hu':u'=t
   ·simp only[hu',if_true,List.mem_singleton] at hb'
    subst hb'
    simp only[hu,if_false] at hb
    exact h.disj u t b hu hb hb0
   ·simp only[hu,hu',if_false] at hb hb'
    exact h.disj u u' b hne hb hb'
 ·intro u hu
  rw[hlk] at hu
  by_cases hut:u=t
  ·simp[hut] at hu
  ·simp[hut]
 ·intro u p e hl hpe
  rw[hlk] at hl
  by_cases hut:u=t
  ·subst hut
   simp at hl
   subst hl
   simp at hpe
   subst hpe
   have h3:=RL.share cs e3
   rw[shL_map] at h3
   simp only[EntOk,if_true]
   exact⟨b0,vs,[],e1,e2,h3,rfl⟩
  ·simp[hut] at hl
theorem la_ldbth {E:Ctx}{o:Oper}{t:Nat}{T T':TypeId}{x:Operand}{r k:Nat}{c:C}{cs:List C}(ho:o.op=.load T x)(hd:o.dst=some t)(ht:Nat.blt t fr.n=true)
  (hT:rowT P T=true)(hx:bxOf fr.n E x=some (r,T',cs))(hn:cs.length=szOf P T)(hc:cs[k]?=some c)(hp1:(cs.take k).all plainC=true)(hp2:(cs.drop (k+1)).all plainC=true)(hr:Nat.beq r t=false) :
  LA P fr E o [⟨t,true,some (.d (.agg cs))⟩,⟨r,false,some (.hbox T' cs k)⟩]:=by
 intro Γ hle a w K Q ⟨Z,β,γ,h⟩ hk
 obtain⟨_,b,vs,bs,hv,hr',hb,hrl,hβ⟩:=bxOf_ok h (bxOf_le hle hx)
 obtain⟨u1,y,u2,d1,d,d2,hvu,hbd,hlu,hr1,hry,hr2⟩:=RL.get hrl hc
 have htr:t≠r:=by rintro rfl;simp at hr
 have hk':k<cs.length:=(List.getElem?_eq_some_iff.1 hc).1
 have n1:=plainL_nil _ hp1 hr1
 have n2:=plainL_nil _ hp2 hr2
 subst n1
 subst n2
 refine wp_of_run (w':=w) (v:=.agg vs) ?_ (hk _ _ ?_)
 ·unfold execOp
  rw[ho]
  have:=run_load_row (P:=P) hT (ad:=⟨b,0,none⟩) (w:=w) (vs:=vs.toList) (by rw[RL.length _ hrl];exact hn) (fun k x hk=>by rw[cell_row hb];simpa using hk)
  simp[hv,this]
 ·rw[hd]
  refine⟨Z,_,γ,h.part ht htr (b1:=bs) (b2:=[b]) ?_ ?_ ?_⟩
  ·rw[hβ]
   intro q
   simp only[List.count_append,List.count_cons,List.count_nil]
   omega
  ·intro β' ev' hb' hv' _
   simp only[EntOk]
   rw[hb',hv']
   exact⟨vs.toList,by simp,hrl⟩
  ·intro β' ev' hb' hv'
   simp only[EntOk]
   refine⟨y,b,vs,[],by rw[hv' r (Ne.symm htr)];exact hr',hb,?_,hb'⟩
   rw[List.set_eq_take_append_cons_drop,if_pos hk',hvu]
   refine(RL.app _ _ _ _).2 ⟨u1,y::u2,[],[],rfl,rfl,hr1,?_⟩
   simp only[RL]
   exact⟨y,u2,[],[],rfl,rfl,by simp only[RC];exact⟨trivial,RC.one hry,trivial⟩,hr2⟩
theorem la_ldhp {E:Ctx}{o:Oper}{t:Nat}{T T':TypeId}{x:Operand}{r k j:Nat}{c:C}{cs:List C}(ho:o.op=.load T x)(hd:o.dst=some t)(ht:Nat.blt t fr.n=true)
  (hT:flatT P T=true)(hx:hlOf fr.n E x=some (r,k,T',cs,j))(hc:cs[k]?=some c)(hp:plainC c=true)(hkj:Nat.beq k j=false):LA P fr E o [⟨t,true,some (.d (.one c))⟩]:=by
 refine LA.val hd ht fun Γ a w Z β γ hle h=>?_
 obtain⟨y0,b,vs,bs,hv,hr',hb,hl,_⟩:=hlOf_ok h hle hx
 have hne:k≠j:=by rintro rfl;simp at hkj
 have hc':(cs.set j (.v y0))[k]?=some c:=by rw[List.getElem?_set_ne (Ne.symm hne)];exact hc
 obtain⟨v1,y,v2,b1,b2,b3,hvs,_,hlen,_,hrc,_⟩:=RL.get hl hc'
 have hy:w.cell? ⟨b,k,none⟩=some y:=by
  have:vs[k]?=some y:=by rw[←Array.getElem?_toList,hvs,List.getElem?_append_right (by omega)];simp[hlen]
  simp[World.cell?,hb,this]
 have hn:=plainC_nil hp hrc
 subst hn
 refine⟨y,?_,fun β' ev' hb hb' hv' hv''=>?_⟩
 ·unfold execOp
  rw[ho]
  simp[hv,run_load_flat hT hy]
 ·simp only[EntOk,RD]
  rw[hv',hb]
  exact hrc
end Go.Proofs.YtkbcahfajbdgnaaGreatDoorT
namespace Go.Proofs.YtkbcahfajbdgnaaGreatDoorT
open Go
inductive Ty where
 |int (k:IntKind)
 |bool
 |str
 |sl (E:TypeId) (t:Ty)
 |un
 |pr (a b:Ty)
@[reducible] def El:Ty→Type
 |.int _=>Int
 |.bool=>Bool
 |.str=>ByteArray
 |.sl _ t=>List (El t)
 |.un=>Unit
 |.pr a b=>El a×El b
def Ty.isOne:Ty→Bool
 |.un=>false
 |.pr _ _=>false
 |_=>true
def Ty.size:Ty→Nat
 |.un=>0
 |.pr a b=>a.size+b.size
 |_=>1
def enc (o i:Bool):(t:Ty)→El t→List C
 |.int k,x=>[.v (.int k x)]
 |.bool,x=>[.v (.bool x)]
 |.str,x=>[.v (.string x)]
 |.sl E t,xs=>[.sl o E (xs.map (enc i i t))]
 |.un,_=>[]
 |.pr a b,x=>enc o i a x.1++enc o i b x.2
def dt (o i:Bool):(t:Ty)→El t→Dt
 |.int k,x=>.one (.v (.int k x))
 |.bool,x=>.one (.v (.bool x))
 |.str,x=>.one (.v (.string x))
 |.sl E t,xs=>.one (.sl o E (xs.map (enc i i t)))
 |.un,_=>.agg []
 |.pr a b,x=>.agg (enc o i (.pr a b) x)
def c1 (o i:Bool):(t:Ty)→El t→C
 |.int k,x=>.v (.int k x)
 |.bool,x=>.v (.bool x)
 |.str,x=>.v (.string x)
 |.sl E t,xs=>.sl o E (xs.map (enc i i t))
 |.un,_=>.v (.bool false)
 |.pr _ _,_=>.v (.bool false)
theorem enc_len (o i:Bool):∀(t:Ty) (x:El t),(enc o i t x).length=t.size
 |.int _,_=>rfl
 |.bool,_=>rfl
 |.str,_=>rfl
 |.sl _ _,_=>rfl
 |.un,_=>rfl
 |.pr a b,x=>by simp[enc,Ty.size,enc_len o i a,enc_len o i b]
theorem enc_one {o i:Bool}{t:Ty}(h:t.isOne=true) (x:El t):enc o i t x=[c1 o i t x]:=by cases t <;> first|rfl|cases h
theorem dt_one {o i:Bool}{t:Ty}(h:t.isOne=true) (x:El t):dt o i t x=.one (c1 o i t x):=by cases t <;> first|rfl|cases h
theorem dt_row {o i:Bool}{t:Ty}(h:t.isOne=false) (x:El t):dt o i t x=.agg (enc o i t x):=by cases t <;> first|rfl|cases h
theorem cells_dt (o i:Bool) (t:Ty) (x:El t):cells (dt o i t x)=enc o i t x:=by cases t <;> rfl
theorem shC_enc (o i:Bool):∀(t:Ty) (x:El t),(enc o i t x).map shC=enc false false t x
 |.int _,_=>rfl
 |.bool,_=>rfl
 |.str,_=>rfl
 |.sl E t,xs=>by
  simp only[enc,List.map_cons,List.map_nil,shC_sl,List.map_map]
  congr 2
  refine List.map_congr_left (fun x _=>?_)
  simpa using shC_enc i i t x
 |.un,_=>rfl
 |.pr a b,x=>by simp[enc,shC_enc o i a,shC_enc o i b]
theorem shC_c1 {o i:Bool}{t:Ty}(h:t.isOne=true) (x:El t):shC (c1 o i t x)=c1 false false t x:=by
 have:=shC_enc o i t x
 rw[enc_one h,enc_one h] at this
 simpa using this
theorem shD_dt (o i:Bool) (t:Ty) (x:El t):shD (dt o i t x)=dt false false t x:=by
 cases ht:t.isOne with
 |true=>rw[dt_one ht,dt_one ht];simp[shD,shC_c1 ht]
 |false=>rw[dt_row ht,dt_row ht];simp[shD,shC_enc]
def Ty.flat:Ty→Bool
 |.sl _ _=>false
 |.pr a b=>a.flat&&b.flat
 |_=>true
theorem enc_flat {o i o' i':Bool}:∀{t:Ty}(_:t.flat=true) (x:El t),enc o i t x=enc o' i' t x
 |.int _,_,_=>rfl
 |.bool,_,_=>rfl
 |.str,_,_=>rfl
 |.sl _ _,h,_=>by cases h
 |.un,_,_=>rfl
 |.pr a b,h,x=>by
  simp only[Ty.flat,Bool.and_eq_true] at h
  simp only[enc]
  rw[enc_flat h.1 (o':=o') (i':=i'),enc_flat h.2 (o':=o') (i':=i')]
theorem plain_enc {i:Bool}:∀(t:Ty) (x:El t),(enc false i t x).all plainC=true
 |.int _,_=>rfl
 |.bool,_=>rfl
 |.str,_=>rfl
 |.sl _ _,_=>rfl
 |.un,_=>rfl
 |.pr a b,x=>by simp[enc,List.all_append,plain_enc a,plain_enc b]
theorem plain_dt (i:Bool) (t:Ty) (x:El t):plain (dt false i t x)=true:=by
 cases ht:t.isOne with
 |true=>
  have:=plain_enc (i:=i) t x
  rw[dt_one ht]
  rw[enc_one ht] at this
  simpa[plain] using this
 |false=>rw[dt_row ht];exact plain_enc t x
def kEq:(a b:IntKind)→Option (PLift (a=b)):=fun a b=>if h:a=b then some ⟨h⟩ else none
def nEq (a b:Nat):Option (PLift (a=b)):=match h:Nat.beq a b with
 |true=>some ⟨Nat.eq_of_beq_eq_true h⟩
 |false=>none
def tyEq:(a b:Ty)→Option (PLift (a=b))
 |.int k,.int k'=>match kEq k k' with
  |some ⟨h⟩=>some ⟨by rw[h]⟩
  |none=>none
 |.bool,.bool=>some ⟨rfl⟩
 |.str,.str=>some ⟨rfl⟩
 |.sl E t,.sl E' t'=>match nEq E E',tyEq t t' with
  |some ⟨h⟩,some ⟨h'⟩=>some ⟨by rw[h,h']⟩
  |_,_=>none
 |.un,.un=>some ⟨rfl⟩
 |.pr a b,.pr a' b'=>match tyEq a a',tyEq b b' with
  |some ⟨h⟩,some ⟨h'⟩=>some ⟨by rw[h,h']⟩
  |_,_=>none
 |_,_=>none
def castE {a b:Ty}(x:El a):Option (El b):=match tyEq a b with
 |some ⟨h⟩=>some (h▸x)
 |none=>none
theorem castE_ok {a b:Ty}{x:El a}{y:El b}(h:castE x=some y):∃e:a=b,y=e▸x:=by
 unfold castE at h
 split at h
 ·rename_i e _
  simp at h
  exact⟨e,h.symm⟩
 ·cases h
end Go.Proofs.YtkbcahfajbdgnaaGreatDoorT
namespace Go.Proofs.YtkbcahfajbdgnaaGreatDoorT
open Go
variable {P:Program}
def zeroE:(t:Ty)→El t
 |.int _=>(0:Int)
 |.bool=>false
 |.str=>ByteArray.empty
 |.sl _ _=>[]
 |.un=>()
 |.pr a b=>(zeroE a,zeroE b)
def z1:Ty→Value→Bool
 |.int k,.int k' x=>decide (k=k')&&decide (x=0)
 |.bool,.bool b=>!b
 |.str,.string s=>s.data.toList.isEmpty
 |.sl _ _,.slice none n c=>Nat.beq n 0&&Nat.beq c 0
 |_,_=>false
theorem z1_ok {o i:Bool}{w:World}{Z:Nat→Prop}{t:Ty}{v:Value}(h:z1 t v=true):RL P w Z (enc o i t (zeroE t)) [v] []:=by
 cases t <;> cases v <;> try (simp[z1] at h;done)
 ·simp[z1] at h
  obtain⟨rfl,rfl⟩:=h
  exact rl_c (rc_v rfl) rl_n
 ·simp[z1] at h
  subst h
  exact rl_c (rc_v rfl) rl_n
 ·rename_i s
  have:s=ByteArray.empty:=by
   obtain⟨⟨l⟩⟩:=s
   simp[z1] at h
   subst h
   rfl
  subst this
  exact rl_c (rc_v rfl) rl_n
 ·rename_i E t a n c
  cases a with
  |some a=>simp[z1] at h
  |none=>
   simp only[z1,Bool.and_eq_true] at h
   obtain rfl:=Nat.eq_of_beq_eq_true h.1
   obtain rfl:=Nat.eq_of_beq_eq_true h.2
   exact rl_c rc_n rl_n
def z1L (t:Ty):List Value→Option (List Value)
 |v::vs=>bif z1 t v then some vs else none
 |[]=>none
theorem z1L_ok {o i:Bool}{w:World}{Z:Nat→Prop}{t:Ty}{vs rest:List Value}(h:z1L t vs=some rest):∃pre,vs=pre++rest∧RL P w Z (enc o i t (zeroE t)) pre []:=by
 cases vs with
 |nil=>cases h
 |cons v vs=>
  cases hz:z1 t v with
  |false=>simp[z1L,hz] at h
  |true=>
   simp[z1L,hz] at h
   subst h
   exact⟨[v],rfl,z1_ok hz⟩
def zcB:Ty→List Value→Option (List Value)
 |.un,vs=>some vs
 |.pr a b,vs=>match zcB a vs with
  |some vs'=>zcB b vs'
  |none=>none
 |.int k,vs=>z1L (.int k) vs
 |.bool,vs=>z1L .bool vs
 |.str,vs=>z1L .str vs
 |.sl E t,vs=>z1L (.sl E t) vs
theorem zcB_ok {o i:Bool}{w:World}{Z:Nat→Prop}:∀{t:Ty}{vs rest:List Value},zcB t vs=some rest→∃pre,vs=pre++rest∧RL P w Z (enc o i t (zeroE t)) pre []
 |.un,vs,rest,h=>by
  simp only[zcB] at h
  cases h
  exact⟨[],rfl,rl_n⟩
 |.pr a b,vs,rest,h=>by
  simp only[zcB] at h
  split at h
  ·rename_i vs' hv
   obtain⟨p1,rfl,h1⟩:=zcB_ok hv
   obtain⟨p2,rfl,h2⟩:=zcB_ok h
   refine⟨p1++p2,by simp,?_⟩
   simp only[enc]
   exact(RL.app _ _ _ _).2 ⟨p1,p2,[],[],rfl,rfl,h1,h2⟩
  ·cases h
 |.int k,vs,rest,h=>z1L_ok h
 |.bool,vs,rest,h=>z1L_ok h
 |.str,vs,rest,h=>z1L_ok h
 |.sl E t,vs,rest,h=>z1L_ok h
def zB (P:Program) (t:Ty) (T:TypeId):Bool:=match (P.info? T).bind (·.zero) with
 |some z=>match zcB t z.cells.toList with
  |some []=>true
  |_=>false
 |none=>false
theorem zB_ok {t:Ty}{T:TypeId}(h:zB P t T=true) (o i:Bool):zeroOk P T (enc o i t (zeroE t)):=by
 unfold zB at h
 split at h
 ·rename_i z hz
  split at h
  ·rename_i hc
   refine⟨z,hz,fun w Z=>?_⟩
   obtain⟨pre,h1,h2⟩:=zcB_ok (P:=P) (o:=o) (i:=i) (w:=w) (Z:=Z) hc
   rw[h1]
   simpa using h2
  ·cases h
 ·cases h
def oneB (P:Program) (T:TypeId):Bool:=flatT P T&&Nat.beq (szOf P T) 1&&(P.info? T).isSome
def offsOf:Ty→Nat→List (Nat×Nat)
 |.pr a b,k=>(k,a.size)::offsOf b (k+a.size)
 |_,_=>[]
def fldsB (P:Program) (T:TypeId) (offs:List (Nat×Nat)):Nat→List (Nat×Nat)→Bool
 |_,[]=>true
 |f,(k,_)::l=>fldAt P T f k&&fldsB P T offs (f+1) l
def isI64 (P:Program) (T:TypeId):Bool:=match P.underlying T with
 |some (.int .i64)=>true
 |_=>false
def eqPT (P:Program) (T:TypeId):Bool:=!P.stoodInHeld T&&!P.eqGuardType P.depth T&&(match P.underlying T with
 |some (.struct fs)=>match fs.toList with
  |[f,g]=>f.name != "_"&&g.name != "_"&&Nat.beq f.offset 0&&Nat.beq g.offset 1&&isI64 P f.type&&isI64 P g.type
  |_=>false
 |_=>false)
def eqC (P:Program):Ty→Ty→TypeId→Bool
 |.int .i64,.pr (.int .i64) .un,T=>eqPT P T
 |_,_,_=>true
def tyB (P:Program):Ty→TypeId ⊕ List Field→Bool
 |.int k,.inl T=>oneB P T&&(match P.underlying T with|some (.int k')=>decide (k=k')|_=>false)&&zB P (.int k) T
 |.bool,.inl T=>oneB P T&&(match P.underlying T with|some .bool=>true|_=>false)&&zB P .bool T
 |.str,.inl T=>oneB P T&&(match P.underlying T with|some .string=>true|_=>false)&&zB P .str T
 |.sl E t,.inl T=>oneB P T&&elemT P T E&&Nat.beq (szOf P E) t.size&&tyB P t (.inl E)&&zB P (.sl E t) T
 |.un,.inl _=>false
 |.un,.inr fs=>fs.isEmpty
 |.pr a b,.inl T=>rowT P T&&Nat.beq (szOf P T) (a.size+b.size)&&(P.info? T).isSome&&structT P T (offsOf (.pr a b) 0)&&fldsB P T [] 0 (offsOf (.pr a b) 0)&&(zB P (.pr a b) T&&eqC P a b T)&&
   (match P.underlying T with
   |some (.struct fs)=>match fs.toList with
    |f::fs=>tyB P a (.inl f.type)&&tyB P b (.inr fs)
    |[]=>false
   |_=>false)
 |.pr a b,.inr (f::fs)=>tyB P a (.inl f.type)&&tyB P b (.inr fs)
 |_,_=>false
structure One (P:Program) (T:TypeId):Prop where
 flat:flatT P T=true
 sz:szOf P T=1
 some:(P.info? T).isSome=true
theorem oneB_ok {T:TypeId}(h:oneB P T=true):One P T:=by
 simp only[oneB,Bool.and_eq_true] at h
 exact⟨h.1.1,Nat.eq_of_beq_eq_true h.1.2,h.2⟩
abbrev TyOk (P:Program) (t:Ty) (T:TypeId):Prop:=tyB P t (.inl T)=true
section
variable {t a b:Ty}{T E:TypeId}
theorem TyOk.one (h:TyOk P t T)(ho:t.isOne=true):One P T:=by
 cases t with
 |un=>cases ho
 |pr a b=>cases ho
 |sl E t=>simp only[TyOk,tyB,Bool.and_eq_true] at h;exact oneB_ok h.1.1.1.1
 |int k=>simp only[TyOk,tyB,Bool.and_eq_true] at h;exact oneB_ok h.1.1
 |bool=>simp only[TyOk,tyB,Bool.and_eq_true] at h;exact oneB_ok h.1.1
 |str=>simp only[TyOk,tyB,Bool.and_eq_true] at h;exact oneB_ok h.1.1
theorem TyOk.int {k:IntKind}(h:TyOk P (.int k) T):P.underlying T=some (.int k):=by
 simp only[TyOk,tyB,Bool.and_eq_true] at h
 have:=h.1.2
 split at this
 ·rename_i k' hk
  rw[hk,of_decide_eq_true this]
 ·cases this
theorem TyOk.bool (h:TyOk P .bool T):P.underlying T=some .bool:=by
 simp only[TyOk,tyB,Bool.and_eq_true] at h
 have:=h.1.2
 split at this
 ·assumption
 ·cases this
theorem TyOk.str (h:TyOk P .str T):P.underlying T=some .string:=by
 simp only[TyOk,tyB,Bool.and_eq_true] at h
 have:=h.1.2
 split at this
 ·assumption
 ·cases this
theorem TyOk.elem (h:TyOk P (.sl E t) T):elemT P T E=true:=by
 simp only[TyOk,tyB,Bool.and_eq_true] at h
 exact h.1.1.1.2
theorem TyOk.sl (h:TyOk P (.sl E t) T):P.underlying T=some (.slice E):=by
 obtain⟨i,z,h1,_⟩:=elemT_ok h.elem
 exact h1
theorem TyOk.esz (h:TyOk P (.sl E t) T):szOf P E=t.size:=by
 simp only[TyOk,tyB,Bool.and_eq_true] at h
 exact Nat.eq_of_beq_eq_true h.1.1.2
theorem TyOk.ety (h:TyOk P (.sl E t) T):TyOk P t E:=by
 simp only[TyOk,tyB,Bool.and_eq_true] at h
 exact h.1.2
theorem TyOk.zero (h:TyOk P t T):zB P t T=true:=by
 cases t with
 |un=>cases h
 |pr a b=>simp only[TyOk,tyB,Bool.and_eq_true] at h;exact h.1.2.1
 |sl E t=>simp only[TyOk,tyB,Bool.and_eq_true] at h;exact h.2
 |int k=>simp only[TyOk,tyB,Bool.and_eq_true] at h;exact h.2
 |bool=>simp only[TyOk,tyB,Bool.and_eq_true] at h;exact h.2
 |str=>simp only[TyOk,tyB,Bool.and_eq_true] at h;exact h.2
theorem TyOk.zeroOk (h:TyOk P t T) (o i:Bool):YtkbcahfajbdgnaaGreatDoorT.zeroOk P T (enc o i t (zeroE t)):=zB_ok h.zero o i
theorem TyOk.eqc (h:TyOk P (.pr a b) T):eqC P a b T=true:=by
 simp only[TyOk,tyB,Bool.and_eq_true] at h
 exact h.1.2.2
theorem TyOk.row (h:TyOk P (.pr a b) T):rowT P T=true:=by
 simp only[TyOk,tyB,Bool.and_eq_true] at h
 exact h.1.1.1.1.1.1
theorem TyOk.rsz (h:TyOk P (.pr a b) T):szOf P T=(Ty.pr a b).size:=by
 simp only[TyOk,tyB,Bool.and_eq_true] at h
 exact Nat.eq_of_beq_eq_true h.1.1.1.1.1.2
theorem TyOk.rsome (h:TyOk P (.pr a b) T):(P.info? T).isSome=true:=by
 simp only[TyOk,tyB,Bool.and_eq_true] at h
 exact h.1.1.1.1.2
theorem TyOk.struct (h:TyOk P (.pr a b) T):structT P T (offsOf (.pr a b) 0)=true:=by
 simp only[TyOk,tyB,Bool.and_eq_true] at h
 exact h.1.1.1.2
theorem flds_ok {offs:List (Nat×Nat)}:∀{l:List (Nat×Nat)}{f j k s:Nat},fldsB P T offs f l=true→l[j]?=some (k,s)→fldAt P T (f+j) k=true
 |[],_,_,_,_,_,hj=>by simp at hj
 |(k0,s0)::l,f,j,k,s,h,hj=>by
  simp only[fldsB,Bool.and_eq_true] at h
  cases j with
  |zero=>simp at hj;obtain⟨rfl,rfl⟩:=hj;exact h.1
  |succ j=>
   have:=flds_ok h.2 (j:=j) (by simpa using hj)
   rwa [show f+1+j=f+(j+1) by omega] at this
theorem TyOk.fld (h:TyOk P (.pr a b) T){f k s:Nat}(hf:(offsOf (.pr a b) 0)[f]?=some (k,s)):fldAt P T f k=true:=by
 simp only[TyOk,tyB,Bool.and_eq_true] at h
 have:=flds_ok h.1.1.2 hf
 simpa using this
theorem TyOk.isOne_row (h:TyOk P t T)(ho:t.isOne=false):rowT P T=true∧szOf P T=t.size∧(P.info? T).isSome=true:=by
 cases t with
 |un=>cases h
 |pr a b=>exact⟨h.row,h.rsz,h.rsome⟩
 |sl E t=>cases ho
 |int k=>cases ho
 |bool=>cases ho
 |str=>cases ho
theorem TyOk.size (h:TyOk P t T):szOf P T=t.size∧(P.info? T).isSome=true:=by
 cases ho:t.isOne with
 |true=>refine⟨(h.one ho).sz.trans ?_,(h.one ho).some⟩;cases t <;> first|rfl|cases ho
 |false=>exact(h.isOne_row ho).2
end
end Go.Proofs.YtkbcahfajbdgnaaGreatDoorT
namespace Go.Proofs.YtkbcahfajbdgnaaGreatDoorT
open Go
variable {P:Program}{fr:Fr}
structure SD where
 o:Bool
 i:Bool
 t:Ty
 x:El t
abbrev SD.dt (d:SD):Dt:=YtkbcahfajbdgnaaGreatDoorT.dt d.o d.i d.t d.x
abbrev SD.c (d:SD):C:=c1 d.o d.i d.t d.x
inductive SE where
 |v (d:SD)
 |b (r:Nat) (t:Ty) (x:El t)
 |tup (xs:List (Option SD))
 |tupb (T:TypeId) (ls:List SD) (xs:List (Option SD))
 |box (T:TypeId) (ls:List SD)
 |hbox (T:TypeId) (ls:List SD) (k:Nat)
 |eq (r:Nat)
 |eqn (r n:Nat)
 |fld (r k:Nat)
 |elt (r E:Nat) (i:Int) (k:Nat)
 |inn (r E:Nat) (i:Int) (k:Nat)
 |sp (r:Option Nat) (t:Ty) (x:El t)
 |fn (f:FuncId) (caps:List Nat)
 |hel (E:TypeId) (u:Ty) (zs:List (El u)) (i:Int) (k:Nat)
 |nil
 |off
 |gone
def SE.toEnt:SE→Ent
 |.v d=>.d d.dt
 |.b r t x=>.bor r (dt false false t x)
 |.tup xs=>.tup (xs.map (Option.map SD.dt))
 |.tupb T ls xs=>.tupb T (ls.map SD.c) (xs.map (Option.map SD.dt))
 |.box T ls=>.box T (ls.map SD.c)
 |.hbox T ls k=>.hbox T (ls.map SD.c) k
 |.eq r=>.eq r
 |.eqn r n=>.eqn r n
 |.fld r k=>.fld r k
 |.elt r E i k=>.elt r E i.toNat k
 |.inn r E i k=>.inn r E i.toNat k
 |.sp r t x=>.sp r (enc false false t x)
 |.fn f caps=>.fn f caps
 |.hel E u zs i k=>.hel E (zs.map (enc true true u)) i.toNat k
 |.nil=>.d (.one (.v (.slice none 0 0)))
 |.off=>.tup []
 |.gone=>.tup []
def SE.isGone:SE→Bool
 |.gone=>true
 |_=>false
abbrev SCtx:=List (Nat×SE)
def lk:SCtx→Nat→Option SE
 |[],_=>none
 |(t,e)::Γ,u=>bif Nat.beq t u then some e else lk Γ u
def sem (Γ:SCtx):Ctx:=fun t=>match lk Γ t with
 |some e=>bif e.isGone then none else some e.toEnt
 |none=>none
theorem sem_lk {Γ:SCtx}{t:Nat}{e:SE}(h:lk Γ t=some e)(hg:e.isGone=false:=by rfl):sem Γ t=some e.toEnt:=by simp[sem,h,hg]
theorem lk_sem {Γ:SCtx}{t:Nat}{e:Ent}(h:sem Γ t=some e):∃s,lk Γ t=some s∧s.isGone=false∧s.toEnt=e:=by
 unfold sem at h
 cases hl:lk Γ t with
 |none=>rw[hl] at h;cases h
 |some s=>
  rw[hl] at h
  simp only at h
  cases hg:s.isGone with
  |true=>rw[hg] at h;cases h
  |false=>rw[hg] at h;simp at h;exact⟨s,rfl,hg,h⟩
theorem lk_app {Γ Δ:SCtx}{t:Nat}:lk (Γ++Δ) t=(match lk Γ t with|some e=>some e|none=>lk Δ t):=by
 induction Γ with
 |nil=>rfl
 |cons p Γ ih=>
  obtain⟨u,e⟩:=p
  simp only[List.cons_append,lk]
  cases Nat.beq u t with
  |true=>rfl
  |false=>simpa using ih
structure SUp where
 t:Nat
 hard:Bool
 e:Option SE
def SUp.up (u:SUp):Up:=⟨u.t,u.hard,u.e.map SE.toEnt⟩
def semU (δ:List SUp):List Up:=δ.map SUp.up
def srm (s:Nat):SUp:=⟨s,true,none⟩
theorem semU_rm (S:List Nat):semU (S.map srm)=S.map rmv:=by simp[semU,srm,SUp.up,rmv,Function.comp_def]
theorem semU_app (a b:List SUp):semU (a++b)=semU a++semU b:=by simp[semU]
def SE.alone (δ:List SUp) (t:Nat) (e:SE):Bool:=(match look (semU δ) t with|some _=>false|none=>true)&&!(hit (semU δ) e.toEnt)
def allAlone (δ:List SUp):SCtx→Bool
 |[]=>true
 |(t,e)::Γ=>e.alone δ t&&allAlone δ Γ
def olds (δ:List SUp):SCtx→SCtx
 |[]=>[]
 |(t,e)::Γ=>match look (semU δ) t with
  |some _=>olds δ Γ
  |none=>(t,bif hit (semU δ) e.toEnt then .gone else e)::olds δ Γ
def news:List SUp→SCtx→SCtx
 |[],Γ=>Γ
 |⟨t,_,some e⟩::δ,Γ=>(t,e)::news δ Γ
 |⟨t,_,none⟩::δ,Γ=>(t,.gone)::news δ Γ
def supd (Γ:SCtx) (δ:List SUp):SCtx:=news δ (olds δ Γ)
theorem olds_ok {δ:List SUp}:∀{Γ:SCtx}{t:Nat}{e:SE},lk (olds δ Γ) t=some e→look (semU δ) t=none∧(e=.gone∨(lk Γ t=some e∧hit (semU δ) e.toEnt=false))
 |[],_,_,h=>by simp[olds,lk] at h
 |(u,e0)::Γ,t,e,h=>by
  simp only[olds] at h
  cases hl:look (semU δ) u with
  |some q=>
   rw[hl] at h
   simp only at h
   obtain⟨h1,h2⟩:=olds_ok h
   refine⟨h1,h2.imp id fun h2=>⟨?_,h2.2⟩⟩
   simp only[lk]
   cases hb:Nat.beq u t with
   |true=>rw[Nat.eq_of_beq_eq_true hb,h1] at hl;cases hl
   |false=>exact h2.1
  |none=>
   rw[hl] at h
   simp only[lk] at h ⊢
   cases hb:Nat.beq u t with
   |true=>
    rw[hb] at h
    have hut:=Nat.eq_of_beq_eq_true hb
    subst hut
    refine⟨hl,?_⟩
    cases hh:hit (semU δ) e0.toEnt with
    |true=>rw[hh] at h;simp at h;exact .inl h.symm
    |false=>rw[hh] at h;simp at h;subst h;exact .inr ⟨rfl,hh⟩
   |false=>rw[hb] at h;exact olds_ok h
theorem news_ok:∀{δ:List SUp}{Γ:SCtx}{t:Nat}{e:SE},lk (news δ Γ) t=some e→e=.gone∨(∃p,look (semU δ) t=some p∧p.e=some e.toEnt)∨(look (semU δ) t=none∧lk Γ t=some e)
 |[],_,_,_,h=>.inr (.inr ⟨rfl,h⟩)
 |⟨u,b,some e0⟩::δ,Γ,t,e,h=>by
  simp only[news,lk] at h
  simp only[semU,List.map_cons,look,SUp.up]
  cases hb:Nat.beq u t with
  |true=>
   rw[hb] at h
   simp at h
   subst h
   exact .inr (.inl ⟨_,rfl,rfl⟩)
  |false=>rw[hb] at h;exact news_ok h
 |⟨u,b,none⟩::δ,Γ,t,e,h=>by
  simp only[news,lk] at h
  simp only[semU,List.map_cons,look,SUp.up]
  cases hb:Nat.beq u t with
  |true=>
   rw[hb] at h
   simp at h
   subst h
   exact .inl rfl
  |false=>rw[hb] at h;exact news_ok h
theorem supd_le (Γ:SCtx) (δ:List SUp):E_le (sem (supd Γ δ)) (upd (sem Γ) (semU δ)):=by
 intro t e he
 obtain⟨s,h1,hg,rfl⟩:=lk_sem he
 rcases news_ok h1 with rfl|⟨p,h1,h2⟩|⟨h1,h2⟩
 ·cases hg
 ·unfold upd;rw[h1];exact h2
 ·obtain⟨_,rfl|⟨h3,h4⟩⟩:=olds_ok h2
  ·cases hg
  ·unfold upd;rw[h1];simp only[sem_lk h3 hg,h4];rfl
theorem allAlone_ok {δ:List SUp}:∀{G:SCtx},allAlone δ G=true→∀{t:Nat}{e:SE},lk G t=some e→look (semU δ) t=none∧hit (semU δ) e.toEnt=false
 |[],_,_,_,h=>by simp[lk] at h
 |(u,e0)::G,ha,t,e,h=>by
  simp only[allAlone,SE.alone,Bool.and_eq_true,Bool.not_eq_true'] at ha
  simp only[lk] at h
  cases hb:Nat.beq u t with
  |true=>
   rw[hb] at h
   simp at h
   subst h
   have hut:=Nat.eq_of_beq_eq_true hb
   subst hut
   refine⟨?_,ha.1.2⟩
   have:=ha.1.1
   cases hl:look (semU δ) u with
   |none=>rfl
   |some q=>rw[hl] at this;cases this
  |false=>rw[hb] at h;exact allAlone_ok ha.2 h
theorem lk_supd_none {Γ:SCtx}{δ:List SUp}{t:Nat}(h3:look (semU δ) t=none)(h2:lk (supd Γ δ) t=none):lk Γ t=none:=by
 cases hk:lk Γ t with
 |none=>rfl
 |some s0=>
  exfalso
  have h5:∀(Γ:SCtx),(∃s0,lk Γ t=some s0)→∃s1,lk (olds δ Γ) t=some s1:=by
   intro Γ
   induction Γ with
   |nil=>rintro⟨s0,hs⟩;simp[lk] at hs
   |cons p Γ ih=>
    obtain⟨u,e0⟩:=p
    rintro⟨s0,hs⟩
    simp only[olds]
    simp only[lk] at hs
    cases hb:Nat.beq u t with
    |true=>
     rw[Nat.eq_of_beq_eq_true hb,h3]
     simp[lk]
    |false=>
     rw[hb] at hs
     cases look (semU δ) u with
     |some q=>exact ih ⟨s0,hs⟩
     |none=>simp only[lk,hb];exact ih ⟨s0,hs⟩
  have h6:∀(δ':List SUp) (Γ:SCtx),(∃s0,lk Γ t=some s0)→∃s1,lk (news δ' Γ) t=some s1:=by
   intro δ' Γ
   induction δ' with
   |nil=>exact id
   |cons p δ' ih=>
    intro hs
    obtain⟨u,b,e⟩:=p
    cases e <;> simp only[news,lk] <;> cases Nat.beq u t <;> simp <;> exact ih hs
  obtain⟨s1,hs1⟩:=h6 δ _ (h5 Γ ⟨s0,hk⟩)
  rw[show lk (news δ (olds δ Γ)) t=none from h2] at hs1
  cases hs1
theorem supd_le2 {Γ G:SCtx}{δ:List SUp}(ha:allAlone δ G=true):E_le (sem (supd Γ δ++G)) (upd (sem (Γ++G)) (semU δ)):=by
 intro t e he
 obtain⟨s,h1,hg,rfl⟩:=lk_sem he
 rw[lk_app] at h1
 cases h2:lk (supd Γ δ) t with
 |some s'=>
  rw[h2] at h1
  simp at h1
  subst h1
  rcases news_ok h2 with rfl|⟨p,h3,h4⟩|⟨h3,h4⟩
  ·cases hg
  ·unfold upd;rw[h3];exact h4
  ·obtain⟨_,rfl|⟨h5,h6⟩⟩:=olds_ok h4
   ·cases hg
   ·have:lk (Γ++G) t=some s':=by rw[lk_app,h5]
    unfold upd;rw[h3];simp only[sem_lk this hg,h6];rfl
 |none=>
  rw[h2] at h1
  simp only at h1
  obtain⟨h3,h4⟩:=allAlone_ok ha h1
  have h5:=lk_supd_none h3 h2
  have:lk (Γ++G) t=some s:=by rw[lk_app,h5];exact h1
  unfold upd;rw[h3];simp only[sem_lk this hg,h4];rfl
end Go.Proofs.YtkbcahfajbdgnaaGreatDoorT
namespace Go.Proofs.YtkbcahfajbdgnaaGreatDoorT
open Go
variable {P:Program}{fr:Fr}
inductive Sc where
 |int (k:IntKind) (x:Int)
 |bool (b:Bool)
 |str (s:ByteArray)
def Sc.val:Sc→Value
 |.int k x=>.int k x
 |.bool b=>.bool b
 |.str s=>.string s
def Sc.sd:Sc→SD
 |.int k x=>⟨false,false,.int k,x⟩
 |.bool b=>⟨false,false,.bool,b⟩
 |.str s=>⟨false,false,.str,s⟩
theorem Sc.one (s:Sc):s.val.oneCell'=true:=by cases s <;> rfl
theorem Sc.dt (s:Sc):s.sd.dt=.one (.v s.val):=by cases s <;> rfl
def SE.sc:SE→Option Sc
 |.v ⟨_,_,.int k,x⟩=>some (.int k x)
 |.v ⟨_,_,.bool,x⟩=>some (.bool x)
 |.v ⟨_,_,.str,x⟩=>some (.str x)
 |_=>none
theorem SE.sc_gone {e:SE}{s:Sc}(h:e.sc=some s):e.isGone=false:=by cases e <;> first|rfl|(simp[SE.sc] at h)
theorem SE.sc_ok {e:SE}{s:Sc}(h:e.sc=some s):e.toEnt=.d (.one (.v s.val)):=by
 unfold SE.sc at h
 split at h <;> first|(cases h;rfl)|cases h
def opSc (n:Nat) (Γ:SCtx):Operand→Option Sc
 |.tmp t=>bif Nat.blt t n then match lk Γ t with
   |some e=>e.sc
   |none=>none
  else none
 |.const (.int k x)=>some (.int k x)
 |.const (.bool b)=>some (.bool b)
 |.const (.string s)=>some (.str s)
 |_=>none
theorem opSc_ok {n:Nat}{Γ:SCtx}{x:Operand}{s:Sc}(h:opSc n Γ x=some s):vs n (sem Γ) x=some s.val:=by
 unfold opSc at h
 split at h
 ·rename_i t
  cases ht:Nat.blt t n with
  |false=>rw[ht] at h;cases h
  |true=>
   rw[ht] at h
   simp only[cond_true] at h
   split at h
   ·rename_i e he
    unfold vs vwr
    simp[ht,sem_lk he (SE.sc_gone h),SE.sc_ok h,plain,plainC]
   ·cases h
 ·cases h;simp[vs,vwr,Sc.val,Value.oneCell']
 ·cases h;simp[vs,vwr,Sc.val,Value.oneCell']
 ·cases h;simp[vs,vwr,Sc.val,Value.oneCell']
 ·cases h
def opE (n:Nat) (Γ:SCtx):Operand→Option (Nat×SE)
 |.tmp t=>bif Nat.blt t n then match lk Γ t with
   |some e=>bif e.isGone then none else some (t,e)
   |none=>none
  else none
 |_=>none
theorem opE_ok' {n:Nat}{Γ:SCtx}{x:Operand}{t:Nat}{e:SE}(h:opE n Γ x=some (t,e)):x=.tmp t∧Nat.blt t n=true∧sem Γ t=some e.toEnt∧lk Γ t=some e∧e.isGone=false:=by
 unfold opE at h
 split at h
 ·rename_i u
  cases ht:Nat.blt u n with
  |false=>rw[ht] at h;cases h
  |true=>
   rw[ht] at h
   simp only[cond_true] at h
   split at h
   ·rename_i e' he
    cases hg:e'.isGone with
    |true=>rw[hg] at h;cases h
    |false=>
     rw[hg] at h
     simp at h
     obtain⟨rfl,rfl⟩:=h
     exact⟨rfl,ht,sem_lk he hg,he,hg⟩
   ·cases h
 ·cases h
theorem opE_ok {n:Nat}{Γ:SCtx}{x:Operand}{t:Nat}{e:SE}(h:opE n Γ x=some (t,e)):x=.tmp t∧Nat.blt t n=true∧sem Γ t=some e.toEnt:=by
 obtain⟨h1,h2,h3,_⟩:=opE_ok' h
 exact⟨h1,h2,h3⟩
structure Rd where
 r:Option Nat
 t:Ty
 x:El t
def SE.rd:SE→Option Rd
 |.v ⟨o,i,t,x⟩=>bif t.flat||(!o&&!i) then some ⟨none,t,x⟩ else none
 |.b r t x=>some ⟨some r,t,x⟩
 |_=>none
theorem SE.rd_ok {n:Nat}{Γ:SCtx}{x:Operand}{t:Nat}{e:SE}{q:Rd}(hx:opE n Γ x=some (t,e))(h:e.rd=some q):vwr n (sem Γ) x=some (q.r,dt false false q.t q.x):=by
 obtain⟨rfl,ht,hs⟩:=opE_ok hx
 unfold SE.rd at h
 split at h
 ·rename_i o i t' y
  cases hb:t'.flat||(!o&&!i) with
  |false=>rw[hb] at h;cases h
  |true=>
   rw[hb] at h
   simp at h
   subst h
   have hd:dt o i t' y=dt false false t' y:=by
    cases hf:t'.flat with
    |true=>
     cases ho:t'.isOne with
     |true=>
      rw[dt_one ho,dt_one ho]
      have:=enc_flat hf (o:=o) (i:=i) (o':=false) (i':=false) y
      rw[enc_one ho,enc_one ho] at this
      simpa using this
     |false=>rw[dt_row ho,dt_row ho,enc_flat hf]
    |false=>rw[hf] at hb;simp at hb;rw[hb.1,hb.2]
   simp only[SE.toEnt,SD.dt,hd] at hs
   simp[vwr,ht,hs,plain_dt]
 ·simp at h
  subst h
  simp only[SE.toEnt] at hs
  simp[vwr,ht,hs]
 ·cases h
def opRd (n:Nat) (Γ:SCtx) (x:Operand):Option Rd:=match opE n Γ x with
 |some (_,.b r t x)=>some ⟨some r,t,x⟩
 |some (t,.v d)=>match (SE.v d).rd with
  |some q=>some q
  |none=>bif plain d.dt then none else some ⟨some t,d.t,d.x⟩
 |some (_,.eq r)=>match lk Γ r with
  |some (.v d)=>some ⟨some r,d.t,d.x⟩
  |_=>none
 |_=>none
theorem opRd_ok {n:Nat}{Γ:SCtx}{x:Operand}{q:Rd}(h:opRd n Γ x=some q):vwr n (sem Γ) x=some (q.r,dt false false q.t q.x):=by
 unfold opRd at h
 split at h
 ·rename_i t r t' y he
  exact SE.rd_ok he h
 ·rename_i t d he
  split at h
  ·rename_i q' hq
   rw[←Option.some.inj h]
   exact SE.rd_ok he hq
  ·cases hp:plain d.dt with
   |true=>rw[hp] at h;cases h
   |false=>
    rw[hp] at h
    simp at h
    subst h
    obtain⟨rfl,ht,hs⟩:=opE_ok he
    simp only[SE.toEnt] at hs
    simp[vwr,ht,hs,hp,shD_dt]
 ·rename_i t r he
  split at h
  ·rename_i d hl
   simp at h
   subst h
   obtain⟨rfl,ht,hs⟩:=opE_ok he
   simp only[SE.toEnt] at hs
   have h2:=sem_lk hl
   simp only[SE.toEnt] at h2
   simp[vwr,ht,hs,h2,shD_dt]
  ·cases h
 ·cases h
def opTk (n:Nat) (Γ:SCtx) (x:Operand):Option (SD×List Nat):=match opSc n Γ x with
 |some s=>some (s.sd,[])
 |none=>match opE n Γ x with
  |some (t,.v d)=>some (d,bif plain d.dt then[] else[t])
  |_=>none
theorem opTk_ok {n:Nat}{Γ:SCtx}{x:Operand}{d:SD}{S:List Nat}(h:opTk n Γ x=some (d,S)):tk n (sem Γ) x=some (d.dt,S):=by
 unfold opTk at h
 split at h
 ·rename_i s hs
  simp at h
  obtain⟨rfl,rfl⟩:=h
  rw[Sc.dt]
  unfold opSc at hs
  split at hs
  ·rename_i t
   cases ht:Nat.blt t n with
   |false=>rw[ht] at hs;cases hs
   |true=>
    rw[ht] at hs
    simp only[cond_true] at hs
    split at hs
    ·rename_i e he
     simp[tk,ht,sem_lk he (SE.sc_gone hs),SE.sc_ok hs,plain,plainC]
    ·cases hs
  ·cases hs;simp[tk,Sc.val,Value.oneCell']
  ·cases hs;simp[tk,Sc.val,Value.oneCell']
  ·cases hs;simp[tk,Sc.val,Value.oneCell']
  ·cases hs
 ·split at h
  ·rename_i t d' he
   simp at h
   obtain⟨rfl,rfl⟩:=h
   obtain⟨rfl,ht,hs⟩:=opE_ok he
   simp only[SE.toEnt] at hs
   simp only[tk,ht,hs,cond_true]
  ·cases h
structure Sl where
 r:Nat
 i:Bool
 E:TypeId
 t:Ty
 x:List (El t)
def slE (Γ:SCtx) (r:Nat):Option Sl:=match lk Γ r with
 |some (.v ⟨true,i,.sl E t,x⟩)=>some ⟨r,i,E,t,x⟩
 |_=>none
theorem slE_ok {Γ:SCtx}{r:Nat}{q:Sl}(h:slE Γ r=some q):q.r=r∧sem Γ r=some (.d (.one (.sl true q.E (q.x.map (enc q.i q.i q.t))))):=by
 unfold slE at h
 split at h
 ·rename_i hl
  cases h
  exact⟨rfl,sem_lk hl⟩
 ·cases h
def opSl (n:Nat) (Γ:SCtx) (x:Operand):Option Sl:=match opE n Γ x with
 |some (t,.v _)=>slE Γ t
 |some (_,.eq r)=>slE Γ r
 |_=>none
theorem opSl_ok {n:Nat}{Γ:SCtx}{x:Operand}{q:Sl}(h:opSl n Γ x=some q):slOf n (sem Γ) x=some (q.r,q.E,q.x.map (enc q.i q.i q.t)):=by
 unfold opSl at h
 split at h
 ·rename_i t d he
  obtain⟨rfl,ht,hs⟩:=opE_ok he
  obtain⟨h1,h2⟩:=slE_ok h
  subst h1
  simp only[slOf,ht,h2,cond_true]
 ·rename_i t r he
  obtain⟨rfl,ht,hs⟩:=opE_ok he
  obtain⟨h1,h2⟩:=slE_ok h
  subst h1
  simp only[SE.toEnt] at hs
  simp only[slOf,ht,hs,h2,cond_true]
 ·cases h
structure Bx where
 r:Nat
 T:TypeId
 ls:List SD
def bxE (Γ:SCtx) (r:Nat):Option Bx:=match lk Γ r with
 |some (.box T ls)=>some ⟨r,T,ls⟩
 |_=>none
theorem bxE_ok {Γ:SCtx}{r:Nat}{q:Bx}(h:bxE Γ r=some q):q.r=r∧sem Γ r=some (.box q.T (q.ls.map SD.c)):=by
 unfold bxE at h
 split at h
 ·rename_i hl
  cases h
  exact⟨rfl,sem_lk hl⟩
 ·cases h
def opBx (n:Nat) (Γ:SCtx) (x:Operand):Option Bx:=match opE n Γ x with
 |some (t,.box _ _)=>bxE Γ t
 |some (_,.eq r)=>bxE Γ r
 |_=>none
def opFl (n:Nat) (Γ:SCtx) (x:Operand):Option (Bx×Nat):=match opE n Γ x with
 |some (t,.box _ _)=>match bxE Γ t with
  |some q=>some (q,0)
  |none=>none
 |some (_,.eq r)=>match bxE Γ r with
  |some q=>some (q,0)
  |none=>none
 |some (_,.fld r k)=>match bxE Γ r with
  |some q=>some (q,k)
  |none=>none
 |_=>none
def opEl (n:Nat) (Γ:SCtx) (x:Operand):Option (Sl×Int×Nat):=match opE n Γ x with
 |some (_,.elt r E i k)=>match slE Γ r with
  |some q=>bif Nat.beq E q.E then some (q,i,k) else none
  |none=>none
 |_=>none
def opSp (n:Nat) (Γ:SCtx) (x:Operand):Option Rd:=match opE n Γ x with
 |some (_,.sp r t x)=>some ⟨r,t,x⟩
 |_=>none
theorem opSp_ok {n:Nat}{Γ:SCtx}{x:Operand}{q:Rd}(h:opSp n Γ x=some q):spOf n (sem Γ) x=some (q.r,enc false false q.t q.x):=by
 unfold opSp at h
 split at h
 ·rename_i t r t' x' he
  cases h
  obtain⟨rfl,ht,hs⟩:=opE_ok he
  simp only[SE.toEnt] at hs
  simp only[spOf,ht,hs,cond_true]
 ·cases h
theorem opEl_ok {n:Nat}{Γ:SCtx}{x:Operand}{q:Sl}{i:Int}{k:Nat}(h:opEl n Γ x=some (q,i,k)):elOf n (sem Γ) x=some (q.r,q.E,i.toNat,k,q.x.map (enc q.i q.i q.t)):=by
 unfold opEl at h
 split at h
 ·rename_i t r E i' k' he
  obtain⟨rfl,ht,hs⟩:=opE_ok he
  split at h
  ·rename_i q' hq
   cases hb:Nat.beq E q'.E with
   |false=>rw[hb] at h;cases h
   |true=>
    rw[hb] at h
    simp at h
    obtain⟨rfl,rfl,rfl⟩:=h
    obtain⟨h1,h2⟩:=slE_ok hq
    subst h1
    simp only[SE.toEnt] at hs
    have:=Nat.eq_of_beq_eq_true hb
    subst this
    simp only[elOf,ht,hs,h2,hb,cond_true]
  ·cases h
 ·cases h
theorem opBx_ok {n:Nat}{Γ:SCtx}{x:Operand}{q:Bx}(h:opBx n Γ x=some q):bxOf n (sem Γ) x=some (q.r,q.T,q.ls.map SD.c):=by
 unfold opBx at h
 split at h
 ·rename_i t T ls he
  obtain⟨rfl,ht,hs⟩:=opE_ok he
  obtain⟨h1,h2⟩:=bxE_ok h
  subst h1
  simp only[bxOf,ht,h2,cond_true]
 ·rename_i t r he
  obtain⟨rfl,ht,hs⟩:=opE_ok he
  obtain⟨h1,h2⟩:=bxE_ok h
  subst h1
  simp only[SE.toEnt] at hs
  simp only[bxOf,ht,hs,h2,cond_true]
 ·cases h
theorem opFl_ok {n:Nat}{Γ:SCtx}{x:Operand}{q:Bx}{k:Nat}(h:opFl n Γ x=some (q,k)):flOf n (sem Γ) x=some (q.r,k,q.T,q.ls.map SD.c):=by
 unfold opFl at h
 split at h
 ·rename_i t T ls he
  split at h
  ·rename_i q' hq
   cases h
   obtain⟨rfl,ht,hs⟩:=opE_ok he
   obtain⟨h1,h2⟩:=bxE_ok hq
   subst h1
   simp only[flOf,bxOf,ht,h2,cond_true]
  ·cases h
 ·rename_i t r he
  split at h
  ·rename_i q' hq
   cases h
   obtain⟨rfl,ht,hs⟩:=opE_ok he
   obtain⟨h1,h2⟩:=bxE_ok hq
   subst h1
   simp only[SE.toEnt] at hs
   simp only[flOf,bxOf,ht,hs,h2,cond_true]
  ·cases h
 ·rename_i t r k' he
  split at h
  ·rename_i q' hq
   cases h
   obtain⟨rfl,ht,hs⟩:=opE_ok he
   obtain⟨h1,h2⟩:=bxE_ok hq
   subst h1
   simp only[SE.toEnt] at hs
   simp only[flOf,ht,hs,h2,cond_true]
  ·cases h
 ·cases h
end Go.Proofs.YtkbcahfajbdgnaaGreatDoorT
namespace Go.Proofs.YtkbcahfajbdgnaaGreatDoorT
open Go
variable {P:Program}{fr:Fr}
structure Dy where
 α:Type
 m:Option α
 δ:α→List SUp
def Dy.pure (δ:List SUp):Dy:=⟨Unit,some (),fun _=>δ⟩
def DyOk (P:Program) (fr:Fr) (Γ:SCtx) (o:Oper) (d:Dy):Prop:=∀z,d.m=some z→LA P fr (sem Γ) o (semU (d.δ z))
theorem DyOk.pure {Γ:SCtx}{o:Oper}{δ:List SUp}(h:LA P fr (sem Γ) o (semU δ)):DyOk P fr Γ o (.pure δ):=fun _ _=>h
def rdE:Option Nat→(t:Ty)→El t→SE
 |none,t,x=>.v ⟨false,false,t,x⟩
 |some _,.int k,x=>.v ⟨false,false,.int k,x⟩
 |some _,.bool,x=>.v ⟨false,false,.bool,x⟩
 |some _,.str,x=>.v ⟨false,false,.str,x⟩
 |some r,.sl E t,x=>.b r (.sl E t) x
 |some r,.un,x=>.b r .un x
 |some r,.pr a b,x=>.b r (.pr a b) x
theorem rdE_ok (r:Option Nat) (t:Ty) (x:El t):(rdE r t x).toEnt=mkv r (dt false false t x):=by
 cases r <;> cases t <;> rfl
def nilE (em:Nat) (ty:Option Ty) (t:Nat):Option (List SUp):=match ty with
 |some (.sl E u)=>some [⟨t,true,some (.v ⟨Nat.blt em 2,Nat.beq em 0,.sl E u,[]⟩)⟩]
 |_=>none
def mvE (al:Bool) (t s:Nat):SE→Option (List SUp)
 |.v d=>match (SE.v d).rd with
  |some q=>some [⟨t,true,some (.v ⟨false,false,q.t,q.x⟩)⟩]
  |none=>bif al then bif Nat.beq s t then none else some [⟨t,true,some (.eq s)⟩] else some (⟨t,true,some (.v d)⟩::[s].map srm)
 |.b r u y=>bif Nat.beq r t then none else some [⟨t,true,some (rdE (some r) u y)⟩]
 |.tup xs=>some (⟨t,true,some (.tup xs)⟩::[s].map srm)
 |.box _ _=>bif Nat.beq s t then none else some [⟨t,true,some (.eq s)⟩]
 |.hbox _ _ _=>bif Nat.beq s t then none else some [⟨t,true,some (.eq s)⟩]
 |.eq r=>bif Nat.beq r t then none else some [⟨t,true,some (.eq r)⟩]
 |.off=>none
 |.tupb T ls xs=>some (⟨t,true,some (.tupb T ls xs)⟩::[s].map srm)
 |.hel _ _ _ _ _=>bif Nat.beq s t then none else some [⟨t,true,some (.eq s)⟩]
 |e=>bif e.toEnt.hdep t then none else some [⟨t,true,some e⟩]
def mvD (n:Nat) (al:Bool) (em:Nat) (ty:Option Ty) (Γ:SCtx) (x:Operand) (t:Nat):Option (List SUp):=
 match opSc n Γ x with
 |some s=>some [⟨t,true,some (.v s.sd)⟩]
 |none=>match x with
  |.const (.slice none 0 0)=>nilE em ty t
  |.func f=>some [⟨t,true,some (.fn f [])⟩]
  |.const (.pointer _)=>some [srm t]
  |x=>match opE n Γ x with
   |some (s,e)=>mvE al t s e
   |none=>none
section
variable {Γ:SCtx}{o:Oper}{x y:Operand}{t:Nat}
theorem mvE_ok {al:Bool}{s:Nat}{e:SE}{δ:List SUp}(ho:o.op=.move (.tmp s)∨o.op=.assign (.tmp s))(hd:o.dst=some t)(ht:Nat.blt t fr.n=true)(hs:Nat.blt s fr.n=true)
  (he:lk Γ s=some e)(hg:e.isGone=false)(h:mvE al t s e=some δ):LA P fr (sem Γ) o (semU δ):=by
 have hE:=sem_lk he hg
 have hoE:opE fr.n Γ (.tmp s)=some (s,e):=by simp[opE,hs,he,hg]
 have alias:∀r,(s=r∨sem Γ s=some (.eq r))→(bif Nat.beq r t then none else some [⟨t,true,some (.eq r)⟩])=some δ→LA P fr (sem Γ) o (semU δ):=by
  intro r hr hh
  cases hb:Nat.beq r t with
  |true=>rw[hb] at hh;cases hh
  |false=>
   rw[hb] at hh
   simp at hh
   subst hh
   exact la_eq ho hd ht hs hr hb
 have same:∀e':SE,e=e'→cp fr.n (sem Γ) (.tmp s)=some e'.toEnt→(bif e'.toEnt.hdep t then none else some [⟨t,true,some e'⟩])=some δ→LA P fr (sem Γ) o (semU δ):=by
  intro e' _ hc hh
  cases hb:e'.toEnt.hdep t with
  |true=>rw[hb] at hh;cases hh
  |false=>
   rw[hb] at hh
   simp at hh
   subst hh
   exact la_mv ho hd ht hc hb
 cases e with
 |v d=>
  simp only[mvE] at h
  split at h
  ·rename_i q hq
   simp at h
   subst h
   have hr:=SE.rd_ok hoE hq
   have hn:q.r=none:=by
    unfold SE.rd at hq
    split at hq
    ·rename_i heq
     cases heq
     cases hb:(_:Ty).flat||(!_&&!_) <;> rw[hb] at hq <;> simp at hq
     subst hq;rfl
    ·rename_i heq;cases heq
    ·cases hq
   have:=la_mvr (P:=P) ho hd ht hr (by rw[hn];simp)
   rw[hn] at this
   exact this
  ·cases al with
   |true=>exact alias s (.inl rfl) (by simpa using h)
   |false=>
    simp at h
    subst h
    exact la_mvo ho hd ht hs hE rfl
 |b r u y=>
  simp only[mvE] at h
  cases hb:Nat.beq r t with
  |true=>rw[hb] at h;cases h
  |false=>
   rw[hb] at h
   simp at h
   subst h
   have hr:=SE.rd_ok hoE (q:=⟨some r,u,y⟩) rfl
   have:=la_mvr (P:=P) ho hd ht hr (by rintro⟨rfl⟩;simp at hb)
   rw[←rdE_ok] at this
   exact this
 |tup xs=>
  simp only[mvE] at h
  simp at h
  subst h
  exact la_mvo ho hd ht hs hE rfl
 |box T ls=>exact alias s (.inl rfl) h
 |hbox T ls k=>exact alias s (.inl rfl) h
 |eq r=>exact alias r (.inr hE) h
 |off=>cases h
 |tupb T ls xs=>simp only[mvE] at h;simp at h;subst h;exact la_mvo ho hd ht hs hE rfl
 |hel E u zs i k=>exact alias s (.inl rfl) h
 |gone=>cases hg
 |fld r k=>exact same _ rfl (by simp[cp,hs,hE,SE.toEnt]) h
 |elt r E i k=>exact same _ rfl (by simp[cp,hs,hE,SE.toEnt]) h
 |eqn r n=>exact same _ rfl (by simp[cp,hs,hE,SE.toEnt]) h
 |inn r E i k=>exact same _ rfl (by simp[cp,hs,hE,SE.toEnt]) h
 |sp r u y=>exact same _ rfl (by simp[cp,hs,hE,SE.toEnt]) h
 |fn f caps=>exact same _ rfl (by simp[cp,hs,hE,SE.toEnt]) h
 |nil=>exact same _ rfl (by simp[cp,hs,hE,SE.toEnt,plain,plainC]) h
theorem mvD_ok {al:Bool}{em:Nat}{ty:Option Ty}{δ:List SUp}(ho:o.op=.move x∨o.op=.assign x)(hd:o.dst=some t)(ht:Nat.blt t fr.n=true)
  (h:mvD fr.n al em ty Γ x t=some δ):LA P fr (sem Γ) o (semU δ):=by
 unfold mvD at h
 split at h
 ·rename_i s hs
  simp at h
  subst h
  have:=la_mvs (P:=P) (fr:=fr) ho hd ht (opSc_ok hs)
  cases s <;> exact this
 ·split at h
  ·unfold nilE at h
   split at h
   ·simp at h
    subst h
    exact r_nil (P:=P) (fr:=fr) (Nat.blt em 2) _ (enc (Nat.beq em 0) (Nat.beq em 0) _) ho hd ht
   ·cases h
  ·simp at h
   subst h
   exact la_mv ho hd ht (e:=.fn _ []) rfl rfl
  ·simp at h
   subst h
   exact la_nilp ho hd ht
  ·split at h
   ·rename_i s e he
    obtain⟨rfl,hs,_,hl,hg⟩:=opE_ok' he
    exact mvE_ok ho hd ht hs hl hg h
   ·cases h
def swD (n:Nat) (Γ:SCtx) (x:Operand) (t:Nat):Option (List SUp):=match opE n Γ x with
 |some (s,.v ⟨true,_,.sl E u,y⟩)=>bif Nat.beq s t then none else some [⟨t,true,some (.v ⟨true,false,.sl E u,y⟩)⟩,⟨s,false,some (.eq t)⟩]
 |_=>none
theorem half_enc (i:Bool) (u:Ty) (y:List (El u)):(y.map (enc i i u)).map (List.map shC)=y.map (enc false false u):=by
 rw[List.map_map]
 refine List.map_congr_left (fun x _=>?_)
 exact shC_enc i i u x
theorem swD_ok {δ:List SUp}(ho:o.op=.move x∨o.op=.assign x)(hd:o.dst=some t)(ht:Nat.blt t fr.n=true)(h:swD fr.n Γ x t=some δ):LA P fr (sem Γ) o (semU δ):=by
 unfold swD at h
 split at h
 ·rename_i s i E u y he
  cases hb:Nat.beq s t with
  |true=>rw[hb] at h;cases h
  |false=>
   rw[hb] at h
   cases h
   obtain⟨rfl,hs,hE⟩:=opE_ok he
   have:=la_sw (P:=P) (T:=E) (es:=y.map (enc i i u)) ho hd ht hs hb hE
   rw[half_enc] at this
   exact this
 ·cases h
def cmpI:BinOp→Int→Int→Option Bool
 |.eql,a,b=>some (a==b)
 |.neq,a,b=>some (a != b)
 |.lss,a,b=>some (decide (a<b))
 |.leq,a,b=>some (decide (a≤b))
 |.gtr,a,b=>some (decide (a>b))
 |.geq,a,b=>some (decide (a≥b))
 |_,_,_=>none
def ariI (k:IntKind):BinOp→Int→Int→Option Int
 |.add,a,b=>some (k.wrap (a+b))
 |.sub,a,b=>some (k.wrap (a-b))
 |_,_,_=>none
def binSc:BinOp→Sc→Sc→Option Sc
 |.mul,.int .i64 a,.int .i64 b=>some (.int .i64 (IntKind.i64.wrap (a*b)))
 |op,.int .i64 a,.int .i64 b=>match cmpI op a b with
  |some r=>some (.bool r)
  |none=>match ariI .i64 op a b with
   |some r=>some (.int .i64 r)
   |none=>none
 |op,.int .u8 a,.int .u8 b=>match cmpI op a b with
  |some r=>some (.bool r)
  |none=>match ariI .u8 op a b with
   |some r=>some (.int .u8 r)
   |none=>none
 |.eql,.str a,.str b=>some (.bool (a.toList==b.toList))
 |.neq,.str a,.str b=>some (.bool (!(a.toList==b.toList)))
 |.lss,.str a,.str b=>some (.bool (Op.bytesLess a.toList b.toList))
 |.geq,.str a,.str b=>some (.bool (!(Op.bytesLess a.toList b.toList)))
 |_,_,_=>none
theorem binSc_ok {op:BinOp}{a b c:Sc}(h:binSc op a b=some c):binV op a.val b.val=some c.val:=by
 unfold binSc at h
 split at h
 ·cases h;rfl
 ·cases op <;> simp[cmpI,ariI] at h <;> first|(subst h;rfl)|skip
 ·cases op <;> simp[cmpI,ariI] at h <;> first|(subst h;rfl)|skip
 ·cases h;rfl
 ·cases h;rfl
 ·cases h;rfl
 ·cases h;rfl
 ·cases h
def Dy.int (t:Nat) (m:Option Int):Dy:=⟨Int,m,fun z=>[⟨t,true,some (.v ⟨false,false,.int .i64,z⟩)⟩]⟩
def Dy.intK (t:Nat) (k:IntKind) (m:Option Int):Dy:=⟨Int,m,fun z=>[⟨t,true,some (.v ⟨false,false,.int k,z⟩)⟩]⟩
theorem isI64_ok {T:TypeId}(h:isI64 P T=true):P.underlying T=some (.int .i64):=by
 unfold isI64 at h
 split at h
 ·assumption
 ·cases h
theorem run_part_i64 {T:TypeId}(h:isI64 P T=true){xs:Array Value}{off:Nat}{v:Value}(hx:xs[off]?=some v) (w:World):(Go.part T xs off).run P w=.ok v w:=by
 have hu:=isI64_ok h
 simp[Go.part,isAgg,run_underlying hu,hx]
theorem run_equalP {T:TypeId}(h:eqPT P T=true) (a b c d:Int) (w:World) :
  (Op.equalIn 10000 T (.agg #[.int .i64 a,.int .i64 b]) (.agg #[.int .i64 c,.int .i64 d])).run P w=.ok (a==c&&b==d) w:=by
 unfold eqPT at h
 simp only[Bool.and_eq_true,Bool.not_eq_true'] at h
 obtain⟨⟨h1,h2⟩,h3⟩:=h
 split at h3
 ·rename_i fs hfs
  split at h3
  ·rename_i f g hfg
   simp only[Bool.and_eq_true,bne_iff_ne,ne_eq] at h3
   obtain⟨⟨⟨⟨⟨n1,n2⟩,o1⟩,o2⟩,i1⟩,i2⟩:=h3
   have e1:=Nat.eq_of_beq_eq_true o1
   have e2:=Nat.eq_of_beq_eq_true o2
   have hF:P.fieldsOf T=fs:=by unfold Program.fieldsOf;rw[hfs]
   have ht:P.underlying T=some (.struct (P.fieldsOf T)):=by rw[hF,hfs]
   rw[run_equalIn_agg w 9999 T _ _ ht h1,hF,hfg]
   simp only[Op.eqFields,ne_eq,n1,n2,not_false_eq_true,if_true,Sem.run_bind,e1,e2]
   rw[run_part_i64 i1 (v:=.int .i64 a) (by rfl),Result.andThen_ok,run_part_i64 i1 (v:=.int .i64 c) (by rfl),Result.andThen_ok,run_equalIn_int w 9998 _ _ _ _ _ (isI64_ok i1),Result.andThen_ok]
   cases hac:(a==c)
   ·simp
   ·simp only[Bool.not_true,Bool.false_eq_true,if_false,Sem.run_bind,Bool.true_and]
    rw[run_part_i64 i2 (v:=.int .i64 b) (by rfl),Result.andThen_ok,run_part_i64 i2 (v:=.int .i64 d) (by rfl),Result.andThen_ok,run_equalIn_int w 9998 _ _ _ _ _ (isI64_ok i2),Result.andThen_ok]
    cases hbd:(b==d) <;> simp
  ·cases h3
 ·cases h3
abbrev P2:Ty:=.pr (.int .i64) (.pr (.int .i64) .un)
def eqP2 (op:BinOp) (u v:El P2):Bool:=match op with
 |.eql=>u.1==v.1&&u.2.1==v.2.1
 |_=>!(u.1==v.1&&u.2.1==v.2.1)
theorem run_binP {ρ:Operand→Value}{o:Oper}{op:BinOp}{T T':TypeId}{x y:Operand}{u v:El P2}(ho:o.op=.binOp op T x y T')(hT:eqPT P T=true)
  (hx:ρ x=.agg #[.int .i64 u.1,.int .i64 u.2.1])(hy:ρ y=.agg #[.int .i64 v.1,.int .i64 v.2.1])(hop:op=.eql∨op=.neq) (w:World) :
  (execOp ρ o).run P w=.ok (.value (.bool (eqP2 op u v))) w:=by
 have hm:P.eqGuardType P.depth T=false:=by
  unfold eqPT at hT
  simp only[Bool.and_eq_true,Bool.not_eq_true'] at hT
  exact hT.1.2
 unfold execOp
 rw[ho]
 simp only[hx,hy]
 rcases hop with rfl|rfl
 ·simp only[Sem.run_bind,run_eqGuard_agg w _ T x y _ _ hm,Result.andThen_ok,run_eql_struct,run_equalP hT]
  rfl
 ·simp only[Sem.run_bind,run_eqGuard_agg w _ T x y _ _ hm,Result.andThen_ok,run_neq_struct,run_equalP hT]
  rfl
theorem r_p2 {E:Ctx}{o:Oper}{t:Nat}{op:BinOp}{T T':TypeId}{x y:Operand}{u v:El P2}{rx ry:Option Nat}(ho:o.op=.binOp op T x y T')(hd:o.dst=some t)(ht:Nat.blt t fr.n=true)(hT:eqPT P T=true)
  (hx:vwr fr.n E x=some (rx,dt false false P2 u))(hy:vwr fr.n E y=some (ry,dt false false P2 v))(hop:op=.eql∨op=.neq) :
  LA P fr E o [⟨t,true,some (.d (.one (.v (.bool (eqP2 op u v)))))⟩]:=
 LA.scal hd ht rfl fun Γ a w Z β γ hle h=>by
  have e1:=vwr_ok h (vwr_le hle hx)
  have e2:=vwr_ok h (vwr_le hle hy)
  have key:∀{z:El P2}{q:Value}{bs:List Nat},RD P w Z (dt false false P2 z) q bs→q=.agg #[.int .i64 z.1,.int .i64 z.2.1]:=by
   intro z q bs hz
   obtain⟨z1,z2,⟨⟩⟩:=z
   simp only[dt,enc,RD,RL,RC,List.append_nil,List.cons_append,List.nil_append] at hz
   obtain⟨vs,rfl,y1,vs1,_,_,rfl,_,⟨rfl,_⟩,y2,vs2,_,_,rfl,_,⟨rfl,_⟩,rfl,_⟩:=hz
   rfl
  exact run_binP ho hT (key e1) (key e2) hop w
def SE.p2:SE→Option (El P2)
 |.v ⟨_,_,.pr (.int .i64) (.pr (.int .i64) .un),x⟩=>some x
 |_=>none
def opP2 (n:Nat) (Γ:SCtx) (x:Operand):Option (El P2):=match opE n Γ x with
 |some (_,e)=>e.p2
 |none=>none
theorem opP2_ok {n:Nat}{Γ:SCtx}{x:Operand}{u:El P2}(h:opP2 n Γ x=some u):∃r,vwr n (sem Γ) x=some (r,dt false false P2 u):=by
 unfold opP2 at h
 split at h
 ·rename_i t e he
  unfold SE.p2 at h
  split at h
  ·rename_i o i z
   cases h
   exact⟨none,SE.rd_ok (q:=⟨none,P2,u⟩) he rfl⟩
  ·cases h
 ·cases h
def isP2:Option Ty→Bool
 |some (.pr (.int .i64) (.pr (.int .i64) .un))=>true
 |_=>false
theorem isP2_ok {m:Option Ty}(h:isP2 m=true):m=some P2:=by
 unfold isP2 at h
 split at h
 ·rfl
 ·cases h
def eqOp:BinOp→Bool
 |.eql=>true
 |.neq=>true
 |_=>false
theorem eqOp_ok {op:BinOp}(h:eqOp op=true):op=.eql∨op=.neq:=by cases op <;> first|exact .inl rfl|exact .inr rfl|cases h
def bin2 (n:Nat) (tt:TypeId→Option Ty) (Γ:SCtx) (op:BinOp) (T:TypeId) (x y:Operand) (t:Nat):Option Dy:=match opP2 n Γ x,opP2 n Γ y with
 |some u,some v=>bif isP2 (tt T)&&eqOp op then some (.pure [⟨t,true,some (.v ⟨false,false,.bool,eqP2 op u v⟩)⟩]) else none
 |_,_=>none
def binD (n:Nat) (tt:TypeId→Option Ty) (Γ:SCtx) (op:BinOp) (T:TypeId) (x y:Operand) (t:Nat):Option Dy:=
 match opSc n Γ x,opSc n Γ y with
 |some a,some b=>match op,a,b with
  |.quo,.int .i64 i,.int .i64 j=>some (.int t (quox i j))
  |.rem,.int .i64 i,.int .i64 j=>some (.int t (remx i j))
  |.add,.str s,.str u=>some ⟨ByteArray,addx s u,fun z=>[⟨t,true,some (.v ⟨false,false,.str,z⟩)⟩]⟩
  |.eql,.bool i,.bool j=>match tt T with
   |some .bool=>some (.pure [⟨t,true,some (.v ⟨false,false,.bool,(i==j)⟩)⟩])
   |_=>none
  |.neq,.bool i,.bool j=>match tt T with
   |some .bool=>some (.pure [⟨t,true,some (.v ⟨false,false,.bool,(i != j)⟩)⟩])
   |_=>none
  |.shr,.int k i,.int _ j=>some (.intK t k (shrV k i j))
  |.shl,.int k i,.int _ j=>some (.intK t k (shlV k i j))
  |.and,.int k i,.int k' j=>match kEq k k' with
   |some _=>some (.pure [⟨t,true,some (.v ⟨false,false,.int k,andV k i j⟩)⟩])
   |none=>none
  |.or,.int k i,.int k' j=>match kEq k k' with
   |some _=>some (.pure [⟨t,true,some (.v ⟨false,false,.int k,orV k i j⟩)⟩])
   |none=>none
  |.xor,.int k i,.int k' j=>match kEq k k' with
   |some _=>some (.pure [⟨t,true,some (.v ⟨false,false,.int k,xorV k i j⟩)⟩])
   |none=>none
  |op,a,b=>match binSc op a b with
   |some c=>some (.pure [⟨t,true,some (.v c.sd)⟩])
   |none=>none
 |_,_=>bin2 n tt Γ op T x y t
def TTok (P:Program) (tt:TypeId→Option Ty):Prop:=∀T u,tt T=some u→TyOk P u T
theorem bin2_ok {tt:TypeId→Option Ty}(htt:TTok P tt){op:BinOp}{T T':TypeId}{x y:Operand}{o:Oper}{t:Nat}{Γ:SCtx}{d:Dy}(ho:o.op=.binOp op T x y T')(hd:o.dst=some t)(ht:Nat.blt t fr.n=true)
  (h:bin2 fr.n tt Γ op T x y t=some d):DyOk P fr Γ o d:=by
 unfold bin2 at h
 split at h
 ·rename_i u v hu hv
  cases hb:isP2 (tt T)&&eqOp op with
  |false=>rw[hb] at h;cases h
  |true=>
   rw[hb] at h
   cases h
   simp only[Bool.and_eq_true] at hb
   obtain⟨rx,hx⟩:=opP2_ok hu
   obtain⟨ry,hy⟩:=opP2_ok hv
   exact DyOk.pure (r_p2 ho hd ht (htt _ _ (isP2_ok hb.1)).eqc hx hy (eqOp_ok hb.2))
 ·cases h
theorem binD_ok {tt:TypeId→Option Ty}(htt:TTok P tt){op:BinOp}{T T':TypeId}{d:Dy}(ho:o.op=.binOp op T x y T')(hd:o.dst=some t)(ht:Nat.blt t fr.n=true)
  (h:binD fr.n tt Γ op T x y t=some d):DyOk P fr Γ o d:=by
 unfold binD at h
 split at h
 ·rename_i a b ha hb
  have ha':=opSc_ok ha
  have hb':=opSc_ok hb
  split at h
  ·cases h;exact fun z hz=>r_quo ho hd ht ha' hb' hz
  ·cases h;exact fun z hz=>r_rem ho hd ht ha' hb' hz
  ·cases h;exact fun z hz=>r_sadd ho hd ht ha' hb' hz
  ·split at h
   ·rename_i hT;cases h;exact DyOk.pure (r_eqb ho hd ht (htt _ _ hT).bool ha' hb')
   ·cases h
  ·split at h
   ·rename_i hT;cases h;exact DyOk.pure (r_neb ho hd ht (htt _ _ hT).bool ha' hb')
   ·cases h
  ·cases h;exact fun z hz=>la_bin (P:=P) ho hd ht ha' hb' (by have hz':shrV _ _ _=some z:=hz;simp only[Sc.val,binV,hz'])
  ·cases h;exact fun z hz=>la_bin (P:=P) ho hd ht ha' hb' (by have hz':shlV _ _ _=some z:=hz;simp only[Sc.val,binV,hz'])
  ·split at h
   ·rename_i hp hk;cases h;exact DyOk.pure (la_bin (P:=P) ho hd ht ha' hb' (by have hk':=hp.down;simp only[Sc.val,binV,hk',if_true]))
   ·cases h
  ·split at h
   ·rename_i hp hk;cases h;exact DyOk.pure (la_bin (P:=P) ho hd ht ha' hb' (by have hk':=hp.down;simp only[Sc.val,binV,hk',if_true]))
   ·cases h
  ·split at h
   ·rename_i hp hk;cases h;exact DyOk.pure (la_bin (P:=P) ho hd ht ha' hb' (by have hk':=hp.down;simp only[Sc.val,binV,hk',if_true]))
   ·cases h
  ·split at h
   ·rename_i c hc
    cases h
    refine DyOk.pure ?_
    have:=la_bin (P:=P) ho hd ht ha' hb' (binSc_ok hc)
    cases c <;> exact this
   ·cases h
 ·exact bin2_ok htt ho hd ht h
def unD (n:Nat) (Γ:SCtx) (op:UnOp) (x:Operand) (t:Nat):Option (List SUp):=match op,opSc n Γ x with
 |.not,some (.bool b)=>some [⟨t,true,some (.v ⟨false,false,.bool,!b⟩)⟩]
 |.neg,some (.int .i64 i)=>some [⟨t,true,some (.v ⟨false,false,.int .i64,IntKind.i64.wrap (0-i)⟩)⟩]
 |_,_=>none
theorem unD_ok {op:UnOp}{T:TypeId}{δ:List SUp}(ho:o.op=.unOp op T x)(hd:o.dst=some t)(ht:Nat.blt t fr.n=true)(h:unD fr.n Γ op x t=some δ):LA P fr (sem Γ) o (semU δ):=by
 unfold unD at h
 split at h
 ·rename_i hx;cases h;exact la_not ho hd ht (opSc_ok hx)
 ·rename_i hx;cases h;exact la_neg ho hd ht (opSc_ok hx)
 ·cases h
def pickD (n:Nat) (Γ:SCtx) (c x y:Operand) (t:Nat):Option (List SUp):=match opSc n Γ c with
 |some (.bool true)=>match opSc n Γ x with
  |some s=>some [⟨t,true,some (.v s.sd)⟩]
  |none=>none
 |some (.bool false)=>match opSc n Γ y with
  |some s=>some [⟨t,true,some (.v s.sd)⟩]
  |none=>none
 |_=>none
theorem pickD_ok {c:Operand}{δ:List SUp}(ho:o.op=.pick c x y)(hd:o.dst=some t)(ht:Nat.blt t fr.n=true)(h:pickD fr.n Γ c x y t=some δ):LA P fr (sem Γ) o (semU δ):=by
 unfold pickD at h
 split at h
 ·rename_i hc
  split at h
  ·rename_i s hs
   cases h
   have:=r_pick (P:=P) (b:=true) ho hd ht (opSc_ok hc) (opSc_ok hs)
   cases s <;> exact this
  ·cases h
 ·rename_i hc
  split at h
  ·rename_i s hs
   cases h
   have:=r_pick (P:=P) (b:=false) ho hd ht (opSc_ok hc) (opSc_ok hs)
   cases s <;> exact this
  ·cases h
 ·cases h
def s2x (s:ByteArray):Option (List Int):=bif Nat.ble s.size 1073741824 then some (bytesOf s) else none
theorem s2x_ok {s:ByteArray}{z:List Int}(h:s2x s=some z):s.size≤1073741824∧z=bytesOf s:=by
 unfold s2x at h
 cases hb:Nat.ble s.size 1073741824 with
 |false=>rw[hb] at h;cases h
 |true=>rw[hb] at h;cases h;exact⟨Nat.le_of_ble_eq_true hb,rfl⟩
def convD (n:Nat) (tt:TypeId→Option Ty) (Γ:SCtx) (T T':TypeId) (x:Operand) (t:Nat):Option Dy:=match tt T,tt T' with
 |some (.int k1),some (.int k2)=>match opSc n Γ x with
  |some (.int k i)=>match kEq k k1 with
   |some _=>some (.pure [⟨t,true,some (.v ⟨false,false,.int k2,k2.wrap i⟩)⟩])
   |none=>none
  |_=>none
 |some (.sl E (.int .u8)),some .str=>match opSl n Γ x with
  |some ⟨_,_,E',.int .u8,xs⟩=>match nEq E E' with
   |some _=>some (.pure [⟨t,true,some (.v ⟨false,false,.str,bsOf xs⟩)⟩])
   |none=>none
  |_=>none
 |some .str,some (.sl E (.int .u8))=>match opSc n Γ x with
  |some (.str s)=>some ⟨List Int,s2x s,fun z=>[⟨t,true,some (.v ⟨false,false,.sl E (.int .u8),z⟩)⟩]⟩
  |_=>none
 |some (.sl _ _),some (.sl E (.int .u8))=>match opE n Γ x with
  |some (s,.v ⟨true,i,.sl E' (.int .u8),xs⟩)=>match nEq T T',nEq E' E with
   |some _,some _=>bif Nat.beq s t then none else some ⟨List Int,bif xs.isEmpty then none else some xs,fun z=>[⟨t,true,some (.v ⟨false,false,.sl E' (.int .u8),z⟩)⟩,srm s]⟩
   |_,_=>none
  |_=>none
 |_,_=>none
theorem convD_ok {tt:TypeId→Option Ty}(htt:TTok P tt){T T':TypeId}{d:Dy}(ho:o.op=.convert T T' x)(hd:o.dst=some t)(ht:Nat.blt t fr.n=true)
  (h:convD fr.n tt Γ T T' x t=some d):DyOk P fr Γ o d:=by
 unfold convD at h
 split at h
 ·rename_i k1 k2 h1 h2
  split at h
  ·rename_i k i hx
   split at h
   ·rename_i hk
    cases h
    obtain⟨rfl⟩:PLift (k=k1):=by rename_i p;exact p
    exact DyOk.pure (r_conv ho hd ht (htt _ _ h1).int (htt _ _ h2).int (opSc_ok hx))
   ·cases h
  ·cases h
 ·rename_i E h1 h2
  split at h
  ·rename_i r i E' xs hx
   split at h
   ·cases h
    exact DyOk.pure (r_b2s ho hd ht (htt _ _ h1).sl (htt _ _ h2).str (htt _ _ h1).ety.int (f:=enc i i (.int .u8)) (fun _=>rfl) (opSl_ok hx))
   ·cases h
  ·cases h
 ·rename_i E h1 h2
  split at h
  ·rename_i s hx
   cases h
   intro z hz
   obtain⟨hb,rfl⟩:=s2x_ok hz
   exact la_s2b ho hd ht (htt _ _ h1).str (htt _ _ h2).sl (htt _ _ h2).ety.int (htt _ _ h2).esz (f:=enc false false (.int .u8)) (fun _=>rfl) (opSc_ok hx) hb
  ·cases h
 ·rename_i E0 u0 E h1 h2
  split at h
  ·rename_i s i E' xs hx
   split at h
   ·rename_i e1 e2 _ _
    cases hb:Nat.beq s t with
    |true=>rw[hb] at h;cases h
    |false=>
     rw[hb] at h
     cases h
     intro z hz
     obtain⟨rfl,hs,hE⟩:=opE_ok hx
     cases xs with
     |nil=>cases hz
     |cons y ys=>
      cases hz
      have:=la_same (P:=P) (fr:=fr) (E:=sem Γ) (f:=enc i i (.int .u8)) (xs:=y::ys) (by rw[ho,e1.down]) hd ht hs hb (htt _ _ h2).sl (htt _ _ h2).ety.int (htt _ _ h2).esz (fun _=>rfl) (by rw[hE,e2.down];rfl) (by simp)
      rw[e2.down]
      exact this
   ·cases h
  ·cases h
 ·cases h
def lenD (n:Nat) (tt:TypeId→Option Ty) (Γ:SCtx) (T:TypeId) (x:Operand) (t:Nat):Option (List SUp):=match tt T with
 |some .str=>match opSc n Γ x with
  |some (.str s)=>some [⟨t,true,some (.v ⟨false,false,.int .i64,(s.size:Int)⟩)⟩]
  |_=>none
 |some (.sl _ _)=>match opRd n Γ x with
  |some ⟨_,.sl _ _,xs⟩=>some [⟨t,true,some (.v ⟨false,false,.int .i64,(xs.length:Int)⟩)⟩]
  |_=>match opSl n Γ x with
   |some q=>some [⟨t,true,some (.v ⟨false,false,.int .i64,(q.x.length:Int)⟩)⟩]
   |none=>none
 |_=>none
theorem lenD_ok {tt:TypeId→Option Ty}(htt:TTok P tt){T:TypeId}{δ:List SUp}(ho:o.op=.call {callee:=.builtin .len,args:=#[x],argTypes:=#[T]})(hd:o.dst=some t)(ht:Nat.blt t fr.n=true)
  (h:lenD fr.n tt Γ T x t=some δ):LA P fr (sem Γ) o (semU δ):=by
 unfold lenD at h
 split at h
 ·rename_i hT
  split at h
  ·rename_i s hx;cases h;exact la_lens ho hd ht (htt _ _ hT).str (opSc_ok hx)
  ·cases h
 ·rename_i hT
  split at h
  ·rename_i r E u xs hx
   cases h
   exact la_len ho hd ht (htt _ _ hT).sl (opRd_ok hx)
  ·split at h
   ·rename_i q hq
    cases h
    exact r_leno ho hd ht (htt _ _ hT).sl (opSl_ok hq)
   ·cases h
 ·cases h
def indexD (n:Nat) (tt:TypeId→Option Ty) (Γ:SCtx) (T:TypeId) (x y:Operand) (t:Nat):Option Dy:=match tt T,opSc n Γ x,opSc n Γ y with
 |some .str,some (.str s),some (.int .i64 i)=>some ⟨Int,bix s i,fun z=>[⟨t,true,some (.v ⟨false,false,.int .u8,z⟩)⟩]⟩
 |_,_,_=>none
theorem indexD_ok {tt:TypeId→Option Ty}(htt:TTok P tt){T:TypeId}{d:Dy}(ho:o.op=.index T x y)(hd:o.dst=some t)(ht:Nat.blt t fr.n=true)
  (h:indexD fr.n tt Γ T x y t=some d):DyOk P fr Γ o d:=by
 unfold indexD at h
 split at h
 ·rename_i s i hT hx hy
  cases h
  exact fun z hz=>r_index ho hd ht (htt _ _ hT).str (opSc_ok hx) (opSc_ok hy) hz
 ·cases h
end
end Go.Proofs.YtkbcahfajbdgnaaGreatDoorT
namespace Go.Proofs.YtkbcahfajbdgnaaGreatDoorT
open Go
variable {P:Program}{fr:Fr}
def flatE (o i:Bool):(t:Ty)→El t→List SD
 |.int k,x=>[⟨o,i,.int k,x⟩]
 |.bool,x=>[⟨o,i,.bool,x⟩]
 |.str,x=>[⟨o,i,.str,x⟩]
 |.sl E t,x=>[⟨o,i,.sl E t,x⟩]
 |.un,_=>[]
 |.pr a b,x=>flatE o i a x.1++flatE o i b x.2
theorem flatE_ok (o i:Bool):∀(t:Ty) (x:El t),(flatE o i t x).map SD.c=enc o i t x
 |.int _,_=>rfl
 |.bool,_=>rfl
 |.str,_=>rfl
 |.sl _ _,_=>rfl
 |.un,_=>rfl
 |.pr a b,x=>by simp[flatE,enc,flatE_ok o i a,flatE_ok o i b]
def okMd (o i:Bool) (d:SD):Bool:=match d.t with
 |.sl _ t=>(d.o==o)&&(d.i==i||t.flat)
 |.un=>false
 |.pr _ _=>false
 |_=>true
theorem okMd_ok {o i:Bool}{d:SD}(h:okMd o i d=true):d.t.isOne=true∧d.c=c1 o i d.t d.x:=by
 obtain⟨o',i',t,x⟩:=d
 cases t with
 |int k=>exact⟨rfl,rfl⟩
 |bool=>exact⟨rfl,rfl⟩
 |str=>exact⟨rfl,rfl⟩
 |un=>cases h
 |pr a b=>cases h
 |sl E t=>
  simp only[okMd,Bool.and_eq_true,Bool.or_eq_true,beq_iff_eq] at h
  obtain⟨rfl,h⟩:=h
  refine⟨rfl,?_⟩
  rcases h with rfl|h
  ·rfl
  ·simp only[SD.c,c1]
   congr 2
   funext z
   exact enc_flat h z
def take1 (o i:Bool) (t:Ty):List SD→Option (El t×List SD)
 |d::ls=>bif okMd o i d then match castE (a:=d.t) (b:=t) d.x with
   |some x=>some (x,ls)
   |none=>none
  else none
 |[]=>none
theorem take1_ok {o i:Bool}{t:Ty}{ls rest:List SD}{x:El t}(ht:t.isOne=true)(h:take1 o i t ls=some (x,rest)):ls.map SD.c=enc o i t x++rest.map SD.c:=by
 cases ls with
 |nil=>cases h
 |cons d ls=>
  simp only[take1] at h
  cases hm:okMd o i d with
  |false=>rw[hm] at h;cases h
  |true=>
   rw[hm] at h
   simp only[cond_true] at h
   split at h
   ·rename_i y hy
    cases h
    obtain⟨e,he⟩:=castE_ok hy
    obtain⟨h1,h2⟩:=okMd_ok hm
    obtain⟨o',i',t',x'⟩:=d
    simp only at e
    subst e
    simp only at he
    subst he
    rw[List.map_cons,h2,enc_one ht]
    rfl
   ·cases h
def wholeE (o i:Bool):(t:Ty)→List SD→Option (El t×List SD)
 |.pr a b,ls=>match wholeE o i a ls with
  |some (x,ls')=>match wholeE o i b ls' with
   |some (y,ls'')=>some ((x,y),ls'')
   |none=>none
  |none=>none
 |.un,ls=>some ((),ls)
 |.int k,ls=>take1 o i (.int k) ls
 |.bool,ls=>take1 o i .bool ls
 |.str,ls=>take1 o i .str ls
 |.sl E t,ls=>take1 o i (.sl E t) ls
theorem wholeE_ok {o i:Bool}:∀{t:Ty}{ls rest:List SD}{x:El t},wholeE o i t ls=some (x,rest)→ls.map SD.c=enc o i t x++rest.map SD.c
 |.pr a b,ls,rest,x,h=>by
  simp only[wholeE] at h
  split at h
  ·rename_i x1 l1 h1
   split at h
   ·rename_i x2 l2 h2
    cases h
    rw[wholeE_ok h1,wholeE_ok h2]
    simp[enc]
   ·cases h
  ·cases h
 |.un,ls,rest,x,h=>by simp only[wholeE] at h;cases h;simp[enc]
 |.int k,ls,rest,x,h=>take1_ok rfl h
 |.bool,ls,rest,x,h=>take1_ok rfl h
 |.str,ls,rest,x,h=>take1_ok rfl h
 |.sl E t,ls,rest,x,h=>take1_ok rfl h
def wholeA (o i:Bool) (t:Ty) (ls:List SD):Option (El t):=match wholeE o i t ls with
 |some (x,[])=>some x
 |_=>none
theorem wholeA_ok {o i:Bool}{t:Ty}{ls:List SD}{x:El t}(h:wholeA o i t ls=some x):ls.map SD.c=enc o i t x:=by
 unfold wholeA at h
 split at h
 ·rename_i y hy
  cases h
  simpa using wholeE_ok hy
 ·cases h
def leafAt (o i:Bool) (t:Ty) (x:El t) (k:Nat):Option SD:=(flatE o i t x)[k]?
theorem leafAt_ok {o i:Bool}{t:Ty}{x:El t}{k:Nat}{d:SD}(h:leafAt o i t x k=some d):(enc o i t x)[k]?=some d.c:=by
 rw[←flatE_ok,List.getElem?_map]
 unfold leafAt at h
 rw[h];rfl
def dropE:(t:Ty)→El t→Nat→Option (Σ u:Ty,El u)
 |t,x,0=>some ⟨t,x⟩
 |.pr a b,x,k+1=>bif Nat.ble a.size (k+1) then dropE b x.2 (k+1-a.size) else none
 |_,_,_+1=>none
theorem dropE_ok {o i:Bool}:∀{t:Ty}{x:El t}{k:Nat}{u:Ty}{y:El u},dropE t x k=some ⟨u,y⟩→(enc o i t x).drop k=enc o i u y
 |t,x,0,u,y,h=>by
  have h':(some ⟨t,x⟩:Option (Σ u:Ty,El u))=some ⟨u,y⟩:=by cases t <;> exact h
  cases h'
  rfl
 |.pr a b,x,k+1,u,y,h=>by
  simp only[dropE] at h
  cases hb:Nat.ble a.size (k+1) with
  |false=>rw[hb] at h;cases h
  |true=>
   rw[hb] at h
   have hle:=Nat.le_of_ble_eq_true hb
   simp only[cond_true] at h
   have:=dropE_ok (o:=o) (i:=i) h
   simp only[enc]
   rw[List.drop_append,enc_len,this]
   rw[List.drop_eq_nil_of_le (by rw[enc_len];exact hle)]
   rfl
 |.int _,_,_+1,_,_,h=>by cases h
 |.bool,_,_+1,_,_,h=>by cases h
 |.str,_,_+1,_,_,h=>by cases h
 |.sl _ _,_,_+1,_,_,h=>by cases h
 |.un,_,_+1,_,_,h=>by cases h
def headE:(t:Ty)→El t→Option (Σ a:Ty,El a)
 |.pr (.int k) _,x=>some ⟨.int k,x.1⟩
 |.pr .bool _,x=>some ⟨.bool,x.1⟩
 |.pr .str _,x=>some ⟨.str,x.1⟩
 |.pr (.sl E t) _,x=>some ⟨.sl E t,x.1⟩
 |.pr _ _,_=>none
 |.un,_=>none
 |.int k,x=>some ⟨.int k,x⟩
 |.bool,x=>some ⟨.bool,x⟩
 |.str,x=>some ⟨.str,x⟩
 |.sl E t,x=>some ⟨.sl E t,x⟩
theorem headE_ok {t:Ty}{x:El t}{a:Ty}{y:El a}(h:headE t x=some ⟨a,y⟩):a.isOne=true∧∃cs,enc false false t x=c1 false false a y::cs:=by
 unfold headE at h
 split at h <;> first
  |(cases h;exact⟨rfl,_,rfl⟩)
  |cases h
def opQ (n:Nat) (Γ:SCtx) (x:Operand):Option (Nat×Nat):=match opE n Γ x with
 |some (_,.eqn r k)=>some (r,k)
 |_=>none
theorem opQ_ok {n:Nat}{Γ:SCtx}{x:Operand}{r k:Nat}(h:opQ n Γ x=some (r,k)):∃s,x=.tmp s∧Nat.blt s n=true∧sem Γ s=some (.eqn r k):=by
 unfold opQ at h
 split at h
 ·rename_i s r' k' he
  cases h
  obtain⟨h1,h2,h3⟩:=opE_ok he
  exact⟨s,h1,h2,h3⟩
 ·cases h
def qxD (n:Nat) (tt:TypeId→Option Ty) (Γ:SCtx) (T:TypeId) (x y:Operand) (t:Nat):Option Dy:=match opQ n Γ x,opSc n Γ y,tt T with
 |some (r,k),some (.int .i64 i),some (.sl E _)=>bif Nat.beq r t then none else some ⟨Unit,inx k i,fun _=>[⟨t,true,some (.elt r E i 0)⟩]⟩
 |_,_,_=>none
theorem qxD_ok {Γ:SCtx}{o:Oper}{x y:Operand}{t:Nat}{tt:TypeId→Option Ty}(htt:TTok P tt){T:TypeId}{d:Dy}(ho:o.op=.indexAddr T x y)(hd:o.dst=some t)(ht:Nat.blt t fr.n=true)
  (h:qxD fr.n tt Γ T x y t=some d):DyOk P fr Γ o d:=by
 unfold qxD at h
 split at h
 ·rename_i r k i E u hq hy hT
  cases hb:Nat.beq r t with
  |true=>rw[hb] at h;cases h
  |false=>
   rw[hb] at h
   cases h
   intro z hz
   obtain⟨s,rfl,h2,h3⟩:=opQ_ok hq
   exact la_qix ho hd ht (htt _ _ hT).elem h2 h3 (opSc_ok hy) (inx_ok hz).1 (inx_ok hz).2 hb
 ·cases h
def ixD (n:Nat) (tt:TypeId→Option Ty) (mu:Bool) (Γ:SCtx) (T:TypeId) (x y:Operand) (t:Nat):Option Dy:=match opSc n Γ y with
 |some (.int .i64 i)=>match tt T with
  |some (.sl E _)=>bif mu then match opSl n Γ x with
    |some q=>match nEq q.E E with
     |some _=>bif Nat.beq q.r t then none else some ⟨El q.t,ix q.x i,fun _=>[⟨t,true,some (.elt q.r q.E i 0)⟩]⟩
     |none=>none
    |none=>none
   else match opRd n Γ x with
    |some ⟨r,.sl E' u,xs⟩=>match nEq E' E with
     |some _=>bif neR r t then some ⟨El u,ix xs i,fun z=>[⟨t,true,some (.sp r u z)⟩]⟩ else none
     |none=>none
    |_=>none
  |_=>none
 |_=>none
section
variable {Γ:SCtx}{o:Oper}{x y:Operand}{t:Nat}{tt:TypeId→Option Ty}
theorem ixD_ok (htt:TTok P tt){mu:Bool}{T:TypeId}{d:Dy}(ho:o.op=.indexAddr T x y)(hd:o.dst=some t)(ht:Nat.blt t fr.n=true)
  (h:ixD fr.n tt mu Γ T x y t=some d):DyOk P fr Γ o d:=by
 unfold ixD at h
 split at h
 ·rename_i i hy
  split at h
  ·rename_i E u' hT
   cases mu with
   |true=>
    simp only[cond_true] at h
    split at h
    ·rename_i q hq
     split at h
     ·rename_i e _
      cases hb:Nat.beq q.r t with
      |true=>rw[hb] at h;cases h
      |false=>
       rw[hb] at h
       cases h
       intro z hz
       exact r_eixg ho hd ht (by rw[e.down];exact(htt _ _ hT).elem) (opSl_ok hq) (opSc_ok hy) hz hb
     ·cases h
    ·cases h
   |false=>
    simp only[cond_false] at h
    split at h
    ·rename_i r E' u xs hx
     split at h
     ·rename_i e _
      cases hb:neR r t with
      |false=>rw[hb] at h;cases h
      |true=>
       rw[hb] at h
       cases h
       intro z hz
       exact r_ix ho hd ht (by rw[e.down];exact(htt _ _ hT).elem) (opRd_ok hx) (opSc_ok hy) hz hb
     ·cases h
    ·cases h
  ·cases h
 ·cases h
theorem la_ffl {E:Ctx}{T T':TypeId}{f k r k0:Nat}{cs:List C}(ho:o.op=.fieldAddr T x f)(hd:o.dst=some t)(ht:Nat.blt t fr.n=true)
  (hT:fldAt P T f k=true)(hx:flOf fr.n E x=some (r,k0,T',cs))(hr:Nat.beq r t=false):LA P fr E o [⟨t,true,some (.fld r (k0+k))⟩]:=by
 refine LA.val hd ht fun Γ a w Z β γ hle h=>?_
 obtain⟨_,b,vs,bs,h1,h2,_⟩:=flOf_ok h (flOf_le hle hx)
 refine⟨.pointer (some ⟨b,k0+k,none⟩),?_,fun β' ev' hb hb' hv' hv''=>?_⟩
 ·unfold execOp
  rw[ho]
  have:(⟨b,k0,none⟩:Addr).add k=⟨b,k0+k,none⟩:=by
   unfold Addr.add
   split
   ·simp_all
   ·simp
  simp[h1,run_fldAt hT,this]
 ·simp only[EntOk]
  exact⟨b,by rw[hv'' r (by rintro rfl;simp at hr)];exact h2,hv'⟩
def offAt (tt:TypeId→Option Ty) (T:TypeId) (f:Nat):Option Nat:=match tt T with
 |some (.pr a b)=>match (offsOf (.pr a b) 0)[f]? with
  |some (k,_)=>some k
  |none=>none
 |_=>none
theorem offAt_ok (htt:TTok P tt){T:TypeId}{f k:Nat}(h:offAt tt T f=some k):fldAt P T f k=true:=by
 unfold offAt at h
 split at h
 ·rename_i a b hT
  split at h
  ·rename_i k' s hk
   cases h
   exact(htt _ _ hT).fld hk
  ·cases h
 ·cases h
def opHl (n:Nat) (Γ:SCtx) (x:Operand):Option (Nat×Nat):=match opE n Γ x with
 |some (t,.hbox _ _ _)=>some (t,0)
 |some (_,.eq r)=>match lk Γ r with
  |some (.hbox _ _ _)=>some (r,0)
  |_=>none
 |some (_,.fld r k)=>match lk Γ r with
  |some (.hbox _ _ _)=>some (r,k)
  |_=>none
 |_=>none
theorem opHl_ok {n:Nat}{a:Act}{w:World}{Z:Nat→Prop}{β:Nat→List Nat}{γ:Nat→Value}{Γ':Ctx}(hn:fr.n=n)(hle:E_le (sem Γ) Γ')(h:Core P fr Γ' a w Z β γ){r k:Nat}(hx:opHl n Γ x=some (r,k)) :
  ∃b,a.eval x=.pointer (some ⟨b,k,none⟩)∧ev fr.n a γ r=.pointer (some ⟨b,0,none⟩):=by
 subst hn
 have key:∀r T ls kk,lk Γ r=some (.hbox T ls kk)→∃b,ev fr.n a γ r=.pointer (some ⟨b,0,none⟩):=by
  intro r T ls kk hl
  have:=h.ent r _ (hle r _ (sem_lk hl))
  simp only[SE.toEnt,EntOk] at this
  obtain⟨y,b,vs,bs,h1,_⟩:=this
  exact⟨b,h1⟩
 unfold opHl at hx
 split at hx
 ·rename_i s T ls kk he
  cases hx
  obtain⟨rfl,ht,_,hl,_⟩:=opE_ok' he
  obtain⟨b,hb⟩:=key _ _ _ _ hl
  exact⟨b,by rw[eval_ev (γ:=γ) ht];exact hb,hb⟩
 ·rename_i s q he
  split at hx
  ·rename_i T ls kk hl
   cases hx
   obtain⟨rfl,ht,hs⟩:=opE_ok he
   obtain⟨b,hb⟩:=key _ _ _ _ hl
   have:=h.ent s _ (hle s _ hs)
   simp only[SE.toEnt,EntOk] at this
   exact⟨b,by rw[eval_ev (γ:=γ) ht,this];exact hb,hb⟩
  ·cases hx
 ·rename_i s q k' he
  split at hx
  ·rename_i T ls kk hl
   cases hx
   obtain⟨rfl,ht,hs⟩:=opE_ok he
   obtain⟨b,hb⟩:=key _ _ _ _ hl
   have:=h.ent s _ (hle s _ hs)
   simp only[SE.toEnt,EntOk] at this
   obtain⟨b',h1,h2⟩:=this
   rw[hb] at h1
   cases h1
   exact⟨b,by rw[eval_ev (γ:=γ) ht,h2],hb⟩
  ·cases hx
 ·cases hx
theorem la_fhl {T:TypeId}{f k r k0:Nat}(ho:o.op=.fieldAddr T x f)(hd:o.dst=some t)(ht:Nat.blt t fr.n=true)
  (hT:fldAt P T f k=true)(hx:opHl fr.n Γ x=some (r,k0))(hr:Nat.beq r t=false):LA P fr (sem Γ) o [⟨t,true,some (.fld r (k0+k))⟩]:=by
 refine LA.val hd ht fun Γ' a w Z β γ hle h=>?_
 obtain⟨b,h1,h2⟩:=opHl_ok rfl hle h hx
 refine⟨.pointer (some ⟨b,k0+k,none⟩),?_,fun β' ev' hb hb' hv' hv''=>?_⟩
 ·unfold execOp
  rw[ho]
  have:(⟨b,k0,none⟩:Addr).add k=⟨b,k0+k,none⟩:=by
   unfold Addr.add
   split
   ·simp_all
   ·simp
  simp[h1,run_fldAt hT,this]
 ·simp only[EntOk]
  exact⟨b,by rw[hv'' r (by rintro rfl;simp at hr)];exact h2,hv'⟩
def fldD (n:Nat) (tt:TypeId→Option Ty) (Γ:SCtx) (T:TypeId) (x:Operand) (f t:Nat):Option (List SUp):=match offAt tt T f with
 |some k=>match opSp n Γ x with
  |some ⟨r,u,z⟩=>match dropE u z k with
   |some ⟨u',z'⟩=>bif neR r t then some [⟨t,true,some (.sp r u' z')⟩] else none
   |none=>none
  |none=>match opFl n Γ x with
   |some (q,k0)=>bif Nat.beq q.r t then none else some [⟨t,true,some (.fld q.r (k0+k))⟩]
   |none=>match opEl n Γ x with
    |some (q,i,k0)=>bif Nat.beq q.r t then none else some [⟨t,true,some (.elt q.r q.E i (k0+k))⟩]
    |none=>match opHl n Γ x with
     |some (r,k0)=>bif Nat.beq r t then none else some [⟨t,true,some (.fld r (k0+k))⟩]
     |none=>none
 |none=>none
theorem fldD_ok (htt:TTok P tt){T:TypeId}{f:Nat}{δ:List SUp}(ho:o.op=.fieldAddr T x f)(hd:o.dst=some t)(ht:Nat.blt t fr.n=true)
  (h:fldD fr.n tt Γ T x f t=some δ):LA P fr (sem Γ) o (semU δ):=by
 unfold fldD at h
 split at h
 ·rename_i k hk
  have hT:=offAt_ok htt hk
  split at h
  ·rename_i r u z hx
   split at h
   ·rename_i u' z' hz
    cases hb:neR r t with
    |false=>rw[hb] at h;cases h
    |true=>
     rw[hb] at h
     cases h
     have:=r_fsp (P:=P) ho hd ht hT (opSp_ok hx) hb
     rw[dropE_ok hz] at this
     exact this
   ·cases h
  ·split at h
   ·rename_i q k0 hx
    cases hb:Nat.beq q.r t with
    |true=>rw[hb] at h;cases h
    |false=>
     rw[hb] at h
     cases h
     exact la_ffl ho hd ht hT (opFl_ok hx) hb
   ·split at h
    ·rename_i q i k0 hx
     cases hb:Nat.beq q.r t with
     |true=>rw[hb] at h;cases h
     |false=>
      rw[hb] at h
      cases h
      exact la_felt ho hd ht hT (opEl_ok hx) hb
    ·split at h
     ·rename_i r k0 hx
      cases hb:Nat.beq r t with
      |true=>rw[hb] at h;cases h
      |false=>
       rw[hb] at h
       cases h
       exact la_fhl ho hd ht hT hx hb
     ·cases h
 ·cases h
end
end Go.Proofs.YtkbcahfajbdgnaaGreatDoorT
namespace Go.Proofs.YtkbcahfajbdgnaaGreatDoorT
open Go
variable {P:Program}{fr:Fr}
def share1 (t:Ty):List SD→Option (El t×List SD)
 |d::ls=>match castE (a:=d.t) (b:=t) d.x with
  |some x=>some (x,ls)
  |none=>none
 |[]=>none
def wholeS:(t:Ty)→List SD→Option (El t×List SD)
 |.pr a b,ls=>match wholeS a ls with
  |some (x,ls')=>match wholeS b ls' with
   |some (y,ls'')=>some ((x,y),ls'')
   |none=>none
  |none=>none
 |.un,ls=>some ((),ls)
 |.int k,ls=>share1 (.int k) ls
 |.bool,ls=>share1 .bool ls
 |.str,ls=>share1 .str ls
 |.sl E t,ls=>share1 (.sl E t) ls
theorem share1_ok {t:Ty}{ls rest:List SD}{x:El t}(ht:t.isOne=true)(h:share1 t ls=some (x,rest)):(ls.map SD.c).map shC=enc false false t x++(rest.map SD.c).map shC:=by
 cases ls with
 |nil=>cases h
 |cons d ls=>
  simp only[share1] at h
  split at h
  ·rename_i y hy
   cases h
   obtain⟨e,he⟩:=castE_ok hy
   obtain⟨o',i',t',x'⟩:=d
   simp only at e
   subst e
   simp only at he
   subst he
   rw[enc_one ht]
   simp only[List.map_cons,List.cons_append,List.nil_append]
   rw[SD.c,shC_c1 ht]
  ·cases h
theorem wholeS_ok:∀{t:Ty}{ls rest:List SD}{x:El t},wholeS t ls=some (x,rest)→(ls.map SD.c).map shC=enc false false t x++(rest.map SD.c).map shC
 |.pr a b,ls,rest,x,h=>by
  simp only[wholeS] at h
  split at h
  ·rename_i x1 l1 h1
   split at h
   ·rename_i x2 l2 h2
    cases h
    rw[wholeS_ok h1,wholeS_ok h2]
    simp[enc]
   ·cases h
  ·cases h
 |.un,ls,rest,x,h=>by simp only[wholeS] at h;cases h;simp[enc]
 |.int k,ls,rest,x,h=>share1_ok rfl h
 |.bool,ls,rest,x,h=>share1_ok rfl h
 |.str,ls,rest,x,h=>share1_ok rfl h
 |.sl E t,ls,rest,x,h=>share1_ok rfl h
def wholeSA (t:Ty) (ls:List SD):Option (El t):=match wholeS t ls with
 |some (x,[])=>some x
 |_=>none
theorem wholeSA_ok {t:Ty}{ls:List SD}{x:El t}(h:wholeSA t ls=some x):(ls.map SD.c).map shC=enc false false t x:=by
 unfold wholeSA at h
 split at h
 ·rename_i y hy
  cases h
  simpa using wholeS_ok hy
 ·cases h
theorem SD.dt_one {d:SD}(h:d.t.isOne=true):d.dt=.one d.c:=YtkbcahfajbdgnaaGreatDoorT.dt_one h d.x
def ldOne (n:Nat) (m:Nat) (Γ:SCtx) (x:Operand) (t:Nat):Option Dy:=match opSp n Γ x with
 |some ⟨r,u,z⟩=>match headE u z with
  |some ⟨a,y⟩=>bif neR r t then some (.pure [⟨t,true,some (rdE r a y)⟩]) else none
  |none=>none
 |none=>match opFl n Γ x with
  |some (q,k)=>match q.ls[k]? with
   |some d=>bif d.t.isOne then
     bif plainC d.c then some (.pure [⟨t,true,some (.v d)⟩])
     else bif Nat.beq q.r t then none
     else bif Nat.beq m 1 then some (.pure [⟨t,true,some (.v d)⟩,⟨q.r,false,some (.hbox q.T q.ls k)⟩])
     else some (.pure [⟨t,true,some (.b q.r d.t d.x)⟩])
    else none
   |none=>none
  |none=>match opEl n Γ x with
   |some (q,i,k)=>bif Nat.blt k q.t.size&&!(Nat.beq q.r t) then
     bif Nat.beq m 2 then some ⟨El q.t,ix q.x i,fun _=>[⟨t,true,some (.inn q.r q.E i k)⟩]⟩
     else some ⟨El q.t,ix q.x i,fun z=>match leafAt q.i q.i q.t z k with
      |some d=>bif plainC d.c then[⟨t,true,some (.v d)⟩] else[⟨t,true,some (.b q.r d.t d.x)⟩]
      |none=>[]⟩
    else none
   |none=>none
theorem flatE_one (o i:Bool):∀(t:Ty) (x:El t),∀d∈flatE o i t x,d.t.isOne=true
 |.int _,_,d,h=>by simp[flatE] at h;subst h;rfl
 |.bool,_,d,h=>by simp[flatE] at h;subst h;rfl
 |.str,_,d,h=>by simp[flatE] at h;subst h;rfl
 |.sl _ _,_,d,h=>by simp[flatE] at h;subst h;rfl
 |.un,_,d,h=>by simp[flatE] at h
 |.pr a b,x,d,h=>by
  simp only[flatE,List.mem_append] at h
  rcases h with h|h
  ·exact flatE_one o i a _ d h
  ·exact flatE_one o i b _ d h
theorem flatE_len (o i:Bool) (t:Ty) (x:El t):(flatE o i t x).length=t.size:=by
 have:=congrArg List.length (flatE_ok o i t x)
 rw[List.length_map,enc_len] at this
 exact this
section
variable {Γ:SCtx}{o:Oper}{x y:Operand}{t:Nat}{tt:TypeId→Option Ty}
theorem la_ldinn {E:Ctx}{T Et:TypeId}{r i k:Nat}{c:C}{α:Type}{f:α→List C}{xs:List α}{z:α}(ho:o.op=.load T x)(hd:o.dst=some t)(ht:Nat.blt t fr.n=true)
  (hT:flatT P T=true)(hx:elOf fr.n E x=some (r,Et,i,k,xs.map f))(hz:xs[i]?=some z)(hc:(f z)[k]?=some c)(hr:Nat.beq r t=false):LA P fr E o [⟨t,true,some (.inn r Et i k)⟩]:=by
 refine LA.val hd ht fun Γ a w Z β γ hle h=>?_
 obtain⟨_,g,n,cap,h1,h2,h3⟩:=elOf_ok h (elOf_le hle hx)
 obtain⟨u,bu,hu,hrc,hbu⟩:=own_cell h3 h1 (i:=i) (e:=f z) (by simp[hz]) hc
 have hg:g∈β r:=by
  obtain⟨g',cap',cur,v1,v,v2,b1,b,b2,op⟩:=own_get h3 (i:=i) (e:=f z) (by simp[hz])
  have:g'=g:=by have:=op.hy;rw[h1] at this;simp at this;exact this.1.symm
  rw[op.hbs,this];simp
 refine⟨u,?_,fun β' ev' hb hb' hv' hv''=>?_⟩
 ·unfold execOp
  rw[ho]
  simp[h2,run_load_flat hT hu]
 ·have hrt:r≠t:=by rintro rfl;simp at hr
  simp only[EntOk]
  rw[hv',hb' r hrt,hv'' r hrt]
  exact⟨g,n,cap,h1,hg,hu⟩
theorem ldOne_ok {m:Nat}{T:TypeId}{d:Dy}(hT:flatT P T=true)(ho:o.op=.load T x)(hd:o.dst=some t)(ht:Nat.blt t fr.n=true)(h:ldOne fr.n m Γ x t=some d):DyOk P fr Γ o d:=by
 unfold ldOne at h
 split at h
 ·rename_i r u z hx
  split at h
  ·rename_i a y hy
   obtain⟨ha,cs,hcs⟩:=headE_ok hy
   cases hb:neR r t with
   |false=>rw[hb] at h;cases h
   |true=>
    rw[hb] at h
    cases h
    have hsp:=opSp_ok hx
    simp only at hsp
    rw[hcs] at hsp
    have:=r_ld (P:=P) ho hd ht hT hsp hb
    refine DyOk.pure ?_
    rw[←dt_one ha,←rdE_ok] at this
    exact this
  ·cases h
 ·split at h
  ·rename_i q k hx
   have hfl:=opFl_ok hx
   split at h
   ·rename_i d' hk
    have hk':(q.ls.map SD.c)[k]?=some d'.c:=by rw[List.getElem?_map,hk];rfl
    cases h1:d'.t.isOne with
    |false=>rw[h1] at h;cases h
    |true=>
     rw[h1] at h
     simp only[cond_true] at h
     cases hp:plainC d'.c with
     |true=>
      rw[hp] at h
      cases h
      refine DyOk.pure ?_
      have:=la_ldf (P:=P) ho hd ht hT hfl hk' hp
      rw[←SD.dt_one h1] at this
      exact this
     |false=>
      rw[hp] at h
      simp only[cond_false] at h
      cases hb:Nat.beq q.r t with
      |true=>rw[hb] at h;cases h
      |false=>
       rw[hb] at h
       simp only[cond_false] at h
       cases hm:Nat.beq m 1 with
       |true=>
        rw[hm] at h
        cases h
        refine DyOk.pure ?_
        have:=la_ldh (P:=P) ho hd ht hT hfl hk' hb
        rw[←SD.dt_one h1] at this
        exact this
       |false=>
        rw[hm] at h
        cases h
        refine DyOk.pure ?_
        have:=la_ldfb (P:=P) ho hd ht hT hfl hk' (shC_c1 h1 _) hb
        rw[←dt_one h1] at this
        exact this
   ·cases h
  ·split at h
   ·rename_i q i k hx
    have hel:=opEl_ok hx
    cases hb:Nat.blt k q.t.size&&!(Nat.beq q.r t) with
    |false=>rw[hb] at h;cases h
    |true=>
     rw[hb] at h
     simp only[cond_true] at h
     simp only[Bool.and_eq_true,Bool.not_eq_true'] at hb
     have hks:k<q.t.size:=by simpa[Nat.blt_eq] using hb.1
     cases hm:Nat.beq m 2 with
     |true=>
      rw[hm] at h
      cases h
      intro z hz
      obtain⟨_,hz'⟩:=ix_ok hz
      have hlt:k<(enc q.i q.i q.t z).length:=by rw[enc_len];exact hks
      exact la_ldinn ho hd ht hT hel hz' (List.getElem?_eq_getElem hlt) hb.2
     |false=>
      rw[hm] at h
      cases h
      intro z hz
      obtain⟨_,hz'⟩:=ix_ok hz
      cases hl:leafAt q.i q.i q.t z k with
      |none=>
       exfalso
       unfold leafAt at hl
       have:k<(flatE q.i q.i q.t z).length:=by rw[flatE_len];exact hks
       rw[List.getElem?_eq_getElem this] at hl
       cases hl
      |some d'=>
       have h1:d'.t.isOne=true:=flatE_one _ _ _ _ _ (List.mem_of_getElem? hl)
       have hc:=leafAt_ok hl
       simp only[hl]
       cases hp:plainC d'.c with
       |true=>
        have:=la_lde (P:=P) ho hd ht hT hel hz' hc hp
        rw[←SD.dt_one h1] at this
        exact this
       |false=>
        have:=la_ldeb (P:=P) ho hd ht hT hel hz' hc (shC_c1 h1 _) hb.2
        rw[←dt_one h1] at this
        exact this
   ·cases h
def esz (tt:TypeId→Option Ty) (E:TypeId) (t:Ty):Bool:=match tt E with
 |some u=>Nat.beq u.size t.size
 |none=>false
theorem esz_ok (htt:TTok P tt){E:TypeId}{t:Ty}(h:esz tt E t=true):szOf P E=t.size:=by
 unfold esz at h
 split at h
 ·rename_i u hu
  rw[(htt _ _ hu).size.1]
  exact Nat.eq_of_beq_eq_true h
 ·cases h
theorem enc_isV' {o i:Bool}:∀{u:Ty}(_:u.flat=true) (x:El u),(enc o i u x).all isV=true
 |.int _,_,_=>rfl
 |.bool,_,_=>rfl
 |.str,_,_=>rfl
 |.sl _ _,h,_=>by cases h
 |.un,_,_=>rfl
 |.pr a b,h,x=>by
  simp only[Ty.flat,Bool.and_eq_true] at h
  simp only[enc,List.all_append,enc_isV' h.1,enc_isV' h.2,Bool.and_self]
theorem la_ldep {E:Ctx}{T Et:TypeId}{r i:Nat}{α:Type}{f:α→List C}{xs:List α}{z:α}(ho:o.op=.load T x)(hd:o.dst=some t)(ht:Nat.blt t fr.n=true)
  (hT:rowT P T=true)(hTE:szOf P T=szOf P Et)(hx:elOf fr.n E x=some (r,Et,i,0,xs.map f))(hz:xs[i]?=some z)(hp:(f z).all plainC=true)(hr:Nat.beq r t=false):LA P fr E o [⟨t,true,some (.d (.agg (f z)))⟩]:=by
 refine LA.val hd ht fun Γ a w Z β γ hle h=>?_
 obtain⟨_,g,n,cap,h1,h2,h3⟩:=elOf_ok h (elOf_le hle hx)
 have he:(xs.map f)[i]?=some (f z):=by simp[hz]
 have hne:xs.map f≠[]:=by intro h;rw[h] at he;simp at he
 obtain⟨g',cap',cur,bs',hbs',hy',_,_,hg,hcs,hk,hrl⟩:=RC.own h3 hne
 have hgg:g'=g:=by rw[hy'] at h1;simp at h1;exact h1.1
 subst hgg
 obtain⟨v1,v,v2,b1,b,b2,hvs,hbs,hl1,hl,_,hre,_⟩:=RLL.get hk hrl he
 refine⟨.agg v.toArray,?_,fun β' ev' hb hb' hv' hv''=>?_⟩
 ·unfold execOp
  rw[ho]
  have:=run_load_row (P:=P) hT (ad:=⟨g',i*szOf P Et+0,none⟩) (w:=w) (vs:=v) (by rw[hl,hTE]) (fun j x hj=>by
   have hidx:(cur.toList.take ((xs.map f).length*szOf P Et))[i*szOf P Et+j]?=some x:=by
    rw[hvs,←hl1]
    exact get_mid hj
   rw[List.getElem?_take] at hidx
   split at hidx
   ·have h5:=cell_row hg (i*szOf P Et+j)
    rw[add_at] at h5
    have h6:(⟨g',i*szOf P Et+0,none⟩:Addr).add j=⟨g',i*szOf P Et+j,none⟩:=by unfold Addr.add;split <;> simp_all
    rw[h6,h5]
    simpa using hidx
   ·cases hidx)
  simp only[Nat.add_zero] at h2 this
  simp[h2,this]
 ·simp only[EntOk,RD]
  have:=plainL_nil _ hp hre
  subst this
  rw[hb,hv']
  exact⟨v,by simp,hre⟩
def holeK:List SD→Nat→Option Nat
 |[],_=>none
 |d::ds,i=>bif plainC d.c then holeK ds (i+1) else some i
def ldRow (n:Nat) (tt:TypeId→Option Ty) (m:Nat) (Γ:SCtx) (ty:Ty) (x:Operand) (t:Nat):Option Dy:=match opSp n Γ x with
 |some ⟨r,u,z⟩=>bif !u.isOne&&Nat.beq u.size ty.size&&neR r t then some (.pure [⟨t,true,some (bif u.flat then .v ⟨false,false,u,z⟩ else rdE r u z)⟩]) else none
 |none=>match opFl n Γ x with
  |some (q,k)=>bif Nat.beq m 2 then
    match opBx n Γ x with
    |some q=>match wholeA true true ty q.ls,holeK q.ls 0 with
     |some z,some k=>match q.ls[k]? with
      |some _=>bif Nat.beq ty.size q.ls.length&&(q.ls.take k).all (fun d=>plainC d.c)&&(q.ls.drop (k+1)).all (fun d=>plainC d.c)&&!(Nat.beq q.r t) then
        some (.pure [⟨t,true,some (.v ⟨true,true,ty,z⟩)⟩,⟨q.r,false,some (.hbox q.T q.ls k)⟩]) else none
      |none=>none
     |_,_=>none
    |none=>none
   else bif Nat.beq m 1 then
    match opBx n Γ x with
    |some q=>match wholeA true true ty q.ls with
     |some z=>bif Nat.beq ty.size q.ls.length then some (.pure (⟨t,true,some (.v ⟨true,true,ty,z⟩)⟩::[q.r].map srm)) else none
     |none=>match wholeA true false ty q.ls with
      |some z=>bif Nat.beq ty.size q.ls.length then some (.pure (⟨t,true,some (.v ⟨true,false,ty,z⟩)⟩::[q.r].map srm)) else none
      |none=>none
    |none=>none
   else bif Nat.ble (k+ty.size) q.ls.length&&!(Nat.beq q.r t) then
    match wholeA false false ty ((q.ls.drop k).take ty.size) with
    |some z=>some (.pure [⟨t,true,some (.v ⟨false,false,ty,z⟩)⟩])
    |none=>match wholeSA ty ((q.ls.drop k).take ty.size) with
     |some z=>some (.pure [⟨t,true,some (.b q.r ty z)⟩])
     |none=>none
   else none
  |none=>match opEl n Γ x with
   |some (q,i,k)=>bif Nat.beq k 0&&!q.t.isOne&&Nat.beq q.t.size ty.size&&!(Nat.beq q.r t)&&esz tt q.E q.t then some ⟨El q.t,ix q.x i,fun z=>[⟨t,true,some (bif q.t.flat||!q.i then .v ⟨false,false,q.t,z⟩ else .b q.r q.t z)⟩]⟩ else none
   |none=>none
theorem ldRow_ok (htt:TTok P tt){m:Nat}{T:TypeId}{ty:Ty}{d:Dy}(hT:TyOk P ty T)(hone:ty.isOne=false)(ho:o.op=.load T x)(hd:o.dst=some t)(ht:Nat.blt t fr.n=true)
  (h:ldRow fr.n tt m Γ ty x t=some d):DyOk P fr Γ o d:=by
 obtain⟨hrow,hsz,hsome⟩:=hT.isOne_row hone
 unfold ldRow at h
 split at h
 ·rename_i r u z hx
  cases hb:!u.isOne&&Nat.beq u.size ty.size&&neR r t with
  |false=>rw[hb] at h;cases h
  |true=>
   rw[hb] at h
   cases h
   simp only[Bool.and_eq_true,Bool.not_eq_true'] at hb
   refine DyOk.pure ?_
   have:=r_lds (P:=P) ho hd ht hrow (opSp_ok hx) (by rw[enc_len,hsz];exact Nat.eq_of_beq_eq_true hb.1.2) hb.2
   cases hfl:u.flat with
   |false=>
    rw[←dt_row hb.1.1,←rdE_ok] at this
    exact this
   |true=>
    have h2:LA P fr (sem Γ) o [⟨t,true,some (.d (.agg (enc false false u z)))⟩]:=by
     cases r with
     |none=>exact this
     |some r=>exact LA.unbor this (enc_isV' hfl z)
    rw[←dt_row hb.1.1] at h2
    exact h2
 ·split at h
  ·rename_i q k hx
   have hfl:=opFl_ok hx
   cases hm2:Nat.beq m 2 with
   |true=>
    rw[hm2] at h
    simp only[cond_true] at h
    split at h
    ·rename_i q' hq'
     have hbx:=opBx_ok hq'
     split at h
     ·rename_i z k' hz hk'
      split at h
      ·rename_i d0 hd0
       cases hb:Nat.beq ty.size q'.ls.length&&(q'.ls.take k').all (fun d=>plainC d.c)&&(q'.ls.drop (k'+1)).all (fun d=>plainC d.c)&&!(Nat.beq q'.r t) with
       |false=>rw[hb] at h;cases h
       |true=>
        rw[hb] at h
        cases h
        simp only[Bool.and_eq_true,Bool.not_eq_true'] at hb
        refine DyOk.pure ?_
        have hw:=wholeA_ok hz
        have e1:(q'.ls.map SD.c)[k']?=some d0.c:=by rw[List.getElem?_map,hd0];rfl
        have e2:((q'.ls.map SD.c).take k').all plainC=true:=by rw[←List.map_take,List.all_map];exact hb.1.1.2
        have e3:((q'.ls.map SD.c).drop (k'+1)).all plainC=true:=by rw[←List.map_drop,List.all_map];exact hb.1.2
        have hl:(q'.ls.map SD.c).length=szOf P T:=by rw[hw,enc_len,hsz]
        have:=la_ldbth (P:=P) ho hd ht hrow hbx hl e1 e2 e3 hb.2
        have e4:Dt.agg (q'.ls.map SD.c)=(SD.mk true true ty z).dt:=by rw[hw];exact(dt_row hone z).symm
        rw[e4] at this
        exact this
      ·cases h
     ·cases h
    ·cases h
   |false=>
   rw[hm2] at h
   simp only[cond_false] at h
   cases hm:Nat.beq m 1 with
   |true=>
    rw[hm] at h
    simp only[cond_true] at h
    split at h
    ·rename_i q' hq'
     have hbx:=opBx_ok hq'
     split at h
     ·rename_i z hz
      cases hb:Nat.beq ty.size q'.ls.length with
      |false=>rw[hb] at h;cases h
      |true=>
       rw[hb] at h
       cases h
       refine DyOk.pure ?_
       rw[wholeA_ok hz] at hbx
       have:=la_ldbt (P:=P) ho hd ht hrow hbx (by rw[enc_len,hsz])
       rw[←dt_row hone,←semU_rm] at this
       exact this
     ·split at h
      ·rename_i z hz
       cases hb:Nat.beq ty.size q'.ls.length with
       |false=>rw[hb] at h;cases h
       |true=>
        rw[hb] at h
        cases h
        refine DyOk.pure ?_
        rw[wholeA_ok hz] at hbx
        have:=la_ldbt (P:=P) ho hd ht hrow hbx (by rw[enc_len,hsz])
        rw[←dt_row hone,←semU_rm] at this
        exact this
      ·cases h
    ·cases h
   |false=>
    rw[hm] at h
    simp only[cond_false] at h
    cases hb:Nat.ble (k+ty.size) q.ls.length&&!(Nat.beq q.r t) with
    |false=>rw[hb] at h;cases h
    |true=>
     rw[hb] at h
     simp only[cond_true] at h
     simp only[Bool.and_eq_true,Bool.not_eq_true'] at hb
     have hle:=Nat.le_of_ble_eq_true hb.1
     split at h
     ·rename_i z hz
      cases h
      refine DyOk.pure ?_
      have hw:=wholeA_ok hz
      rw[List.map_take,List.map_drop] at hw
      have:=la_rowb (P:=P) (k:=k) (m:=ty.size) ho hd ht hrow hfl hsz (by simpa using hle) (by rw[hw];exact plain_enc ty z)
      rw[hw,←dt_row hone] at this
      exact this
     ·split at h
      ·rename_i z hz
       cases h
       refine DyOk.pure ?_
       have hw:=wholeSA_ok hz
       rw[List.map_take,List.map_drop] at hw
       have:=la_rowbb (P:=P) (k:=k) (m:=ty.size) ho hd ht hrow hfl hsz (by simpa using hle) hw hb.2
       rw[←dt_row hone] at this
       exact this
      ·cases h
  ·split at h
   ·rename_i q i k hx
    have hel:=opEl_ok hx
    cases hb:Nat.beq k 0&&!q.t.isOne&&Nat.beq q.t.size ty.size&&!(Nat.beq q.r t)&&esz tt q.E q.t with
    |false=>rw[hb] at h;cases h
    |true=>
     rw[hb] at h
     cases h
     simp only[Bool.and_eq_true,Bool.not_eq_true'] at hb
     obtain⟨⟨⟨⟨hk,hq1⟩,hqs⟩,hqr⟩,hqe⟩:=hb
     have hk0:=Nat.eq_of_beq_eq_true hk
     subst hk0
     intro z hz
     obtain⟨_,hz'⟩:=ix_ok hz
     have hE:szOf P q.E=q.t.size:=esz_ok htt hqe
     have:=la_ldes (P:=P) ho hd ht hrow (by rw[hsz,hE];exact(Nat.eq_of_beq_eq_true hqs).symm) hel hz' (shC_enc _ _ _ _) hqr
     cases hfl:q.t.flat||!q.i with
     |false=>
      rw[←dt_row hq1] at this
      exact this
     |true=>
      cases hf2:q.t.flat with
      |true=>
       have h2:=LA.unbor this (enc_isV' hf2 z)
       rw[←dt_row hq1] at h2
       exact h2
      |false=>
       rw[hf2] at hfl
       have hi:q.i=false:=by simpa using hfl
       have h2:=la_ldep (P:=P) ho hd ht hrow (by rw[hsz,hE];exact(Nat.eq_of_beq_eq_true hqs).symm) hel hz' (by rw[hi];exact plain_enc q.t z) hqr
       rw[hi,←dt_row hq1] at h2
       exact h2
   ·cases h
end
end Go.Proofs.YtkbcahfajbdgnaaGreatDoorT
