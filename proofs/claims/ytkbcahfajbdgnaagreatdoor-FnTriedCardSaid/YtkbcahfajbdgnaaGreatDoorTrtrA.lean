/- Rules over any program: data as trees of cells, an evaluator that is checked once, and plain words. -/
import Derived.Orders
import Derived.Maps.AppendAt
import Derived.Laws.MakeOwn
import Derived.Deep.MidRow
import Derived.WalkKit
import Derived.Lib.LaidTab
import Derived.Lib.ItoaNum
import Derived.ChangeArms
import Derived.Below
import Derived.ProofKit
import Derived.IntWalk
import Derived.Laws.BytesString
import Derived.Lib.AppendZerosOnto
import Derived.Lib.ConvBytes
import Derived.Lib.AppendStr
import Derived.WideShapes
import Derived.Shelf.Sort.Plain
import Derived.Shelf.Slices.In.SortNone
import Derived.Shelf.Slices.CompactI
import Derived.Shelf.Strconv.Itoa3
import Derived.Shelf.Strings.OnBuilder
import Derived.Shelf.Strings.FieldsFuncAny
import Derived.Shelf.Strings.Prefix
import Derived.Shelf.Strconv.ErrVarAll
import Derived.Shelf.Strconv.AtoiAll
import Derived.Shelf.Strings.Search2
import Derived.Shelf.Strings.Count
import Derived.Shelf.Strings.Repeat
import Derived.Shelf.SlSortCmp.Whole1
import Derived.Shelf.SlSortCmp.NoneTotal
import Derived.Shelf.Small.Wraps
import Derived.Deep.LoopGhost
import Derived.Laws.BitsLemmas
import Derived.Lib.Join
import Derived.Lib.FieldsP
import Derived.Lib.RuneCountTail
import Derived.Lib.Bytealg
set_option linter.all false
namespace Go.Proofs.YtkbcahfajbdgnaaGreatDoorT
open Go
inductive C where
 |v (x:Value)
 |sl (o:Bool) (E:TypeId) (es:List (List C))
def szOf (P:Program) (E:TypeId):Nat:=((P.info? E).map (·.size)).getD 0
mutual
def RC (P:Program) (w:World) (Z:Nat→Prop):C→Value→List Nat→Prop
 |.v x,y,bs=>y=x∧x.oneCell'=true∧bs=[]
 |.sl o E es,y,bs=>
  (y=.slice none 0 0∧es=[]∧bs=[])∨
  (∃ad cap vs,o=false∧bs=[]∧y=.slice (some ad) es.length cap∧es.length≤cap∧cap≤maxLen∧(es=[]∨Z ad.block)∧
   (∀k x,vs[k]?=some x→w.cell? (ad.add k)=some x)∧(∀e∈es,e.length=szOf P E)∧RLL P w Z es vs [])∨
  (∃g cap cur bs',o=true∧bs=g::bs'∧y=.slice (some ⟨g,0,none⟩) es.length cap∧es.length≤cap∧cap≤maxLen∧
   w.heap[g]?=some (.cells cur E (0,0))∧cur.size=cap*szOf P E∧(∀e∈es,e.length=szOf P E)∧
   RLL P w Z es (cur.toList.take (es.length*szOf P E)) bs')
def RL (P:Program) (w:World) (Z:Nat→Prop):List C→List Value→List Nat→Prop
 |[],vs,bs=>vs=[]∧bs=[]
 |c::cs,vs,bs=>∃y vs' b1 b2,vs=y::vs'∧bs=b1++b2∧RC P w Z c y b1∧RL P w Z cs vs' b2
def RLL (P:Program) (w:World) (Z:Nat→Prop):List (List C)→List Value→List Nat→Prop
 |[],vs,bs=>vs=[]∧bs=[]
 |cs::es,vs,bs=>∃v1 v2 b1 b2,vs=v1++v2∧bs=b1++b2∧RL P w Z cs v1 b1∧RLL P w Z es v2 b2
end
section
variable {P:Program}{w w':World}{Z Z':Nat→Prop}
theorem cell_of_block {a:Addr}(h:w'.heap[a.block]?=w.heap[a.block]?):w'.cell? a=w.cell? a:=by simp[World.cell?,h]
theorem add_block (a:Addr) (k:Nat):(a.add k).block=a.block:=by unfold Addr.add;split <;> rfl
mutual
theorem RC.mono (hZ:∀b,Z b→Z' b):∀(c:C){y:Value}{bs:List Nat}(_:∀b,Z b∨b∈bs→w'.heap[b]?=w.heap[b]?) (_:RC P w Z c y bs),RC P w' Z' c y bs
 |.v x,y,bs,_,h=>by simpa[RC] using h
 |.sl o E es,y,bs,hw,h=>by
  simp only[RC] at h ⊢
  rcases h with h|⟨ad,cap,vs,ho,hb,hy,h1,h2,hz,hc,hl,hr⟩|⟨g,cap,cur,bs',ho,hb,hy,h1,h2,hg,hs,hl,hr⟩
  ·exact .inl h
  ·refine .inr (.inl ⟨ad,cap,vs,ho,hb,hy,h1,h2,hz.imp id (hZ _),?_,hl,RLL.mono hZ es (fun b hb'=>hw b (by simpa[hb] using hb')) hr⟩)
   intro k x hx
   rcases hz with he|hz
   ·subst he
    have hv:vs=[]:=by simpa[RLL] using hr
    simp[hv] at hx
   ·have hk:w'.cell? (ad.add k)=w.cell? (ad.add k):=cell_of_block (by rw[add_block];exact hw _ (.inl hz))
    exact hk.trans (hc k x hx)
  ·subst hb
   refine .inr (.inr ⟨g,cap,cur,bs',ho,rfl,hy,h1,h2,(hw g (.inr (by simp))).trans hg,hs,hl,RLL.mono hZ es (fun b hb'=>hw b (hb'.imp id (by simp_all))) hr⟩)
theorem RL.mono (hZ:∀b,Z b→Z' b):∀(cs:List C){vs:List Value}{bs:List Nat}(_:∀b,Z b∨b∈bs→w'.heap[b]?=w.heap[b]?) (_:RL P w Z cs vs bs),RL P w' Z' cs vs bs
 |[],_,_,_,h=>by simpa[RL] using h
 |c::cs,vs,bs,hw,h=>by
  simp only[RL] at h ⊢
  obtain⟨y,vs',b1,b2,rfl,rfl,hc,hr⟩:=h
  exact⟨y,vs',b1,b2,rfl,rfl,RC.mono hZ c (fun b hb=>hw b (hb.imp id (by simp_all))) hc,RL.mono hZ cs (fun b hb=>hw b (hb.imp id (by simp_all))) hr⟩
theorem RLL.mono (hZ:∀b,Z b→Z' b):∀(es:List (List C)){vs:List Value}{bs:List Nat}(_:∀b,Z b∨b∈bs→w'.heap[b]?=w.heap[b]?) (_:RLL P w Z es vs bs),RLL P w' Z' es vs bs
 |[],_,_,_,h=>by simpa[RLL] using h
 |cs::es,vs,bs,hw,h=>by
  simp only[RLL] at h ⊢
  obtain⟨v1,v2,b1,b2,rfl,rfl,hc,hr⟩:=h
  exact⟨v1,v2,b1,b2,rfl,rfl,RL.mono hZ cs (fun b hb=>hw b (hb.imp id (by simp_all))) hc,RLL.mono hZ es (fun b hb=>hw b (hb.imp id (by simp_all))) hr⟩
end
theorem RL.length:∀(cs:List C){vs:List Value}{bs:List Nat}(_:RL P w Z cs vs bs),vs.length=cs.length
 |[],_,_,h=>by simp[RL] at h;simp[h]
 |c::cs,vs,bs,h=>by
  simp only[RL] at h
  obtain⟨y,vs',b1,b2,rfl,rfl,_,hr⟩:=h
  simp[RL.length cs hr]
theorem RL.one:∀(cs:List C){vs:List Value}{bs:List Nat}(_:RL P w Z cs vs bs),∀x∈vs,x.oneCell'=true
 |[],_,_,h=>by simp[RL] at h;simp[h]
 |c::cs,vs,bs,h=>by
  simp only[RL] at h
  obtain⟨y,vs',b1,b2,rfl,rfl,hc,hr⟩:=h
  intro x hx
  rcases List.mem_cons.1 hx with rfl|hx
  ·cases c with
   |v z=>simp only[RC] at hc;rw[hc.1];exact hc.2.1
   |sl o E es=>
    simp only[RC] at hc
    rcases hc with⟨rfl,_⟩|⟨ad,cap,vs,_,_,rfl,_⟩|⟨g,cap,cur,bs',_,_,rfl,_⟩ <;> rfl
  ·exact RL.one cs hr x hx
theorem RC.one {c:C}{y:Value}{bs:List Nat}(h:RC P w Z c y bs):y.oneCell'=true:=
 RL.one [c] (vs:=[y]) (bs:=bs++[]) (by simp only[RL];exact⟨y,[],bs,[],rfl,rfl,h,rfl,rfl⟩) y (by simp)
theorem RLL.length {k:Nat}:∀(es:List (List C)){vs:List Value}{bs:List Nat}(_:∀e∈es,e.length=k) (_:RLL P w Z es vs bs),vs.length=es.length*k
 |[],_,_,_,h=>by simp[RLL] at h;simp[h]
 |cs::es,vs,bs,hk,h=>by
  simp only[RLL] at h
  obtain⟨v1,v2,b1,b2,rfl,rfl,hc,hr⟩:=h
  have h1:=RL.length cs hc
  have h2:=RLL.length es (fun e he=>hk e (by simp[he])) hr
  have h3:=hk cs (by simp)
  simp[h1,h2,h3,Nat.add_mul]
  omega
def shC:C→C
 |.v x=>.v x
 |.sl _ E es=>.sl false E (shLL es)
where
 shL:List C→List C
 |[]=>[]
 |c::cs=>shC c::shL cs
 shLL:List (List C)→List (List C)
 |[]=>[]
 |e::es=>shL e::shLL es
theorem shL_map:∀cs:List C,shC.shL cs=cs.map shC
 |[]=>rfl
 |c::cs=>by simp[shC.shL,shL_map cs]
theorem shLL_map:∀es:List (List C),shC.shLL es=es.map (List.map shC)
 |[]=>rfl
 |e::es=>by simp[shC.shLL,shL_map e,shLL_map es]
theorem shC_sl (o:Bool) (E:TypeId) (es:List (List C)):shC (.sl o E es)=.sl false E (es.map (List.map shC)):=by simp[shC,shLL_map]
theorem cell_row {g:Nat}{cur:Array Value}{E:TypeId}{fr:Nat×Nat}(hg:w.heap[g]?=some (.cells cur E fr)) (k:Nat):w.cell? ((⟨g,0,none⟩:Addr).add k)=cur[k]?:=by
 have:(⟨g,0,none⟩:Addr).add k=⟨g,k,none⟩:=by unfold Addr.add;split <;> simp_all
 rw[this]
 simp[World.cell?,hg]
mutual
theorem RC.share:∀(c:C){y:Value}{bs:List Nat}(_:RC P w Z c y bs),RC P w (fun b=>Z b∨b∈bs) (shC c) y []
 |.v x,y,bs,h=>by simp only[RC,shC] at h ⊢;exact⟨h.1,h.2.1,trivial⟩
 |.sl o E es,y,bs,h=>by
  simp only[RC,shC] at h ⊢
  rcases h with⟨h1,h2,h3⟩|⟨ad,cap,vs,ho,hb,hy,h1,h2,hz,hc,hl,hr⟩|⟨g,cap,cur,bs',ho,hb,hy,h1,h2,hg,hs,hl,hr⟩
  ·exact .inl ⟨h1,by subst h2;rfl,trivial⟩
  ·subst hb
   have hsh:=RLL.share es hr
   refine .inr (.inl ⟨ad,cap,vs,trivial,trivial,by rw[hy,shLL_map];simp,by rw[shLL_map];simpa using h1,h2,?_,hc,?_,RLL.mono (fun b hb=>hb) _ (fun b hb=>rfl) hsh⟩)
   ·rcases hz with rfl|hz
    ·exact .inl rfl
    ·exact .inr (.inl hz)
   ·rw[shLL_map];simpa using hl
  ·subst hb
   have hsh:=RLL.share es hr
   refine .inr (.inl ⟨⟨g,0,none⟩,cap,_,trivial,trivial,by rw[hy,shLL_map];simp,by rw[shLL_map];simpa using h1,h2,.inr (.inr (by simp)),?_,?_,
    RLL.mono (fun b hb=>hb.imp id (by intro hb;simp[hb])) _ (fun b hb=>rfl) hsh⟩)
   ·intro k x hx
    rw[cell_row hg]
    rw[List.getElem?_take] at hx
    split at hx
    ·simpa using hx
    ·cases hx
   ·rw[shLL_map];simpa using hl
theorem RL.share:∀(cs:List C){vs:List Value}{bs:List Nat}(_:RL P w Z cs vs bs),RL P w (fun b=>Z b∨b∈bs) (shC.shL cs) vs []
 |[],_,_,h=>by simpa[RL,shC.shL] using h.1
 |c::cs,vs,bs,h=>by
  simp only[RL,shC.shL] at h ⊢
  obtain⟨y,vs',b1,b2,rfl,rfl,hc,hr⟩:=h
  exact⟨y,vs',[],[],rfl,rfl,RC.mono (fun b hb=>hb.imp id (by intro hb;simp[hb])) _ (fun b hb=>rfl) (RC.share c hc),
   RL.mono (fun b hb=>hb.imp id (by intro hb;simp[hb])) _ (fun b hb=>rfl) (RL.share cs hr)⟩
theorem RLL.share:∀(es:List (List C)){vs:List Value}{bs:List Nat}(_:RLL P w Z es vs bs),RLL P w (fun b=>Z b∨b∈bs) (shC.shLL es) vs []
 |[],_,_,h=>by simpa[RLL,shC.shLL] using h.1
 |cs::es,vs,bs,h=>by
  simp only[RLL,shC.shLL] at h ⊢
  obtain⟨v1,v2,b1,b2,rfl,rfl,hc,hr⟩:=h
  exact⟨v1,v2,[],[],rfl,rfl,RL.mono (fun b hb=>hb.imp id (by intro hb;simp[hb])) _ (fun b hb=>rfl) (RL.share cs hc),
   RLL.mono (fun b hb=>hb.imp id (by intro hb;simp[hb])) _ (fun b hb=>rfl) (RLL.share es hr)⟩
end
theorem block_lt {b:Nat}{o:Obj}(h:w.heap[b]?=some o):b<w.heap.size:=(Array.getElem?_eq_some_iff.1 h).1
mutual
theorem RC.lt:∀(c:C){y:Value}{bs:List Nat}(_:RC P w Z c y bs),∀b∈bs,b<w.heap.size
 |.v x,y,bs,h=>by simp only[RC] at h;simp[h.2.2]
 |.sl o E es,y,bs,h=>by
  simp only[RC] at h
  rcases h with⟨_,_,rfl⟩|⟨_,_,_,_,rfl,_⟩|⟨g,cap,cur,bs',ho,rfl,hy,h1,h2,hg,hs,hl,hr⟩
  ·simp
  ·simp
  ·intro b hb
   rcases List.mem_cons.1 hb with rfl|hb
   ·exact block_lt hg
   ·exact RLL.lt es hr b hb
theorem RL.lt:∀(cs:List C){vs:List Value}{bs:List Nat}(_:RL P w Z cs vs bs),∀b∈bs,b<w.heap.size
 |[],_,_,h=>by simp only[RL] at h;simp[h.2]
 |c::cs,vs,bs,h=>by
  simp only[RL] at h
  obtain⟨y,vs',b1,b2,rfl,rfl,hc,hr⟩:=h
  intro b hb
  rcases List.mem_append.1 hb with hb|hb
  ·exact RC.lt c hc b hb
  ·exact RL.lt cs hr b hb
theorem RLL.lt:∀(es:List (List C)){vs:List Value}{bs:List Nat}(_:RLL P w Z es vs bs),∀b∈bs,b<w.heap.size
 |[],_,_,h=>by simp only[RLL] at h;simp[h.2]
 |cs::es,vs,bs,h=>by
  simp only[RLL] at h
  obtain⟨v1,v2,b1,b2,rfl,rfl,hc,hr⟩:=h
  intro b hb
  rcases List.mem_append.1 hb with hb|hb
  ·exact RL.lt cs hc b hb
  ·exact RLL.lt es hr b hb
end
end
end Go.Proofs.YtkbcahfajbdgnaaGreatDoorT
namespace Go.Proofs.YtkbcahfajbdgnaaGreatDoorT
open Go
theorem viewStore_drawn {P:Program}{w:World}{b:Addr}{u:TypeId}{k:Addr}{v:Value}{at1:Bool}{r:World×List Addr}(h:w.viewStore P b u k v at1=.ok r):r.1.drawn=w.drawn:=by
 unfold World.viewStore at h
 simp only[Bind.bind,Except.bind,MonadExcept.throw,throwThe,MonadExceptOf.throw,Pure.pure,Except.pure] at h
 repeat' (split at h)
 all_goals first
  |(cases h;done)
  |(cases h;rfl)
theorem ask_drawn {A:Type}:∀(a:Ask A) (w:World),w.drawn≤(w.ask a).2.drawn
 |.done _,w=>by simp[World.ask]
 |.ask what range k,w=>by
  simp only[World.ask]
  split
  ·exact ask_drawn (k 0) w
  ·exact Nat.le_trans (by simp) (ask_drawn _ {w with drawn:=w.drawn+1})
theorem sys_drawn (w:World) (c:Sys):w.drawn≤(w.sys c).2.drawn:=by
 have h:=ask_drawn (Kernel.perform c w.os) w
 unfold World.sys
 split
 ·exact Nat.le_refl _
 ·rename_i r os w' _ heq
  rw[heq] at h
  exact h
theorem run_drawn {A:Type}{P:Program}:∀(m:Sem A){w w':World}{v:A},m.run P w=.ok v w'→w.drawn≤w'.drawn
  |.pure a,w,w',v,h=>by simp only[Sem.run] at h;cases h;exact Nat.le_refl _
  |.load m a k,w,w',v,h=>by
    simp only[Sem.run] at h
    split at h
    · exact run_drawn _ h
    · split at h
      · exact run_drawn _ h
      · cases h
  |.store m a x k,w,w',v,h=>by
    cases x <;> simp only[Sem.run] at h
    all_goals first
      |(cases h;done)
      | (split at h
         · split at h
           · cases h
           · have h2:=run_drawn k h;exact h2
         · split at h
           · rename_i w2 q heq
             have h2:=run_drawn k h
             have h3:w2.drawn=w.drawn:=by
               unfold World.farStore at heq
               split at heq
               · split at heq
                 · rename_i r hr
                   cases heq
                   exact viewStore_drawn hr
                 · cases heq
               · cases heq
             omega
           · cases h)
  |.new o k,w,w',v,h=>by simp only[Sem.run] at h;have h2:=run_drawn _ h;exact h2
  |.shape r k,w,w',v,h=>by simp only[Sem.run] at h;exact run_drawn _ h
  |.freeze a n k,w,w',v,h=>by
    simp only[Sem.run] at h
    have:=run_drawn k h
    have h2:(w.freeze a n).drawn=w.drawn:=by unfold World.freeze;split <;> rfl
    omega
  |.frozen a k,w,w',v,h=>by simp only[Sem.run] at h;exact run_drawn _ h
  |.getObj r k,w,w',v,h=>by
    simp only[Sem.run] at h
    split at h
    · cases h
    · exact run_drawn _ h
    · cases h
  |.setObj r o k,w,w',v,h=>by
    simp only[Sem.run] at h
    split at h
    · cases h
    · have:=run_drawn k h;exact this
    · cases h
  |.choose q k,w,w',v,h=>by
    simp only[Sem.run] at h
    split at h
    · exact run_drawn _ h
    · have:=run_drawn _ h
      simp only at this
      omega
  |.sys c k,w,w',v,h=>by
    simp only[Sem.run] at h
    exact Nat.le_trans (sys_drawn w c) (run_drawn _ h)
  |.program k,w,w',v,h=>by simp only[Sem.run] at h;exact run_drawn _ h
  |.mark m k,w,w',v,h=>by simp only[Sem.run] at h;exact run_drawn k h
  |.halt _,w,w',v,h=>by simp only[Sem.run] at h;cases h
end Go.Proofs.YtkbcahfajbdgnaaGreatDoorT
namespace Go.Proofs.YtkbcahfajbdgnaaGreatDoorT
open Go
inductive Dt where
 |one (c:C)
 |agg (cs:List C)
def RD (P:Program) (w:World) (Z:Nat→Prop):Dt→Value→List Nat→Prop
 |.one c,y,bs=>RC P w Z c y bs
 |.agg cs,y,bs=>∃vs,y=.agg vs.toArray∧RL P w Z cs vs bs
def RT (P:Program) (w:World) (Z:Nat→Prop):List (Option Dt)→List Value→List Nat→Prop
 |[],ys,bs=>ys=[]∧bs=[]
 |none::xs,ys,bs=>∃y ys',ys=y::ys'∧RT P w Z xs ys' bs
 |some x::xs,ys,bs=>∃y ys' b1 b2,ys=y::ys'∧bs=b1++b2∧RD P w Z x y b1∧RT P w Z xs ys' b2
inductive Ent where
 |d (x:Dt)
 |dv (y:Value) (x:Dt)
 |tup (xs:List (Option Dt))
 |box (T:TypeId) (cs:List C)
 |bor (r:Nat) (x:Dt)
 |eq (r:Nat)
 |fld (r k:Nat)
 |elt (r E i k:Nat)
 |sp (r:Option Nat) (cs:List C)
 |fn (f:FuncId) (caps:List Nat)
 |hbox (T:TypeId) (cs:List C) (k:Nat)
 |inn (r E i k:Nat)
 |eqn (r n:Nat)
 |tupb (T:TypeId) (cs:List C) (xs:List (Option Dt))
 |hel (E:TypeId) (es:List (List C)) (i k:Nat)
def zr (Z:Nat→Prop) (β:Nat→List Nat):Option Nat→Nat→Prop
 |none,b=>Z b
 |some r,b=>Z b∨b∈β r
def EntOk (P:Program) (w:World) (Z:Nat→Prop) (β:Nat→List Nat) (ev:Nat→Value) (t:Nat):Ent→Prop
 |.d x=>RD P w Z x (ev t) (β t)
 |.dv y x=>ev t=y∧RD P w Z x (ev t) (β t)
 |.tup xs=>∃ys,ev t=.tuple ys.toArray∧RT P w Z xs ys (β t)
 |.box T cs=>∃b vs bs,ev t=.pointer (some ⟨b,0,none⟩)∧w.heap[b]?=some (.cells vs T (0,0))∧RL P w Z cs vs.toList bs∧β t=b::bs
 |.bor r x=>RD P w (zr Z β (some r)) x (ev t) []
 |.eq r=>ev t=ev r
 |.fld r k=>∃b,ev r=.pointer (some ⟨b,0,none⟩)∧ev t=.pointer (some ⟨b,k,none⟩)
 |.elt r E i k=>∃g n cap,ev r=.slice (some ⟨g,0,none⟩) n cap∧ev t=.pointer (some ⟨g,i*szOf P E+k,none⟩)
 |.sp r cs=>∃ad vs,ev t=.pointer (some ad)∧(∀k x,vs[k]?=some x→w.cell? (ad.add k)=some x)∧RL P w (zr Z β r) cs vs []∧(cs=[]∨zr Z β r ad.block)
 |.fn f caps=>ev t=.func (.func f) #[] (caps.map ev).toArray
 |.hbox T cs k=>∃y,∃b vs bs,ev t=.pointer (some ⟨b,0,none⟩)∧w.heap[b]?=some (.cells vs T (0,0))∧RL P w Z (cs.set k (.v y)) vs.toList bs∧β t=b::bs
 |.inn r E i k=>∃g n cap,ev r=.slice (some ⟨g,0,none⟩) n cap∧g∈β r∧w.cell? ⟨g,i*szOf P E+k,none⟩=some (ev t)
 |.eqn r n=>ev t=ev r∧(n=0∨∃g cap,ev r=.slice (some ⟨g,0,none⟩) n cap)
 |.tupb T cs xs=>∃b vs bs ys bs',ev t=.tuple (.pointer (some ⟨b,0,none⟩)::ys).toArray∧w.heap[b]?=some (.cells vs T (0,0))∧RL P w Z cs vs.toList bs∧RT P w Z xs ys bs'∧β t=b::(bs++bs')
 |.hel E es i k=>∃y,RC P w Z (.sl true E (es.set i ((es[i]?.getD []).set k (.v y)))) (ev t) (β t)
def Ent.hdep:Ent→Nat→Bool
 |.bor r _,t=>Nat.beq r t
 |.eq r,t=>Nat.beq r t
 |.fld r _,t=>Nat.beq r t
 |.elt r _ _ _,t=>Nat.beq r t
 |.sp (some r) _,t=>Nat.beq r t
 |.fn _ caps,t=>caps.any (Nat.beq t)
 |.inn r _ _ _,t=>Nat.beq r t
 |.eqn r _,t=>Nat.beq r t
 |_,_=>false
def Ent.sdep:Ent→Nat→Bool
 |.bor r _,t=>Nat.beq r t
 |.sp (some r) _,t=>Nat.beq r t
 |.inn r _ _ _,t=>Nat.beq r t
 |_,_=>false
abbrev Ctx:=Nat→Option Ent
structure Up where
 t:Nat
 hard:Bool
 e:Option Ent
def look:List Up→Nat→Option Up
 |[],_=>none
 |p::δ,u=>bif Nat.beq p.t u then some p else look δ u
def hit:List Up→Ent→Bool
 |[],_=>false
 |p::δ,e=>(bif p.hard then e.hdep p.t else e.sdep p.t)||hit δ e
def upd (Γ:Ctx) (δ:List Up):Ctx:=fun u=>match look δ u with
 |some p=>p.e
 |none=>match Γ u with
  |some e=>bif hit δ e then none else some e
  |none=>none
theorem hit_none {δ:List Up}{e:Ent}(h:hit δ e=false):∀r,(e.hdep r=true→(look δ r=none∨∃p,look δ r=some p∧p.hard=false))∧(e.sdep r=true→look δ r=none):=by
 induction δ with
 |nil=>intro r;simp[look]
 |cons q δ ih=>
  intro r
  simp only[hit,Bool.or_eq_false_iff] at h
  obtain⟨h1,h2⟩:=h
  have hr:=ih h2 r
  simp only[look]
  cases hb:Nat.beq q.t r with
  |false=>simpa using hr
  |true=>
   have hq:q.t=r:=Nat.eq_of_beq_eq_true hb
   subst hq
   cases hh:q.hard with
   |true=>
    rw[hh] at h1
    simp at h1
    refine⟨by simp[h1],fun hs=>?_⟩
    have:e.hdep q.t=true:=by cases e <;> simp_all [Ent.hdep,Ent.sdep];rename_i r _;cases r <;> simp_all
    simp[h1] at this
   |false=>
    rw[hh] at h1
    simp at h1
    exact⟨fun _=>.inr ⟨q,by simp,hh⟩,by simp[h1]⟩
def Dle (_ _:Nat):Prop:=True
theorem Dle.of {a b:Nat}(_:a≤b):Dle a b:=trivial
theorem Dle.trans {a b c:Nat}(_:Dle a b) (_:Dle b c):Dle a c:=trivial
structure Evo (w0 w:World) (M:List Nat):Prop where
 os:w.os=w0.os
 tape:w.tape=w0.tape
 output:w.output=w0.output
 size:w0.heap.size≤w.heap.size
 block:∀b,b<w0.heap.size→b∉M→w.heap[b]?=w0.heap[b]?
 drawn:Dle w0.drawn w.drawn
theorem Evo.refl (w:World) (M:List Nat):Evo w w M:=⟨rfl,rfl,rfl,Nat.le_refl _,fun _ _ _=>rfl,Dle.of (Nat.le_refl _)⟩
theorem Evo.trans {a b c:World}{M N:List Nat}(h:Evo a b M) (k:Evo b c N)(hN:∀x,x∈N→x∈M∨a.heap.size≤x):Evo a c M:=
 ⟨k.os.trans h.os,k.tape.trans h.tape,k.output.trans h.output,Nat.le_trans h.size k.size,fun x hx hM=>
  (k.block x (Nat.lt_of_lt_of_le hx h.size) (fun hx'=>by rcases hN x hx' with h'|h';exact hM h';omega)).trans (h.block x hx hM),h.drawn.trans k.drawn⟩
structure Fr where
 w0:World
 M:List Nat
 Z0:Nat→Prop
 n:Nat
 γ:Nat→Value
def ev (n:Nat) (a:Act) (γ:Nat→Value) (t:Nat):Value:=if t<n then a.tmps.getD t undef else γ t
def glSpec:List (String×(Array Value→Prop)):=
  [("internal/strconv.uint64pow10",fun cs=>cs=(Lib.pow10Tab.map fun z=>Value.int .u64 z).toArray),
   ("strconv.ErrSyntax",fun cs=>∃t p,cs=#[.iface t p]),
   ("strconv.ErrRange",fun cs=>∃t p,cs=#[.iface t p])]
def Gl (P:Program) (w:World) (Z:Nat→Prop):Prop:=∀q,q∈glSpec→∀g,P.globalNamed q.1=some g→Z g∧∃cs b1 b2,w.heap[g]?=some (.cells cs b1 b2)∧q.2 cs
theorem Gl.mono {P:Program}{w w':World}{Z Z':Nat→Prop}(h:Gl P w Z)(hZ:∀b,Z b→Z' b∧w'.heap[b]?=w.heap[b]?):Gl P w' Z':=by
 intro q hq g hg
 obtain⟨hz,cs,b1,b2,hc,hQ⟩:=h q hq g hg
 obtain⟨h1,h2⟩:=hZ g hz
 exact⟨h1,cs,b1,b2,by rw[h2];exact hc,hQ⟩
structure Core (P:Program) (fr:Fr) (Γ:Ctx) (a:Act) (w:World) (Z:Nat→Prop) (β:Nat→List Nat) (γ:Nat→Value):Prop where
 gh:γ=fr.γ
 defers:a.defers=[]
 size:a.tmps.size=fr.n
 evo:Evo fr.w0 w fr.M
 zlt:∀b,Z b→b<w.heap.size
 zin:∀b,fr.Z0 b→Z b
 znew:∀b,Z b→fr.Z0 b∨fr.w0.heap.size≤b∨b∈fr.M
 own:∀t b,b∈β t→b<w.heap.size∧¬Z b∧(fr.w0.heap.size≤b∨b∈fr.M)
 nodup:∀t,(β t).Nodup
 disj:∀t u b,t≠u→b∈β t→b∉β u
 gl:Gl P w Z
 ent:∀t e,Γ t=some e→EntOk P w Z β (ev fr.n a γ) t e
def St (P:Program) (fr:Fr) (Γ:Ctx) (a:Act) (w:World):Prop:=∃Z β γ,Core P fr Γ a w Z β γ
section
variable {P:Program}{w w':World}{Z Z':Nat→Prop}{β β':Nat→List Nat}{ev' ev'':Nat→Value}
theorem RD.mono (hZ:∀b,Z b→Z' b){x:Dt}{y:Value}{bs:List Nat}(hw:∀b,Z b∨b∈bs→w'.heap[b]?=w.heap[b]?)(h:RD P w Z x y bs):RD P w' Z' x y bs:=by
 cases x with
 |one c=>exact RC.mono hZ c hw h
 |agg cs=>obtain⟨vs,hy,hr⟩:=h;exact⟨vs,hy,RL.mono hZ cs hw hr⟩
theorem RT.mono (hZ:∀b,Z b→Z' b):∀(xs:List (Option Dt)){ys:List Value}{bs:List Nat}(_:∀b,Z b∨b∈bs→w'.heap[b]?=w.heap[b]?) (_:RT P w Z xs ys bs),RT P w' Z' xs ys bs
 |[],_,_,_,h=>h
 |none::xs,ys,bs,hw,h=>by
  obtain⟨y,ys',rfl,hr⟩:=h
  exact⟨y,ys',rfl,RT.mono hZ xs hw hr⟩
 |some x::xs,ys,bs,hw,h=>by
  obtain⟨y,ys',b1,b2,rfl,rfl,hc,hr⟩:=h
  exact⟨y,ys',b1,b2,rfl,rfl,RD.mono hZ (fun b hb=>hw b (hb.imp id (by simp_all))) hc,RT.mono hZ xs (fun b hb=>hw b (hb.imp id (by simp_all))) hr⟩
theorem EntOk.mono {t:Nat}{e:Ent}(h:EntOk P w Z β ev' t e)(hZ:∀b,Z b→Z' b)(hb:β' t=β t)(he:ev'' t=ev' t)
  (hd:∀r,e.hdep r=true→ev'' r=ev' r)(hs:∀r,e.sdep r=true→β' r=β r)
  (hw:∀b,(Z b∨b∈β t∨∃r,e.sdep r=true∧b∈β r)→w'.heap[b]?=w.heap[b]?):EntOk P w' Z' β' ev'' t e:=by
 have hzr:∀r:Option Nat,(∀q,r=some q→e.sdep q=true)→∀b,zr Z β r b→zr Z' β' r b:=by
  intro r hr b hz
  cases r with
  |none=>exact hZ b hz
  |some q=>exact hz.imp (hZ b) (by rw[hs q (hr q rfl)];exact id)
 cases e with
 |d x=>simp only[EntOk] at h ⊢;rw[hb,he];exact RD.mono hZ (fun b hb'=>hw b (by rcases hb' with h|h;exact .inl h;exact .inr (.inl h))) h
 |dv y x=>simp only[EntOk] at h ⊢;rw[hb,he];exact⟨h.1,RD.mono hZ (fun b hb'=>hw b (by rcases hb' with h|h;exact .inl h;exact .inr (.inl h))) h.2⟩
 |tup xs=>
  simp only[EntOk] at h ⊢
  rw[hb,he]
  obtain⟨ys,hy,hr⟩:=h
  exact⟨ys,hy,RT.mono hZ xs (fun b hb'=>hw b (by rcases hb' with h|h;exact .inl h;exact .inr (.inl h))) hr⟩
 |box T cs=>
  simp only[EntOk] at h ⊢
  rw[hb,he]
  obtain⟨b,vs,bs,h1,h2,h3,h4⟩:=h
  exact⟨b,vs,bs,h1,(hw b (.inr (.inl (by simp[h4])))).trans h2,RL.mono hZ cs (fun b' hb'=>hw b' (by rcases hb' with h|h;exact .inl h;exact .inr (.inl (by simp[h4,h])))) h3,h4⟩
 |tupb T cs xs=>
  simp only[EntOk] at h ⊢
  rw[hb,he]
  obtain⟨b,vs,bs,ys,bs',h1,h2,h3,h4,h5⟩:=h
  have hin:∀x,Z x∨x∈b::(bs++bs')→w'.heap[x]?=w.heap[x]?:=fun x hx=>hw x (by rcases hx with h|h;exact .inl h;exact .inr (.inl (by rw[h5];exact h)))
  exact⟨b,vs,bs,ys,bs',h1,(hin b (.inr (by simp))).trans h2,RL.mono hZ cs (fun x hx=>hin x (by rcases hx with h|h;exact .inl h;exact .inr (by simp[h]))) h3,
   RT.mono hZ xs (fun x hx=>hin x (by rcases hx with h|h;exact .inl h;exact .inr (by simp[h]))) h4,h5⟩
 |hel E es i k=>
  simp only[EntOk] at h ⊢
  rw[hb,he]
  obtain⟨y,h⟩:=h
  exact⟨y,RC.mono hZ _ (fun b hb'=>hw b (by rcases hb' with h|h;exact .inl h;exact .inr (.inl h))) h⟩
 |bor r x=>
  simp only[EntOk] at h ⊢
  rw[he]
  exact RD.mono (hzr (some r) (by rintro q ⟨rfl⟩;simp[Ent.sdep])) (fun b hb'=>hw b (by
   rcases hb' with h|h
   ·rcases h with h|h
    ·exact .inl h
    ·exact .inr (.inr ⟨r,by simp[Ent.sdep],h⟩)
   ·simp at h)) h
 |eq r=>simp only[EntOk] at h ⊢;rw[he,hd r (by simp[Ent.hdep])];exact h
 |fld r k=>simp only[EntOk] at h ⊢;rw[he,hd r (by simp[Ent.hdep])];exact h
 |eqn r n=>simp only[EntOk] at h ⊢;rw[he,hd r (by simp[Ent.hdep])];exact h
 |elt r E i k=>simp only[EntOk] at h ⊢;rw[he,hd r (by simp[Ent.hdep])];exact h
 |sp r cs=>
  simp only[EntOk] at h ⊢
  rw[he]
  have hq:∀q,r=some q→(Ent.sp r cs).sdep q=true:=by rintro q rfl;simp[Ent.sdep]
  obtain⟨ad,vs,h1,h2,h3,h4⟩:=h
  have hblk:∀b,zr Z β r b→w'.heap[b]?=w.heap[b]?:=by
   intro b hz
   cases r with
   |none=>exact hw b (.inl hz)
   |some q=>
    rcases hz with hz|hz
    ·exact hw b (.inl hz)
    ·exact hw b (.inr (.inr ⟨q,hq q rfl,hz⟩))
  refine⟨ad,vs,h1,?_,RL.mono (hzr r hq) cs (fun b hb'=>hblk b (by simpa using hb')) h3,h4.imp id (hzr r hq _)⟩
  intro k x hx
  rcases h4 with rfl|h4
  ·have:=RL.length [] h3
   simp at this
   simp[this] at hx
  ·have hk:w'.cell? (ad.add k)=w.cell? (ad.add k):=cell_of_block (by rw[add_block];exact hblk _ h4)
   exact hk.trans (h2 k x hx)
 |fn f caps=>
  simp only[EntOk] at h ⊢
  rw[he,h]
  congr 2
  refine List.map_congr_left (fun r hr=>(hd r ?_).symm)
  simp only[Ent.hdep,List.any_eq_true]
  exact⟨r,hr,by simp⟩
 |hbox T cs k=>
  simp only[EntOk] at h ⊢
  rw[hb,he]
  obtain⟨y,b,vs,bs,h1,h2,h3,h4⟩:=h
  exact⟨y,b,vs,bs,h1,(hw b (.inr (.inl (by simp[h4])))).trans h2,RL.mono hZ _ (fun b' hb'=>hw b' (by rcases hb' with h|h;exact .inl h;exact .inr (.inl (by simp[h4,h])))) h3,h4⟩
 |inn r E i k=>
  simp only[EntOk] at h ⊢
  have hsr:(Ent.inn r E i k).sdep r=true:=by simp[Ent.sdep]
  rw[he,hd r (by simp[Ent.hdep]),hs r hsr]
  obtain⟨g,n,cap,h1,h2,h3⟩:=h
  exact⟨g,n,cap,h1,h2,(cell_of_block (hw g (.inr (.inr ⟨r,hsr,h2⟩)))).trans h3⟩
theorem Core.turn {fr:Fr}{Γ:Ctx}{a a':Act}{γ:Nat→Value}(h:Core P fr Γ a w Z β γ) (δ:List Up)
  (hdef:a'.defers=[])(hsize:a'.tmps.size=fr.n)(hevo:Evo fr.w0 w' fr.M)(hzlt:∀b,Z' b→b<w'.heap.size)
  (hZ:∀b,Z b→Z' b∧w'.heap[b]?=w.heap[b]?)(hznew:∀b,Z' b→fr.Z0 b∨fr.w0.heap.size≤b∨b∈fr.M)
  (hown:∀t b,b∈β' t→b<w'.heap.size∧¬Z' b∧(fr.w0.heap.size≤b∨b∈fr.M))(hnodup:∀t,(β' t).Nodup)(hdisj:∀t u b,t≠u→b∈β' t→b∉β' u)
  (hev:∀u,(look δ u=none∨∃p,look δ u=some p∧p.hard=false)→ev fr.n a' γ u=ev fr.n a γ u)
  (hβ:∀u,look δ u=none→β' u=β u)(hblk:∀u,look δ u=none→∀b,b∈β u→w'.heap[b]?=w.heap[b]?)
  (hnew:∀u p e,look δ u=some p→p.e=some e→EntOk P w' Z' β' (ev fr.n a' γ) u e) :
  Core P fr (upd Γ δ) a' w' Z' β' γ where
 gh:=h.gh
 defers:=hdef
 size:=hsize
 evo:=hevo
 zlt:=hzlt
 zin:=fun b hb=>(hZ b (h.zin b hb)).1
 znew:=hznew
 own:=hown
 nodup:=hnodup
 disj:=hdisj
 gl:=h.gl.mono hZ
 ent:=by
  intro t e ht
  unfold upd at ht
  cases hl:look δ t with
  |some p=>rw[hl] at ht;exact hnew t p e hl ht
  |none=>
   rw[hl] at ht
   simp only at ht
   cases hg:Γ t with
   |none=>rw[hg] at ht;simp at ht
   |some e0=>
    rw[hg] at ht
    simp only at ht
    cases hh:hit δ e0 with
    |true=>rw[hh] at ht;simp at ht
    |false=>
     rw[hh] at ht
     simp at ht
     subst ht
     have hn:=hit_none hh
     refine(h.ent t e0 hg).mono (fun b hb=>(hZ b hb).1) (hβ t hl) (hev t (.inl hl)) (fun r hr=>hev r ((hn r).1 hr)) (fun r hr=>hβ r ((hn r).2 hr)) ?_
     rintro b (hb|hb|⟨r,hr,hb⟩)
     ·exact(hZ b hb).2
     ·exact hblk t hl b hb
     ·exact hblk r ((hn r).2 hr) b hb
end
end Go.Proofs.YtkbcahfajbdgnaaGreatDoorT
namespace Go.Proofs.YtkbcahfajbdgnaaGreatDoorT
open Go
variable {P:Program}{fr:Fr}
def plainC:C→Bool
 |.v _=>true
 |.sl o _ _=>!o
def plain:Dt→Bool
 |.one c=>plainC c
 |.agg cs=>cs.all plainC
section
variable {w:World}{Z:Nat→Prop}
theorem plainC_nil {c:C}{y:Value}{bs:List Nat}(hp:plainC c=true)(h:RC P w Z c y bs):bs=[]:=by
 cases c with
 |v x=>simp only[RC] at h;exact h.2.2
 |sl o E es=>
  simp only[RC] at h
  simp[plainC] at hp
  subst hp
  rcases h with⟨_,_,rfl⟩|⟨_,_,_,_,rfl,_⟩|⟨_,_,_,_,h,_⟩
  ·rfl
  ·rfl
  ·cases h
theorem plainL_nil:∀(cs:List C){vs:List Value}{bs:List Nat}(_:cs.all plainC=true) (_:RL P w Z cs vs bs),bs=[]
 |[],_,_,_,h=>by simp only[RL] at h;exact h.2
 |c::cs,vs,bs,hp,h=>by
  simp only[RL] at h
  obtain⟨y,vs',b1,b2,rfl,rfl,hc,hr⟩:=h
  simp only[List.all_cons,Bool.and_eq_true] at hp
  simp[plainC_nil hp.1 hc,plainL_nil cs hp.2 hr]
theorem plain_nil {x:Dt}{y:Value}{bs:List Nat}(hp:plain x=true)(h:RD P w Z x y bs):bs=[]:=by
 cases x with
 |one c=>exact plainC_nil hp h
 |agg cs=>obtain⟨vs,_,hr⟩:=h;exact plainL_nil cs hp hr
end
section
variable {w:World}{Z:Nat→Prop}
def shD:Dt→Dt
 |.one c=>.one (shC c)
 |.agg cs=>.agg (cs.map shC)
theorem RD.share {w:World}{Z:Nat→Prop}{x:Dt}{y:Value}{bs:List Nat}(h:RD P w Z x y bs):RD P w (fun b=>Z b∨b∈bs) (shD x) y []:=by
 cases x with
 |one c=>exact RC.share c h
 |agg cs=>
  obtain⟨vs,h1,h2⟩:=h
  have h3:=RL.share cs h2
  rw[shL_map] at h3
  exact⟨vs,h1,h3⟩
end
def vwr (n:Nat) (Γ:Ctx):Operand→Option (Option Nat×Dt)
 |.tmp t=>bif Nat.blt t n then
   match Γ t with
   |some (.d x)=>bif plain x then some (none,x) else some (some t,shD x)
   |some (.dv _ x)=>bif plain x then some (none,x) else some (some t,shD x)
   |some (.bor r x)=>some (some r,x)
   |some (.eq r)=>match Γ r with
    |some (.d x)=>some (some r,shD x)
    |_=>none
   |_=>none
  else none
 |.const v=>bif v.oneCell' then some (none,.one (.v v)) else none
 |_=>none
theorem eval_ev {fr:Fr}{a:Act}{γ:Nat→Value}{t:Nat}(h:Nat.blt t fr.n=true):a.eval (.tmp t)=ev fr.n a γ t:=by
 have:t<fr.n:=by simpa[Nat.blt_eq] using h
 simp[Act.eval,ev,this]
theorem vwr_ok {Γ:Ctx}{a:Act}{w:World}{Z:Nat→Prop}{β:Nat→List Nat}{γ:Nat→Value}(h:Core P fr Γ a w Z β γ){x:Operand}{r:Option Nat}{X:Dt}
  (hv:vwr fr.n Γ x=some (r,X)):RD P w (zr Z β r) X (a.eval x) []:=by
 cases x with
 |tmp t=>
  simp only[vwr] at hv
  cases ht:Nat.blt t fr.n with
  |false=>rw[ht] at hv;simp at hv
  |true=>
   rw[ht] at hv
   simp only[cond_true] at hv
   rw[eval_ev (γ:=γ) ht]
   cases hg:Γ t with
   |none=>rw[hg] at hv;simp at hv
   |some e=>
    have he:=h.ent t e hg
    rw[hg] at hv
    cases e with
    |d x=>
     simp only at hv
     cases hp:plain x with
     |false=>
      rw[hp] at hv
      simp at hv
      obtain⟨rfl,rfl⟩:=hv
      exact RD.share he
     |true=>
      rw[hp] at hv
      simp at hv
      obtain⟨rfl,rfl⟩:=hv
      simp only[EntOk] at he
      have:=plain_nil hp he
      rw[this] at he
      exact he
    |dv y x=>
     simp only at hv
     cases hp:plain x with
     |false=>
      rw[hp] at hv
      simp at hv
      obtain⟨rfl,rfl⟩:=hv
      exact RD.share he.2
     |true=>
      rw[hp] at hv
      simp at hv
      obtain⟨rfl,rfl⟩:=hv
      simp only[EntOk] at he
      have:=plain_nil hp he.2
      rw[this] at he
      exact he.2
    |bor q x=>
     simp at hv
     obtain⟨rfl,rfl⟩:=hv
     exact he
    |tup _=>simp at hv
    |tupb _ _ _=>simp at hv
    |hel _ _ _ _=>simp at hv
    |eqn _ _=>simp at hv
    |box _ _=>simp at hv
    |eq q=>
     simp only at hv
     cases hq:Γ q with
     |none=>rw[hq] at hv;cases hv
     |some e0=>
      have he0:=h.ent q e0 hq
      rw[hq] at hv
      cases e0 <;> simp at hv
      obtain⟨rfl,rfl⟩:=hv
      simp only[EntOk] at he he0
      rw[he]
      exact RD.share he0
    |fld _ _=>simp at hv
    |elt _ _ _ _=>simp at hv
    |sp _ _=>simp at hv
    |fn _ _=>simp at hv
    |hbox _ _ _=>simp at hv
    |inn _ _ _ _=>simp at hv
 |const v=>
  simp only[vwr] at hv
  cases hp:v.oneCell' with
  |false=>rw[hp] at hv;simp at hv
  |true=>
   rw[hp] at hv
   simp at hv
   obtain⟨rfl,rfl⟩:=hv
   simp[RD,RC,Act.eval,hp]
 |global g=>simp[vwr] at hv
 |func f=>simp[vwr] at hv
def vs (n:Nat) (Γ:Ctx) (x:Operand):Option Value:=
 match vwr n Γ x with
 |some (_,.one (.v v))=>some v
 |_=>none
theorem vs_ok {Γ:Ctx}{a:Act}{w:World}{Z:Nat→Prop}{β:Nat→List Nat}{γ:Nat→Value}(h:Core P fr Γ a w Z β γ){x:Operand}{v:Value}
  (hv:vs fr.n Γ x=some v):a.eval x=v:=by
 unfold vs at hv
 split at hv
 ·rename_i r u hq
  simp at hv
  subst hv
  have:=vwr_ok h hq
  simp only[RD,RC] at this
  exact this.1
 ·cases hv
def LA (P:Program) (fr:Fr) (E:Ctx) (o:Oper) (δ:List Up):Prop:=
 ∀Γ:Ctx,(∀t e,E t=some e→Γ t=some e)→∀a w (K:Act→World→Prop) Q,St P fr Γ a w→(∀a' w',St P fr (upd Γ δ) a' w'→K a' w')→o.wp P a w K Q
theorem wp_of_run {o:Oper}{a:Act}{w w':World}{v:Value}{K:Act→World→Prop}{Q:Exit→Act→World→Prop}
  (h:(execOp a.eval o).run P w=.ok (.value v) w')(hk:K (a.put o.dst v) w'):o.wp P a w K Q:=by
 unfold Oper.wp
 rw[h]
 exact hk
def E_le (E Γ:Ctx):Prop:=∀t e,E t=some e→Γ t=some e
theorem vwr_le {n:Nat}{E Γ:Ctx}(hle:E_le E Γ){x:Operand}{q:Option Nat×Dt}(h:vwr n E x=some q):vwr n Γ x=some q:=by
  cases x with
  |tmp t=>
    simp only[vwr] at h ⊢
    cases ht:Nat.blt t n with
    |false=>rw[ht] at h;simp at h
    |true=>
      rw[ht] at h
      simp only[cond_true] at h ⊢
      cases hg:E t with
      |none=>rw[hg] at h;simp at h
      |some e=>
        rw[hg] at h
        rw[hle t e hg]
        cases e <;> first
          |exact h
          | (rename_i q
             simp only at h ⊢
             cases hq:E q with
             |none=>rw[hq] at h;cases h
             |some e0=>rw[hq] at h;rw[hle q e0 hq];exact h)
  |const v=>exact h
  |global g=>exact h
  |func f=>exact h
theorem vs_le {n:Nat}{E Γ:Ctx}(hle:E_le E Γ){x:Operand}{v:Value}(h:vs n E x=some v):vs n Γ x=some v:=by
 unfold vs at h ⊢
 cases hq:vwr n E x with
 |none=>rw[hq] at h;simp at h
 |some q=>rw[hq] at h;rw[vwr_le hle hq];exact h
theorem ev_put {n:Nat}{a:Act}{γ:Nat→Value}{t:Nat}{v:Value}(hs:a.tmps.size=n)(ht:Nat.blt t n=true) (u:Nat) :
  ev n (a.put (some t) v) γ u=if u=t then v else ev n a γ u:=by
 have ht':t<n:=by simpa[Nat.blt_eq] using ht
 unfold ev
 by_cases hu:u=t
 ·subst hu
  simp[ht',Act.put,hs]
 ·simp only[hu,if_false]
  by_cases hn:u<n
  ·simp only[hn,if_true,Act.put]
   simp[Array.getD_eq_getD_getElem?,Array.getElem?_setIfInBounds_ne (Ne.symm hu)]
  ·simp[hn]
theorem LA.val {E:Ctx}{o:Oper}{t:Nat}{e:Ent}(hd:o.dst=some t)(ht:Nat.blt t fr.n=true)
  (hrun:∀(Γ:Ctx) a w Z β γ,E_le E Γ→Core P fr Γ a w Z β γ→∃v,(execOp a.eval o).run P w=.ok (.value v) w∧
   ∀β' ev',β' t=[]→(∀u,u≠t→β' u=β u)→ev' t=v→(∀u,u≠t→ev' u=ev fr.n a γ u)→EntOk P w Z β' ev' t e) :
  LA P fr E o [⟨t,true,some e⟩]:=by
 intro Γ hle a w K Q ⟨Z,β,γ,h⟩ hk
 obtain⟨v,hr,he⟩:=hrun Γ a w Z β γ hle h
 refine wp_of_run hr (hk _ _ ⟨Z,fun u=>if u=t then[] else β u,γ,?_⟩)
 rw[hd]
 have hlook:∀u,look [⟨t,true,some e⟩] u=if u=t then some ⟨t,true,some e⟩ else none:=by
  intro u
  simp only[look]
  by_cases hu:u=t
  ·subst hu;simp
  ·have:Nat.beq t u=false:=by
    cases hb:Nat.beq t u with
    |false=>rfl
    |true=>exact absurd (Nat.eq_of_beq_eq_true hb).symm hu
   simp[this,hu]
 refine h.turn _ (by simpa[Act.put] using h.defers) (by simpa[Act.put] using h.size) h.evo h.zlt (fun b hb=>⟨hb,rfl⟩) h.znew ?_ ?_ ?_ ?_ ?_ ?_ ?_
 ·intro u b hb
  by_cases hu:u=t
  ·simp[hu] at hb
  ·simp only[hu,if_false] at hb;exact h.own u b hb
 ·intro u
  by_cases hu:u=t
  ·simp[hu]
  ·simp only[hu,if_false];exact h.nodup u
 ·intro u u' b hne hb
  by_cases hu:u=t
  ·simp[hu] at hb
  ·simp only[hu,if_false] at hb
   by_cases hu':u'=t
   ·simp[hu']
   ·simp only[hu',if_false];exact h.disj u u' b hne hb
 ·intro u hu
  rw[ev_put h.size ht]
  rw[hlook] at hu
  by_cases hut:u=t
  ·simp[hut] at hu
  ·simp[hut]
 ·intro u hu
  rw[hlook] at hu
  by_cases hut:u=t
  ·simp[hut] at hu
  ·simp[hut]
 ·intro u _ b _;rfl
 ·intro u p e' hl hp
  rw[hlook] at hl
  by_cases hut:u=t
  ·subst hut
   simp at hl
   subst hl
   simp at hp
   subst hp
   exact he _ _ (by simp) (fun u hu=>by simp[hu]) (by rw[ev_put h.size ht];simp) (fun u hu=>by rw[ev_put h.size ht];simp[hu])
  ·simp[hut] at hl
theorem LA.scal {E:Ctx}{o:Oper}{t:Nat}{v:Value}(hd:o.dst=some t)(ht:Nat.blt t fr.n=true)(h1:v.oneCell'=true)
  (hrun:∀(Γ:Ctx) a w Z β γ,E_le E Γ→Core P fr Γ a w Z β γ→(execOp a.eval o).run P w=.ok (.value v) w) :
  LA P fr E o [⟨t,true,some (.d (.one (.v v)))⟩]:=
 LA.val hd ht fun Γ a w Z β γ hle h=>⟨v,hrun Γ a w Z β γ hle h,fun β' ev' hb _ hv _=>by simp[EntOk,RD,RC,hb,hv,h1]⟩
theorem run_mv {ρ:Operand→Value}{o:Oper}{x:Operand}(h:o.op=.move x∨o.op=.assign x) (w:World):(execOp ρ o).run P w=.ok (.value (ρ x)) w:=by
 rcases h with h|h <;> (unfold execOp;rw[h];rfl)
def cp (n:Nat) (Γ:Ctx):Operand→Option Ent
 |.tmp t=>bif Nat.blt t n then
   match Γ t with
   |some (.d x)=>some (bif plain x then .d x else .eq t)
   |some (.dv y x)=>some (bif plain x then .dv y x else .eq t)
   |some (.tup _)=>some (.eq t)
   |some (.tupb _ _ _)=>some (.eq t)
   |some (.hel _ _ _ _)=>some (.eq t)
   |some (.box _ _)=>some (.eq t)
   |some (.hbox _ _ _)=>some (.eq t)
   |some e=>some e
   |none=>none
  else none
 |.const v=>bif v.oneCell' then some (.d (.one (.v v))) else none
 |.func f=>some (.fn f [])
 |_=>none
theorem la_mv {E:Ctx}{o:Oper}{x:Operand}{t:Nat}{e:Ent}(ho:o.op=.move x∨o.op=.assign x)(hd:o.dst=some t)(ht:Nat.blt t fr.n=true)
  (hx:cp fr.n E x=some e)(hne:e.hdep t=false):LA P fr E o [⟨t,true,some e⟩]:=by
 refine LA.val hd ht fun Γ a w Z β γ hle h=>⟨a.eval x,run_mv ho w,fun β' ev' hb hb' hv hv'=>?_⟩
 have hz:∀r:Option Nat,r≠some t→∀b,zr Z β r b↔zr Z β' r b:=by
  intro r hr b
  cases r with
  |none=>rfl
  |some q=>simp only[zr];rw[hb' q (fun e=>hr (by rw[e]))]
 cases x with
 |const v=>
  simp only[cp] at hx
  cases hp:v.oneCell' with
  |false=>rw[hp] at hx;simp at hx
  |true=>
   rw[hp] at hx
   simp at hx
   subst hx
   simp[EntOk,RD,RC,hb,hv,Act.eval,hp]
 |func f=>
  simp[cp] at hx
  subst hx
  simp only[EntOk,hv]
  rfl
 |global g=>simp[cp] at hx
 |tmp s=>
  simp only[cp] at hx
  cases hs:Nat.blt s fr.n with
  |false=>rw[hs] at hx;simp at hx
  |true=>
   rw[hs] at hx
   simp only[cond_true] at hx
   rw[eval_ev (γ:=γ) hs] at hv
   cases hg:E s with
   |none=>rw[hg] at hx;simp at hx
   |some e0=>
    have he:=h.ent s e0 (hle s e0 hg)
    rw[hg] at hx
    have heq:∀e,e=.eq s→e.hdep t=false→EntOk P w Z β' ev' t e:=by
     rintro e rfl hne
     have hst:s≠t:=by rintro rfl;simp[Ent.hdep] at hne
     simp only[EntOk]
     rw[hv,hv' s hst]
    cases e0 with
    |d x=>
     simp only at hx
     cases hp:plain x with
     |false=>rw[hp] at hx;simp at hx;exact heq e hx.symm hne
     |true=>
      rw[hp] at hx
      simp at hx
      subst hx
      simp only[EntOk] at he ⊢
      rw[plain_nil hp he] at he
      rw[hb,hv]
      exact he
    |dv y x=>
     simp only at hx
     cases hp:plain x with
     |false=>rw[hp] at hx;simp at hx;exact heq e hx.symm hne
     |true=>
      rw[hp] at hx
      simp at hx
      subst hx
      simp only[EntOk] at he ⊢
      rw[plain_nil hp he.2] at he
      rw[hb,hv]
      exact he
    |tup _=>simp at hx;exact heq e hx.symm hne
    |tupb _ _ _=>simp at hx;exact heq e hx.symm hne
    |hel _ _ _ _=>simp at hx;exact heq e hx.symm hne
    |box _ _=>simp at hx;exact heq e hx.symm hne
    |hbox _ _ _=>simp at hx;exact heq e hx.symm hne
    |inn r E' i k=>
     simp at hx
     subst hx
     have hrt:r≠t:=by rintro rfl;simp[Ent.hdep] at hne
     simp only[EntOk] at he ⊢
     rw[hv,hv' r hrt,hb' r hrt]
     exact he
    |eqn r n=>
     simp at hx
     subst hx
     have hrt:r≠t:=by rintro rfl;simp[Ent.hdep] at hne
     simp only[EntOk] at he ⊢
     rw[hv,hv' r hrt]
     exact he
    |bor r x=>
     simp at hx
     subst hx
     have hrt:r≠t:=by rintro rfl;simp[Ent.hdep] at hne
     simp only[EntOk] at he ⊢
     rw[hv]
     exact RD.mono (fun b=>(hz (some r) (by simpa using hrt) b).1) (fun _ _=>rfl) he
    |eq r=>
     simp at hx
     subst hx
     have hrt:r≠t:=by rintro rfl;simp[Ent.hdep] at hne
     simp only[EntOk] at he ⊢
     rw[hv,hv' r hrt]
     exact he
    |fld r k=>
     simp at hx
     subst hx
     have hrt:r≠t:=by rintro rfl;simp[Ent.hdep] at hne
     simp only[EntOk] at he ⊢
     rw[hv,hv' r hrt]
     exact he
    |elt r E' i k=>
     simp at hx
     subst hx
     have hrt:r≠t:=by rintro rfl;simp[Ent.hdep] at hne
     simp only[EntOk] at he ⊢
     rw[hv,hv' r hrt]
     exact he
    |sp r cs=>
     simp at hx
     subst hx
     have hrt:r≠some t:=by rintro rfl;simp[Ent.hdep] at hne
     simp only[EntOk] at he ⊢
     rw[hv]
     obtain⟨ad,vs,h1,h2,h3,h4⟩:=he
     exact⟨ad,vs,h1,h2,RL.mono (fun b=>(hz r hrt b).1) cs (fun _ _=>rfl) h3,h4.imp id (hz r hrt _).1⟩
    |fn f caps=>
     simp at hx
     subst hx
     simp only[EntOk] at he ⊢
     rw[hv,he]
     congr 2
     refine List.map_congr_left (fun r hr=>(hv' r ?_).symm)
     rintro rfl
     simp only[Ent.hdep,List.any_eq_false] at hne
     exact absurd (by simp) (hne r hr)
end Go.Proofs.YtkbcahfajbdgnaaGreatDoorT
namespace Go.Proofs.YtkbcahfajbdgnaaGreatDoorT
open Go
variable {P:Program}{fr:Fr}
def shrV (k:IntKind) (a b:Int):Option Int:=bif decide (0≤b) then some (a.fdiv (2 ^ (min b.toNat k.bits))) else none
def shlV (k:IntKind) (a b:Int):Option Int:=bif decide (0≤b) then some (k.wrap (a*2 ^ (min b.toNat k.bits))) else none
theorem shrV_some {k:IntKind}{a b z:Int}(h:shrV k a b=some z):¬b<0∧z=a.fdiv (2 ^ (min b.toNat k.bits)):=by
 unfold shrV at h
 cases hb:decide (0≤b) with
 |false=>rw[hb] at h;cases h
 |true=>rw[hb] at h;simp only[decide_eq_true_eq] at hb;cases h;exact⟨by omega,rfl⟩
theorem shlV_some {k:IntKind}{a b z:Int}(h:shlV k a b=some z):¬b<0∧z=k.wrap (a*2 ^ (min b.toNat k.bits)):=by
 unfold shlV at h
 cases hb:decide (0≤b) with
 |false=>rw[hb] at h;cases h
 |true=>rw[hb] at h;simp only[decide_eq_true_eq] at hb;cases h;exact⟨by omega,rfl⟩
def andV (k:IntKind) (a b:Int):Int:=k.wrap (BitVec.ofInt k.bits a&&& BitVec.ofInt k.bits b).toNat
def orV (k:IntKind) (a b:Int):Int:=k.wrap (BitVec.ofInt k.bits a||| BitVec.ofInt k.bits b).toNat
def xorV (k:IntKind) (a b:Int):Int:=k.wrap (BitVec.ofInt k.bits a ^^^ BitVec.ofInt k.bits b).toNat
def binV:BinOp→Value→Value→Option Value
 |.shr,.int k a,.int _ b=>match shrV k a b with
  |some z=>some (.int k z)
  |none=>none
 |.shl,.int k a,.int _ b=>match shlV k a b with
  |some z=>some (.int k z)
  |none=>none
 |.and,.int k a,.int j b=>if k=j then some (.int k (andV k a b)) else none
 |.or,.int k a,.int j b=>if k=j then some (.int k (orV k a b)) else none
 |.xor,.int k a,.int j b=>if k=j then some (.int k (xorV k a b)) else none
 |op,.int .i64 a,.int .i64 b=>match op with
  |.add=>some (.int .i64 (IntKind.i64.wrap (a+b)))
  |.sub=>some (.int .i64 (IntKind.i64.wrap (a-b)))
  |.mul=>some (.int .i64 (IntKind.i64.wrap (a*b)))
  |.quo=>if b=0 then none else some (.int .i64 (IntKind.i64.wrap (a.tdiv b)))
  |.rem=>if b=0 then none else some (.int .i64 (a.tmod b))
  |.eql=>some (.bool (a==b))
  |.neq=>some (.bool (a != b))
  |.lss=>some (.bool (decide (a<b)))
  |.leq=>some (.bool (decide (a≤b)))
  |.gtr=>some (.bool (decide (a>b)))
  |.geq=>some (.bool (decide (a≥b)))
  |_=>none
 |op,.int .u8 a,.int .u8 b=>match op with
  |.add=>some (.int .u8 (IntKind.u8.wrap (a+b)))
  |.sub=>some (.int .u8 (IntKind.u8.wrap (a-b)))
  |.rem=>if b=0 then none else some (.int .u8 (a.tmod b))
  |.eql=>some (.bool (a==b))
  |.neq=>some (.bool (a != b))
  |.lss=>some (.bool (decide (a<b)))
  |.leq=>some (.bool (decide (a≤b)))
  |.gtr=>some (.bool (decide (a>b)))
  |.geq=>some (.bool (decide (a≥b)))
  |_=>none
 |op,.string a,.string b=>match op with
  |.eql=>some (.bool (a.toList==b.toList))
  |.neq=>some (.bool (!(a.toList==b.toList)))
  |.lss=>some (.bool (Op.bytesLess a.toList b.toList))
  |.geq=>some (.bool (!(Op.bytesLess a.toList b.toList)))
  |_=>none
 |_,_,_=>none
theorem run_bin {ρ:Operand→Value}{o:Oper}{op:BinOp}{T T':TypeId}{x y:Operand}{r:Value}(ho:o.op=.binOp op T x y T')(h:binV op (ρ x) (ρ y)=some r) (w:World) :
  (execOp ρ o).run P w=.ok (.value r) w:=by
 unfold execOp
 rw[ho]
 generalize hx:ρ x=u at h
 generalize hy:ρ y=v at h
 simp only[hx,hy]
 unfold binV at h
 split at h
 ·split at h
  ·rename_i hz
   obtain⟨h1,rfl⟩:=shrV_some hz
   cases h
   simp[binOp,eqGuard,Op.shift,h1]
   try rfl
  ·cases h
 ·split at h
  ·rename_i hz
   obtain⟨h1,rfl⟩:=shlV_some hz
   cases h
   simp[binOp,eqGuard,Op.shift,h1]
   try rfl
  ·cases h
 ·split at h
  ·rename_i hk;cases h;subst hk;simp[binOp,eqGuard,Op.intBits];rfl
  ·cases h
 ·split at h
  ·rename_i hk;cases h;subst hk;simp[binOp,eqGuard,Op.intBits];rfl
  ·cases h
 ·split at h
  ·rename_i hk;cases h;subst hk;simp[binOp,eqGuard,Op.intBits];rfl
  ·cases h
 ·cases op <;> simp_all [binOp,eqGuard,Op.intArith,Op.intDiv,Op.intCmp] <;> first|(rw[←h];rfl)|(obtain⟨h1,h2⟩:=h;simp[h1,←h2];rfl)|(subst h;rfl)
 ·cases op <;> simp_all [binOp,eqGuard,Op.intArith,Op.intDiv,Op.intCmp] <;> first|(rw[←h];rfl)|(obtain⟨h1,h2⟩:=h;simp[h1,←h2];rfl)|(subst h;rfl)
 ·cases op <;> simp_all [binOp,eqGuard,Op.stringOp] <;> first|(rw[←h];rfl)|(subst h;rfl)
 ·cases h
theorem binV_one {op:BinOp}{u v r:Value}(h:binV op u v=some r):r.oneCell'=true:=by
 unfold binV at h
 split at h <;> first
  |(split at h <;> first|(cases h;rfl)|cases h)
  |(cases op <;> simp at h <;> first|(rw[←h];rfl)|(rw[←h.2];rfl))
  |cases h
theorem la_bin {E:Ctx}{o:Oper}{t:Nat}{op:BinOp}{T T':TypeId}{x y:Operand}{u v r:Value}(ho:o.op=.binOp op T x y T')(hd:o.dst=some t)(ht:Nat.blt t fr.n=true)
  (hx:vs fr.n E x=some u)(hy:vs fr.n E y=some v)(hb:binV op u v=some r):LA P fr E o [⟨t,true,some (.d (.one (.v r)))⟩]:=
 LA.scal hd ht (binV_one hb) fun Γ a w Z β γ hle h=>run_bin ho (by rw[vs_ok h (vs_le hle hx),vs_ok h (vs_le hle hy)];exact hb) w
theorem la_not {E:Ctx}{o:Oper}{t:Nat}{T:TypeId}{x:Operand}{b:Bool}(ho:o.op=.unOp .not T x)(hd:o.dst=some t)(ht:Nat.blt t fr.n=true)
  (hx:vs fr.n E x=some (.bool b)):LA P fr E o [⟨t,true,some (.d (.one (.v (.bool (!b)))))⟩]:=
 LA.scal hd ht rfl fun Γ a w Z β γ hle h=>by
  unfold execOp
  rw[ho]
  simp only[vs_ok h (vs_le hle hx)]
  rfl
theorem la_neg {E:Ctx}{o:Oper}{t:Nat}{T:TypeId}{x:Operand}{i:Int}(ho:o.op=.unOp .neg T x)(hd:o.dst=some t)(ht:Nat.blt t fr.n=true)
  (hx:vs fr.n E x=some (.int .i64 i)):LA P fr E o [⟨t,true,some (.d (.one (.v (.int .i64 (IntKind.i64.wrap (0-i))))))⟩]:=
 LA.scal hd ht rfl fun Γ a w Z β γ hle h=>by
  unfold execOp
  rw[ho]
  simp only[vs_ok h (vs_le hle hx)]
  rfl
def bt (s:ByteArray) (i:Int):Int:=if h:i.toNat<s.size then((s[i.toNat]'h).toNat:Int) else 0
theorem la_index {E:Ctx}{o:Oper}{t:Nat}{T:TypeId}{x y:Operand}{s:ByteArray}{i:Int}(ho:o.op=.index T x y)(hd:o.dst=some t)(ht:Nat.blt t fr.n=true)
  (hT:P.underlying T=some .string)(hx:vs fr.n E x=some (.string s))(hy:vs fr.n E y=some (.int .i64 i))(h0:0≤i)(h1:i<(s.size:Int)) :
  LA P fr E o [⟨t,true,some (.d (.one (.v (.int .u8 (bt s i)))))⟩]:=
 LA.scal hd ht rfl fun Γ a w Z β γ hle h=>by
  unfold execOp
  rw[ho]
  simp only[vs_ok h (vs_le hle hx),vs_ok h (vs_le hle hy)]
  have hlt:i.toNat<s.size:=by omega
  simp[Instr.index,asIntOf,run_underlying hT,h0,bt,hlt]
theorem la_len {E:Ctx}{o:Oper}{t:Nat}{T E':TypeId}{x:Operand}{r:Option Nat}{b:Bool}{Et:TypeId}{α:Type}{f:α→List C}{xs:List α}
  (ho:o.op=.call {callee:=.builtin .len,args:=#[x],argTypes:=#[T]})(hd:o.dst=some t)(ht:Nat.blt t fr.n=true)
  (hT:P.underlying T=some (.slice E'))(hx:vwr fr.n E x=some (r,.one (.sl b Et (xs.map f)))) :
  LA P fr E o [⟨t,true,some (.d (.one (.v (.int .i64 (xs.length:Int)))))⟩]:=
 LA.scal hd ht rfl fun Γ a w Z β γ hle h=>by
  have hv:=vwr_ok h (vwr_le hle hx)
  simp only[RD,RC] at hv
  have hq:∃ad cap,a.eval x=.slice ad xs.length cap:=by
   rcases hv with⟨h1,h2,_⟩|⟨ad,cap,vs,_,_,hy,_⟩|⟨g,cap,cur,bs,_,_,hy,_⟩
   ·have:xs=[]:=by simpa using h2
    subst this
    exact⟨none,0,h1⟩
   ·exact⟨_,cap,by simpa using hy⟩
   ·exact⟨_,cap,by simpa using hy⟩
  obtain⟨ad,cap,hq⟩:=hq
  unfold execOp
  rw[ho]
  simp[resolve,invoke,builtin,Builtin.len_,run_underlying hT,hq,goInt]
theorem la_lens {E:Ctx}{o:Oper}{t:Nat}{T:TypeId}{x:Operand}{s:ByteArray}
  (ho:o.op=.call {callee:=.builtin .len,args:=#[x],argTypes:=#[T]})(hd:o.dst=some t)(ht:Nat.blt t fr.n=true)
  (hT:P.underlying T=some .string)(hx:vs fr.n E x=some (.string s)) :
  LA P fr E o [⟨t,true,some (.d (.one (.v (.int .i64 (s.size:Int)))))⟩]:=
 LA.scal hd ht rfl fun Γ a w Z β γ hle h=>by
  unfold execOp
  rw[ho]
  simp[resolve,invoke,builtin,Builtin.len_,run_underlying hT,vs_ok h (vs_le hle hx),goInt]
end Go.Proofs.YtkbcahfajbdgnaaGreatDoorT
namespace Go.Proofs.YtkbcahfajbdgnaaGreatDoorT
open Go
variable {P:Program}{fr:Fr}
section
variable {w:World}{Z:Nat→Prop}
theorem RL.app:∀(l1 l2:List C) (vs:List Value) (bs:List Nat),RL P w Z (l1++l2) vs bs↔∃v1 v2 b1 b2,vs=v1++v2∧bs=b1++b2∧RL P w Z l1 v1 b1∧RL P w Z l2 v2 b2
 |[],l2,vs,bs=>by
  simp only[List.nil_append,RL]
  constructor
  ·intro h;exact⟨[],vs,[],bs,rfl,rfl,⟨rfl,rfl⟩,h⟩
  ·rintro⟨v1,v2,b1,b2,rfl,rfl,⟨rfl,rfl⟩,h⟩;simpa using h
 |c::l1,l2,vs,bs=>by
  simp only[List.cons_append,RL]
  constructor
  ·rintro⟨y,vs',b1,b2,rfl,rfl,hc,hr⟩
   obtain⟨v1,v2,b3,b4,rfl,rfl,h1,h2⟩:=(RL.app l1 l2 _ _).1 hr
   exact⟨y::v1,v2,b1++b3,b4,by simp,by simp,⟨y,v1,b1,b3,rfl,rfl,hc,h1⟩,h2⟩
  ·rintro⟨v1,v2,b1,b2,rfl,rfl,⟨y,v1',b3,b4,rfl,rfl,hc,h1⟩,h2⟩
   exact⟨y,v1'++v2,b3,b4++b2,by simp,by simp,hc,(RL.app l1 l2 _ _).2 ⟨v1',v2,b4,b2,rfl,rfl,h1,h2⟩⟩
theorem RLL.app:∀(l1 l2:List (List C)) (vs:List Value) (bs:List Nat),RLL P w Z (l1++l2) vs bs↔∃v1 v2 b1 b2,vs=v1++v2∧bs=b1++b2∧RLL P w Z l1 v1 b1∧RLL P w Z l2 v2 b2
 |[],l2,vs,bs=>by
  simp only[List.nil_append,RLL]
  constructor
  ·intro h;exact⟨[],vs,[],bs,rfl,rfl,⟨rfl,rfl⟩,h⟩
  ·rintro⟨v1,v2,b1,b2,rfl,rfl,⟨rfl,rfl⟩,h⟩;simpa using h
 |c::l1,l2,vs,bs=>by
  simp only[List.cons_append,RLL]
  constructor
  ·rintro⟨y,vs',b1,b2,rfl,rfl,hc,hr⟩
   obtain⟨v1,v2,b3,b4,rfl,rfl,h1,h2⟩:=(RLL.app l1 l2 _ _).1 hr
   exact⟨y++v1,v2,b1++b3,b4,by simp,by simp,⟨y,v1,b1,b3,rfl,rfl,hc,h1⟩,h2⟩
  ·rintro⟨v1,v2,b1,b2,rfl,rfl,⟨y,v1',b3,b4,rfl,rfl,hc,h1⟩,h2⟩
   exact⟨y,v1'++v2,b3,b4++b2,by simp,by simp,hc,(RLL.app l1 l2 _ _).2 ⟨v1',v2,b4,b2,rfl,rfl,h1,h2⟩⟩
theorem split_at {α:Type}{l:List α}{i:Nat}{x:α}(h:l[i]?=some x):l=l.take i++x::l.drop (i+1):=by
 have hi:i<l.length:=(List.getElem?_eq_some_iff.1 h).1
 have:=(List.getElem?_eq_some_iff.1 h).2
 rw[←this]
 simp
theorem RLL.get {k:Nat}{es:List (List C)}{vs:List Value}{bs:List Nat}(hk:∀e∈es,e.length=k)(h:RLL P w Z es vs bs){i:Nat}{e:List C}(hi:es[i]?=some e) :
  ∃v1 v v2 b1 b b2,vs=v1++v++v2∧bs=b1++b++b2∧v1.length=i*k∧v.length=k∧RLL P w Z (es.take i) v1 b1∧RL P w Z e v b∧RLL P w Z (es.drop (i+1)) v2 b2:=by
 rw[split_at hi] at h
 obtain⟨v1,v2,b1,b2,rfl,rfl,h1,h2⟩:=(RLL.app _ _ _ _).1 h
 simp only[RLL] at h2
 obtain⟨u1,u2,c1,c2,rfl,rfl,h3,h4⟩:=h2
 have hlt:i<es.length:=(List.getElem?_eq_some_iff.1 hi).1
 have hm:e∈es:=List.mem_of_getElem? hi
 refine⟨v1,u1,u2,b1,c1,c2,by simp,by simp,?_,?_,h1,h3,h4⟩
 ·rw[RLL.length (k:=k) _ (fun e he=>hk e (List.mem_of_mem_take he)) h1,List.length_take,Nat.min_eq_left (by omega)]
 ·rw[RL.length _ h3,hk e hm]
theorem RL.get {cs:List C}{vs:List Value}{bs:List Nat}(h:RL P w Z cs vs bs){i:Nat}{c:C}(hi:cs[i]?=some c) :
  ∃v1 y v2 b1 b b2,vs=v1++y::v2∧bs=b1++b++b2∧v1.length=i∧RL P w Z (cs.take i) v1 b1∧RC P w Z c y b∧RL P w Z (cs.drop (i+1)) v2 b2:=by
 rw[split_at hi] at h
 obtain⟨v1,v2,b1,b2,rfl,rfl,h1,h2⟩:=(RL.app _ _ _ _).1 h
 simp only[RL] at h2
 obtain⟨y,u2,c1,c2,rfl,rfl,h3,h4⟩:=h2
 have hlt:i<cs.length:=(List.getElem?_eq_some_iff.1 hi).1
 refine⟨v1,y,u2,b1,c1,c2,rfl,by simp,?_,h1,h3,h4⟩
 rw[RL.length _ h1,List.length_take,Nat.min_eq_left (by omega)]
theorem get_mid {v1 v v2:List Value}{j:Nat}{x:Value}(h:v[j]?=some x):(v1++v++v2)[v1.length+j]?=some x:=by
 have hj:j<v.length:=(List.getElem?_eq_some_iff.1 h).1
 rw[List.append_assoc,List.getElem?_append_right (by omega),List.getElem?_append_left (by omega)]
 simpa using h
end
theorem add_add (a:Addr) (i j:Nat):(a.add i).add j=a.add (i+j):=by
 unfold Addr.add
 by_cases hi:i=0
 ·subst hi;simp
 ·by_cases hj:j=0
  ·subst hj;simp
  ·simp[hi,hj,Nat.add_assoc]
theorem la_idx {E:Ctx}{o:Oper}{t:Nat}{T Et:TypeId}{x y:Operand}{r:Option Nat}{b:Bool}{i:Int}{α:Type}{f:α→List C}{xs:List α}{z:α}{info:TypeInfo}
  (ho:o.op=.indexAddr T x y)(hd:o.dst=some t)(ht:Nat.blt t fr.n=true)(hT:P.underlying T=some (.slice Et))(hi:P.info? Et=some info)
  (hx:vwr fr.n E x=some (r,.one (.sl b Et (xs.map f))))(hy:vs fr.n E y=some (.int .i64 i))(h0:0≤i)(hz:xs[i.toNat]?=some z)(hr:r≠some t) :
  LA P fr E o [⟨t,true,some (.sp r (f z))⟩]:=by
 refine LA.val hd ht fun Γ a w Z β γ hle h=>?_
 have hv:=vwr_ok h (vwr_le hle hx)
 have hsz:szOf P Et=info.size:=by simp[szOf,hi]
 have hlt:i.toNat<xs.length:=(List.getElem?_eq_some_iff.1 hz).1
 simp only[RD,RC] at hv
 rcases hv with⟨_,h2,_⟩|⟨ad,cap,vs,_,_,hq,h1,h2,hzo,hc,hl,hr'⟩|⟨g,cap,cur,bs,_,hbs,_⟩
 ·simp at h2;simp[h2] at hlt
 ·have hel:(xs.map f)[i.toNat]?=some (f z):=by simp[hz]
  obtain⟨v1,v,v2,b1,b2,b3,hvs,hbs,hl1,hl2,_,hrl,_⟩:=RLL.get hl hr' hel
  have hb2:b2=[]:=by simp_all
  subst hb2
  refine⟨.pointer (some (ad.add (i.toNat*szOf P Et))),?_,fun β' ev' hb hb' hv hv'=>?_⟩
  ·unfold execOp
   rw[ho]
   have hil:i<((xs.length:Nat):Int):=by omega
   simp[Instr.indexAt,hq,vs_ok h (vs_le hle hy),asIntOf,run_underlying hT,h0,sizeOf,typeInfo,hi,hsz,hil]
  ·have hz':∀b,zr Z β r b→zr Z β' r b:=by
    intro b hb
    cases r with
    |none=>exact hb
    |some q=>simp only[zr] at hb ⊢;rw[hb' q (by rintro rfl;exact hr rfl)];exact hb
   simp only[EntOk]
   refine⟨_,v,hv,?_,RL.mono hz' _ (fun _ _=>rfl) hrl,?_⟩
   ·intro k x hk
    rw[add_add]
    refine hc _ x ?_
    rw[hvs,←hl1]
    exact get_mid hk
   ·rcases hzo with hzo|hzo
    ·simp at hzo;simp[hzo] at hlt
    ·right;rw[add_block];exact hz' _ hzo
 ·cases hbs
def mkv:Option Nat→Dt→Ent
 |none,x=>.d x
 |some _,.one (.v x)=>.d (.one (.v x))
 |some r,x=>.bor r x
theorem mkv_ok {w:World}{Z:Nat→Prop}{β:Nat→List Nat}{ev:Nat→Value}{t:Nat}{r:Option Nat}{x:Dt}(hb:β t=[])(h:RD P w (zr Z β r) x (ev t) []):EntOk P w Z β ev t (mkv r x):=by
 cases r with
 |none=>simp only[mkv,EntOk];rw[hb];exact h
 |some q=>
  cases x with
  |agg cs=>exact h
  |one c=>
   cases c with
   |sl o E es=>exact h
   |v y=>simp only[mkv,EntOk,RD,RC] at h ⊢;exact⟨h.1,h.2.1,hb⟩
def spOf (n:Nat) (Γ:Ctx):Operand→Option (Option Nat×List C)
 |.tmp t=>bif Nat.blt t n then
   match Γ t with
   |some (.sp r cs)=>some (r,cs)
   |_=>none
  else none
 |_=>none
theorem spOf_ok {Γ:Ctx}{a:Act}{w:World}{Z:Nat→Prop}{β:Nat→List Nat}{γ:Nat→Value}(h:Core P fr Γ a w Z β γ){x:Operand}{r:Option Nat}{cs:List C}
  (hv:spOf fr.n Γ x=some (r,cs)):∃ad vs,a.eval x=.pointer (some ad)∧(∀k x,vs[k]?=some x→w.cell? (ad.add k)=some x)∧RL P w (zr Z β r) cs vs []∧(cs=[]∨zr Z β r ad.block):=by
 cases x with
 |tmp t=>
  simp only[spOf] at hv
  cases ht:Nat.blt t fr.n with
  |false=>rw[ht] at hv;simp at hv
  |true=>
   rw[ht] at hv
   simp only[cond_true] at hv
   cases hg:Γ t with
   |none=>rw[hg] at hv;simp at hv
   |some e=>
    have he:=h.ent t e hg
    rw[hg] at hv
    cases e <;> simp at hv
    obtain⟨rfl,rfl⟩:=hv
    rw[eval_ev (γ:=γ) ht]
    exact he
 |const v=>simp[spOf] at hv
 |global g=>simp[spOf] at hv
 |func f=>simp[spOf] at hv
theorem spOf_le {n:Nat}{E Γ:Ctx}(hle:E_le E Γ){x:Operand}{q:Option Nat×List C}(h:spOf n E x=some q):spOf n Γ x=some q:=by
 cases x with
 |tmp t=>
  simp only[spOf] at h ⊢
  cases ht:Nat.blt t n with
  |false=>rw[ht] at h;simp at h
  |true=>
   rw[ht] at h
   simp only[cond_true] at h ⊢
   cases hg:E t with
   |none=>rw[hg] at h;simp at h
   |some e=>rw[hg] at h;rw[hle t e hg];exact h
 |const v=>exact h
 |global g=>exact h
 |func f=>exact h
def flatT (P:Program) (T:TypeId):Bool:=match P.underlying T with
 |some d=>!d.isRow
 |none=>false
def rowT (P:Program) (T:TypeId):Bool:=match P.underlying T with
 |some d=>d.isRow&&(P.info? T).isSome
 |none=>false
theorem run_load_flat {T:TypeId}(hT:flatT P T=true){ad:Addr}{w:World}{x:Value}(hc:w.cell? ad=some x):(Instr.loadAt T (.pointer (some ad))).run P w=.ok x w:=by
 unfold flatT at hT
 cases hu:P.underlying T with
 |none=>rw[hu] at hT;simp at hT
 |some d=>
  rw[hu] at hT
  have hagg:(isAgg T).run P w=.ok false w:=by
   unfold isAgg
   rw[Sem.run_bind,run_underlying hu w]
   cases d <;> simp_all
  simp[Instr.loadAt,Instr.sureAddr,loadVar,Sem.run_bind,hagg,load,Sem.run,hc]
theorem run_load_row {T:TypeId}(hT:rowT P T=true){ad:Addr}{w:World}{vs:List Value}(hn:vs.length=szOf P T)(hc:∀k x,vs[k]?=some x→w.cell? (ad.add k)=some x) :
  (Instr.loadAt T (.pointer (some ad))).run P w=.ok (.agg vs.toArray) w:=by
 unfold rowT at hT
 cases hu:P.underlying T with
 |none=>rw[hu] at hT;simp at hT
 |some d=>
  rw[hu] at hT
  simp only[Bool.and_eq_true] at hT
  obtain⟨hd,hi⟩:=hT
  cases hq:P.info? T with
  |none=>rw[hq] at hi;simp at hi
  |some i=>
   have hagg:(isAgg T).run P w=.ok true w:=by
    unfold isAgg
    rw[Sem.run_bind,run_underlying hu w]
    cases d <;> simp_all
   have hs:i.size=vs.length:=by rw[hn];simp[szOf,hq]
   have hl:(loadCells ad vs.length).run P w=.ok vs.toArray w:=run_loadCells_list (P:=P) w ad vs (fun j v hv=>hc j v hv)
   simp[Instr.loadAt,Instr.sureAddr,loadVar,Sem.run_bind,hagg,sizeOf,typeInfo,hq,hs,hl]
theorem la_ld {E:Ctx}{o:Oper}{t:Nat}{T:TypeId}{x:Operand}{r:Option Nat}{c:C}{cs:List C}(ho:o.op=.load T x)(hd:o.dst=some t)(ht:Nat.blt t fr.n=true)
  (hT:flatT P T=true)(hx:spOf fr.n E x=some (r,c::cs))(hr:r≠some t):LA P fr E o [⟨t,true,some (mkv r (.one c))⟩]:=by
 refine LA.val hd ht fun Γ a w Z β γ hle h=>?_
 obtain⟨ad,vs,hv,hc,hrl,_⟩:=spOf_ok h (spOf_le hle hx)
 simp only[RL] at hrl
 obtain⟨y,vs',b1,b2,rfl,hb,hrc,_⟩:=hrl
 have hb1:b1=[]:=by simp_all
 subst hb1
 refine⟨y,?_,fun β' ev' hb hb' hv hv'=>mkv_ok hb ?_⟩
 ·unfold execOp
  rw[ho]
  have:=run_load_flat (P:=P) hT (ad:=ad) (w:=w) (x:=y) (by simpa[Addr.add] using hc 0 y rfl)
  simp[hv,this]
 ·rw[hv]
  refine RD.mono ?_ (fun _ _=>rfl) (x:=.one c) hrc
  intro b hb
  cases r with
  |none=>exact hb
  |some q=>simp only[zr] at hb ⊢;rw[hb' q (by rintro rfl;exact hr rfl)];exact hb
theorem la_lds {E:Ctx}{o:Oper}{t:Nat}{T:TypeId}{x:Operand}{r:Option Nat}{cs:List C}(ho:o.op=.load T x)(hd:o.dst=some t)(ht:Nat.blt t fr.n=true)
  (hT:rowT P T=true)(hx:spOf fr.n E x=some (r,cs))(hn:cs.length=szOf P T)(hr:r≠some t):LA P fr E o [⟨t,true,some (mkv r (.agg cs))⟩]:=by
 refine LA.val hd ht fun Γ a w Z β γ hle h=>?_
 obtain⟨ad,vs,hv,hc,hrl,_⟩:=spOf_ok h (spOf_le hle hx)
 refine⟨.agg vs.toArray,?_,fun β' ev' hb hb' hv hv'=>mkv_ok hb ?_⟩
 ·unfold execOp
  rw[ho]
  have:=run_load_row (P:=P) hT (ad:=ad) (w:=w) (vs:=vs) (by rw[RL.length _ hrl];exact hn) hc
  simp[hv,this]
 ·rw[hv]
  refine RD.mono ?_ (fun _ _=>rfl) (x:=.agg cs) ⟨vs,rfl,hrl⟩
  intro b hb
  cases r with
  |none=>exact hb
  |some q=>simp only[zr] at hb ⊢;rw[hb' q (by rintro rfl;exact hr rfl)];exact hb
def fldAt (P:Program) (T:TypeId) (f k:Nat):Bool:=match P.underlying T with
 |some (.struct fs)=>match fs[f]? with
  |some fd=>fd.offset==k&&(match P.info? fd.type with|some i=>!(i.size==0)|none=>false)
  |none=>false
 |_=>false
theorem run_fldAt {T:TypeId}{f k:Nat}(h:fldAt P T f k=true) (ad:Addr) (w:World):(Instr.fieldAt T (.pointer (some ad)) f).run P w=.ok (.pointer (some (ad.add k))) w:=by
 unfold fldAt at h
 split at h
 ·rename_i fs hu
  split at h
  ·rename_i fd hfd
   simp only[Bool.and_eq_true,beq_iff_eq] at h
   obtain⟨h1,h2⟩:=h
   split at h2
   ·rename_i i hi
    simp at h2
    simp[Instr.fieldAt,run_underlying hu,hfd,Instr.sureAddr,fieldPlace,sizeOf,typeInfo,hi,h2,h1]
   ·cases h2
  ·cases h
 ·cases h
theorem la_fsp {E:Ctx}{o:Oper}{t:Nat}{T:TypeId}{f k:Nat}{x:Operand}{r:Option Nat}{cs:List C}(ho:o.op=.fieldAddr T x f)(hd:o.dst=some t)(ht:Nat.blt t fr.n=true)
  (hT:fldAt P T f k=true)(hx:spOf fr.n E x=some (r,cs))(hr:r≠some t):LA P fr E o [⟨t,true,some (.sp r (cs.drop k))⟩]:=by
 refine LA.val hd ht fun Γ a w Z β γ hle h=>?_
 obtain⟨ad,vs,hv,hc,hrl,hz⟩:=spOf_ok h (spOf_le hle hx)
 refine⟨.pointer (some (ad.add k)),?_,fun β' ev' hb hb' hv hv'=>?_⟩
 ·unfold execOp
  rw[ho]
  simp[hv,run_fldAt hT]
 ·have hz':∀b,zr Z β r b→zr Z β' r b:=by
   intro b hb
   cases r with
   |none=>exact hb
   |some q=>simp only[zr] at hb ⊢;rw[hb' q (by rintro rfl;exact hr rfl)];exact hb
  have hd':RL P w (zr Z β r) (cs.drop k) (vs.drop k) []:=by
   rw[←List.take_append_drop k cs] at hrl
   obtain⟨v1,v2,b1,b2,rfl,hb,h1,h2⟩:=(RL.app _ _ _ _).1 hrl
   have hb2:b2=[]:=by simp_all
   subst hb2
   have hl:=RL.length _ h1
   rw[List.length_take] at hl
   by_cases hk:k≤cs.length
   ·rw[Nat.min_eq_left hk] at hl
    rw[←hl,List.drop_left]
    rw[←hl] at h2
    exact h2
   ·have hnil:cs.drop k=[]:=List.drop_of_length_le (by omega)
    rw[hnil] at h2 ⊢
    simp only[RL] at h2
    rw[List.drop_of_length_le (by simp[h2.1];omega)]
    simp[RL]
  refine⟨_,vs.drop k,hv,?_,RL.mono hz' _ (fun _ _=>rfl) hd',?_⟩
  ·intro j x hj
   rw[add_add]
   rw[List.getElem?_drop] at hj
   exact hc _ x hj
  ·rcases hz with rfl|hz
   ·simp
   ·right;rw[add_block];exact hz' _ hz
end Go.Proofs.YtkbcahfajbdgnaaGreatDoorT
namespace Go.Proofs.YtkbcahfajbdgnaaGreatDoorT
open Go
variable {P:Program}{fr:Fr}
def rmv (s:Nat):Up:=⟨s,true,none⟩
theorem look_rmv (S:List Nat) (u:Nat):look (S.map rmv) u=if u∈S then some (rmv u) else none:=by
 induction S with
 |nil=>simp[look]
 |cons s S ih=>
  simp only[List.map_cons,look,rmv]
  by_cases hu:u=s
  ·subst hu;simp
  ·have:Nat.beq s u=false:=by
    cases hb:Nat.beq s u with
    |false=>rfl
    |true=>exact absurd (Nat.eq_of_beq_eq_true hb).symm hu
   simp only[this,cond_false]
   have hs:look (S.map rmv) u=if u∈S then some (rmv u) else none:=ih
   simp only[rmv] at hs
   simp[hu,hs]
theorem look_cons (p:Up) (S:List Nat) (u:Nat):look (p::S.map rmv) u=if u=p.t then some p else if u∈S then some (rmv u) else none:=by
 simp only[look,look_rmv]
 by_cases hu:u=p.t
 ·subst hu;simp
 ·have:Nat.beq p.t u=false:=by
   cases hb:Nat.beq p.t u with
   |false=>rfl
   |true=>exact absurd (Nat.eq_of_beq_eq_true hb).symm hu
  simp[this,hu]
structure Grow (w w':World) (bs:Nat→Prop):Prop where
 os:w'.os=w.os
 tape:w'.tape=w.tape
 output:w'.output=w.output
 size:w.heap.size≤w'.heap.size
 block:∀b,b<w.heap.size→¬bs b→w'.heap[b]?=w.heap[b]?
 drawn:w.drawn≤w'.drawn
theorem Grow.refl (w:World) (bs:Nat→Prop):Grow w w bs:=⟨rfl,rfl,rfl,Nat.le_refl _,fun _ _ _=>rfl,Nat.le_refl _⟩
theorem Grow.trans {a b c:World}{bs:Nat→Prop}(h:Grow a b bs) (k:Grow b c bs):Grow a c bs:=
 ⟨k.os.trans h.os,k.tape.trans h.tape,k.output.trans h.output,Nat.le_trans h.size k.size,fun x hx hb=>(k.block x (Nat.lt_of_lt_of_le hx h.size) hb).trans (h.block x hx hb),Nat.le_trans h.drawn k.drawn⟩
theorem Grow.mono {a b:World}{bs bs':Nat→Prop}(h:Grow a b bs)(hb:∀x,bs x→bs' x):Grow a b bs':=
 ⟨h.os,h.tape,h.output,h.size,fun x hx hn=>h.block x hx (fun hx'=>hn (hb x hx')),h.drawn⟩
theorem Grow.alloc (w:World) (o:Obj) (bs:Nat→Prop):Grow w (w.alloc o) bs:=
 ⟨rfl,rfl,rfl,by simp,fun b hb _=>by
  show(w.heap.push o)[b]?=_
  rw[Array.getElem?_push,if_neg (by omega)],Nat.le_refl _⟩
theorem Grow.of_grownBy {w w':World}{row:Option Nat}(h:w.grownBy w' row)(hd:w.drawn≤w'.drawn):Grow w w' (fun b=>row=some b):=
 ⟨h.os,h.tape,h.output,h.size,fun b hb hn=>h.block b hb (fun e=>hn e.symm),hd⟩
theorem Core.give {Γ:Ctx}{a:Act}{w w':World}{Z:Nat→Prop}{β:Nat→List Nat}{γ:Nat→Value}(h:Core P fr Γ a w Z β γ) (S:List Nat){t:Nat}(ht:Nat.blt t fr.n=true){v:Value}{bn:List Nat}{e:Ent}
  (hw:Grow w w' (fun b=>∃s,s∈S∧b∈β s))
  (hbn:∀b,b∈bn→b<w'.heap.size∧(w.heap.size≤b∨∃s,s∈S∧b∈β s))(hnd:bn.Nodup)
  (he:∀β' ev',β' t=bn→ev' t=v→(∀u,u≠t→u∉S→β' u=β u)→(∀u,u≠t→ev' u=ev fr.n a γ u)→EntOk P w' Z β' ev' t e) :
  Core P fr (upd Γ (⟨t,true,some e⟩::S.map rmv)) (a.put (some t) v) w' Z (fun u=>if u=t then bn else if u∈S then[] else β u) γ:=by
 have hb:∀b,(∃s,s∈S∧b∈β s)→fr.w0.heap.size≤b∨b∈fr.M:=fun b ⟨s,_,hb⟩=>(h.own s b hb).2.2
 have hnZ:∀b,Z b→¬∃s,s∈S∧b∈β s:=fun b hz ⟨s,_,hb⟩=>(h.own s b hb).2.1 hz
 refine h.turn _ (by simpa[Act.put] using h.defers) (by simpa[Act.put] using h.size) ?_ ?_ ?_ h.znew ?_ ?_ ?_ ?_ ?_ ?_ ?_
 ·refine⟨hw.os.trans h.evo.os,hw.tape.trans h.evo.tape,hw.output.trans h.evo.output,Nat.le_trans h.evo.size hw.size,fun b hlt hM=>?_,h.evo.drawn.trans (Dle.of hw.drawn)⟩
  rw[hw.block b (Nat.lt_of_lt_of_le hlt h.evo.size) (fun hs=>by rcases hb b hs with h'|h';omega;exact hM h')]
  exact h.evo.block b hlt hM
 ·exact fun b hz=>Nat.lt_of_lt_of_le (h.zlt b hz) hw.size
 ·exact fun b hz=>⟨hz,hw.block b (h.zlt b hz) (hnZ b hz)⟩
 ·intro u b hub
  by_cases hu:u=t
  ·simp only[hu,if_true] at hub
   obtain⟨h1,h2⟩:=hbn b hub
   refine⟨h1,fun hz=>?_,?_⟩
   ·rcases h2 with h2|h2
    ·have:=h.zlt b hz;omega
    ·exact hnZ b hz h2
   ·rcases h2 with h2|h2
    ·exact .inl (Nat.le_trans h.evo.size h2)
    ·exact hb b h2
  ·simp only[hu,if_false] at hub
   by_cases hs:u∈S
   ·simp[hs] at hub
   ·simp only[hs,if_false] at hub
    obtain⟨h1,h2,h3⟩:=h.own u b hub
    exact⟨Nat.lt_of_lt_of_le h1 hw.size,h2,h3⟩
 ·intro u
  by_cases hu:u=t
  ·simpa[hu] using hnd
  ·by_cases hs:u∈S
   ·simp[hu,hs]
   ·simpa[hu,hs] using h.nodup u
 ·intro u u' b hne hub hub'
  have key:∀x y,x=t→y≠t→b∈(if x=t then bn else if x∈S then[] else β x)→b∈(if y=t then bn else if y∈S then[] else β y)→False:=by
   intro x y hx hy h1 h2
   simp only[hx,if_true] at h1
   simp only[hy,if_false] at h2
   by_cases hs:y∈S
   ·simp[hs] at h2
   ·simp only[hs,if_false] at h2
    rcases(hbn b h1).2 with h3|⟨s,h3,h4⟩
    ·have:=(h.own y b h2).1;omega
    ·exact h.disj s y b (by rintro rfl;exact hs h3) h4 h2
  by_cases hu:u=t
  ·exact key u u' hu (fun e=>hne (hu.trans e.symm)) hub hub'
  ·by_cases hu':u'=t
   ·exact key u' u hu' hu hub' hub
   ·simp only[hu,hu',if_false] at hub hub'
    by_cases hs:u∈S
    ·simp[hs] at hub
    ·by_cases hs':u'∈S
     ·simp[hs'] at hub'
     ·simp only[hs,hs',if_false] at hub hub'
      exact h.disj u u' b hne hub hub'
 ·intro u hu
  rw[ev_put h.size ht]
  rw[look_cons] at hu
  by_cases hut:u=t
  ·simp[hut] at hu
  ·simp[hut]
 ·intro u hu
  rw[look_cons] at hu
  by_cases hut:u=t
  ·simp[hut] at hu
  ·by_cases hs:u∈S
   ·simp[hut,hs] at hu
   ·simp[hut,hs]
 ·intro u hu b hub
  rw[look_cons] at hu
  by_cases hut:u=t
  ·simp[hut] at hu
  ·by_cases hs:u∈S
   ·simp[hut,hs] at hu
   ·exact hw.block b (h.own u b hub).1 (fun ⟨s,h1,h2⟩=>h.disj s u b (by rintro rfl;exact hs h1) h2 hub)
 ·intro u p e' hl hp
  rw[look_cons] at hl
  by_cases hut:u=t
  ·subst hut
   simp at hl
   subst hl
   simp at hp
   subst hp
   exact he _ _ (by simp) (by rw[ev_put h.size ht];simp) (fun u hu hs=>by simp[hu,hs]) (fun u hu=>by rw[ev_put h.size ht];simp[hu])
  ·by_cases hs:u∈S
   ·simp[hut,hs] at hl;subst hl;simp[rmv] at hp
   ·simp[hut,hs] at hl
theorem Core.poke {Γ:Ctx}{a:Act}{w w':World}{Z:Nat→Prop}{β:Nat→List Nat}{γ:Nat→Value}(h:Core P fr Γ a w Z β γ) (S:List Nat){r:Nat}(hrS:r∉S){bn:List Nat}{e:Ent}
  (hw:Grow w w' (fun b=>b∈β r∨∃s,s∈S∧b∈β s))
  (hbn:∀b,b∈bn→b∈β r∨∃s,s∈S∧b∈β s)(hnd:bn.Nodup)
  (he:∀β':Nat→List Nat,β' r=bn→(∀u,u≠r→u∉S→β' u=β u)→EntOk P w' Z β' (ev fr.n a γ) r e) :
  Core P fr (upd Γ (⟨r,false,some e⟩::S.map rmv)) a w' Z (fun u=>if u=r then bn else if u∈S then[] else β u) γ:=by
 have hb:∀b,(b∈β r∨∃s,s∈S∧b∈β s)→fr.w0.heap.size≤b∨b∈fr.M:=by
  rintro b (hb|⟨s,_,hb⟩)
  ·exact(h.own r b hb).2.2
  ·exact(h.own s b hb).2.2
 have hnZ:∀b,Z b→¬(b∈β r∨∃s,s∈S∧b∈β s):=by
  rintro b hz (hb|⟨s,_,hb⟩)
  ·exact(h.own r b hb).2.1 hz
  ·exact(h.own s b hb).2.1 hz
 have hlt:∀b,(b∈β r∨∃s,s∈S∧b∈β s)→b<w.heap.size:=by
  rintro b (hb|⟨s,_,hb⟩)
  ·exact(h.own r b hb).1
  ·exact(h.own s b hb).1
 have hdis:∀u b,u≠r→u∉S→b∈β u→¬(b∈β r∨∃s,s∈S∧b∈β s):=by
  rintro u b hu hs hub (h1|⟨s,h1,h2⟩)
  ·exact h.disj u r b hu hub h1
  ·exact h.disj u s b (by rintro rfl;exact hs h1) hub h2
 refine h.turn _ h.defers h.size ?_ ?_ ?_ h.znew ?_ ?_ ?_ ?_ ?_ ?_ ?_
 ·refine⟨hw.os.trans h.evo.os,hw.tape.trans h.evo.tape,hw.output.trans h.evo.output,Nat.le_trans h.evo.size hw.size,fun b hlt hM=>?_,h.evo.drawn.trans (Dle.of hw.drawn)⟩
  rw[hw.block b (Nat.lt_of_lt_of_le hlt h.evo.size) (fun hs=>by rcases hb b hs with h'|h';omega;exact hM h')]
  exact h.evo.block b hlt hM
 ·exact fun b hz=>Nat.lt_of_lt_of_le (h.zlt b hz) hw.size
 ·exact fun b hz=>⟨hz,hw.block b (h.zlt b hz) (hnZ b hz)⟩
 ·intro u b hub
  by_cases hu:u=r
  ·simp only[hu,if_true] at hub
   have h2:=hbn b hub
   exact⟨Nat.lt_of_lt_of_le (hlt b h2) hw.size,fun hz=>hnZ b hz h2,hb b h2⟩
  ·simp only[hu,if_false] at hub
   by_cases hs:u∈S
   ·simp[hs] at hub
   ·simp only[hs,if_false] at hub
    obtain⟨h1,h2,h3⟩:=h.own u b hub
    exact⟨Nat.lt_of_lt_of_le h1 hw.size,h2,h3⟩
 ·intro u
  by_cases hu:u=r
  ·simpa[hu] using hnd
  ·by_cases hs:u∈S
   ·simp[hu,hs]
   ·simpa[hu,hs] using h.nodup u
 ·intro u u' b hne hub hub'
  have key:∀x y,x=r→y≠r→b∈(if x=r then bn else if x∈S then[] else β x)→b∈(if y=r then bn else if y∈S then[] else β y)→False:=by
   intro x y hx hy h1 h2
   simp only[hx,if_true] at h1
   simp only[hy,if_false] at h2
   by_cases hs:y∈S
   ·simp[hs] at h2
   ·simp only[hs,if_false] at h2
    exact hdis y b hy hs h2 (hbn b h1)
  by_cases hu:u=r
  ·exact key u u' hu (fun e=>hne (hu.trans e.symm)) hub hub'
  ·by_cases hu':u'=r
   ·exact key u' u hu' hu hub' hub
   ·simp only[hu,hu',if_false] at hub hub'
    by_cases hs:u∈S
    ·simp[hs] at hub
    ·by_cases hs':u'∈S
     ·simp[hs'] at hub'
     ·simp only[hs,hs',if_false] at hub hub'
      exact h.disj u u' b hne hub hub'
 ·intro u _;rfl
 ·intro u hu
  rw[look_cons] at hu
  by_cases hut:u=r
  ·simp[hut] at hu
  ·by_cases hs:u∈S
   ·simp[hut,hs] at hu
   ·simp[hut,hs]
 ·intro u hu b hub
  rw[look_cons] at hu
  by_cases hut:u=r
  ·simp[hut] at hu
  ·by_cases hs:u∈S
   ·simp[hut,hs] at hu
   ·exact hw.block b (h.own u b hub).1 (hdis u b hut hs hub)
 ·intro u p e' hl hp
  rw[look_cons] at hl
  by_cases hut:u=r
  ·subst hut
   simp at hl
   subst hl
   simp at hp
   subst hp
   exact he _ (by simp) (fun u hu hs=>by simp[hu,hs])
  ·by_cases hs:u∈S
   ·simp[hut,hs] at hl;subst hl;simp[rmv] at hp
   ·simp[hut,hs] at hl
def tk (n:Nat) (Γ:Ctx):Operand→Option (Dt×List Nat)
 |.tmp t=>bif Nat.blt t n then
   match Γ t with
   |some (.d x)=>some (x,bif plain x then[] else[t])
   |some (.dv _ x)=>some (x,bif plain x then[] else[t])
   |_=>none
  else none
 |.const v=>bif v.oneCell' then some (.one (.v v),[]) else none
 |_=>none
theorem tk_le {n:Nat}{E Γ:Ctx}(hle:E_le E Γ){x:Operand}{q:Dt×List Nat}(h:tk n E x=some q):tk n Γ x=some q:=by
 cases x with
 |tmp t=>
  simp only[tk] at h ⊢
  cases ht:Nat.blt t n with
  |false=>rw[ht] at h;simp at h
  |true=>
   rw[ht] at h
   simp only[cond_true] at h ⊢
   cases hg:E t with
   |none=>rw[hg] at h;simp at h
   |some e=>rw[hg] at h;rw[hle t e hg];exact h
 |const v=>exact h
 |global g=>exact h
 |func f=>exact h
theorem tk_ok {Γ:Ctx}{a:Act}{w:World}{Z:Nat→Prop}{β:Nat→List Nat}{γ:Nat→Value}(h:Core P fr Γ a w Z β γ){x:Operand}{X:Dt}{S:List Nat}
  (hv:tk fr.n Γ x=some (X,S)):∃bs,RD P w Z X (a.eval x) bs∧bs.Nodup∧(∀b,b∈bs→b<w.heap.size∧∃s,s∈S∧b∈β s):=by
 cases x with
 |tmp t=>
  simp only[tk] at hv
  cases ht:Nat.blt t fr.n with
  |false=>rw[ht] at hv;simp at hv
  |true=>
   rw[ht] at hv
   simp only[cond_true] at hv
   rw[eval_ev (γ:=γ) ht]
   have fin:∀x,EntOk P w Z β (ev fr.n a γ) t (.d x)→X=x→S=(bif plain x then[] else[t])→
     ∃bs,RD P w Z X (ev fr.n a γ t) bs∧bs.Nodup∧(∀b,b∈bs→b<w.heap.size∧∃s,s∈S∧b∈β s):=by
    intro x he hx hS
    subst hx
    simp only[EntOk] at he
    refine⟨β t,he,h.nodup t,fun b hb=>⟨(h.own t b hb).1,?_⟩⟩
    cases hp:plain X with
    |true=>rw[plain_nil hp he] at hb;simp at hb
    |false=>rw[hp] at hS;exact⟨t,by simp[hS],hb⟩
   cases hg:Γ t with
   |none=>rw[hg] at hv;simp at hv
   |some e=>
    have he:=h.ent t e hg
    rw[hg] at hv
    cases e <;> simp at hv
    ·exact fin _ he hv.1.symm hv.2.symm
    ·exact fin _ he.2 hv.1.symm hv.2.symm
 |const v=>
  simp only[tk] at hv
  cases hp:v.oneCell' with
  |false=>rw[hp] at hv;simp at hv
  |true=>
   rw[hp] at hv
   simp at hv
   obtain⟨rfl,rfl⟩:=hv
   exact⟨[],by simp[RD,RC,Act.eval,hp],by simp,by simp⟩
 |global g=>simp[tk] at hv
 |func f=>simp[tk] at hv
def cells:Dt→List C
 |.one c=>[c]
 |.agg cs=>cs
theorem RD.cells {w:World}{Z:Nat→Prop}{x:Dt}{y:Value}{bs:List Nat}(h:RD P w Z x y bs):RL P w Z (YtkbcahfajbdgnaaGreatDoorT.cells x) y.cells.toList bs:=by
 cases x with
 |one c=>
  simp only[RD] at h
  have h1:=RC.one h
  have:y.cells=#[y]:=by cases y <;> simp_all [Value.oneCell',Value.cells]
  rw[this]
  simp only[YtkbcahfajbdgnaaGreatDoorT.cells,RL]
  exact⟨y,[],bs,[],rfl,by simp,h,rfl,rfl⟩
 |agg cs=>
  obtain⟨vs,rfl,hr⟩:=h
  simpa[Value.cells,YtkbcahfajbdgnaaGreatDoorT.cells] using hr
theorem la_box {E:Ctx}{o:Oper}{t:Nat}{T:TypeId}{x:Operand}{X:Dt}{S:List Nat}(ho:o.op=.box T x)(hd:o.dst=some t)(ht:Nat.blt t fr.n=true)
  (hx:tk fr.n E x=some (X,S)):LA P fr E o (⟨t,true,some (.box T (cells X))⟩::S.map rmv):=by
 intro Γ hle a w K Q ⟨Z,β,γ,h⟩ hk
 obtain⟨bs,hr,hn,hb⟩:=tk_ok h (tk_le hle hx)
 have hgrow:Grow w (w.alloc (.cells (a.eval x).cells T)) (fun b=>∃s,s∈S∧b∈β s):=Grow.alloc _ _ _
 refine wp_of_run (w':=w.alloc (.cells (a.eval x).cells T)) (v:=.pointer (some ⟨w.heap.size,0,none⟩)) ?_ (hk _ _ ?_)
 ·unfold execOp
  rw[ho]
  rfl
 ·rw[hd]
  refine⟨Z,_,γ,h.give S ht (bn:=w.heap.size::bs) hgrow ?_ ?_ ?_⟩
  ·intro b hb'
   rcases List.mem_cons.1 hb' with rfl|hb'
   ·exact⟨by simp,.inl (Nat.le_refl _)⟩
   ·exact⟨by have:=(hb b hb').1;simp;omega,.inr (hb b hb').2⟩
  ·simp only[List.nodup_cons]
   exact⟨fun hm=>by have:=(hb _ hm).1;omega,hn⟩
  ·intro β' ev' h1 h2 _ _
   simp only[EntOk]
   refine⟨w.heap.size,(a.eval x).cells,bs,h2,heap_alloc_new w _,?_,h1⟩
   refine RL.mono (fun _ hz=>hz) _ (fun b hb'=>?_) (RD.cells hr)
   rcases hb' with hz|hb'
   ·exact(Grow.alloc w _ (fun _=>False)).block b (h.zlt b hz) (fun h=>h)
   ·exact(Grow.alloc w _ (fun _=>False)).block b (hb b hb').1 (fun h=>h)
def zeroOk (P:Program) (T:TypeId) (cs:List C):Prop:=∃z,(P.info? T).bind (·.zero)=some z∧∀w Z,RL P w Z cs z.cells.toList []
theorem la_alloc {E:Ctx}{o:Oper}{t:Nat}{T:TypeId}{cs:List C}(ho:o.op=.alloc T)(hd:o.dst=some t)(ht:Nat.blt t fr.n=true)(hz:zeroOk P T cs) :
  LA P fr E o [⟨t,true,some (.box T cs)⟩]:=by
 intro Γ hle a w K Q ⟨Z,β,γ,h⟩ hk
 obtain⟨z,hz1,hz2⟩:=hz
 refine wp_of_run (w':=w.alloc (.cells z.cells T)) (v:=.pointer (some ⟨w.heap.size,0,none⟩)) ?_ (hk _ _ ?_)
 ·unfold execOp
  rw[ho]
  cases hi:P.info? T with
  |none=>rw[hi] at hz1;simp at hz1
  |some i=>
   rw[hi] at hz1
   simp at hz1
   simp[Instr.alloc,zeroValue,typeInfo,hi,hz1,newVar,newRow,newObj]
   rfl
 ·rw[hd]
  refine⟨Z,_,γ,h.give [] ht (bn:=[w.heap.size]) (Grow.alloc _ _ _) ?_ (by simp) ?_⟩
  ·intro b hb'
   simp at hb'
   subst hb'
   exact⟨by simp,.inl (Nat.le_refl _)⟩
  ·intro β' ev' h1 h2 _ _
   simp only[EntOk]
   exact⟨w.heap.size,z.cells,[],h2,heap_alloc_new w _,hz2 _ _,h1⟩
end Go.Proofs.YtkbcahfajbdgnaaGreatDoorT
namespace Go.Proofs.YtkbcahfajbdgnaaGreatDoorT
open Go
variable {P:Program}{fr:Fr}
def bxOf (n:Nat) (Γ:Ctx):Operand→Option (Nat×TypeId×List C)
 |.tmp t=>bif Nat.blt t n then
   match Γ t with
   |some (.box T cs)=>some (t,T,cs)
   |some (.eq r)=>match Γ r with
    |some (.box T cs)=>some (r,T,cs)
    |_=>none
   |_=>none
  else none
 |_=>none
theorem bxOf_le {n:Nat}{E Γ:Ctx}(hle:E_le E Γ){x:Operand}{q:Nat×TypeId×List C}(h:bxOf n E x=some q):bxOf n Γ x=some q:=by
 cases x with
 |tmp t=>
  simp only[bxOf] at h ⊢
  cases ht:Nat.blt t n with
  |false=>rw[ht] at h;simp at h
  |true=>
   rw[ht] at h
   simp only[cond_true] at h ⊢
   cases hg:E t with
   |none=>rw[hg] at h;simp at h
   |some e=>
    rw[hg] at h
    rw[hle t e hg]
    cases e <;> simp at h ⊢
    ·exact h
    ·rename_i r
     cases hr:E r with
     |none=>rw[hr] at h;simp at h
     |some e=>rw[hr] at h;rw[hle r e hr];exact h
 |const v=>exact h
 |global g=>exact h
 |func f=>exact h
theorem bxOf_ok {Γ:Ctx}{a:Act}{w:World}{Z:Nat→Prop}{β:Nat→List Nat}{γ:Nat→Value}(h:Core P fr Γ a w Z β γ){x:Operand}{r:Nat}{T:TypeId}{cs:List C}
  (hv:bxOf fr.n Γ x=some (r,T,cs)):Γ r=some (.box T cs)∧∃b vs bs,a.eval x=.pointer (some ⟨b,0,none⟩)∧ev fr.n a γ r=.pointer (some ⟨b,0,none⟩)∧
   w.heap[b]?=some (.cells vs T (0,0))∧RL P w Z cs vs.toList bs∧β r=b::bs:=by
 cases x with
 |tmp t=>
  simp only[bxOf] at hv
  cases ht:Nat.blt t fr.n with
  |false=>rw[ht] at hv;simp at hv
  |true=>
   rw[ht] at hv
   simp only[cond_true] at hv
   rw[eval_ev (γ:=γ) ht]
   cases hg:Γ t with
   |none=>rw[hg] at hv;simp at hv
   |some e=>
    have he:=h.ent t e hg
    rw[hg] at hv
    cases e <;> simp at hv
    ·obtain⟨rfl,rfl,rfl⟩:=hv
     obtain⟨b,vs,bs,h1,h2,h3,h4⟩:=he
     exact⟨hg,b,vs,bs,h1,h1,h2,h3,h4⟩
    ·rename_i q
     cases hq:Γ q with
     |none=>rw[hq] at hv;simp at hv
     |some e=>
      have he':=h.ent q e hq
      rw[hq] at hv
      cases e <;> simp at hv
      obtain⟨rfl,rfl,rfl⟩:=hv
      obtain⟨b,vs,bs,h1,h2,h3,h4⟩:=he'
      exact⟨hq,b,vs,bs,by rw[show ev fr.n a γ t=ev fr.n a γ q from he];exact h1,h1,h2,h3,h4⟩
 |const v=>simp[bxOf] at hv
 |global g=>simp[bxOf] at hv
 |func f=>simp[bxOf] at hv
def flOf (n:Nat) (Γ:Ctx):Operand→Option (Nat×Nat×TypeId×List C)
 |.tmp t=>bif Nat.blt t n then
   match Γ t with
   |some (.fld r k)=>match Γ r with
    |some (.box T cs)=>some (r,k,T,cs)
    |_=>none
   |some (.box T cs)=>some (t,0,T,cs)
   |some (.eq r)=>match Γ r with
    |some (.box T cs)=>some (r,0,T,cs)
    |_=>none
   |_=>none
  else none
 |_=>none
theorem flOf_le {n:Nat}{E Γ:Ctx}(hle:E_le E Γ){x:Operand}{q:Nat×Nat×TypeId×List C}(h:flOf n E x=some q):flOf n Γ x=some q:=by
 cases x with
 |tmp t=>
  simp only[flOf] at h ⊢
  cases ht:Nat.blt t n with
  |false=>rw[ht] at h;simp at h
  |true=>
   rw[ht] at h
   simp only[cond_true] at h ⊢
   cases hg:E t with
   |none=>rw[hg] at h;simp at h
   |some e=>
    rw[hg] at h
    rw[hle t e hg]
    cases e <;> simp at h ⊢
    ·exact h
    ·rename_i r
     cases hr:E r with
     |none=>rw[hr] at h;simp at h
     |some e=>rw[hr] at h;rw[hle r e hr];exact h
    ·rename_i r k
     cases hr:E r with
     |none=>rw[hr] at h;simp at h
     |some e=>rw[hr] at h;rw[hle r e hr];exact h
 |const v=>exact h
 |global g=>exact h
 |func f=>exact h
theorem flOf_ok {Γ:Ctx}{a:Act}{w:World}{Z:Nat→Prop}{β:Nat→List Nat}{γ:Nat→Value}(h:Core P fr Γ a w Z β γ){x:Operand}{r k:Nat}{T:TypeId}{cs:List C}
  (hv:flOf fr.n Γ x=some (r,k,T,cs)):Γ r=some (.box T cs)∧∃b vs bs,a.eval x=.pointer (some ⟨b,k,none⟩)∧ev fr.n a γ r=.pointer (some ⟨b,0,none⟩)∧
   w.heap[b]?=some (.cells vs T (0,0))∧RL P w Z cs vs.toList bs∧β r=b::bs:=by
 cases x with
 |tmp t=>
  simp only[flOf] at hv
  cases ht:Nat.blt t fr.n with
  |false=>rw[ht] at hv;simp at hv
  |true=>
   rw[ht] at hv
   simp only[cond_true] at hv
   rw[eval_ev (γ:=γ) ht]
   cases hg:Γ t with
   |none=>rw[hg] at hv;simp at hv
   |some e=>
    have he:=h.ent t e hg
    rw[hg] at hv
    cases e <;> simp at hv
    ·obtain⟨rfl,rfl,rfl,rfl⟩:=hv
     obtain⟨b,vs,bs,h1,h2,h3,h4⟩:=he
     exact⟨hg,b,vs,bs,h1,h1,h2,h3,h4⟩
    ·rename_i q
     cases hq:Γ q with
     |none=>rw[hq] at hv;simp at hv
     |some e=>
      have he':=h.ent q e hq
      rw[hq] at hv
      cases e <;> simp at hv
      obtain⟨rfl,rfl,rfl,rfl⟩:=hv
      obtain⟨b,vs,bs,h1,h2,h3,h4⟩:=he'
      exact⟨hq,b,vs,bs,by rw[show ev fr.n a γ t=ev fr.n a γ q from he];exact h1,h1,h2,h3,h4⟩
    ·rename_i q k'
     cases hq:Γ q with
     |none=>rw[hq] at hv;simp at hv
     |some e=>
      have he':=h.ent q e hq
      rw[hq] at hv
      cases e <;> simp at hv
      obtain⟨rfl,rfl,rfl,rfl⟩:=hv
      obtain⟨b,vs,bs,h1,h2,h3,h4⟩:=he'
      obtain⟨b',h5,h6⟩:=he
      have:b'=b:=by rw[h1] at h5;simpa using h5.symm
      subst this
      exact⟨hq,b',vs,bs,h6,h1,h2,h3,h4⟩
 |const v=>simp[flOf] at hv
 |global g=>simp[flOf] at hv
 |func f=>simp[flOf] at hv
theorem add_at (b k:Nat):(⟨b,0,none⟩:Addr).add k=⟨b,k,none⟩:=by unfold Addr.add;split <;> simp_all
theorem la_ldf {E:Ctx}{o:Oper}{t:Nat}{T T':TypeId}{x:Operand}{r k:Nat}{c:C}{cs:List C}(ho:o.op=.load T x)(hd:o.dst=some t)(ht:Nat.blt t fr.n=true)
  (hT:flatT P T=true)(hx:flOf fr.n E x=some (r,k,T',cs))(hc:cs[k]?=some c)(hp:plainC c=true):LA P fr E o [⟨t,true,some (.d (.one c))⟩]:=by
 refine LA.val hd ht fun Γ a w Z β γ hle h=>?_
 obtain⟨_,b,vs,bs,hv,hr',hb,hl,_⟩:=flOf_ok h (flOf_le hle hx)
 obtain⟨v1,y,v2,b1,b2,b3,hvs,_,hlen,_,hrc,_⟩:=RL.get hl hc
 have hy:w.cell? ⟨b,k,none⟩=some y:=by
  have:vs[k]?=some y:=by rw[←Array.getElem?_toList,hvs,List.getElem?_append_right (by omega)];simp[hlen]
  simp[World.cell?,hb,this]
 have hn:=plainC_nil hp hrc
 subst hn
 refine⟨y,?_,fun β' ev' hb hb' hv' hv''=>?_⟩
 ·unfold execOp
  rw[ho]
  simp[hv,run_load_flat hT hy]
 ·simp only[EntOk,RD]
  rw[hv',hb]
  exact hrc
theorem la_ldfb {E:Ctx}{o:Oper}{t:Nat}{T T':TypeId}{x:Operand}{r k:Nat}{c c':C}{cs:List C}(ho:o.op=.load T x)(hd:o.dst=some t)(ht:Nat.blt t fr.n=true)
  (hT:flatT P T=true)(hx:flOf fr.n E x=some (r,k,T',cs))(hc:cs[k]?=some c)(hs:shC c=c')(hr:Nat.beq r t=false):LA P fr E o [⟨t,true,some (.bor r (.one c'))⟩]:=by
 refine LA.val hd ht fun Γ a w Z β γ hle h=>?_
 obtain⟨_,b,vs,bs,hv,hr',hb,hl,hβ⟩:=flOf_ok h (flOf_le hle hx)
 obtain⟨v1,y,v2,b1,b2,b3,hvs,hbs,hlen,_,hrc,_⟩:=RL.get hl hc
 have hy:w.cell? ⟨b,k,none⟩=some y:=by
  have:vs[k]?=some y:=by rw[←Array.getElem?_toList,hvs,List.getElem?_append_right (by omega)];simp[hlen]
  simp[World.cell?,hb,this]
 refine⟨y,?_,fun β' ev' hb hb' hv' hv''=>?_⟩
 ·unfold execOp
  rw[ho]
  simp[hv,run_load_flat hT hy]
 ·simp only[EntOk,RD]
  rw[hv',←hs]
  refine RC.mono ?_ _ (fun _ _=>rfl) (RC.share c hrc)
  intro b' hz
  simp only[zr]
  rw[hb' r (by rintro rfl;simp at hr),hβ,hbs]
  rcases hz with hz|hz
  ·exact .inl hz
  ·right;simp[hz]
theorem la_ldbt {E:Ctx}{o:Oper}{t:Nat}{T T':TypeId}{x:Operand}{r:Nat}{cs:List C}(ho:o.op=.load T x)(hd:o.dst=some t)(ht:Nat.blt t fr.n=true)
  (hT:rowT P T=true)(hx:bxOf fr.n E x=some (r,T',cs))(hn:cs.length=szOf P T):LA P fr E o (⟨t,true,some (.d (.agg cs))⟩::[r].map rmv):=by
 intro Γ hle a w K Q ⟨Z,β,γ,h⟩ hk
 obtain⟨_,b,vs,bs,hv,hr',hb,hl,hβ⟩:=bxOf_ok h (bxOf_le hle hx)
 refine wp_of_run (w':=w) (v:=.agg vs) ?_ (hk _ _ ?_)
 ·unfold execOp
  rw[ho]
  have:=run_load_row (P:=P) hT (ad:=⟨b,0,none⟩) (w:=w) (vs:=vs.toList) (by rw[RL.length _ hl];exact hn) (fun k x hk=>by rw[cell_row hb];simpa using hk)
  simp[hv,this]
 ·rw[hd]
  have hnd:=h.nodup r
  rw[hβ] at hnd
  refine⟨Z,_,γ,h.give [r] ht (bn:=bs) (Grow.refl _ _) ?_ (List.nodup_cons.1 hnd).2 ?_⟩
  ·intro b' hb'
   exact⟨(h.own r b' (by rw[hβ];simp[hb'])).1,.inr ⟨r,by simp,by rw[hβ];simp[hb']⟩⟩
  ·intro β' ev' h1 h2 _ _
   simp only[EntOk]
   rw[h2,h1]
   exact⟨vs.toList,by simp,hl⟩
theorem setRow_of {w:World}{b k:Nat}{vs:Array Value}{T:TypeId}{y:Value}(hb:w.heap[b]?=some (.cells vs T (0,0))):(w.setCell ⟨b,k,none⟩ y).heap[b]?=some (.cells (vs.setIfInBounds k y) T (0,0)):=by
 simp[World.setCell,Array.getElem?_modify,hb]
theorem Grow.setCell (w:World) (b k:Nat) (y:Value){bs:Nat→Prop}(h:bs b):Grow w (w.setCell ⟨b,k,none⟩ y) bs:=
 ⟨rfl,rfl,rfl,by simp,fun b' _ hn=>by
  simp only[World.setCell,Array.getElem?_modify]
  rw[if_neg (by rintro rfl;exact hn h)],Nat.le_refl _⟩
theorem run_store_flat {T:TypeId}(hT:szOf P T=1)(hi:(P.info? T).isSome=true){ad:Addr}{w:World}{x y:Value}(hc:w.cell? ad=some x)(hf:w.frozen? ad=false)(h1:y.oneCell'=true) :
  (Instr.storeAt T (.pointer (some ad)) y).run P w=.ok () (w.setCell ad y):=by
 cases hq:P.info? T with
 |none=>simp[hq] at hi
 |some i=>
  have hs:i.size=1:=by simpa[szOf,hq] using hT
  have hcell:y.cells=#[y]:=by cases y <;> simp_all [Value.oneCell',Value.cells]
  have hst:=run_store P w ad y .plain h1
  simp[Instr.storeAt,Instr.sureAddr,storeVar,sizeOf,typeInfo,hq,hs,hcell,storeCells,Addr.add]
  simp[hst,hc,hf]
theorem la_stf {E:Ctx}{o:Oper}{T T':TypeId}{p x:Operand}{r k:Nat}{c c':C}{cs:List C}{S:List Nat}(ho:o.op=.store T p x)(hd:o.dst=none)
  (hT:szOf P T=1)(hi:(P.info? T).isSome=true)(hp:flOf fr.n E p=some (r,k,T',cs))(hc:cs[k]?=some c)(hx:tk fr.n E x=some (.one c',S))(hS:S.contains r=false) :
  LA P fr E o (⟨r,false,some (.box T' (cs.set k c'))⟩::S.map rmv):=by
 intro Γ hle a w K Q ⟨Z,β,γ,h⟩ hk
 obtain⟨hgr,b,vs,bs,hv,hr',hb,hl,hβ⟩:=flOf_ok h (flOf_le hle hp)
 obtain⟨bx,hx1,hx2,hx3⟩:=tk_ok h (tk_le hle hx)
 obtain⟨v1,y,v2,b1,b2,b3,hvs,hbs,hlen,hl1,hrc,hl2⟩:=RL.get hl hc
 have hk':vs[k]?=some y:=by rw[←Array.getElem?_toList,hvs,List.getElem?_append_right (by omega)];simp[hlen]
 have hy:w.cell? ⟨b,k,none⟩=some y:=by simp[World.cell?,hb,hk']
 have hf:w.frozen? ⟨b,k,none⟩=false:=by simp[World.frozen?,hb]
 have hrun:=run_store_flat (P:=P) hT hi hy hf (RC.one hx1)
 unfold Oper.wp
 have hexec:(execOp a.eval o).run P w=.ok .skip (w.setCell ⟨b,k,none⟩ (a.eval x)):=by
  unfold execOp
  rw[ho]
  simp[hv,hrun]
 rw[hexec]
 simp only[Oper.upon,hd,Act.put]
 refine hk _ _ ⟨Z,_,γ,h.poke S (by simpa using hS) (bn:=b::(b1++bx++b3)) (Grow.setCell _ _ _ _ (.inl (by rw[hβ];simp))) ?_ ?_ ?_⟩
 ·intro b' hb'
  simp only[List.mem_cons,List.mem_append] at hb'
  rcases hb' with rfl|(hb'|hb')|hb'
  ·left;rw[hβ];simp
  ·left;rw[hβ,hbs];simp[hb']
  ·right;exact(hx3 b' hb').2
  ·left;rw[hβ,hbs];simp[hb']
 ·have hnd:=h.nodup r
  rw[hβ,hbs] at hnd
  have hdis:∀b',b'∈bx→b'∉β r:=by
   intro b' hb' hb''
   obtain⟨s,hs1,hs2⟩:=(hx3 b' hb').2
   exact h.disj s r b' (by rintro rfl;simp at hS;exact hS hs1) hs2 hb''
  rw[hβ,hbs] at hdis
  simp only[List.nodup_cons,List.nodup_append,List.mem_append,List.mem_cons] at hnd hdis ⊢
  obtain⟨h1,⟨h2,h3,h4⟩,h5,h6⟩:=hnd
  refine⟨?_,⟨h2,hx2,?_⟩,h5,?_⟩
  ·rintro((h'|h')|h')
   ·exact h1 (.inl (.inl h'))
   ·exact hdis b h' (.inl rfl)
   ·exact h1 (.inr h')
  ·intro x hx y hy e
   subst e
   exact hdis x hy (.inr (.inl (.inl hx)))
  ·intro x hx y hy e
   subst e
   rcases hx with hx|hx
   ·exact h6 x (.inl hx) x hy rfl
   ·exact hdis x hx (.inr (.inr hy))
 ·intro β' h1 _
  simp only[EntOk]
  have hblk:∀b',(Z b'∨b'∈b1++bx++b3)→(w.setCell ⟨b,k,none⟩ (a.eval x)).heap[b']?=w.heap[b']?:=by
   intro b' hb'
   have hne:b'≠b:=by
    rintro rfl
    rcases hb' with hz|hb'
    ·exact(h.own r b' (by rw[hβ];simp)).2.1 hz
    ·have hnd:=h.nodup r
     rw[hβ,hbs] at hnd
     simp only[List.mem_append] at hb'
     rcases hb' with(hb'|hb')|hb'
     ·simp[hb'] at hnd
     ·obtain⟨s,hs1,hs2⟩:=(hx3 b' hb').2
      exact h.disj s r b' (by rintro rfl;simp at hS;exact hS hs1) hs2 (by rw[hβ];simp)
     ·simp[hb'] at hnd
   simp only[World.setCell,Array.getElem?_modify]
   rw[if_neg (Ne.symm hne)]
  refine⟨b,vs.setIfInBounds k (a.eval x),b1++bx++b3,hr',setRow_of hb,?_,h1⟩
  have hset:(vs.setIfInBounds k (a.eval x)).toList=v1++a.eval x::v2:=by
   rw[Array.toList_setIfInBounds,hvs,←hlen]
   simp
  have hcs:cs.set k c'=cs.take k++c'::cs.drop (k+1):=by
   have hlt:k<cs.length:=(List.getElem?_eq_some_iff.1 hc).1
   rw[List.set_eq_take_append_cons_drop,if_pos hlt]
  rw[hset,hcs]
  refine(RL.app _ _ _ _).2 ⟨v1,_,b1,bx++b3,rfl,by simp,RL.mono (fun _ hz=>hz) _ (fun b' hb'=>hblk b' (by rcases hb' with h'|h';exact .inl h';exact .inr (by simp[h']))) hl1,?_⟩
  simp only[RL]
  exact⟨a.eval x,v2,bx,b3,rfl,rfl,RC.mono (fun _ hz=>hz) _ (fun b' hb'=>hblk b' (by rcases hb' with h'|h';exact .inl h';exact .inr (by simp[h']))) hx1,
   RL.mono (fun _ hz=>hz) _ (fun b' hb'=>hblk b' (by rcases hb' with h'|h';exact .inl h';exact .inr (by simp[h']))) hl2⟩
end Go.Proofs.YtkbcahfajbdgnaaGreatDoorT
namespace Go.Proofs.YtkbcahfajbdgnaaGreatDoorT
open Go
variable {P:Program}{fr:Fr}
def Sub (a b:List Nat):Prop:=∀x,a.count x≤b.count x
theorem Sub.refl (a:List Nat):Sub a a:=fun _=>Nat.le_refl _
theorem Sub.trans {a b c:List Nat}(h:Sub a b) (k:Sub b c):Sub a c:=fun x=>Nat.le_trans (h x) (k x)
theorem Sub.app {a b c d:List Nat}(h:Sub a b) (k:Sub c d):Sub (a++c) (b++d):=fun x=>by
 have:=h x;have:=k x;simp only[List.count_append];omega
theorem Sub.mem {a b:List Nat}(h:Sub a b){x:Nat}(hx:x∈a):x∈b:=by
 have h1:=List.count_pos_iff.2 hx
 exact List.count_pos_iff.1 (Nat.lt_of_lt_of_le h1 (h x))
theorem Sub.nodup {a b:List Nat}(h:Sub a b)(hb:b.Nodup):a.Nodup:=
 List.nodup_iff_count.2 fun x=>Nat.le_trans (h x) (List.nodup_iff_count.1 hb x)
theorem Sub.nil (b:List Nat):Sub [] b:=fun x=>by simp
theorem Core.flat {Γ:Ctx}{a:Act}{w:World}{Z:Nat→Prop}{β:Nat→List Nat}{γ:Nat→Value}(h:Core P fr Γ a w Z β γ):∀{S:List Nat},S.Nodup→(S.flatMap β).Nodup
 |[],_=>by simp
 |s::S,hS=>by
  simp only[List.flatMap_cons,List.nodup_append]
  have hn:=List.nodup_cons.1 hS
  refine⟨h.nodup s,h.flat hn.2,?_⟩
  rintro x hx y hy rfl
  obtain⟨u,hu,hxu⟩:=List.mem_flatMap.1 hy
  exact h.disj s u x (by rintro rfl;exact hn.1 hu) hx hxu
theorem tk_sub {Γ:Ctx}{a:Act}{w:World}{Z:Nat→Prop}{β:Nat→List Nat}{γ:Nat→Value}(h:Core P fr Γ a w Z β γ){x:Operand}{X:Dt}{S:List Nat}
  (hv:tk fr.n Γ x=some (X,S)):∃bs,RD P w Z X (a.eval x) bs∧Sub bs (S.flatMap β):=by
 cases x with
 |tmp t=>
  simp only[tk] at hv
  cases ht:Nat.blt t fr.n with
  |false=>rw[ht] at hv;simp at hv
  |true=>
   rw[ht] at hv
   simp only[cond_true] at hv
   rw[eval_ev (γ:=γ) ht]
   have fin:∀x,EntOk P w Z β (ev fr.n a γ) t (.d x)→X=x→S=(bif plain x then[] else[t])→
     ∃bs,RD P w Z X (ev fr.n a γ t) bs∧Sub bs (S.flatMap β):=by
    intro x he hx hS
    subst hx
    simp only[EntOk] at he
    cases hp:plain X with
    |true=>
     have:=plain_nil hp he
     rw[this] at he
     exact⟨[],he,Sub.nil _⟩
    |false=>
     rw[hp] at hS
     exact⟨β t,he,by rw[hS];simpa using Sub.refl _⟩
   cases hg:Γ t with
   |none=>rw[hg] at hv;simp at hv
   |some e=>
    have he:=h.ent t e hg
    rw[hg] at hv
    cases e <;> simp at hv
    ·exact fin _ he hv.1.symm hv.2.symm
    ·exact fin _ he.2 hv.1.symm hv.2.symm
 |const v=>
  obtain⟨bs,h1,_,h3⟩:=tk_ok h hv
  have:bs=[]:=by
   cases bs with
   |nil=>rfl
   |cons b bs=>
    obtain⟨_,s,hs,_⟩:=h3 b (by simp)
    simp only[tk] at hv
    cases hp:v.oneCell' with
    |false=>rw[hp] at hv;simp at hv
    |true=>rw[hp] at hv;simp at hv;obtain⟨rfl,rfl⟩:=hv;simp at hs
  subst this
  exact⟨[],h1,Sub.nil _⟩
 |global g=>simp[tk] at hv
 |func f=>simp[tk] at hv
def mov:Ent→Bool
 |.d _=>true
 |.dv _ _=>true
 |.tup _=>true
 |.tupb _ _ _=>true
 |.box _ _=>true
 |_=>false
theorem la_mvo {E:Ctx}{o:Oper}{t s:Nat}{e:Ent}(ho:o.op=.move (.tmp s)∨o.op=.assign (.tmp s))(hd:o.dst=some t)(ht:Nat.blt t fr.n=true)(hs:Nat.blt s fr.n=true)
  (hx:E s=some e)(hm:mov e=true):LA P fr E o (⟨t,true,some e⟩::[s].map rmv):=by
 intro Γ hle a w K Q ⟨Z,β,γ,h⟩ hk
 have he:=h.ent s e (hle s e hx)
 refine wp_of_run (w':=w) (v:=a.eval (.tmp s)) (run_mv ho w) (hk _ _ ?_)
 rw[hd]
 refine⟨Z,_,γ,h.give [s] ht (bn:=β s) (Grow.refl _ _) (fun b hb=>⟨(h.own s b hb).1,.inr ⟨s,by simp,hb⟩⟩) (h.nodup s) ?_⟩
 intro β' ev' h1 h2 _ _
 rw[eval_ev (γ:=γ) hs] at h2
 cases e <;> simp[mov] at hm <;> simp only[EntOk] at he ⊢ <;> rw[h2] <;> rw[h1] <;> exact he
def isPtr (n:Nat) (Γ:Ctx):Operand→Bool
 |.tmp t=>bif Nat.blt t n then
   match Γ t with
   |some (.box _ _)=>true
   |some (.hbox _ _ _)=>true
   |some (.fld _ _)=>true
   |some (.elt _ _ _ _)=>true
   |some (.sp _ _)=>true
   |some (.eq r)=>match Γ r with
    |some (.box _ _)=>true
    |some (.hbox _ _ _)=>true
    |_=>false
   |_=>false
  else false
 |_=>false
theorem isPtr_ok {Γ:Ctx}{a:Act}{w:World}{Z:Nat→Prop}{β:Nat→List Nat}{γ:Nat→Value}(h:Core P fr Γ a w Z β γ){x:Operand}(hv:isPtr fr.n Γ x=true):∃ad,a.eval x=.pointer (some ad):=by
 cases x with
 |tmp t=>
  simp only[isPtr] at hv
  cases ht:Nat.blt t fr.n with
  |false=>rw[ht] at hv;simp at hv
  |true=>
   rw[ht] at hv
   simp only[cond_true] at hv
   rw[eval_ev (γ:=γ) ht]
   cases hg:Γ t with
   |none=>rw[hg] at hv;simp at hv
   |some e=>
    have he:=h.ent t e hg
    rw[hg] at hv
    cases e <;> simp at hv
    ·obtain⟨b,_,_,h1,_⟩:=he;exact⟨_,h1⟩
    ·rename_i r
     cases hr:Γ r with
     |none=>rw[hr] at hv;simp at hv
     |some e'=>
      have he':=h.ent r e' hr
      rw[hr] at hv
      cases e' <;> simp at hv
      ·obtain⟨b,_,_,h1,_⟩:=he'
       exact⟨_,by rw[show ev fr.n a γ t=ev fr.n a γ r from he];exact h1⟩
      ·obtain⟨_,b,_,_,h1,_⟩:=he'
       exact⟨_,by rw[show ev fr.n a γ t=ev fr.n a γ r from he];exact h1⟩
    ·obtain⟨b,_,h1⟩:=he;exact⟨_,h1⟩
    ·obtain⟨g,n,cap,_,h1⟩:=he;exact⟨_,h1⟩
    ·obtain⟨ad,_,h1,_⟩:=he;exact⟨_,h1⟩
    ·obtain⟨_,b,_,_,h1,_⟩:=he;exact⟨_,h1⟩
 |const v=>simp[isPtr] at hv
 |global g=>simp[isPtr] at hv
 |func f=>simp[isPtr] at hv
theorem isPtr_le {n:Nat}{E Γ:Ctx}(hle:E_le E Γ){x:Operand}(h:isPtr n E x=true):isPtr n Γ x=true:=by
 cases x with
 |tmp t=>
  simp only[isPtr] at h ⊢
  cases ht:Nat.blt t n with
  |false=>rw[ht] at h;simp at h
  |true=>
   rw[ht] at h
   simp only[cond_true] at h ⊢
   cases hg:E t with
   |none=>rw[hg] at h;simp at h
   |some e=>
    rw[hg] at h
    rw[hle t e hg]
    cases e <;> simp at h ⊢
    rename_i r
    cases hr:E r with
    |none=>rw[hr] at h;simp at h
    |some e'=>rw[hr] at h;rw[hle r e' hr];exact h
 |const v=>exact h
 |global g=>exact h
 |func f=>exact h
theorem la_nilc {E:Ctx}{o:Oper}{x:Operand}{t:Nat}{e:Ent}(ho:o.op=.nilCheck x)(hd:o.dst=some t)(ht:Nat.blt t fr.n=true)
  (hx:cp fr.n E x=some e)(hne:e.hdep t=false)(hp:isPtr fr.n E x=true):LA P fr E o [⟨t,true,some e⟩]:=by
 have hmv:=la_mv (P:=P) (fr:=fr) (E:=E) (o:={o with op:=.move x}) (x:=x) (t:=t) (e:=e) (.inl rfl) hd ht hx hne
 intro Γ hle a w K Q hst hk
 have h1:=hmv Γ hle a w K Q hst hk
 obtain⟨Z,β,γ,h⟩:=hst
 obtain⟨ad,had⟩:=isPtr_ok h (isPtr_le hle hp)
 unfold Oper.wp at h1 ⊢
 have e1:(execOp a.eval {o with op:=.move x}).run P w=.ok (.value (a.eval x)) w:=run_mv (.inl rfl) w
 have e2:(execOp a.eval o).run P w=.ok (.value (a.eval x)) w:=by
  unfold execOp
  rw[ho]
  simp[had]
 rw[e1] at h1
 rw[e2]
 exact h1
end Go.Proofs.YtkbcahfajbdgnaaGreatDoorT
namespace Go.Proofs.YtkbcahfajbdgnaaGreatDoorT
open Go
variable {P:Program}{fr:Fr}
def elemT (P:Program) (T E:TypeId):Bool:=match P.underlying T,P.info? E with
 |some (.slice e),some i=>e==E&&(match i.zero with|some z=>z.cells.size==i.size|none=>false)&&!(i.size==0)&&Nat.ble i.bytes 65536&&Nat.ble i.size 256
 |_,_=>false
theorem elemT_ok {T E:TypeId}(h:elemT P T E=true):∃i z,P.underlying T=some (.slice E)∧P.info? E=some i∧i.zero=some z∧z.cells.size=i.size∧0<i.size∧i.bytes≤65536∧szOf P E=i.size∧i.size≤256:=by
 unfold elemT at h
 split at h
 ·rename_i e i hu hi
  simp only[Bool.and_eq_true,beq_iff_eq] at h
  obtain⟨⟨⟨⟨rfl,h2⟩,h3⟩,h4⟩,h5⟩:=h
  cases hz:i.zero with
  |none=>rw[hz] at h2;simp at h2
  |some z=>
   rw[hz] at h2
   simp at h2 h3 h4 h5
   exact⟨i,z,hu,hi,hz,h2,by omega,h4,by simp[szOf,hi],h5⟩
 ·cases h
def Src (P:Program) (w:World) (Z:Nat→Prop) (Et:TypeId) (es:List (List C)) (x:Value) (bs:List Nat):Prop:=
 (x=.slice none 0 0∧es=[]∧bs=[])∨
 ∃ad c news,x=.slice (some ad) es.length c∧news.length=es.length*szOf P Et∧(∀k u,news[k]?=some u→w.cell? (ad.add k)=some u)∧(∀e∈es,e.length=szOf P Et)∧RLL P w Z es news bs
theorem RLL.one {w:World}{Z:Nat→Prop}:∀(es:List (List C)){vs:List Value}{bs:List Nat}(_:RLL P w Z es vs bs),∀x∈vs,x.oneCell'=true
 |[],_,_,h=>by simp[RLL] at h;simp[h]
 |e::es,vs,bs,h=>by
  simp only[RLL] at h
  obtain⟨v1,v2,b1,b2,rfl,rfl,hc,hr⟩:=h
  intro x hx
  rcases List.mem_append.1 hx with hx|hx
  ·exact RL.one e hc x hx
  ·exact RLL.one es hr x hx
theorem run_app {T Et ty:TypeId}{w:World}{Z:Nat→Prop}{es1 es2:List (List C)}{v x:Value}{b1 b2:List Nat}(hT:elemT P T Et=true)
  (h1:RC P w Z (.sl true Et es1) v b1)(h2:Src P w Z Et es2 x b2)(hlen:es1.length+es2.length≤2147483648)(hnd:(b1++b2).Nodup)
  (hZ:∀b,b∈b1→¬Z b)(hlt:∀b,b∈b1++b2→b<w.heap.size)(hZlt:∀b,Z b→b<w.heap.size) :
  ∃v' w' b',(Builtin.append_ #[T,T] ty #[v,x]).run P w=.ok v' w'∧Grow w w' (fun b=>b∈b1)∧RC P w' Z (.sl true Et (es1++es2)) v' b'∧
   Sub b' (w.heap.size::(b1++b2))∧(∀b,b∈b'→b<w'.heap.size):=by
 obtain⟨i,z,hu,hi,hz,hzs,hpos,hby,hsz,_⟩:=elemT_ok hT
 rcases h2 with⟨rfl,rfl,rfl⟩|⟨ad,c,news,rfl,hnl,hnc,hnk,hnr⟩
 ·
  refine⟨v,w,b1,?_,Grow.refl _ _,by simpa using h1,fun y=>by simp only[List.append_nil,List.count_cons];omega,fun b hb=>hlt b (by simp[hb])⟩
  simp only[RC] at h1
  rcases h1 with⟨rfl,_⟩|⟨_,_,_,h,_⟩|⟨g,cap,cur,bs',_,_,rfl,hle,_⟩
  ·simp[Builtin.append_,run_underlying hu,sizeOf,typeInfo,hi,Builtin.lenOf,Builtin.firstCells]
  ·cases h
  ·simp[Builtin.append_,run_underlying hu,sizeOf,typeInfo,hi,Builtin.lenOf,Builtin.firstCells,hle,storeCells]
 ·
  have hv:∃vals bs',w.ownsRow 0 Et i.size v es1.length vals∧RLL P w Z es1 vals bs'∧(∀e∈es1,e.length=i.size)∧((v=.slice none 0 0∧b1=[]∧bs'=[]∧es1=[])∨∃g,b1=g::bs'∧v.ownBlock=some g):=by
   simp only[RC] at h1
   rcases h1 with⟨rfl,rfl,rfl⟩|⟨_,_,_,h,_⟩|⟨g,cap,cur,bs',_,rfl,rfl,hle,hcm,hg,hcs,hk,hr⟩
   ·exact⟨[],[],World.ownsRow_nil _ _ _ _,by simp[RLL],by simp,.inl ⟨rfl,rfl,rfl,rfl⟩⟩
   ·cases h
   ·rw[hsz] at hcs hk hr
    refine⟨_,bs',⟨by rw[RLL.length es1 hk hr],.inr ⟨g,cap,cur,rfl,Nat.zero_le _,hg,hle,hcm,hcs,rfl⟩⟩,hr,hk,.inr ⟨g,rfl,rfl⟩⟩
  obtain⟨vals,bs',hown,hvr,hvk,hb1⟩:=hv
  rw[hsz] at hnl hnk
  have hm:(es1.length+es2.length)*i.bytes≤140737488355328:=Nat.le_trans (Nat.mul_le_mul hlen hby) (by decide)
  obtain⟨v',w',hrun,hown',hgrow,_,hat⟩:=run_append_own_at (P:=P) w 0 T ty Et i z i.size i.bytes hu hi hz rfl rfl hzs hpos v es1.length vals hown ad es2.length c news hnl hnc (RLL.one es2 hnr) (by unfold maxLen;omega) hm (Nat.zero_le _)
  have hrow:∀b,v.ownBlock=some b→b∈b1:=by
   intro b hb
   rcases hb1 with⟨rfl,_,_,_⟩|⟨g,rfl,hg⟩
   ·simp[Value.ownBlock] at hb
   ·rw[hg] at hb;simp at hb;simp[hb]
  have hgr:Grow w w' (fun b=>b∈b1):=(Grow.of_grownBy hgrow (run_drawn _ hrun)).mono hrow
  have hsame:∀b,(Z b∨b∈bs'++b2)→w'.heap[b]?=w.heap[b]?:=by
   intro b hb
   have hbl:b<w.heap.size:=by
    rcases hb with hb|hb
    ·exact hZlt b hb
    ·rcases List.mem_append.1 hb with hb|hb
     ·rcases hb1 with⟨_,_,rfl,_⟩|⟨g,rfl,_⟩
      ·simp at hb
      ·exact hlt b (by simp[hb])
     ·exact hlt b (by simp[hb])
   refine hgrow.block b hbl (fun e=>?_)
   have hbm:=hrow b e.symm
   rcases hb with hb|hb
   ·exact hZ b hbm hb
   ·rcases hb1 with⟨rfl,_,_,_⟩|⟨g,rfl,hg⟩
    ·simp[Value.ownBlock] at e
    ·have:g=b:=by rw[hg] at e;simpa using e.symm
     subst this
     simp only[List.cons_append,List.nodup_cons] at hnd
     exact hnd.1 hb
  have hall:RLL P w' Z (es1++es2) (vals++news) (bs'++b2):=
   (RLL.app _ _ _ _).2 ⟨vals,news,bs',b2,rfl,rfl,RLL.mono (fun _ h=>h) _ (fun b hb=>hsame b (by rcases hb with h|h;exact .inl h;exact .inr (by simp[h]))) hvr,
    RLL.mono (fun _ h=>h) _ (fun b hb=>hsame b (by rcases hb with h|h;exact .inl h;exact .inr (by simp[h]))) hnr⟩
  have hk2:∀e∈es1++es2,e.length=szOf P Et:=by
   intro e he
   rw[hsz]
   rcases List.mem_append.1 he with he|he
   ·exact hvk e he
   ·exact hnk e he
  have hrun':(Builtin.append_ #[T,T] ty #[v,.slice (some ad) es2.length c]).run P w=.ok v' w':=hrun
  rcases hown'.2 with⟨rfl,h0⟩|⟨g,cap,cur,rfl,_,hg,hle,hcm,hcs,htake⟩
  ·have he1:es1=[]:=List.eq_nil_of_length_eq_zero (by omega)
   have he2:es2=[]:=List.eq_nil_of_length_eq_zero (by omega)
   subst he1 he2
   exact⟨_,w',[],hrun',hgr,by simp[RC],Sub.nil _,by simp⟩
  ·refine⟨_,w',g::(bs'++b2),hrun',hgr,?_,?_,?_⟩
   ·simp only[RC]
    refine .inr (.inr ⟨g,cap,cur,bs'++b2,trivial,rfl,by simp,by simpa using hle,hcm,hg,by rw[hsz];exact hcs,hk2,?_⟩)
    rw[hsz,List.length_append,htake]
    exact hall
   ·intro y
    rcases hat with hat|hat
    ·rcases hb1 with⟨rfl,_,_,_⟩|⟨g',rfl,hg'⟩
     ·simp[Value.ownBlock] at hat
     ·rw[hg'] at hat
      simp[Value.ownBlock] at hat
      subst hat
      simp only[List.count_cons,List.count_append]
      omega
    ·simp[Value.ownBlock] at hat
     subst hat
     rcases hb1 with⟨_,rfl,rfl,_⟩|⟨g',rfl,_⟩
     ·simp only[List.count_cons,List.count_append,List.count_nil]
      omega
     ·simp only[List.count_cons,List.count_append]
      omega
   ·intro b hb
    rcases List.mem_cons.1 hb with rfl|hb
    ·exact block_lt hg
    ·refine Nat.lt_of_lt_of_le ?_ hgr.size
     rcases List.mem_append.1 hb with hb|hb
     ·rcases hb1 with⟨_,_,rfl,_⟩|⟨g',rfl,_⟩
      ·simp at hb
      ·exact hlt b (by simp[hb])
     ·exact hlt b (by simp[hb])
theorem RC.toSrc {w:World}{Z:Nat→Prop}{o:Bool}{Et:TypeId}{es:List (List C)}{y:Value}{bs:List Nat}(h:RC P w Z (.sl o Et es) y bs):∃b0,Src P w Z Et es y b0∧Sub b0 bs:=by
 simp only[RC] at h
 rcases h with⟨h1,h2,h3⟩|⟨ad,cap,vs,rfl,rfl,hy,h1,h2,hz,hc,hl,hr⟩|⟨g,cap,cur,bs',rfl,rfl,hy,h1,h2,hg,hs,hl,hr⟩
 ·exact⟨[],.inl ⟨h1,h2,rfl⟩,Sub.nil _⟩
 ·exact⟨[],.inr ⟨ad,cap,vs,hy,RLL.length es hl hr,hc,hl,hr⟩,Sub.nil _⟩
 ·refine⟨bs',.inr ⟨_,cap,_,hy,RLL.length es hl hr,?_,hl,hr⟩,fun x=>by rw[List.count_cons];omega⟩
  intro k x hx
  rw[cell_row hg]
  rw[List.getElem?_take] at hx
  split at hx
  ·simpa using hx
  ·cases hx
theorem la_app {E:Ctx}{o:Oper}{t:Nat}{T Et:TypeId}{s x:Operand}{Ss Sx:List Nat}{o2:Bool}{α:Type}{f:α→List C}{xs ys:List α}{es2:List (List C)}
  (ho:o.op=.call {callee:=.builtin .append,args:=#[s,x],argTypes:=#[T,T]})(hd:o.dst=some t)(ht:Nat.blt t fr.n=true)(hT:elemT P T Et=true)
  (hs:tk fr.n E s=some (.one (.sl true Et (xs.map f)),Ss))(hx:tk fr.n E x=some (.one (.sl o2 Et es2),Sx))(hf:es2=ys.map f)
  (hlen:xs.length+ys.length≤2147483648)(hS:(Ss++Sx).Nodup) :
  LA P fr E o (⟨t,true,some (.d (.one (.sl true Et ((xs++ys).map f))))⟩::(Ss++Sx).map rmv):=by
 subst hf
 intro Γ hle a w K Q ⟨Z,β,γ,h⟩ hk
 obtain⟨b1,hs1,hs2⟩:=tk_sub h (tk_le hle hs)
 obtain⟨b2',hx1,hx2⟩:=tk_sub h (tk_le hle hx)
 simp only[RD] at hs1 hx1
 obtain⟨b2,hsrc,hsub⟩:=RC.toSrc hx1
 have hbs:Sub (b1++b2) ((Ss++Sx).flatMap β):=by
  rw[List.flatMap_append]
  exact Sub.app hs2 (hsub.trans hx2)
 have hfl:=h.flat hS
 have hmem:∀b,b∈b1++b2→∃s,s∈Ss++Sx∧b∈β s:=fun b hb=>by
  obtain⟨s,h1,h2⟩:=List.mem_flatMap.1 (hbs.mem hb);exact⟨s,h1,h2⟩
 have hlt:∀b,b∈b1++b2→b<w.heap.size:=fun b hb=>by
  obtain⟨s,h1,h2⟩:=hmem b hb;exact(h.own s b h2).1
 obtain⟨v',w',b',hrun,hgr,hres,hb',hb'lt⟩:=run_app (P:=P) (ty:=o.type) hT hs1 hsrc (by simpa using hlen) (hbs.nodup hfl)
  (fun b hb=>by obtain⟨s,h1,h2⟩:=hmem b (by simp[hb]);exact(h.own s b h2).2.1) hlt h.zlt
 refine wp_of_run (w':=w') (v:=v') ?_ (hk _ _ ?_)
 ·unfold execOp
  rw[ho]
  simp[resolve,invoke,builtin,hrun]
 ·rw[hd]
  refine⟨Z,_,γ,h.give (Ss++Sx) ht (bn:=b') (hgr.mono fun b hb=>hmem b (by simp[hb])) ?_ ?_ ?_⟩
  ·intro b hb
   refine⟨hb'lt b hb,?_⟩
   rcases List.mem_cons.1 (hb'.mem hb) with rfl|hb
   ·exact .inl (Nat.le_refl _)
   ·exact .inr (hmem b hb)
  ·refine hb'.nodup ?_
   rw[List.nodup_cons]
   exact⟨fun hm=>by have:=hlt _ hm;omega,hbs.nodup hfl⟩
  ·intro β' ev' h1 h2 _ _
   simp only[EntOk,RD]
   rw[h2,h1,List.map_append]
   exact hres
end Go.Proofs.YtkbcahfajbdgnaaGreatDoorT
namespace Go.Proofs.YtkbcahfajbdgnaaGreatDoorT
open Go
variable {P:Program}{fr:Fr}
def tkL (n:Nat) (Γ:Ctx):List Operand→Option (List Dt×List Nat)
 |[]=>some ([],[])
 |x::xs=>match tk n Γ x,tkL n Γ xs with
  |some (X,S),some (Xs,Ss)=>some (X::Xs,S++Ss)
  |_,_=>none
def RDs (P:Program) (w:World) (Z:Nat→Prop):List Dt→List Value→List Nat→Prop
 |[],ys,bs=>ys=[]∧bs=[]
 |x::xs,ys,bs=>∃y ys' b1 b2,ys=y::ys'∧bs=b1++b2∧RD P w Z x y b1∧RDs P w Z xs ys' b2
theorem tkL_le {n:Nat}{E Γ:Ctx}(hle:E_le E Γ):∀{xs:List Operand}{q:List Dt×List Nat}(_:tkL n E xs=some q),tkL n Γ xs=some q
 |[],_,h=>h
 |x::xs,q,h=>by
  simp only[tkL] at h ⊢
  cases h1:tk n E x with
  |none=>rw[h1] at h;simp at h
  |some q1=>
   cases h2:tkL n E xs with
   |none=>rw[h1,h2] at h;simp at h
   |some q2=>rw[h1,h2] at h;rw[tk_le hle h1,tkL_le hle h2];exact h
theorem tkL_sub {Γ:Ctx}{a:Act}{w:World}{Z:Nat→Prop}{β:Nat→List Nat}{γ:Nat→Value}(h:Core P fr Γ a w Z β γ):∀{xs:List Operand}{Xs:List Dt}{S:List Nat}
  (_:tkL fr.n Γ xs=some (Xs,S)),∃bs,RDs P w Z Xs (xs.map a.eval) bs∧Sub bs (S.flatMap β)
 |[],Xs,S,hv=>by
  simp[tkL] at hv
  obtain⟨rfl,rfl⟩:=hv
  exact⟨[],by simp[RDs],Sub.nil _⟩
 |x::xs,Xs,S,hv=>by
  simp only[tkL] at hv
  cases h1:tk fr.n Γ x with
  |none=>rw[h1] at hv;simp at hv
  |some q1=>
   cases h2:tkL fr.n Γ xs with
   |none=>rw[h1,h2] at hv;simp at hv
   |some q2=>
    rw[h1,h2] at hv
    simp at hv
    obtain⟨rfl,rfl⟩:=hv
    obtain⟨b1,hr1,hs1⟩:=tk_sub h h1
    obtain⟨b2,hr2,hs2⟩:=tkL_sub h h2
    refine⟨b1++b2,⟨_,_,b1,b2,rfl,rfl,hr1,hr2⟩,?_⟩
    rw[List.flatMap_append]
    exact Sub.app hs1 hs2
theorem RDs.cells {w:World}{Z:Nat→Prop}:∀{xs:List Dt}{ys:List Value}{bs:List Nat}(_:RDs P w Z xs ys bs),RLL P w Z (xs.map YtkbcahfajbdgnaaGreatDoorT.cells) (ys.map fun y=>y.cells.toList).flatten bs
 |[],_,_,h=>by obtain⟨rfl,rfl⟩:=h;simp[RLL]
 |x::xs,ys,bs,h=>by
  obtain⟨y,ys',b1,b2,rfl,rfl,h1,h2⟩:=h
  simp only[List.map_cons,List.flatten_cons,RLL]
  exact⟨_,_,b1,b2,rfl,rfl,RD.cells h1,RDs.cells h2⟩
theorem foldl_set (n:Nat):∀(vs:List Value) (k:Nat) (cur:Array Value),n+k+vs.length≤cur.size→
  ((vs.zipIdx k).foldl (fun cs (cj:Value×Nat)=>cs.setIfInBounds (n+cj.2) cj.1) cur).toList=cur.toList.take (n+k)++vs++cur.toList.drop (n+k+vs.length)
 |[],k,cur,_=>by simp
 |v::vs,k,cur,h=>by
  simp only[List.zipIdx_cons,List.foldl_cons]
  rw[foldl_set n vs (k+1) _ (by simp at h ⊢;omega)]
  simp only[Array.toList_setIfInBounds]
  have hlt:n+k<cur.toList.length:=by simp at h ⊢;omega
  rw[List.set_eq_take_append_cons_drop,if_pos hlt]
  have e1:n+(k+1)=n+k+1:=by omega
  rw[e1]
  have hl:(cur.toList.take (n+k)).length=n+k:=by rw[List.length_take];omega
  have e2:(cur.toList.take (n+k)++v::cur.toList.drop (n+k+1)).take (n+k+1)=cur.toList.take (n+k)++[v]:=by
   rw[List.take_append,hl,List.take_of_length_le (by rw[hl];omega),show n+k+1-(n+k)=1 by omega]
   simp
  have e3:(cur.toList.take (n+k)++v::cur.toList.drop (n+k+1)).drop (n+k+1+vs.length)=cur.toList.drop (n+k+(v::vs).length):=by
   rw[List.drop_append,hl,List.drop_of_length_le (by rw[hl];omega),show n+k+1+vs.length-(n+k)=vs.length+1 by omega]
   simp[Nat.add_assoc,Nat.add_comm 1]
  rw[e2,e3]
  simp
theorem fill_all (sz:Nat):∀(vs:List Value) (k:Nat) (cur:Array Value),(∀v∈vs,v.cells.size=sz)→cur.size=(k+vs.length)*sz→
  ∃r,Instr.fill (fun i=>some (i*sz,sz)) cur ((vs.zipIdx k).map fun (v,i)=>(i,v))=some r∧r.toList=cur.toList.take (k*sz)++(vs.map fun v=>v.cells.toList).flatten
 |[],k,cur,_,hs=>by
  refine⟨cur,by simp[Instr.fill],?_⟩
  simp at hs
  simp[List.take_of_length_le,hs]
 |v::vs,k,cur,hv,hs=>by
  have hvc:=hv v (by simp)
  simp only[List.zipIdx_cons,List.map_cons,Instr.fill]
  have hsz:cur.size=(k+1+vs.length)*sz:=by rw[hs];congr 1;simp;omega
  have hfit:¬(v.cells.size≠sz∨k*sz+v.cells.size>cur.size):=by
   rw[hvc,hsz]
   have:k*sz+sz≤(k+1+vs.length)*sz:=by
    rw[←Nat.succ_mul]
    exact Nat.mul_le_mul_right _ (by omega)
   simp
   omega
  have hfl:(v.cells.zipIdx.foldl (fun cs (cj:Value×Nat)=>cs.setIfInBounds (k*sz+cj.2) cj.1) cur).toList=cur.toList.take (k*sz)++v.cells.toList++cur.toList.drop (k*sz+sz):=by
   have:=foldl_set (k*sz) v.cells.toList 0 cur (by simp at hfit ⊢;omega)
   simp only[Nat.add_zero,Array.length_toList,hvc] at this
   rw[←this]
   rw[←Array.foldl_toList]
   simp
  obtain⟨r,hr,hrl⟩:=fill_all sz vs (k+1) (v.cells.zipIdx.foldl (fun cs (cj:Value×Nat)=>cs.setIfInBounds (k*sz+cj.2) cj.1) cur) (fun u hu=>hv u (by simp[hu])) (by
   have hlen:=congrArg List.length hfl
   simp only[Array.length_toList,List.length_append,List.length_take,List.length_drop,hvc] at hlen
   rw[hlen,hsz]
   have h1:k*sz+sz≤(k+1+vs.length)*sz:=by
    rw[←Nat.succ_mul]
    exact Nat.mul_le_mul_right _ (by omega)
   omega)
  refine⟨r,?_,?_⟩
  ·have hdec:(decide (v.cells.size≠sz)||decide (k*sz+v.cells.size>cur.size))=false:=by simp;simp at hfit;omega
   simp only[hdec]
   simpa using hr
  ·rw[hrl,hfl,Nat.succ_mul]
   have hl:(cur.toList.take (k*sz)++v.cells.toList).length=k*sz+sz:=by
    rw[List.length_append,List.length_take,Array.length_toList,Array.length_toList,hvc,hsz]
    have h1:k*sz+sz≤(k+1+vs.length)*sz:=by
     rw[←Nat.succ_mul]
     exact Nat.mul_le_mul_right _ (by omega)
    omega
   rw[←hl,List.take_left]
   simp
def inOrd:List (Nat×Operand)→Nat→Bool
 |[],_=>true
 |p::ps,k=>Nat.beq p.1 k&&inOrd ps (k+1)
theorem inOrd_ok (ρ:Operand→Value):∀(ps:List (Nat×Operand)) (k:Nat),inOrd ps k=true→ps.map (fun p=>(p.1,ρ p.2))=(((ps.map fun p=>ρ p.2).zipIdx k).map fun (v,i)=>(i,v))
 |[],_,_=>rfl
 |p::ps,k,h=>by
  simp only[inOrd,Bool.and_eq_true] at h
  have hk:p.1=k:=Nat.eq_of_beq_eq_true h.1
  simp only[List.map_cons,List.zipIdx_cons]
  rw[inOrd_ok ρ ps (k+1) h.2,hk]
theorem la_bsl {E:Ctx}{o:Oper}{t n:Nat}{T Et:TypeId}{parts:Array (Nat×Operand)}{Xs:List Dt}{S:List Nat}{α:Type}{f:α→List C}{xs:List α}
  (ho:o.op=.buildSlice T n parts)(hd:o.dst=some t)(ht:Nat.blt t fr.n=true)(hT:elemT P T Et=true)(hin:inOrd parts.toList 0=true)(hn:Nat.beq parts.size n=true)(hn2:Nat.ble n 65536=true)
  (hx:tkL fr.n E (parts.toList.map (·.2))=some (Xs,S))(hf:Xs.map cells=xs.map f)(hl:∀x∈Xs,(cells x).length=szOf P Et)(hS:S.Nodup) :
  LA P fr E o (⟨t,true,some (.d (.one (.sl true Et (xs.map f))))⟩::S.map rmv):=by
 intro Γ hle a w K Q ⟨Z,β,γ,h⟩ hk
 obtain⟨i,z,hu,hi,hz,hzs,hpos,hby,hsz,hs256⟩:=elemT_ok hT
 obtain⟨bs,hr,hb⟩:=tkL_sub h (tkL_le hle hx)
 have hn':parts.size=n:=Nat.eq_of_beq_eq_true hn
 have hn2':n≤65536:=by simpa using hn2
 have hcells:=RDs.cells hr
 have hfl:=h.flat hS
 have hvs:∀v∈(parts.toList.map (·.2)).map a.eval,v.cells.size=i.size:=by
  have:∀(Xs:List Dt) (ys:List Value) (bs:List Nat),RDs P w Z Xs ys bs→(∀x∈Xs,(cells x).length=szOf P Et)→∀v∈ys,v.cells.size=i.size:=by
   intro Xs
   induction Xs with
   |nil=>intro ys bs h1 _ v hv;obtain⟨rfl,_⟩:=h1;simp at hv
   |cons x Xs ih=>
    intro ys bs h1 h2 v hv
    obtain⟨y,ys',b1,b2,rfl,rfl,h3,h4⟩:=h1
    rcases List.mem_cons.1 hv with rfl|hv
    ·have:=RL.length _ (RD.cells h3)
     rw[h2 x (by simp),hsz] at this
     simpa using this
    ·exact ih ys' b2 h4 (fun x hx=>h2 x (by simp[hx])) v hv
  exact this Xs _ _ hr hl
 have hXl:Xs.length=n:=by
  have:∀(Xs:List Dt) (ys:List Value) (bs:List Nat),RDs P w Z Xs ys bs→ys.length=Xs.length:=by
   intro Xs
   induction Xs with
   |nil=>intro ys bs h1;obtain⟨rfl,_⟩:=h1;rfl
   |cons x Xs ih=>intro ys bs h1;obtain⟨y,ys',b1,b2,rfl,rfl,h3,h4⟩:=h1;simp[ih _ _ h4]
  have:=this _ _ _ hr
  simp at this
  omega
 obtain⟨r,hfill,hrl⟩:=fill_all i.size ((parts.toList.map (·.2)).map a.eval) 0 ((Array.range (n*i.size)).map fun k=>(if n*i.size=0 then #[] else z.cells)[k % (if n*i.size=0 then #[] else z.cells).size]!) hvs (by simp[hn'])
 have hrl':r.toList=(((parts.toList.map (·.2)).map a.eval).map fun v=>v.cells.toList).flatten:=by simpa using hrl
 refine wp_of_run (w':=w.alloc (.cells r Et)) (v:=.slice (some ⟨w.heap.size,0,none⟩) n n) ?_ (hk _ _ ?_)
 ·unfold execOp
  rw[ho]
  have hpl:=inOrd_ok a.eval parts.toList 0 hin
  have hmap:(parts.toList.map (·.2)).map a.eval=parts.toList.map fun p=>a.eval p.2:=by simp
  rw[hmap,←hpl] at hfill
  have hle24:¬(n*i.size>2 ^ 24):=by
   have:n*i.size≤65536*256:=Nat.mul_le_mul hn2' hs256
   simp
   omega
  have hlist:(parts.map fun (i,x)=>(i,a.eval x)).toList=parts.toList.map (fun p=>(p.1,a.eval p.2)):=by simp
  by_cases h0:n*i.size=0
  ·have he:(Array.range 0).map (fun _:Nat=>(default:Value))=#[]:=by simp
   have he2:(Array.range 0).map (fun k:Nat=>(#[]:Array Value)[k % (#[]:Array Value).size]!)=#[]:=by simp
   simp only[h0,if_true,he2] at hfill
   simp[Instr.buildSlice,run_underlying hu,sizeOf,typeInfo,hi,h0,newRow,newObj]
   rw[he,hfill]
   rfl
  ·simp only[h0,if_false] at hfill
   simp[Instr.buildSlice,run_underlying hu,sizeOf,typeInfo,hi,h0,hle24,zeroValue,hz,hfill,newRow,newObj]
   rfl
 ·rw[hd]
  have hmem:∀b,b∈bs→∃s,s∈S∧b∈β s:=fun b hb'=>by
   obtain⟨s,h1,h2⟩:=List.mem_flatMap.1 (hb.mem hb');exact⟨s,h1,h2⟩
  have hlt:∀b,b∈bs→b<w.heap.size:=fun b hb'=>by obtain⟨s,h1,h2⟩:=hmem b hb';exact(h.own s b h2).1
  refine⟨Z,_,γ,h.give S ht (bn:=w.heap.size::bs) (Grow.alloc _ _ _) ?_ ?_ ?_⟩
  ·intro b hb'
   rcases List.mem_cons.1 hb' with rfl|hb'
   ·exact⟨by simp,.inl (Nat.le_refl _)⟩
   ·exact⟨by have:=hlt b hb';simp;omega,.inr (hmem b hb')⟩
  ·rw[List.nodup_cons]
   exact⟨fun hm=>by have:=hlt _ hm;omega,hb.nodup hfl⟩
  ·intro β' ev' h1 h2 _ _
   simp only[EntOk,RD,RC]
   have hlen:(xs.map f).length=n:=by rw[←hf];simpa using hXl
   have hel:∀e∈xs.map f,e.length=szOf P Et:=by
    rw[←hf]
    intro e he
    obtain⟨x,hx,rfl⟩:=List.mem_map.1 he
    exact hl x hx
   rw[h2,h1]
   refine .inr (.inr ⟨w.heap.size,n,r,bs,trivial,rfl,by rw[hlen],by omega,by unfold maxLen;omega,heap_alloc_new w _,?_,hel,?_⟩)
   ·have h3:=RLL.length _ (by rw[hf];exact hel) hcells
    rw[←hrl'] at h3
    simp only[Array.length_toList,List.length_map,hXl] at h3
    exact h3
   ·have h3:=RLL.length _ (by rw[hf];exact hel) hcells
    rw[←hrl'] at h3
    simp only[List.length_map,hXl] at h3
    rw[hlen,←h3,List.take_length]
    rw[hf,←hrl'] at hcells
    refine RLL.mono (fun _ hz=>hz) _ (fun b hb'=>?_) hcells
    rcases hb' with hz|hb'
    ·exact(Grow.alloc w _ (fun _=>False)).block b (h.zlt b hz) (fun h=>h)
    ·exact(Grow.alloc w _ (fun _=>False)).block b (hlt b hb') (fun h=>h)
end Go.Proofs.YtkbcahfajbdgnaaGreatDoorT
namespace Go.Proofs.YtkbcahfajbdgnaaGreatDoorT
open Go
variable {P:Program}{fr:Fr}
def slOf (n:Nat) (Γ:Ctx):Operand→Option (Nat×TypeId×List (List C))
 |.tmp t=>bif Nat.blt t n then
   match Γ t with
   |some (.d (.one (.sl true E es)))=>some (t,E,es)
   |some (.eq r)=>match Γ r with
    |some (.d (.one (.sl true E es)))=>some (r,E,es)
    |_=>none
   |_=>none
  else none
 |_=>none
theorem slOf_le {n:Nat}{E Γ:Ctx}(hle:E_le E Γ){x:Operand}{q:Nat×TypeId×List (List C)}(h:slOf n E x=some q):slOf n Γ x=some q:=by
 cases x with
 |tmp t=>
  simp only[slOf] at h ⊢
  cases ht:Nat.blt t n with
  |false=>rw[ht] at h;simp at h
  |true=>
   rw[ht] at h
   simp only[cond_true] at h ⊢
   cases hg:E t with
   |none=>rw[hg] at h;simp at h
   |some e=>
    rw[hg] at h
    rw[hle t e hg]
    split at h
    ·rename_i E' es' hq
     simp only[Option.some.injEq] at hq
     subst hq
     exact h
    ·rename_i r hq
     simp only[Option.some.injEq] at hq
     subst hq
     cases hr:E r with
     |none=>rw[hr] at h;simp at h
     |some e=>rw[hr] at h;rw[hle r e hr];exact h
    ·cases h
 |const v=>exact h
 |global g=>exact h
 |func f=>exact h
theorem slOf_ok {Γ:Ctx}{a:Act}{w:World}{Z:Nat→Prop}{β:Nat→List Nat}{γ:Nat→Value}(h:Core P fr Γ a w Z β γ){x:Operand}{r:Nat}{Et:TypeId}{es:List (List C)}
  (hv:slOf fr.n Γ x=some (r,Et,es)):Γ r=some (.d (.one (.sl true Et es)))∧a.eval x=ev fr.n a γ r∧RC P w Z (.sl true Et es) (ev fr.n a γ r) (β r):=by
 cases x with
 |tmp t=>
  simp only[slOf] at hv
  cases ht:Nat.blt t fr.n with
  |false=>rw[ht] at hv;simp at hv
  |true=>
   rw[ht] at hv
   simp only[cond_true] at hv
   rw[eval_ev (γ:=γ) ht]
   have main:∀r,Γ r=some (.d (.one (.sl true Et es)))→RC P w Z (.sl true Et es) (ev fr.n a γ r) (β r):=fun r hr=>h.ent r _ hr
   cases hg:Γ t with
   |none=>rw[hg] at hv;simp at hv
   |some e=>
    have he:=h.ent t e hg
    rw[hg] at hv
    split at hv
    ·rename_i E' es' hq
     simp at hv
     obtain⟨rfl,rfl,rfl⟩:=hv
     rw[hq] at hg
     exact⟨hg,rfl,main t hg⟩
    ·rename_i q hq
     split at hv
     ·rename_i E' es' hq'
      simp at hv
      obtain⟨rfl,rfl,rfl⟩:=hv
      simp at hq
      subst hq
      exact⟨hq',he,main q hq'⟩
     ·cases hv
    ·cases hv
 |const v=>simp[slOf] at hv
 |global g=>simp[slOf] at hv
 |func f=>simp[slOf] at hv
def elOf (n:Nat) (Γ:Ctx):Operand→Option (Nat×TypeId×Nat×Nat×List (List C))
 |.tmp t=>bif Nat.blt t n then
   match Γ t with
   |some (.elt r E i k)=>match Γ r with
    |some (.d (.one (.sl true E' es)))=>bif Nat.beq E E' then some (r,E,i,k,es) else none
    |_=>none
   |_=>none
  else none
 |_=>none
theorem elOf_le {n:Nat}{E Γ:Ctx}(hle:E_le E Γ){x:Operand}{q:Nat×TypeId×Nat×Nat×List (List C)}(h:elOf n E x=some q):elOf n Γ x=some q:=by
 cases x with
 |tmp t=>
  simp only[elOf] at h ⊢
  cases ht:Nat.blt t n with
  |false=>rw[ht] at h;simp at h
  |true=>
   rw[ht] at h
   simp only[cond_true] at h ⊢
   cases hg:E t with
   |none=>rw[hg] at h;simp at h
   |some e=>
    rw[hg] at h
    rw[hle t e hg]
    cases e <;> simp at h ⊢
    rename_i r _ _ _
    cases hr:E r with
    |none=>rw[hr] at h;simp at h
    |some e=>rw[hr] at h;rw[hle r e hr];exact h
 |const v=>exact h
 |global g=>exact h
 |func f=>exact h
theorem elOf_ok {Γ:Ctx}{a:Act}{w:World}{Z:Nat→Prop}{β:Nat→List Nat}{γ:Nat→Value}(h:Core P fr Γ a w Z β γ){x:Operand}{r:Nat}{Et:TypeId}{i k:Nat}{es:List (List C)}
  (hv:elOf fr.n Γ x=some (r,Et,i,k,es)):Γ r=some (.d (.one (.sl true Et es)))∧∃g n cap,ev fr.n a γ r=.slice (some ⟨g,0,none⟩) n cap∧a.eval x=.pointer (some ⟨g,i*szOf P Et+k,none⟩)∧
   RC P w Z (.sl true Et es) (ev fr.n a γ r) (β r):=by
 cases x with
 |tmp t=>
  simp only[elOf] at hv
  cases ht:Nat.blt t fr.n with
  |false=>rw[ht] at hv;simp at hv
  |true=>
   rw[ht] at hv
   simp only[cond_true] at hv
   rw[eval_ev (γ:=γ) ht]
   cases hg:Γ t with
   |none=>rw[hg] at hv;simp at hv
   |some e=>
    have he:=h.ent t e hg
    rw[hg] at hv
    cases e <;> simp at hv
    rename_i q E' i' k'
    split at hv
    ·rename_i E'' es' hq'
     cases hb:Nat.beq E' E'' with
     |false=>rw[hb] at hv;simp at hv
     |true=>
      rw[hb] at hv
      simp at hv
      have:=Nat.eq_of_beq_eq_true hb
      subst this
      obtain⟨rfl,rfl,rfl,rfl,rfl⟩:=hv
      obtain⟨g,n,cap,h1,h2⟩:=he
      exact⟨hq',g,n,cap,h1,h2,h.ent q _ hq'⟩
    ·cases hv
 |const v=>simp[elOf] at hv
 |global g=>simp[elOf] at hv
 |func f=>simp[elOf] at hv
theorem RC.own {w:World}{Z:Nat→Prop}{Et:TypeId}{es:List (List C)}{y:Value}{bs:List Nat}(h:RC P w Z (.sl true Et es) y bs)(hne:es≠[]) :
  ∃g cap cur bs',bs=g::bs'∧y=.slice (some ⟨g,0,none⟩) es.length cap∧es.length≤cap∧cap≤maxLen∧w.heap[g]?=some (.cells cur Et (0,0))∧cur.size=cap*szOf P Et∧
   (∀e∈es,e.length=szOf P Et)∧RLL P w Z es (cur.toList.take (es.length*szOf P Et)) bs':=by
 simp only[RC] at h
 rcases h with⟨_,h,_⟩|⟨_,_,_,h,_⟩|⟨g,cap,cur,bs',_,h⟩
 ·exact absurd h hne
 ·cases h
 ·exact⟨g,cap,cur,bs',h⟩
theorem la_eidx {E:Ctx}{o:Oper}{t:Nat}{T Et:TypeId}{x y:Operand}{r:Nat}{i:Int}{α:Type}{f:α→List C}{xs:List α}
  (ho:o.op=.indexAddr T x y)(hd:o.dst=some t)(ht:Nat.blt t fr.n=true)(hT:elemT P T Et=true)
  (hx:slOf fr.n E x=some (r,Et,xs.map f))(hy:vs fr.n E y=some (.int .i64 i))(h0:0≤i)(h1:i<(xs.length:Int))(hr:Nat.beq r t=false) :
  LA P fr E o [⟨t,true,some (.elt r Et i.toNat 0)⟩]:=by
 refine LA.val hd ht fun Γ a w Z β γ hle h=>?_
 obtain⟨inf,z,hu,hi,hz,hzs,hpos,hby,hsz,_⟩:=elemT_ok hT
 obtain⟨_,hev,hrc⟩:=slOf_ok h (slOf_le hle hx)
 have hne:xs.map f≠[]:=by rintro h;simp at h;subst h;simp at h1;omega
 obtain⟨g,cap,cur,bs',hbs,hy',hle',hcm,hg,hcs,hk,hrl⟩:=RC.own hrc hne
 refine⟨.pointer (some ⟨g,i.toNat*szOf P Et+0,none⟩),?_,fun β' ev' hb hb' hv hv'=>?_⟩
 ·unfold execOp
  rw[ho]
  have hil:i<(((xs.map f).length:Nat):Int):=by simpa using h1
  simp[Instr.indexAt,hev,hy',vs_ok h (vs_le hle hy),asIntOf,run_underlying hu,h0,sizeOf,typeInfo,hi,hsz,h1,add_at]
 ·simp only[EntOk]
  exact⟨g,_,cap,by rw[hv' r (by rintro rfl;simp at hr)];exact hy',hv⟩
theorem la_felt {E:Ctx}{o:Oper}{t:Nat}{T Et:TypeId}{f k r i k0:Nat}{x:Operand}{es:List (List C)}(ho:o.op=.fieldAddr T x f)(hd:o.dst=some t)(ht:Nat.blt t fr.n=true)
  (hT:fldAt P T f k=true)(hx:elOf fr.n E x=some (r,Et,i,k0,es))(hr:Nat.beq r t=false):LA P fr E o [⟨t,true,some (.elt r Et i (k0+k))⟩]:=by
 refine LA.val hd ht fun Γ a w Z β γ hle h=>?_
 obtain⟨_,g,n,cap,h1,h2,_⟩:=elOf_ok h (elOf_le hle hx)
 refine⟨.pointer (some ⟨g,i*szOf P Et+(k0+k),none⟩),?_,fun β' ev' hb hb' hv' hv''=>?_⟩
 ·unfold execOp
  rw[ho]
  have:(⟨g,i*szOf P Et+k0,none⟩:Addr).add k=⟨g,i*szOf P Et+(k0+k),none⟩:=by
   unfold Addr.add
   split
   ·simp_all
   ·simp[Nat.add_assoc]
  simp[h2,run_fldAt hT,this]
 ·simp only[EntOk]
  exact⟨g,n,cap,by rw[hv'' r (by rintro rfl;simp at hr)];exact h1,hv'⟩
theorem own_cell {w:World}{Z:Nat→Prop}{Et:TypeId}{es:List (List C)}{y:Value}{bs:List Nat}(h:RC P w Z (.sl true Et es) y bs){g n cap:Nat}(hy:y=.slice (some ⟨g,0,none⟩) n cap)
  {i k:Nat}{e:List C}(he:es[i]?=some e){c:C}(hc:e[k]?=some c):∃u bu,w.cell? ⟨g,i*szOf P Et+k,none⟩=some u∧RC P w Z c u bu∧(∀b,b∈bu→b∈bs):=by
 have hne:es≠[]:=by rintro rfl;simp at he
 obtain⟨g',cap',cur,bs',rfl,hy',_,_,hg,hcs,hk,hrl⟩:=RC.own h hne
 have hgg:g'=g:=by rw[hy'] at hy;simp at hy;exact hy.1
 subst hgg
 obtain⟨v1,v,v2,b1,b,b2,hvs,hbs,hl1,hl,_,hre,_⟩:=RLL.get hk hrl he
 obtain⟨u1,u,u2,c1,cu,c2,hv,hb,hlu,_,hrc,_⟩:=RL.get hre hc
 refine⟨u,cu,?_,hrc,fun x hx=>by simp[hbs,hb,hx]⟩
 have hidx:(cur.toList.take (es.length*szOf P Et))[i*szOf P Et+k]?=some u:=by
  rw[hvs,←hl1]
  apply get_mid
  rw[hv,←hlu]
  simp
 rw[List.getElem?_take] at hidx
 split at hidx
 ·have:=cell_row hg (i*szOf P Et+k)
  rw[add_at] at this
  rw[this]
  simpa using hidx
 ·cases hidx
theorem la_lde {E:Ctx}{o:Oper}{t:Nat}{T Et:TypeId}{x:Operand}{r i k:Nat}{c:C}{α:Type}{f:α→List C}{xs:List α}{z:α}(ho:o.op=.load T x)(hd:o.dst=some t)(ht:Nat.blt t fr.n=true)
  (hT:flatT P T=true)(hx:elOf fr.n E x=some (r,Et,i,k,xs.map f))(hz:xs[i]?=some z)(hc:(f z)[k]?=some c)(hp:plainC c=true):LA P fr E o [⟨t,true,some (.d (.one c))⟩]:=by
 refine LA.val hd ht fun Γ a w Z β γ hle h=>?_
 obtain⟨_,g,n,cap,h1,h2,h3⟩:=elOf_ok h (elOf_le hle hx)
 obtain⟨u,bu,hu,hrc,_⟩:=own_cell h3 h1 (i:=i) (e:=f z) (by simp[hz]) hc
 have:=plainC_nil hp hrc
 subst this
 refine⟨u,?_,fun β' ev' hb hb' hv' hv''=>?_⟩
 ·unfold execOp
  rw[ho]
  simp[h2,run_load_flat hT hu]
 ·simp only[EntOk,RD]
  rw[hv',hb]
  exact hrc
theorem la_ldeb {E:Ctx}{o:Oper}{t:Nat}{T Et:TypeId}{x:Operand}{r i k:Nat}{c c':C}{α:Type}{f:α→List C}{xs:List α}{z:α}(ho:o.op=.load T x)(hd:o.dst=some t)(ht:Nat.blt t fr.n=true)
  (hT:flatT P T=true)(hx:elOf fr.n E x=some (r,Et,i,k,xs.map f))(hz:xs[i]?=some z)(hc:(f z)[k]?=some c)(hs:shC c=c')(hr:Nat.beq r t=false):LA P fr E o [⟨t,true,some (.bor r (.one c'))⟩]:=by
 refine LA.val hd ht fun Γ a w Z β γ hle h=>?_
 obtain⟨_,g,n,cap,h1,h2,h3⟩:=elOf_ok h (elOf_le hle hx)
 obtain⟨u,bu,hu,hrc,hbu⟩:=own_cell h3 h1 (i:=i) (e:=f z) (by simp[hz]) hc
 refine⟨u,?_,fun β' ev' hb hb' hv' hv''=>?_⟩
 ·unfold execOp
  rw[ho]
  simp[h2,run_load_flat hT hu]
 ·simp only[EntOk,RD]
  rw[hv',←hs]
  refine RC.mono ?_ _ (fun _ _=>rfl) (RC.share c hrc)
  intro b hz
  simp only[zr]
  rw[hb' r (by rintro rfl;simp at hr)]
  exact hz.imp id (hbu b)
theorem la_ldes {E:Ctx}{o:Oper}{t:Nat}{T Et:TypeId}{x:Operand}{r i:Nat}{cs':List C}{α:Type}{f:α→List C}{xs:List α}{z:α}(ho:o.op=.load T x)(hd:o.dst=some t)(ht:Nat.blt t fr.n=true)
  (hT:rowT P T=true)(hTE:szOf P T=szOf P Et)(hx:elOf fr.n E x=some (r,Et,i,0,xs.map f))(hz:xs[i]?=some z)(hs:(f z).map shC=cs')(hr:Nat.beq r t=false):LA P fr E o [⟨t,true,some (.bor r (.agg cs'))⟩]:=by
 refine LA.val hd ht fun Γ a w Z β γ hle h=>?_
 obtain⟨_,g,n,cap,h1,h2,h3⟩:=elOf_ok h (elOf_le hle hx)
 have he:(xs.map f)[i]?=some (f z):=by simp[hz]
 have hne:xs.map f≠[]:=by intro h;rw[h] at he;simp at he
 obtain⟨g',cap',cur,bs',hbs',hy',_,_,hg,hcs,hk,hrl⟩:=RC.own h3 hne
 have hgg:g'=g:=by rw[hy'] at h1;simp at h1;exact h1.1
 subst hgg
 obtain⟨v1,v,v2,b1,b,b2,hvs,hbs,hl1,hl,_,hre,_⟩:=RLL.get hk hrl he
 refine⟨.agg v.toArray,?_,fun β' ev' hb hb' hv' hv''=>?_⟩
 ·unfold execOp
  rw[ho]
  have:=run_load_row (P:=P) hT (ad:=⟨g',i*szOf P Et+0,none⟩) (w:=w) (vs:=v) (by rw[hl,hTE]) (fun j x hj=>by
   have hidx:(cur.toList.take ((xs.map f).length*szOf P Et))[i*szOf P Et+j]?=some x:=by
    rw[hvs,←hl1]
    exact get_mid hj
   rw[List.getElem?_take] at hidx
   split at hidx
   ·have h5:=cell_row hg (i*szOf P Et+j)
    rw[add_at] at h5
    have h6:(⟨g',i*szOf P Et+0,none⟩:Addr).add j=⟨g',i*szOf P Et+j,none⟩:=by unfold Addr.add;split <;> simp_all
    rw[h6,h5]
    simpa using hidx
   ·cases hidx)
  simp only[Nat.add_zero] at h2 this
  simp[h2,this]
 ·simp only[EntOk]
  rw[hv']
  refine⟨v,rfl,?_⟩
  have h5:=RL.share _ hre
  rw[shL_map,hs] at h5
  refine RL.mono ?_ _ (fun _ _=>rfl) h5
  intro b' hz'
  simp only[zr]
  rw[hb' r (by rintro rfl;simp at hr),hbs']
  rcases hz' with hz'|hz'
  ·exact .inl hz'
  ·right;simp[hbs,hz']
structure Laid (P:Program) (w:World) (Z:Nat→Prop) (Et:TypeId) (es:List (List C)) (y:Value) (bs:List Nat) (i:Nat) (e:List C)
  (g cap:Nat) (cur:Array Value) (v1 v v2:List Value) (b1 b b2:List Nat):Prop where
 hbs:bs=g::(b1++b++b2)
 hy:y=.slice (some ⟨g,0,none⟩) es.length cap
 hle:es.length≤cap
 hcap:cap≤maxLen
 heap:w.heap[g]?=some (.cells cur Et (0,0))
 size:cur.size=cap*szOf P Et
 width:∀e∈es,e.length=szOf P Et
 lt:i<es.length
 row:cur.toList=v1++v++v2++cur.toList.drop (es.length*szOf P Et)
 l1:v1.length=i*szOf P Et
 l:v.length=szOf P Et
 l2:(v1++v++v2).length=es.length*szOf P Et
 r1:RLL P w Z (es.take i) v1 b1
 r:RL P w Z e v b
 r2:RLL P w Z (es.drop (i+1)) v2 b2
theorem own_get {w:World}{Z:Nat→Prop}{Et:TypeId}{es:List (List C)}{y:Value}{bs:List Nat}(h:RC P w Z (.sl true Et es) y bs){i:Nat}{e:List C}(he:es[i]?=some e) :
  ∃g cap cur v1 v v2 b1 b b2,Laid P w Z Et es y bs i e g cap cur v1 v v2 b1 b b2:=by
 have hne:es≠[]:=by rintro rfl;simp at he
 obtain⟨g,cap,cur,bs',rfl,hy,h1,h2,hg,hcs,hk,hrl⟩:=RC.own h hne
 obtain⟨v1,v,v2,b1,b,b2,hvs,hbs,hl1,hl,hr1,hre,hr2⟩:=RLL.get hk hrl he
 have hcap:es.length*szOf P Et≤cur.size:=by rw[hcs];exact Nat.mul_le_mul_right _ h1
 exact⟨g,cap,cur,v1,v,v2,b1,b,b2,by rw[hbs],hy,h1,h2,hg,hcs,hk,(List.getElem?_eq_some_iff.1 he).1,by rw[←hvs,List.take_append_drop],hl1,hl,
  by rw[←hvs,List.length_take];simp;omega,hr1,hre,hr2⟩
theorem own_put {w w':World}{Z:Nat→Prop}{Et:TypeId}{es:List (List C)}{y:Value}{bs:List Nat}{i:Nat}{e:List C}{g cap:Nat}{cur cur':Array Value}{v1 v v2:List Value}{b1 b b2:List Nat}
  (h:Laid P w Z Et es y bs i e g cap cur v1 v v2 b1 b b2){e':List C}{v':List Value}{be:List Nat}(hg':w'.heap[g]?=some (.cells cur' Et (0,0)))
  (hc':cur'.toList=v1++v'++v2++cur.toList.drop (es.length*szOf P Et))(hlv:v'.length=v.length)
  (hblk:∀b',(Z b'∨b'∈b1++b2)→w'.heap[b']?=w.heap[b']?)(hel:e'.length=szOf P Et)(hre:RL P w' Z e' v' be) :
  RC P w' Z (.sl true Et (es.set i e')) y (g::(b1++be++b2)):=by
 have hes:es.set i e'=es.take i++e'::es.drop (i+1):=by rw[List.set_eq_take_append_cons_drop,if_pos h.lt]
 simp only[RC]
 refine .inr (.inr ⟨g,cap,cur',b1++be++b2,trivial,rfl,by simpa using h.hy,by simpa using h.hle,h.hcap,hg',?_,?_,?_⟩)
 ·have e1:=congrArg List.length hc'
  have e2:=congrArg List.length h.row
  simp only[List.length_append,hlv] at e1 e2
  rw[←h.size,←Array.length_toList,←Array.length_toList,e1,e2]
 ·intro e0 he0
  rcases List.mem_or_eq_of_mem_set he0 with h0|rfl
  ·exact h.width e0 h0
  ·exact hel
 ·have hlen3:(v1++v'++v2).length=es.length*szOf P Et:=by
   rw[←h.l2];simp[hlv]
  have htake:cur'.toList.take (es.length*szOf P Et)=v1++v'++v2:=by
   rw[hc',←hlen3,List.take_left]
  simp only[List.length_set]
  rw[htake,hes]
  refine(RLL.app _ _ _ _).2 ⟨v1,v'++v2,b1,be++b2,by simp,by simp,RLL.mono (fun _ h=>h) _ (fun b' hb'=>hblk b' (by rcases hb' with h|h;exact .inl h;exact .inr (by simp[h]))) h.r1,?_⟩
  simp only[RLL]
  exact⟨v',v2,be,b2,rfl,rfl,hre,RLL.mono (fun _ h=>h) _ (fun b' hb'=>hblk b' (by rcases hb' with h|h;exact .inl h;exact .inr (by simp[h]))) h.r2⟩
end Go.Proofs.YtkbcahfajbdgnaaGreatDoorT
namespace Go.Proofs.YtkbcahfajbdgnaaGreatDoorT
open Go
variable {P:Program}{fr:Fr}
theorem flat_mem {β:Nat→List Nat}{S:List Nat}{bs:List Nat}(h:Sub bs (S.flatMap β)):∀b,b∈bs→∃s,s∈S∧b∈β s:=fun b hb=>by
 obtain⟨s,h1,h2⟩:=List.mem_flatMap.1 (h.mem hb);exact⟨s,h1,h2⟩
theorem la_ste {E:Ctx}{o:Oper}{T Et:TypeId}{p x:Operand}{r i k:Nat}{c':C}{S:List Nat}{α:Type}{f:α→List C}{xs:List α}{z z':α}(ho:o.op=.store T p x)(hd:o.dst=none)
  (hT:szOf P T=1)(hi:(P.info? T).isSome=true)(hp:elOf fr.n E p=some (r,Et,i,k,xs.map f))(hz:xs[i]?=some z)(hk:Nat.blt k (f z).length=true)(hx:tk fr.n E x=some (.one c',S))(hf:(f z).set k c'=f z')
  (hS:S.contains r=false)(hSn:S.Nodup) :
  LA P fr E o (⟨r,false,some (.d (.one (.sl true Et ((xs.set i z').map f))))⟩::S.map rmv):=by
 intro Γ hle a w K Q ⟨Z,β,γ,h⟩ hK
 obtain⟨hgr,g0,n0,cap0,hev,hv,hrc⟩:=elOf_ok h (elOf_le hle hp)
 obtain⟨bx,hx1,hx2⟩:=tk_sub h (tk_le hle hx)
 simp only[RD] at hx1
 have he:(xs.map f)[i]?=some (f z):=by simp[hz]
 obtain⟨g,cap,cur,v1,v,v2,b1,b,b2,op⟩:=own_get hrc he
 have hgg:g0=g:=by have:=op.hy;rw[hev] at this;simp at this;exact this.1
 subst hgg
 have hk':k<(f z).length:=by simpa[Nat.blt_eq] using hk
 obtain⟨c,hc⟩:∃c,(f z)[k]?=some c:=⟨_,List.getElem?_eq_getElem hk'⟩
 obtain⟨u1,y,u2,d1,d,d2,hvu,hbd,hlu,hr1,hry,hr2⟩:=RL.get op.r hc
 have hrow:=op.row
 have hidx:cur.toList[i*szOf P Et+k]?=some y:=by
  rw[hrow,←op.l1,←hlu,hvu]
  simp
 have hy:w.cell? ⟨g0,i*szOf P Et+k,none⟩=some y:=by
  have:=cell_row op.heap (i*szOf P Et+k)
  rw[add_at] at this
  rw[this];simpa using hidx
 have hfz:w.frozen? ⟨g0,i*szOf P Et+k,none⟩=false:=by simp[World.frozen?,op.heap]
 have hrun:=run_store_flat (P:=P) hT hi hy hfz (RC.one hx1)
 have hrS:r∉S:=by simpa using hS
 have hnd:=h.nodup r
 rw[op.hbs] at hnd
 have hgr':g0∈β r:=by rw[op.hbs];simp
 have hdis:∀b',b'∈bx→b'∉β r:=by
  intro b' hb' hb''
  obtain⟨s,hs1,hs2⟩:=flat_mem hx2 b' hb'
  exact h.disj s r b' (by rintro rfl;exact hrS hs1) hs2 hb''
 unfold Oper.wp
 have hexec:(execOp a.eval o).run P w=.ok .skip (w.setCell ⟨g0,i*szOf P Et+k,none⟩ (a.eval x)):=by
  unfold execOp
  rw[ho]
  simp[hv,hrun]
 rw[hexec]
 simp only[Oper.upon,hd,Act.put]
 have hoth:∀b',b'≠g0→(w.setCell ⟨g0,i*szOf P Et+k,none⟩ (a.eval x)).heap[b']?=w.heap[b']?:=by
  intro b' hb'
  simp only[World.setCell,Array.getElem?_modify]
  rw[if_neg (Ne.symm hb')]
 have hng:∀b',b'∈b1++(d1++bx++d2)++b2→b'≠g0:=by
  rintro b' hb' rfl
  simp only[List.mem_append] at hb'
  rw[hbd] at hnd
  simp only[List.nodup_cons,List.mem_append] at hnd
  rcases hb' with(hb'|(hb'|hb')|hb')|hb'
  ·exact hnd.1 (by simp[hb'])
  ·exact hnd.1 (by simp[hb'])
  ·exact hdis b' hb' hgr'
  ·exact hnd.1 (by simp[hb'])
  ·exact hnd.1 (by simp[hb'])
 have hnZ:∀b',Z b'→b'≠g0:=by rintro b' hz rfl;exact(h.own r b' hgr').2.1 hz
 have hblk:∀b',(Z b'∨b'∈b1++(d1++bx++d2)++b2)→(w.setCell ⟨g0,i*szOf P Et+k,none⟩ (a.eval x)).heap[b']?=w.heap[b']?:=
  fun b' hb'=>hoth b' (by rcases hb' with hb'|hb';exact hnZ b' hb';exact hng b' hb')
 have hsetf:(f z).set k c'=(f z).take k++c'::(f z).drop (k+1):=by rw[List.set_eq_take_append_cons_drop,if_pos hk']
 have hre:RL P (w.setCell ⟨g0,i*szOf P Et+k,none⟩ (a.eval x)) Z (f z') (u1++a.eval x::u2) (d1++bx++d2):=by
  rw[←hf,hsetf]
  refine(RL.app _ _ _ _).2 ⟨u1,_,d1,bx++d2,rfl,by simp,RL.mono (fun _ h=>h) _ (fun b' hb'=>hblk b' (by rcases hb' with h|h;exact .inl h;exact .inr (by simp[h]))) hr1,?_⟩
  simp only[RL]
  exact⟨a.eval x,u2,bx,d2,rfl,rfl,RC.mono (fun _ h=>h) _ (fun b' hb'=>hblk b' (by rcases hb' with h|h;exact .inl h;exact .inr (by simp[h]))) hx1,
   RL.mono (fun _ h=>h) _ (fun b' hb'=>hblk b' (by rcases hb' with h|h;exact .inl h;exact .inr (by simp[h]))) hr2⟩
 have hput:=own_put op (e':=f z') (v':=u1++a.eval x::u2) (be:=d1++bx++d2) (cur':=cur.setIfInBounds (i*szOf P Et+k) (a.eval x)) (setRow_of op.heap) (by
   have hrow2:=hrow
   generalize cur.toList.drop ((xs.map f).length*szOf P Et)=tl at hrow2 ⊢
   rw[Array.toList_setIfInBounds,hrow2,←op.l1,←hlu,hvu]
   simp) (by rw[hvu];simp) (fun b' hb'=>hblk b' (by
    rcases hb' with h|h
    ·exact .inl h
    ·exact .inr (by simp only[List.mem_append] at h ⊢;rcases h with h|h <;> simp[h]))) (by rw[←hf,List.length_set];exact op.width _ (List.mem_of_getElem? he)) hre
 refine hK _ _ ⟨Z,_,γ,h.poke S hrS (bn:=g0::(b1++(d1++bx++d2)++b2)) (Grow.setCell _ _ _ _ (.inl hgr')) ?_ ?_ ?_⟩
 ·intro b' hb'
  rw[op.hbs,hbd]
  simp only[List.mem_cons,List.mem_append] at hb' ⊢
  rcases hb' with rfl|((hb'|(hb'|hb')|hb')|hb')
  ·simp
  ·simp[hb']
  ·simp[hb']
  ·right;exact flat_mem hx2 b' hb'
  ·simp[hb']
  ·simp[hb']
 ·rw[List.nodup_cons]
  refine⟨fun hm=>hng g0 hm rfl,?_⟩
  rw[hbd] at hnd
  have hxn:=hx2.nodup (h.flat hSn)
  have hdx:∀b',b'∈bx→b'∉b1++(d1++d++d2)++b2:=by
   intro b' hb' hm
   exact hdis b' hb' (by rw[op.hbs,hbd];simp only[List.mem_cons];exact .inr hm)
  rw[List.nodup_iff_count] at hxn ⊢
  have hn2:=List.nodup_iff_count.1 (List.nodup_cons.1 hnd).2
  intro q
  have h1:=hxn q
  have h2:=hn2 q
  simp only[List.count_append] at h2 ⊢
  by_cases hq:q∈bx
  ·have h3:=List.count_eq_zero.2 (hdx q hq)
   simp only[List.count_append] at h3
   omega
  ·have h3:=List.count_eq_zero.2 hq
   omega
 ·intro β' h1 _
  simp only[EntOk,RD]
  rw[h1,List.map_set]
  exact hput
end Go.Proofs.YtkbcahfajbdgnaaGreatDoorT
namespace Go.Proofs.YtkbcahfajbdgnaaGreatDoorT
open Go
variable {P:Program}{fr:Fr}
theorem RLL.rep {w:World}{Z:Nat→Prop}{cs:List C}{vs:List Value}(h:RL P w Z cs vs []):∀n:Nat,RLL P w Z (List.replicate n cs) (List.replicate n vs).flatten []
 |0=>by simp[RLL]
 |n+1=>by
  simp only[List.replicate_succ,List.flatten_cons,RLL]
  exact⟨vs,_,[],[],rfl,rfl,h,RLL.rep h n⟩
theorem range_rep (z:Array Value)(hz:0<z.size):∀n:Nat,((Array.range (n*z.size)).map fun k=>z[k % z.size]!).toList=(List.replicate n z.toList).flatten
 |0=>by simp
 |n+1=>by
  have ih:=range_rep z hz n
  simp only[Array.toList_map,Array.toList_range] at ih ⊢
  rw[Nat.succ_mul,List.range_add,List.map_append,ih,List.replicate_succ',List.flatten_append]
  congr 1
  simp only[List.flatten_cons,List.flatten_nil,List.append_nil,List.map_map]
  apply List.ext_getElem
  ·simp
  ·intro i h1 h2
   simp only[List.length_map,List.length_range] at h1
   have:(n*z.size+i) % z.size=i:=by rw[Nat.mul_comm,Nat.mul_add_mod];exact Nat.mod_eq_of_lt h1
   simp[this,h1]
theorem la_mk {E:Ctx}{o:Oper}{t:Nat}{T Et:TypeId}{x y:Operand}{i:Int}{cs:List C}{α:Type}{f:α→List C}{z:α}(ho:o.op=.makeSlice T x y)(hd:o.dst=some t)(ht:Nat.blt t fr.n=true)
  (hT:elemT P T Et=true)(hz:zeroOk P Et cs)(hf:cs=f z)(hx:vs fr.n E x=some (.int .i64 i))(hy:vs fr.n E y=some (.int .i64 i))(h0:0≤i)(h1:i≤2147483648) :
  LA P fr E o [⟨t,true,some (.d (.one (.sl true Et ((List.replicate i.toNat z).map f))))⟩]:=by
 subst hf
 intro Γ hle a w K Q ⟨Z,β,γ,h⟩ hk
 obtain⟨inf,zz,hu,hi,hzz,hzs,hpos,hby,hsz,_⟩:=elemT_ok hT
 obtain⟨z',hz1,hz2⟩:=hz
 have hze:z'=zz:=by rw[hi] at hz1;simp[hzz] at hz1;exact hz1.symm
 subst hze
 have hb:(inf.bytes:Int)*i≤281474976710656:=by
  have hb1:(inf.bytes:Int)*i≤65536*2147483648:=by
   have h2:(inf.bytes:Int)≤65536:=by omega
   exact Int.mul_le_mul h2 h1 h0 (by omega)
  omega
 have hrun:=run_make (P:=P) w T Et inf z' hu hi hzz .i64 .i64 i i h0 (Int.le_refl _) hb (by omega)
 have hpos':0<z'.cells.size:=by omega
 have hl:(f z).length=szOf P Et:=by
  have:=RL.length _ (hz2 w Z)
  rw[hsz,←hzs]
  simpa using this.symm
 have hmc:(madeCells z'.cells (i.toNat*inf.size)).toList=(List.replicate i.toNat z'.cells.toList).flatten:=by
  rw[←hzs,←range_rep z'.cells hpos' i.toNat]
  rfl
 refine wp_of_run (w':=w.alloc (.cells (madeCells z'.cells (i.toNat*inf.size)) Et)) (v:=.slice (some ⟨w.heap.size,0,none⟩) i.toNat i.toNat) ?_ (hk _ _ ?_)
 ·unfold execOp
  rw[ho]
  simp[vs_ok h (vs_le hle hx),vs_ok h (vs_le hle hy),hrun]
 ·rw[hd]
  refine⟨Z,_,γ,h.give [] ht (bn:=[w.heap.size]) (Grow.alloc _ _ _) ?_ (by simp) ?_⟩
  ·intro b hb'
   simp at hb'
   subst hb'
   exact⟨by simp,.inl (Nat.le_refl _)⟩
  ·intro β' ev' h2 h3 _ _
   simp only[EntOk,RD,RC]
   rw[h2,h3]
   have hr:=RLL.rep (P:=P) (hz2 (w.alloc (.cells (madeCells z'.cells (i.toNat*inf.size)) Et)) Z) i.toNat
   rw[←hmc] at hr
   refine .inr (.inr ⟨w.heap.size,i.toNat,_,[],trivial,rfl,by simp,by simp,by unfold maxLen;omega,heap_alloc_new w _,?_,?_,?_⟩)
   ·rw[hsz];simp[madeCells]
   ·intro e he
    simp at he
    rw[he.2]
    exact hl
   ·have hlen:(madeCells z'.cells (i.toNat*inf.size)).toList.length=i.toNat*inf.size:=by simp[madeCells]
    have e1:((List.replicate i.toNat z).map f).length*szOf P Et=i.toNat*inf.size:=by simp[hsz]
    rw[e1,List.take_of_length_le (Nat.le_of_eq hlen)]
    simpa[List.map_replicate] using hr
theorem run_bounds (w:World) (b:Bool) (len cap:Nat) (lo hi:Option Value) (i j:Int)(hlo:lo=some (.int .i64 i)∨lo=none∧i=0)(hhi:hi=some (.int .i64 j)∨hi=none∧j=(len:Int))(h0:0≤i)(h1:i≤j)(h2:j≤(cap:Int)) :
  (Instr.sliceBounds b len cap lo hi none).run P w=.ok (i.toNat,j.toNat,cap) w:=by
 have hj0:0≤j:=by omega
 have hij:i≤((j.toNat:Nat):Int):=by omega
 have hs:∀(k:Int) (m:Nat) (c:BoundsCode),0≤k→k≤(m:Int)→(Instr.sliceBound (.int .i64 k) m c).run P w=.ok k.toNat w:=by
  intro k m c a1 a2
  simp[Instr.sliceBound,asIntOf,a1,a2]
 rcases hlo with rfl|⟨rfl,rfl⟩ <;> rcases hhi with rfl|⟨rfl,rfl⟩ <;> simp[Instr.sliceBounds,hs _ _ _ hj0 h2,hs _ _ _ h0 hij] <;> simp_all
def sbnd (n:Nat) (E:Ctx) (o:Option Operand) (d:Nat) (i:Int):Prop:=
 match o with|some y=>vs n E y=some (.int .i64 i)|none=>i=(d:Int)
theorem sbnd_ok {Γ E:Ctx}{a:Act}{w:World}{Z:Nat→Prop}{β:Nat→List Nat}{γ:Nat→Value}(h:Core P fr Γ a w Z β γ)(hle:E_le E Γ){o:Option Operand}{d:Nat}{i:Int}(hb:sbnd fr.n E o d i) :
  o.map a.eval=some (.int .i64 i)∨o.map a.eval=none∧i=(d:Int):=by
 cases o with
 |none=>exact .inr ⟨rfl,hb⟩
 |some y=>exact .inl (by simp[vs_ok h (vs_le hle hb)])
theorem la_slc {E:Ctx}{o:Oper}{t:Nat}{T Et:TypeId}{x:Operand}{lo hi:Option Operand}{r:Option Nat}{b:Bool}{i j:Int}{α:Type}{f:α→List C}{xs:List α}(ho:o.op=.slice T x lo hi none)(hd:o.dst=some t)(ht:Nat.blt t fr.n=true)
  (hT:elemT P T Et=true)(hx:vwr fr.n E x=some (r,.one (.sl b Et (xs.map f))))(hlo:sbnd fr.n E lo 0 i)
  (hhi:sbnd fr.n E hi xs.length j)(h0:0≤i)(h1:i≤j)(h2:j≤(xs.length:Int))(hr:r≠some t) :
  LA P fr E o [⟨t,true,some (mkv r (.one (.sl false Et (((xs.drop i.toNat).take (j.toNat-i.toNat)).map f))))⟩]:=by
 refine LA.val hd ht fun Γ a w Z β γ hle h=>?_
 obtain⟨inf,zz,hu,hin,hzz,hzs,hpos,hby,hsz,_⟩:=elemT_ok hT
 have hv:=vwr_ok h (vwr_le hle hx)
 simp only[RD] at hv
 have hlo':=sbnd_ok h hle hlo
 have hhi':=sbnd_ok h hle hhi
 have hz':∀β':Nat→List Nat,(∀u,u≠t→β' u=β u)→∀b,zr Z β r b→zr Z β' r b:=by
  intro β' hb' b hb
  cases r with
  |none=>exact hb
  |some q=>simp only[zr] at hb ⊢;rw[hb' q (by rintro rfl;exact hr rfl)];exact hb
 have hcase:(a.eval x=.slice none 0 0∧xs=[])∨∃ad cap vs,a.eval x=.slice (some ad) xs.length cap∧xs.length≤cap∧cap≤maxLen∧(xs=[]∨zr Z β r ad.block)∧(∀k x,vs[k]?=some x→w.cell? (ad.add k)=some x)∧
   (∀e∈xs.map f,e.length=szOf P Et)∧RLL P w (zr Z β r) (xs.map f) vs []:=by
  simp only[RC] at hv
  rcases hv with⟨h3,h4,_⟩|⟨ad,cap,vs,_,_,hq,h3,h4,h5,h6,h7,h8⟩|⟨g,cap,cur,bs,_,hbs,_⟩
  ·exact .inl ⟨h3,by simpa using h4⟩
  ·exact .inr ⟨ad,cap,vs,by simpa using hq,by simpa using h3,h4,by simpa using h5,h6,h7,h8⟩
  ·cases hbs
 rcases hcase with⟨hq,rfl⟩|⟨ad,cap,vs,hq,hle1,hcm,hzo,hc,hk,hrl⟩
 ·have hj:j=0:=by simp at h2;omega
  have hi0:i=0:=by omega
  subst hj hi0
  refine⟨.slice none 0 0,?_,fun β' ev' hb hb' hv hv'=>mkv_ok hb ?_⟩
  ·unfold execOp
   rw[ho]
   have e1:=run_bounds (P:=P) w true 0 0 _ _ _ _ hlo' hhi' h0 h1 (by simp)
   simp[Instr.sliceAt,run_underlying hu,Instr.slice,hq,e1,sizeOf,typeInfo,hin]
  ·simp[RD,RC,hv]
 ·refine⟨.slice (if cap=i.toNat then some ad else some (ad.add (i.toNat*szOf P Et))) (j.toNat-i.toNat) (cap-i.toNat),?_,fun β' ev' hb hb' hv hv'=>mkv_ok hb ?_⟩
  ·unfold execOp
   rw[ho]
   have e1:=run_bounds (P:=P) w true xs.length cap _ _ _ _ hlo' hhi' h0 h1 (by omega)
   simp[Instr.sliceAt,run_underlying hu,Instr.slice,hq,e1,sizeOf,typeInfo,hin,hsz]
  ·have hlen:((xs.drop i.toNat).take (j.toNat-i.toNat)).length=j.toNat-i.toNat:=by rw[List.length_take,List.length_drop];omega
   simp only[RD,RC]
   rw[hv]
   by_cases hempty:j.toNat-i.toNat=0
   ·have hnil:(xs.drop i.toNat).take (j.toNat-i.toNat)=[]:=by rw[hempty];rfl
    rw[hnil,hempty]
    refine .inr (.inl ?_)
    by_cases hci:cap=i.toNat
    ·exact⟨ad,cap-i.toNat,[],trivial,trivial,by simp[hci],by simp,by omega,.inl rfl,by simp,by simp,by simp[RLL]⟩
    ·exact⟨ad.add (i.toNat*szOf P Et),cap-i.toNat,[],trivial,trivial,by simp[hci],by simp,by omega,.inl rfl,by simp,by simp,by simp[RLL]⟩
   ·have hci:¬cap=i.toNat:=by omega
    refine .inr (.inl ⟨ad.add (i.toNat*szOf P Et),cap-i.toNat,(vs.drop (i.toNat*szOf P Et)).take ((j.toNat-i.toNat)*szOf P Et),trivial,trivial,by simp only[hci,if_false,List.length_map,hlen],by rw[List.length_map,hlen];omega,by omega,?_,?_,?_,?_⟩)
    ·right
     rw[add_block]
     rcases hzo with hzo|hzo
     ·subst hzo;simp at h2;omega
     ·exact hz' β' hb' _ hzo
    ·intro k u hk'
     rw[add_add]
     rw[List.getElem?_take] at hk'
     split at hk'
     ·rw[List.getElem?_drop] at hk'
      exact hc _ u hk'
     ·cases hk'
    ·intro e he
     obtain⟨q,hq1,rfl⟩:=List.mem_map.1 he
     exact hk _ (List.mem_map_of_mem (List.mem_of_mem_drop (List.mem_of_mem_take hq1)))
    ·have hsplit:xs.map f=(xs.take i.toNat).map f++(((xs.drop i.toNat).take (j.toNat-i.toNat)).map f++((xs.drop i.toNat).drop (j.toNat-i.toNat)).map f):=by
      rw[←List.map_append,List.take_append_drop,←List.map_append,List.take_append_drop]
     have hk2:∀l:List α,(∀q∈l,q∈xs)→∀e∈l.map f,e.length=szOf P Et:=by
      intro l hl e he
      obtain⟨q,hq1,rfl⟩:=List.mem_map.1 he
      exact hk _ (List.mem_map_of_mem (hl q hq1))
     rw[hsplit] at hrl
     obtain⟨v1,v2,b1,b2,rfl,hbb,hr1,hr2⟩:=(RLL.app _ _ _ _).1 hrl
     obtain⟨v3,v4,b3,b4,rfl,rfl,hr3,hr4⟩:=(RLL.app _ _ _ _).1 hr2
     have hb3:b3=[]:=(List.append_eq_nil_iff.1 (List.append_eq_nil_iff.1 hbb.symm).2).1
     subst hb3
     have l1:=RLL.length _ (hk2 _ (fun q hq=>List.mem_of_mem_take hq)) hr1
     have l3:=RLL.length _ (hk2 _ (fun q hq=>List.mem_of_mem_drop (List.mem_of_mem_take hq))) hr3
     rw[List.length_map,List.length_take,Nat.min_eq_left (by omega)] at l1
     rw[List.length_map,hlen] at l3
     have e1:((v1++(v3++v4)).drop (i.toNat*szOf P Et)).take ((j.toNat-i.toNat)*szOf P Et)=v3:=by
      rw[←l1,List.drop_left,←l3,List.take_left]
     rw[e1]
     exact RLL.mono (hz' β' hb') _ (fun _ _=>rfl) hr3
end Go.Proofs.YtkbcahfajbdgnaaGreatDoorT
namespace Go.Proofs.YtkbcahfajbdgnaaGreatDoorT
open Go
variable {P:Program}{fr:Fr}
def Γin (n:Nat) (pars gh:List Ent):Ctx:=fun t=>bif Nat.blt t n then pars[t]? else gh[t-n]?
def evi (n:Nat) (vals:List Value) (γ:Nat→Value) (t:Nat):Value:=if t<n then vals.getD t undef else γ t
def OwnOk (P:Program) (w:World) (Z:Nat→Prop) (e:Ent) (v:Value) (bs:List Nat):Prop:=EntOk P w Z (fun _=>bs) (fun _=>v) 0 e
theorem mov_iff {w:World}{Z:Nat→Prop}{β:Nat→List Nat}{ev':Nat→Value}{t:Nat}{e:Ent}(hm:mov e=true):EntOk P w Z β ev' t e↔OwnOk P w Z e (ev' t) (β t):=by
 cases e <;> simp[mov] at hm <;> rfl
structure Pre (P:Program) (n:Nat) (pars gh:List Ent) (w:World) (Z:Nat→Prop) (vals:List Value) (γ:Nat→Value) (β:Nat→List Nat) (M:List Nat):Prop where
 len:vals.length=pars.length
 zlt:∀b,Z b→b<w.heap.size
 own:∀t b,b∈β t→b<w.heap.size∧¬Z b∧b∈M
 nodup:∀t,(β t).Nodup
 disj:∀t u b,t≠u→b∈β t→b∉β u
 gl:Gl P w Z
 ent:∀t e,Γin n pars gh t=some e→EntOk P w Z β (evi n vals γ) t e
structure Pos (P:Program) (n:Nat) (w w':World) (Z:Nat→Prop) (M:List Nat) (γ:Nat→Value) (res:Ent) (posts:List Ent) (v:Value) (Z':Nat→Prop) (β':Nat→List Nat):Prop where
 evo:Evo w w' M
 zlt:∀b,Z' b→b<w'.heap.size
 zin:∀b,Z b→Z' b
 znew:∀b,Z' b→Z b∨w.heap.size≤b∨b∈M
 own:∀t b,b∈β' t→b<w'.heap.size∧¬Z' b∧(w.heap.size≤b∨b∈M)
 nodup:∀t,(β' t).Nodup
 disj:∀t u b,t≠u→b∈β' t→b∉β' u
 res:OwnOk P w' Z' res v (β' 0)
 post:∀j e,posts[j]?=some e→OwnOk P w' Z' e (γ (n+j)) (β' (j+1))
def isGo (P:Program) (f:FuncId):Bool:=match P.funcs[f]? with
 |some fn=>fn.body.isSome&&!(fn.name=="runtime.NumGoroutine")
 |none=>false
def Ret (P:Program) (f:FuncId) (n:Nat) (pars gh:List Ent) (res:Ent) (posts:List Ent):Prop:=
 isGo P f=true∧∀w Z vals γ β M,Pre P n pars gh w Z vals γ β M→Calls P f vals.toArray w fun e w'=>∃v,e=.returned v∧∃Z' β',Pos P n w w' Z M γ res posts v Z' β'
def Fin (P:Program) (fr:Fr) (fn:Func) (res:Ent) (posts:List Ent) (a:Act) (w:World):Prop:=
 a.defers=[]∧∃v,(results fn a.tmps).run P w=.ok v w∧∃Z' β',Pos P fr.n fr.w0 w fr.Z0 fr.M fr.γ res posts v Z' β'
def RetQ (P:Program) (fr:Fr) (fn:Func) (res:Ent) (posts:List Ent):Exit→Act→World→Prop
 |.normal,a,w=>Fin P fr fn res posts a w
 |.ret,a,w=>Fin P fr fn res posts a w
 |_,_,_=>False
theorem ret_of {f:FuncId}{fn:Func}{c:Code}{n:Nat}{pars gh:List Ent}{res:Ent}{posts:List Ent}(hf:P.funcs[f]?=some fn)(hb:fn.body=some c)(hn:fn.ntmps=n)(hg:isGo P f=true)
  (hl:Nat.ble pars.length n=true)
  (h:∀(fr:Fr) a w,fr.n=n→St P fr (Γin n pars gh) a w→c.wp P (RetQ P fr fn res posts) a w):Ret P f n pars gh res posts:=by
 refine⟨hg,fun w Z vals γ β M hp=>?_⟩
 subst hn
 have hl':vals.length≤fn.ntmps:=by rw[hp.len];exact Nat.le_of_ble_eq_true hl
 have hev:∀t,ev fn.ntmps {tmps:=vals.toArray++Array.replicate (fn.ntmps-vals.toArray.size) undef,defers:=[]} γ t=evi fn.ntmps vals γ t:=by
  intro t
  unfold ev evi
  by_cases ht:t<fn.ntmps
  ·simp only[ht,if_true]
   by_cases h1:t<vals.length
   ·simp[Array.getD_eq_getD_getElem?,Array.getElem?_append,h1]
   ·have h2:vals[t]?=none:=by simp;omega
    simp[Array.getD_eq_getD_getElem?,Array.getElem?_append,h1]
    rw[Array.getElem?_replicate]
    split <;> rfl
  ·simp[ht]
 have hst:=h ⟨w,M,Z,fn.ntmps,γ⟩ {tmps:=vals.toArray++Array.replicate (fn.ntmps-vals.toArray.size) undef,defers:=[]} w rfl ⟨Z,β,γ,{
  gh:=rfl
  defers:=rfl
  size:=by simp;omega
  evo:=Evo.refl _ _
  zlt:=hp.zlt
  zin:=fun _ hb=>hb
  znew:=fun _ hb=>.inl hb
  own:=fun t b hb=>⟨(hp.own t b hb).1,(hp.own t b hb).2.1,.inr (hp.own t b hb).2.2⟩
  nodup:=hp.nodup
  disj:=hp.disj
  gl:=hp.gl
  ent:=fun t e he=>by
   have:=hp.ent t e he
   have hfun:ev fn.ntmps {tmps:=vals.toArray++Array.replicate (fn.ntmps-vals.toArray.size) undef,defers:=[]} γ=evi fn.ntmps vals γ:=funext hev
   rw[hfun]
   exact this}⟩
 refine calls_of_wp hf hb (wp_mono hst ?_)
 intro e a' w' hq
 cases e <;> simp only[RetQ] at hq
 ·obtain⟨hd,v,hr,hpos⟩:=hq
  exact⟨hd,v,hr,v,rfl,hpos⟩
 ·obtain⟨hd,v,hr,hpos⟩:=hq
  exact⟨hd,v,hr,v,rfl,hpos⟩
end Go.Proofs.YtkbcahfajbdgnaaGreatDoorT
namespace Go.Proofs.YtkbcahfajbdgnaaGreatDoorT
open Go
variable {P:Program}{fr:Fr}
def idx:List Nat→Nat→Option Nat
 |[],_=>none
 |q::R,r=>bif Nat.beq q r then some 0 else match idx R r with
  |some j=>some (j+1)
  |none=>none
theorem idx_ok:∀{R:List Nat}{r j:Nat},idx R r=some j→R[j]?=some r
 |[],_,_,h=>by simp[idx] at h
 |q::R,r,j,h=>by
  simp only[idx] at h
  cases hb:Nat.beq q r with
  |true=>rw[hb] at h;simp at h;subst h;simp[Nat.eq_of_beq_eq_true hb]
  |false=>
   rw[hb] at h
   simp only[cond_false] at h
   cases hi:idx R r with
   |none=>rw[hi] at h;cases h
   |some k=>rw[hi] at h;simp at h;subst h;simpa using idx_ok hi
def idxs (R:List Nat) (m:Nat):List Nat→Option (List Nat)
 |[]=>some []
 |c::cs=>match idx R c,idxs R m cs with
  |some j,some js=>some ((m+j)::js)
  |_,_=>none
def ob (β:Nat→List Nat):Option Nat→List Nat
 |some s=>β s
 |none=>[]
def ro (v:Nat→Value):Option Nat→Value
 |some r=>v r
 |none=>undef
def inB (B:List Nat) (r:Nat):Bool:=B.any (Nat.beq r)
theorem inB_ok {B:List Nat}{r:Nat}(h:inB B r=true):r∈B:=by
 simp only[inB,List.any_eq_true] at h
 obtain⟨x,hx,he⟩:=h
 rw[Nat.eq_of_beq_eq_true he]
 exact hx
def renE (R B:List Nat) (m:Nat):Ent→Option Ent
 |.d X=>bif plain X then some (.d X) else none
 |.dv y X=>bif plain X then some (.dv y X) else none
 |.eq r=>match idx R r with
  |some j=>some (.eq (m+j))
  |none=>none
 |.fld r k=>match idx R r with
  |some j=>some (.fld (m+j) k)
  |none=>none
 |.elt r E i k=>match idx R r with
  |some j=>some (.elt (m+j) E i k)
  |none=>none
 |.bor r X=>match idx R r with
  |some j=>some (.bor (m+j) X)
  |none=>bif inB B r then some (.d X) else none
 |.sp none cs=>some (.sp none cs)
 |.sp (some r) cs=>match idx R r with
  |some j=>some (.sp (some (m+j)) cs)
  |none=>bif inB B r then some (.sp none cs) else none
 |.fn f caps=>match idxs R m caps with
  |some js=>some (.fn f js)
  |none=>none
 |_=>none
def argE (n:Nat) (E:Ctx) (R B:List Nat) (m:Nat):Operand→Option (Ent×Option Nat)
 |.const v=>bif v.oneCell' then some (.d (.one (.v v)),none) else none
 |.func f=>some (.fn f [],none)
 |.global _=>none
 |.tmp t=>bif Nat.blt t n then
   match idx R t with
   |some j=>some (.eq (m+j),none)
   |none=>match E t with
    |none=>none
    |some (.d X)=>bif plain X then some (.d X,none) else bif inB B t then some (.d (shD X),none) else some (.d X,some t)
    |some (.box T cs)=>some (.box T cs,some t)
    |some (.tup xs)=>some (.tup xs,some t)
    |some (.eq r)=>bif inB B r then match E r with
      |some (.d X)=>some (.d (shD X),none)
      |_=>none
     else match renE R B m (.eq r) with
      |some e=>some (e,none)
      |none=>match E r with
       |some (.d X)=>bif plain X then none else some (.d X,some r)
       |_=>none
    |some e=>match renE R B m e with
      |some e=>some (e,none)
      |none=>none
  else none
def argC (R:List Nat) (m c:Nat):Option (Ent×Option Nat):=match idx R c with
 |some j=>some (.eq (m+j),none)
 |none=>none
def seqO {α:Type}:List (Option α)→Option (List α)
 |[]=>some []
 |none::_=>none
 |some x::xs=>match seqO xs with
  |some ys=>some (x::ys)
  |none=>none
theorem seqO_len {α:Type}:∀{xs:List (Option α)}{ys:List α},seqO xs=some ys→xs.length=ys.length
 |[],ys,h=>by simp[seqO] at h;simp[h]
 |none::xs,ys,h=>by simp[seqO] at h
 |some x::xs,ys,h=>by
  simp only[seqO] at h
  cases hs:seqO xs with
  |none=>rw[hs] at h;cases h
  |some zs=>rw[hs] at h;simp at h;subst h;simp[seqO_len hs]
theorem seqO_get {α:Type}:∀{xs:List (Option α)}{ys:List α},seqO xs=some ys→∀(i:Nat) (y:α),ys[i]?=some y→xs[i]?=some (some y)
 |[],ys,h,i,y,hi=>by simp[seqO] at h;subst h;simp at hi
 |none::xs,ys,h,_,_,_=>by simp[seqO] at h
 |some x::xs,ys,h,i,y,hi=>by
  simp only[seqO] at h
  cases hs:seqO xs with
  |none=>rw[hs] at h;cases h
  |some zs=>
   rw[hs] at h
   simp at h
   subst h
   cases i with
   |zero=>simpa using hi
   |succ i=>simpa using seqO_get hs i y (by simpa using hi)
def argL (n:Nat) (E:Ctx) (R B:List Nat) (m:Nat) (xs:List Operand) (caps:List Nat):Option (List (Ent×Option Nat)):=seqO (xs.map (argE n E R B m)++caps.map (argC R m))
def degE:Ent→Ent
 |.dv _ X=>.d X
 |e=>e
theorem degE_mov {e:Ent}(h:mov e=true):mov (degE e)=true:=by cases e <;> simp_all [mov,degE]
def rootL (E:Ctx):List Nat→Option (List Ent)
 |[]=>some []
 |r::R=>match E r,rootL E R with
  |some e,some es=>bif mov e then some (degE e::es) else none
  |_,_=>none
theorem rootL_ok {E:Ctx}:∀{R:List Nat}{gh:List Ent},rootL E R=some gh→gh.length=R.length∧∀(j:Nat) (e:Ent),gh[j]?=some e→mov e=true∧∃r e0,R[j]?=some r∧E r=some e0∧degE e0=e
 |[],gh,h=>by simp[rootL] at h;subst h;simp
 |r::R,gh,h=>by
  simp only[rootL] at h
  cases he:E r with
  |none=>rw[he] at h;cases h
  |some e=>
   rw[he] at h
   cases hr:rootL E R with
   |none=>rw[hr] at h;cases h
   |some es=>
    rw[hr] at h
    simp only at h
    cases hm:mov e with
    |false=>rw[hm] at h;simp at h
    |true=>
     rw[hm] at h
     simp at h
     subst h
     obtain⟨h1,h2⟩:=rootL_ok hr
     refine⟨by simp[h1],?_⟩
     intro j e' hj
     cases j with
     |zero=>simp at hj;subst hj;exact⟨degE_mov hm,r,e,by simp,he,rfl⟩
     |succ j=>simpa using h2 j e' (by simpa using hj)
section
variable {w:World}{Z:Nat→Prop}{β:Nat→List Nat}{γ:Nat→Value}{Γ E:Ctx}{a:Act}{R B:List Nat}{m:Nat}
 {βc:Nat→List Nat}{evc:Nat→Value}
theorem renE_ok (hgh:∀j r,R[j]?=some r→βc (m+j)=β r∧evc (m+j)=ev fr.n a γ r){t i:Nat}{e e':Ent}
  (he:EntOk P w Z β (ev fr.n a γ) t e)(hr:renE R B m e=some e')(hi:βc i=[])(hv:evc i=ev fr.n a γ t) :
  EntOk P w (fun b=>Z b∨∃r,r∈B∧b∈β r) βc evc i e':=by
 have hz0:∀b,Z b→Z b∨∃r,r∈B∧b∈β r:=fun b h=>.inl h
 have hzR:∀j r,R[j]?=some r→∀b,zr Z β (some r) b→zr (fun b=>Z b∨∃r,r∈B∧b∈β r) βc (some (m+j)) b:=by
  intro j r hj b hb
  rcases hb with hb|hb
  ·exact .inl (.inl hb)
  ·exact .inr (by rw[(hgh j r hj).1];exact hb)
 have hzB:∀r,r∈B→∀b,zr Z β (some r) b→Z b∨∃r,r∈B∧b∈β r:=by
  intro r hr b hb
  rcases hb with hb|hb
  ·exact .inl hb
  ·exact .inr ⟨r,hr,hb⟩
 cases e with
 |hbox _ _ _=>simp[renE] at hr
 |inn _ _ _ _=>simp[renE] at hr
 |eqn _ _=>simp[renE] at hr
 |d X=>
  simp only[renE] at hr
  cases hp:plain X with
  |false=>rw[hp] at hr;simp at hr
  |true=>
   rw[hp] at hr
   simp at hr
   subst hr
   simp only[EntOk] at he ⊢
   rw[plain_nil hp he] at he
   rw[hi,hv]
   exact RD.mono hz0 (fun _ _=>rfl) he
 |dv y X=>
  simp only[renE] at hr
  cases hp:plain X with
  |false=>rw[hp] at hr;simp at hr
  |true=>
   rw[hp] at hr
   simp at hr
   subst hr
   simp only[EntOk] at he ⊢
   rw[plain_nil hp he.2] at he
   rw[hi,hv]
   exact⟨he.1,RD.mono hz0 (fun _ _=>rfl) he.2⟩
 |tup xs=>simp[renE] at hr
 |tupb _ _ _=>simp[renE] at hr
 |hel _ _ _ _=>simp[renE] at hr
 |box T cs=>simp[renE] at hr
 |eq r=>
  simp only[renE] at hr
  cases hj:idx R r with
  |none=>rw[hj] at hr;cases hr
  |some j=>
   rw[hj] at hr;simp at hr;subst hr
   simp only[EntOk] at he ⊢
   rw[hv,(hgh j r (idx_ok hj)).2];exact he
 |fld r k=>
  simp only[renE] at hr
  cases hj:idx R r with
  |none=>rw[hj] at hr;cases hr
  |some j=>
   rw[hj] at hr;simp at hr;subst hr
   simp only[EntOk] at he ⊢
   rw[hv,(hgh j r (idx_ok hj)).2];exact he
 |elt r E' i' k=>
  simp only[renE] at hr
  cases hj:idx R r with
  |none=>rw[hj] at hr;cases hr
  |some j=>
   rw[hj] at hr;simp at hr;subst hr
   simp only[EntOk] at he ⊢
   rw[hv,(hgh j r (idx_ok hj)).2];exact he
 |bor r X=>
  simp only[renE] at hr
  cases hj:idx R r with
  |some j=>
   rw[hj] at hr;simp at hr;subst hr
   simp only[EntOk] at he ⊢
   rw[hv]
   exact RD.mono (hzR j r (idx_ok hj)) (fun _ _=>rfl) he
  |none=>
   rw[hj] at hr
   simp only at hr
   cases hb:inB B r with
   |false=>rw[hb] at hr;simp at hr
   |true=>
    rw[hb] at hr;simp at hr;subst hr
    simp only[EntOk] at he ⊢
    rw[hi,hv]
    exact RD.mono (hzB r (inB_ok hb)) (fun _ _=>rfl) he
 |sp r cs=>
  have key:∀(r':Option Nat),(∀b,zr Z β r b→zr (fun b=>Z b∨∃r,r∈B∧b∈β r) βc r' b)→EntOk P w (fun b=>Z b∨∃r,r∈B∧b∈β r) βc evc i (.sp r' cs):=by
   intro r' hzz
   simp only[EntOk] at he ⊢
   obtain⟨ad,vs,h1,h2,h3,h4⟩:=he
   exact⟨ad,vs,hv.trans h1,h2,RL.mono hzz cs (fun _ _=>rfl) h3,h4.imp id (hzz _)⟩
  cases r with
  |none=>simp[renE] at hr;subst hr;exact key none (fun b hb=>.inl hb)
  |some r=>
   simp only[renE] at hr
   cases hj:idx R r with
   |some j=>rw[hj] at hr;simp at hr;subst hr;exact key _ (hzR j r (idx_ok hj))
   |none=>
    rw[hj] at hr
    simp only at hr
    cases hb:inB B r with
    |false=>rw[hb] at hr;simp at hr
    |true=>rw[hb] at hr;simp at hr;subst hr;exact key none (hzB r (inB_ok hb))
 |fn f caps=>
  simp only[renE] at hr
  cases hj:idxs R m caps with
  |none=>rw[hj] at hr;cases hr
  |some js=>
   rw[hj] at hr;simp at hr;subst hr
   simp only[EntOk] at he ⊢
   rw[hv,he]
   have:caps.map (ev fr.n a γ)=js.map evc:=by
    clear he
    induction caps generalizing js with
    |nil=>simp[idxs] at hj;subst hj;rfl
    |cons c cs ih=>
     simp only[idxs] at hj
     cases h1:idx R c with
     |none=>rw[h1] at hj;cases hj
     |some j=>
      rw[h1] at hj
      cases h2:idxs R m cs with
      |none=>rw[h2] at hj;cases hj
      |some ks=>
       rw[h2] at hj
       simp at hj
       subst hj
       simp only[List.map_cons,(hgh j c (idx_ok h1)).2,ih _ h2]
   rw[this]
theorem argE_ok (h:Core P fr Γ a w Z β γ)(hle:E_le E Γ)(hgh:∀j r,R[j]?=some r→βc (m+j)=β r∧evc (m+j)=ev fr.n a γ r){i:Nat}{x:Operand}{e:Ent}{o:Option Nat}
  (hr:argE fr.n E R B m x=some (e,o))(hi:βc i=ob β o)(hv:evc i=a.eval x) :
  EntOk P w (fun b=>Z b∨∃r,r∈B∧b∈β r) βc evc i e:=by
 have hz0:∀b,Z b→Z b∨∃r,r∈B∧b∈β r:=fun b h=>.inl h
 cases x with
 |const v=>
  simp only[argE] at hr
  cases hp:v.oneCell' with
  |false=>rw[hp] at hr;simp at hr
  |true=>
   rw[hp] at hr;simp at hr
   obtain⟨rfl,rfl⟩:=hr
   simp[EntOk,RD,RC,hi,hv,Act.eval,hp,ob]
 |func f=>
  simp[argE] at hr
  obtain⟨rfl,rfl⟩:=hr
  simp only[EntOk,hv]
  rfl
 |global g=>simp[argE] at hr
 |tmp t=>
  simp only[argE] at hr
  cases ht:Nat.blt t fr.n with
  |false=>rw[ht] at hr;simp at hr
  |true=>
   rw[ht] at hr
   simp only[cond_true] at hr
   rw[eval_ev (γ:=γ) ht] at hv
   cases hj:idx R t with
   |some j=>
    rw[hj] at hr;simp at hr
    obtain⟨rfl,rfl⟩:=hr
    simp only[EntOk]
    rw[hv,(hgh j t (idx_ok hj)).2]
   |none=>
    rw[hj] at hr
    simp only at hr
    cases hg:E t with
    |none=>rw[hg] at hr;cases hr
    |some e0=>
     have he:=h.ent t e0 (hle t e0 hg)
     rw[hg] at hr
     have gen:∀e1,(match renE R B m e1 with|some e=>some (e,(none:Option Nat))|none=>none)=some (e,o)→EntOk P w Z β (ev fr.n a γ) t e1→
       EntOk P w (fun b=>Z b∨∃r,r∈B∧b∈β r) βc evc i e:=by
      intro e1 hr1 he1
      cases h2:renE R B m e1 with
      |none=>rw[h2] at hr1;cases hr1
      |some e2=>
       rw[h2] at hr1
       simp at hr1
       obtain⟨rfl,rfl⟩:=hr1
       exact renE_ok hgh he1 h2 hi hv
     have own:∀r X,r∈B→EntOk P w Z β (ev fr.n a γ) r (.d X)→ev fr.n a γ t=ev fr.n a γ r→(Ent.d (shD X),(none:Option Nat))=(e,o)→
       EntOk P w (fun b=>Z b∨∃r,r∈B∧b∈β r) βc evc i e:=by
      rintro r X hrB heX hvr ⟨⟩
      simp only[EntOk] at heX ⊢
      rw[hi,hv,hvr]
      refine RD.mono (fun b hb=>?_) (fun _ _=>rfl) (RD.share heX)
      rcases hb with hb|hb
      ·exact .inl hb
      ·exact .inr ⟨r,hrB,hb⟩
     have mvd:mov e0=true→(e0,some t)=(e,o)→EntOk P w (fun b=>Z b∨∃r,r∈B∧b∈β r) βc evc i e:=by
      rintro hm ⟨⟩
      rw[mov_iff hm] at he ⊢
      rw[hi,hv]
      cases e <;> simp[mov] at hm <;> exact EntOk.mono he hz0 rfl rfl (by simp[Ent.hdep]) (by simp[Ent.sdep]) (fun _ _=>rfl)
     cases e0 with
     |d X=>
      simp only at hr
      cases hp:plain X with
      |true=>
       rw[hp] at hr
       simp at hr
       exact gen (.d X) (by simp[renE,hp,hr]) he
      |false=>
       rw[hp] at hr
       simp only[cond_false] at hr
       cases hb:inB B t with
       |true=>rw[hb] at hr;simp at hr;exact own t X (inB_ok hb) he rfl (by simp[hr])
       |false=>rw[hb] at hr;simp at hr;exact mvd rfl (by simp[hr])
     |box T cs=>simp at hr;exact mvd rfl (by simp[hr])
     |tup xs=>simp at hr;exact mvd rfl (by simp[hr])
     |tupb T cs xs=>exact gen _ hr he
     |hel E es i k=>exact gen _ hr he
     |eq r=>
      simp only at hr
      cases hb:inB B r with
      |false=>
       rw[hb] at hr
       simp only[cond_false] at hr
       cases h2:renE R B m (.eq r) with
       |some e2=>rw[h2] at hr;exact gen (.eq r) (by rw[h2];exact hr) he
       |none=>
        rw[h2] at hr
        simp only at hr
        cases hgr:E r with
        |none=>rw[hgr] at hr;cases hr
        |some er=>
         rw[hgr] at hr
         have her:=h.ent r er (hle r er hgr)
         cases er <;> simp at hr
         rename_i X
         cases hp:plain X with
         |true=>rw[hp] at hr;simp at hr
         |false=>
          rw[hp] at hr
          simp at hr
          obtain⟨rfl,rfl⟩:=hr
          simp only[EntOk] at her he ⊢
          rw[hi,hv,he]
          exact RD.mono (fun b hb=>hz0 b hb) (fun _ _=>rfl) her
      |true=>
       rw[hb] at hr
       simp only[cond_true] at hr
       cases hgr:E r with
       |none=>rw[hgr] at hr;cases hr
       |some er=>
        rw[hgr] at hr
        have her:=h.ent r er (hle r er hgr)
        cases er <;> simp at hr
        exact own r _ (inB_ok hb) her he (by simp[hr])
     |dv y X=>exact gen _ hr he
     |fld r k=>exact gen _ hr he
     |elt r E' i' k=>exact gen _ hr he
     |bor r X=>exact gen _ hr he
     |sp r cs=>exact gen _ hr he
     |fn f caps=>exact gen _ hr he
     |hbox _ _ _=>exact gen _ hr he
     |inn _ _ _ _=>exact gen _ hr he
     |eqn _ _=>exact gen _ hr he
end
end Go.Proofs.YtkbcahfajbdgnaaGreatDoorT
namespace Go.Proofs.YtkbcahfajbdgnaaGreatDoorT
open Go
variable {P:Program}{fr:Fr}
def Clean (P:Program) (e:Ent):Prop:=∀w Z Z' v bs,OwnOk P w Z e v bs→OwnOk P w Z' e v bs
def nodupB:List Nat→Bool
 |[]=>true
 |x::xs=>!(inB xs x)&&nodupB xs
theorem nodupB_ok:∀{xs:List Nat},nodupB xs=true→xs.Nodup
 |[],_=>by simp
 |x::xs,h=>by
  simp only[nodupB,Bool.and_eq_true,Bool.not_eq_true'] at h
  refine List.nodup_cons.2 ⟨fun hm=>?_,nodupB_ok h.2⟩
  have:inB xs x=true:=by simp only[inB,List.any_eq_true];exact⟨x,hm,by simp⟩
  rw[this] at h
  simp at h
def pokes:List Nat→List Ent→List Up
 |r::R,e::es=>⟨r,false,some e⟩::pokes R es
 |_,_=>[]
theorem look_pokes:∀(R:List Nat) (posts:List Ent) (_:posts.length=R.length) (δ:List Up) (u:Nat),
  look (pokes R posts++δ) u=match idx R u with
   |some j=>(posts[j]?).map fun e=>⟨u,false,some e⟩
   |none=>look δ u
 |[],[],_,δ,u=>by simp[pokes,idx]
 |[],_::_,h,_,_=>by simp at h
 |_::_,[],h,_,_=>by simp at h
 |r::R,e::es,h,δ,u=>by
  have ih:=look_pokes R es (by simpa using h) δ u
  simp only[pokes,List.cons_append,look,idx]
  cases hb:Nat.beq r u with
  |true=>have:=Nat.eq_of_beq_eq_true hb;subst this;simp
  |false=>
   simp only[cond_false,ih]
   cases hi:idx R u with
   |none=>simp
   |some j=>simp
theorem idx_none {R:List Nat}{u:Nat}(h:idx R u=none):u∉R:=by
 induction R with
 |nil=>simp
 |cons r R ih=>
  simp only[idx] at h
  cases hb:Nat.beq r u with
  |true=>rw[hb] at h;simp at h
  |false=>
   rw[hb] at h
   simp only[cond_false] at h
   cases hi:idx R u with
   |some j=>rw[hi] at h;cases h
   |none=>
    simp only[List.mem_cons,not_or]
    exact⟨fun e=>by subst e;simp at hb,ih hi⟩
theorem owners_inj:∀{ow:List (Option Nat)},(ow.filterMap id).Nodup→∀{i j s:Nat},ow[i]?=some (some s)→ow[j]?=some (some s)→i=j
 |[],_,i,_,_,h,_=>by simp at h
 |none::ow,hn,i,j,s,hi,hj=>by
  cases i with
  |zero=>simp at hi
  |succ i=>cases j with
   |zero=>simp at hj
   |succ j=>have:=owners_inj (ow:=ow) (by simpa using hn) (i:=i) (j:=j) (s:=s) (by simpa using hi) (by simpa using hj);omega
 |some q::ow,hn,i,j,s,hi,hj=>by
  have hn':q∉ow.filterMap id∧(ow.filterMap id).Nodup:=by simpa using hn
  have hmem:∀k,ow[k]?=some (some q)→False:=fun k hk=>hn'.1 (List.mem_filterMap.2 ⟨some q,List.mem_of_getElem? hk,rfl⟩)
  cases i with
  |zero=>
   simp at hi
   subst hi
   cases j with
   |zero=>rfl
   |succ j=>exact(hmem j (by simpa using hj)).elim
  |succ i=>cases j with
   |zero=>simp at hj;subst hj;exact(hmem i (by simpa using hi)).elim
   |succ j=>have:=owners_inj hn'.2 (i:=i) (j:=j) (s:=s) (by simpa using hi) (by simpa using hj);omega
def calE (n:Nat) (E:Ctx):Operand→Option (FuncId×List Nat)
 |.func f=>some (f,[])
 |.tmp t=>bif Nat.blt t n then match E t with
   |some (.fn f caps)=>some (f,caps)
   |_=>none
  else none
 |_=>none
theorem calE_ok {Γ E:Ctx}{a:Act}{w:World}{Z:Nat→Prop}{β:Nat→List Nat}{γ:Nat→Value}(h:Core P fr Γ a w Z β γ)(hle:E_le E Γ){x:Operand}{f:FuncId}{caps:List Nat}
  (hx:calE fr.n E x=some (f,caps)):a.eval x=.func (.func f) #[] (caps.map (ev fr.n a γ)).toArray:=by
 cases x with
 |func g=>simp[calE] at hx;obtain⟨rfl,rfl⟩:=hx;rfl
 |const v=>simp[calE] at hx
 |global g=>simp[calE] at hx
 |tmp t=>
  simp only[calE] at hx
  cases ht:Nat.blt t fr.n with
  |false=>rw[ht] at hx;simp at hx
  |true=>
   rw[ht] at hx
   simp only[cond_true] at hx
   rw[eval_ev (γ:=γ) ht]
   cases hg:E t with
   |none=>rw[hg] at hx;cases hx
   |some e=>
    have he:=h.ent t e (hle t e hg)
    rw[hg] at hx
    cases e <;> simp at hx
    obtain⟨rfl,rfl⟩:=hx
    exact he
theorem run_callFunc {f:FuncId}(hg:isGo P f=true) (args:Array Value) (w:World):(callFunc f args).run P w=.ok (.enter f args) w:=by
 unfold isGo at hg
 unfold callFunc
 cases hf:P.funcs[f]? with
 |none=>rw[hf] at hg;simp at hg
 |some fn=>
  rw[hf] at hg
  simp only[Bool.and_eq_true,Bool.not_eq_true'] at hg
  obtain⟨h1,h2⟩:=hg
  have h3:fn.body≠none:=by intro hb;rw[hb] at h1;cases h1
  have h2':fn.name≠"runtime.NumGoroutine":=by simpa using h2
  simp[hf,h2',h3]
end Go.Proofs.YtkbcahfajbdgnaaGreatDoorT
namespace Go.Proofs.YtkbcahfajbdgnaaGreatDoorT
open Go
variable {P:Program}{fr:Fr}
theorem run_call {a:Act}{o:Oper}{x:Operand}{xs:Array Operand}{ats:Array TypeId}{f:FuncId}{vs:Array Value}(ho:o.op=.call ⟨.value x,xs,ats⟩)(hx:a.eval x=.func (.func f) #[] vs)
  (hg:isGo P f=true) (w:World):(execOp a.eval o).run P w=.ok (.enter f (xs.map a.eval++vs)) w:=by
 unfold execOp
 rw[ho]
 simp only[resolve,hx,Deferred.ofValue,invoke]
 have:=run_callFunc hg (xs.map a.eval++vs) w
 simp only[pure_bind]
 simpa using this
section
variable {w w':World}{Z:Nat→Prop}{β:Nat→List Nat}{γ:Nat→Value}{Γ E:Ctx}{a:Act}{R B:List Nat}{n':Nat}
def qown (n':Nat) (ow:List (Option Nat)) (R:List Nat) (t:Nat):Option Nat:=if t<n' then(ow[t]?).join else R[t-n']?
theorem call_pre (h:Core P fr Γ a w Z β γ)(hle:E_le E Γ){xs:List Operand}{caps:List Nat}{pes:List (Ent×Option Nat)}{gh:List Ent}
  (ha:argL fr.n E R B n' xs caps=some pes)(hg:rootL E R=some gh)(hS:nodupB ((pes.map (·.2)).filterMap id++R++B)=true)(hl:pes.length≤n') :
  Pre P n' (pes.map (·.1)) gh w (fun b=>Z b∨∃r,r∈B∧b∈β r) (xs.map a.eval++caps.map (ev fr.n a γ)) (fun t=>ro (ev fr.n a γ) R[t-n']?)
   (fun t=>ob β (qown n' (pes.map (·.2)) R t)) (((pes.map (·.2)).filterMap id++R).flatMap β):=by
 have hnd:=nodupB_ok hS
 have hnd1:=(List.nodup_append.1 hnd).1
 have hdj:=(List.nodup_append.1 hnd).2.2
 have hndo:=(List.nodup_append.1 hnd1).1
 have hndR:=(List.nodup_append.1 hnd1).2.1
 have hdo:=(List.nodup_append.1 hnd1).2.2
 have hmem:∀t s,qown n' (pes.map (·.2)) R t=some s→s∈(pes.map (·.2)).filterMap id++R:=by
  intro t s hq
  unfold qown at hq
  split at hq
  ·refine List.mem_append.2 (.inl ?_)
   cases ho:(pes.map (·.2))[t]? with
   |none=>rw[ho] at hq;simp at hq
   |some o=>rw[ho] at hq;simp at hq;subst hq;exact List.mem_filterMap.2 ⟨some s,List.mem_of_getElem? ho,rfl⟩
  ·exact List.mem_append.2 (.inr (List.mem_of_getElem? hq))
 have hinj:∀t u s,qown n' (pes.map (·.2)) R t=some s→qown n' (pes.map (·.2)) R u=some s→t=u:=by
  intro t u s h1 h2
  unfold qown at h1 h2
  have hjn:∀{i:Nat},((pes.map (·.2))[i]?).join=some s→(pes.map (·.2))[i]?=some (some s):=by
   intro i hi
   cases ho:(pes.map (·.2))[i]? with
   |none=>rw[ho] at hi;simp at hi
   |some o=>rw[ho] at hi;simp at hi;rw[hi]
  split at h1 <;> split at h2
  ·exact owners_inj hndo (hjn h1) (hjn h2)
  ·exact(hdo s (List.mem_filterMap.2 ⟨some s,List.mem_of_getElem? (hjn h1),rfl⟩) s (List.mem_of_getElem? h2) rfl).elim
  ·exact(hdo s (List.mem_filterMap.2 ⟨some s,List.mem_of_getElem? (hjn h2),rfl⟩) s (List.mem_of_getElem? h1) rfl).elim
  ·have:=(List.getElem?_inj (List.getElem?_eq_some_iff.1 h1).1 hndR (j:=u-n')).1 (h1.trans h2.symm)
   omega
 have hlen:=seqO_len ha
 have hR:=rootL_ok hg
 have hev:∀i,i<n'→evi n' (xs.map a.eval++caps.map (ev fr.n a γ)) (fun t=>ro (ev fr.n a γ) R[t-n']?) i=(xs.map a.eval++caps.map (ev fr.n a γ)).getD i undef:=by
  intro i hi;simp[evi,hi]
 have hgh:∀j r,R[j]?=some r→ob β (qown n' (pes.map (·.2)) R (n'+j))=β r∧
   evi n' (xs.map a.eval++caps.map (ev fr.n a γ)) (fun t=>ro (ev fr.n a γ) R[t-n']?) (n'+j)=ev fr.n a γ r:=by
  intro j r hj
  have hn:¬n'+j<n':=by omega
  simp[qown,evi,hj,ob,ro,hn]
 refine⟨?_,?_,?_,?_,?_,?_,?_⟩
 ·simp only[List.length_append,List.length_map] at hlen ⊢
  exact hlen
 ·rintro b (hb|⟨r,hr,hb⟩)
  ·exact h.zlt b hb
  ·exact(h.own r b hb).1
 ·intro t b hb
  cases hq:qown n' (pes.map (·.2)) R t with
  |none=>simp[hq,ob] at hb
  |some s=>
   simp only[hq,ob] at hb
   have hm:=hmem t s hq
   refine⟨(h.own s b hb).1,?_,List.mem_flatMap.2 ⟨s,hm,hb⟩⟩
   rintro(hz|⟨r,hr,hbr⟩)
   ·exact(h.own s b hb).2.1 hz
   ·exact h.disj s r b (hdj s hm r hr) hb hbr
 ·intro t
  cases hq:qown n' (pes.map (·.2)) R t with
  |none=>simp[hq,ob]
  |some s=>simpa[hq,ob] using h.nodup s
 ·intro t u b htu hb
  cases hq:qown n' (pes.map (·.2)) R t with
  |none=>simp[hq,ob] at hb
  |some s=>
   simp only[hq,ob] at hb
   cases hq':qown n' (pes.map (·.2)) R u with
   |none=>simp[hq',ob]
   |some s'=>simp only[hq',ob];exact h.disj s s' b (fun e=>htu (hinj t u s hq (e▸hq'))) hb
 ·exact h.gl.mono (fun b hb=>⟨.inl hb,rfl⟩)
 ·intro t e he
  unfold Γin at he
  cases ht:Nat.blt t n' with
  |true=>
   rw[ht] at he
   simp only[cond_true] at he
   have ht':t<n':=by simpa[Nat.blt_eq] using ht
   cases hp:pes[t]? with
   |none=>simp[hp] at he
   |some pe=>
    obtain⟨e0,o⟩:=pe
    simp[hp] at he
    subst he
    have hsrc:=seqO_get ha t _ hp
    have hown:ob β (qown n' (pes.map (·.2)) R t)=ob β o:=by
     simp[qown,ht',hp]
    by_cases hx:t<xs.length
    ·rw[List.getElem?_append_left (by simpa using hx)] at hsrc
     simp only[List.getElem?_map,List.getElem?_eq_getElem hx,Option.map_some,Option.some.injEq] at hsrc
     refine argE_ok h hle hgh hsrc hown ?_
     rw[hev t ht',List.getD_eq_getElem?_getD,List.getElem?_append_left (by simpa using hx)]
     simp[hx]
    ·have hx':xs.length≤t:=Nat.le_of_not_lt hx
     rw[List.getElem?_append_right (by simpa using hx')] at hsrc
     simp only[List.length_map,List.getElem?_map] at hsrc
     cases hc:caps[t-xs.length]? with
     |none=>rw[hc] at hsrc;simp at hsrc
     |some c=>
      rw[hc] at hsrc
      simp only[Option.map_some,Option.some.injEq,argC] at hsrc
      cases hj:idx R c with
      |none=>rw[hj] at hsrc;cases hsrc
      |some j=>
       rw[hj] at hsrc
       simp at hsrc
       obtain⟨rfl,rfl⟩:=hsrc
       simp only[EntOk]
       rw[hev t ht',(hgh j c (idx_ok hj)).2,List.getD_eq_getElem?_getD,List.getElem?_append_right (by simpa using hx')]
       simp[hc]
  |false=>
   rw[ht] at he
   simp only[cond_false] at he
   have ht':¬t<n':=fun hlt=>by rw[show Nat.blt t n'=true by rw[Nat.blt_eq];exact hlt] at ht;cases ht
   obtain⟨hm,r,e0,hr,hEr,hdg⟩:=hR.2 _ _ he
   have h1:EntOk P w Z β (ev fr.n a γ) r e:=by
    have h0:=h.ent r e0 (hle r e0 hEr)
    rw[←hdg]
    cases e0 <;> first|exact h0|exact h0.2
   rw[mov_iff hm] at h1 ⊢
   have e1:t=n'+(t-n'):=by omega
   rw[e1,(hgh _ r hr).1,(hgh _ r hr).2]
   cases e <;> simp[mov] at hm <;> exact EntOk.mono h1 (fun b hb=>.inl hb) rfl rfl (by simp[Ent.hdep]) (by simp[Ent.sdep]) (fun _ _=>rfl)
end
end Go.Proofs.YtkbcahfajbdgnaaGreatDoorT
namespace Go.Proofs.YtkbcahfajbdgnaaGreatDoorT
open Go
variable {P:Program}{fr:Fr}
def keepv:Option Ent→Ent→Ent
 |some (.dv y _),.d X=>.dv y X
 |_,e=>e
def upg (E:Ctx):List Nat→List Ent→List Ent
 |r::R,e::es=>keepv (E r) e::upg E R es
 |_,_=>[]
theorem keepv_mov {q:Option Ent}{e:Ent}(h:mov e=true):mov (keepv q e)=true:=by
 unfold keepv
 split
 ·rfl
 ·exact h
theorem upg_len {E:Ctx}:∀{R:List Nat}{es:List Ent},es.length=R.length→(upg E R es).length=R.length
 |[],[],_=>rfl
 |[],_::_,h=>by simp at h
 |_::_,[],h=>by simp at h
 |r::R,e::es,h=>by simp only[upg,List.length_cons];rw[upg_len (by simpa using h)]
theorem upg_get {E:Ctx}:∀{R:List Nat}{es:List Ent}{j r:Nat}{e:Ent},R[j]?=some r→(upg E R es)[j]?=some e→∃e1,es[j]?=some e1∧e=keepv (E r) e1
 |[],_,j,r,e,h,_=>by simp at h
 |q::R,[],j,r,e,_,h=>by simp[upg] at h
 |q::R,e0::es,j,r,e,hr,h=>by
  cases j with
  |zero=>simp at hr;subst hr;simp[upg] at h;exact⟨e0,by simp,h.symm⟩
  |succ j=>simpa using upg_get (R:=R) (es:=es) (j:=j) (by simpa using hr) (by simpa[upg] using h)
theorem la_call {E:Ctx}{o:Oper}{t:Nat}{x:Operand}{xs:Array Operand}{ats:Array TypeId}{f:FuncId}{caps:List Nat}{n':Nat}{pars gh posts:List Ent}{res:Ent}(R B:List Nat)
  {pes:List (Ent×Option Nat)}(ho:o.op=.call ⟨.value x,xs,ats⟩)(hd:o.dst=some t)(ht:Nat.blt t fr.n=true)(hx:calE fr.n E x=some (f,caps))
  (hc:Ret P f n' pars gh res posts)(ha:argL fr.n E R B n' xs.toList caps=some pes)(hp:pes.map (·.1)=pars)(hg:rootL E R=some gh)
  (hS:nodupB ((pes.map (·.2)).filterMap id++R++B)=true) (ht':inB (R++B) t=false)(hl:Nat.ble pes.length n'=true)(hm:mov res=true)(hms:∀e,e∈posts→mov e=true)
  (hlp:posts.length=R.length)(hcl:B=[]∨Clean P res∧∀e,e∈posts→Clean P e) :
  LA P fr E o (⟨t,true,some res⟩::(pokes R (upg E R posts)++((pes.map (·.2)).filterMap id).map rmv)):=by
 intro Γ hle a w K Q ⟨Z,β,γ,h⟩ hk
 subst hp
 have hxe:=calE_ok h hle hx
 unfold Oper.wp
 rw[run_call ho hxe hc.1]
 have hpre:=call_pre h hle ha hg hS (Nat.le_of_ble_eq_true hl)
 have hcall:=hc.2 w _ _ _ _ _ hpre
 have harr:(xs.toList.map a.eval++caps.map (ev fr.n a γ)).toArray=xs.map a.eval++(caps.map (ev fr.n a γ)).toArray:=by
  apply Array.ext'
  simp
 rw[harr] at hcall
 refine Calls.mono hcall ?_
 rintro e w' ⟨v,rfl,Z',β',hq⟩
 refine hk _ _ ?_
 rw[hd]
 have hnd:=nodupB_ok hS
 have hnd1:=(List.nodup_append.1 hnd).1
 have hdj:=(List.nodup_append.1 hnd).2.2
 have hndR:=(List.nodup_append.1 hnd1).2.1
 generalize hM:((pes.map (·.2)).filterMap id++R)=M at *
 have hMown:∀b,b∈M.flatMap β→b<w.heap.size∧¬Z b∧(fr.w0.heap.size≤b∨b∈fr.M)∧∃s,s∈M∧b∈β s:=by
  intro b hb
  obtain⟨s,hs,hb⟩:=List.mem_flatMap.1 hb
  obtain⟨h1,h2,h3⟩:=h.own s b hb
  exact⟨h1,h2,h3,s,hs,hb⟩
 have hMB:∀b r,r∈B→b∈β r→b∉M.flatMap β:=by
  intro b r hr hb hm
  obtain⟨_,_,_,s,hs,hbs⟩:=hMown b hm
  exact h.disj s r b (hdj s hs r hr) hbs hb
 have hZM:∀b,Z b→b∉M.flatMap β:=fun b hz hm=>(hMown b hm).2.1 hz
 have hZn:∀b,Z' b→¬(∃r,r∈B∧b∈β r)→Z b∨w.heap.size≤b∨b∈M.flatMap β:=by
  intro b hz hn
  rcases hq.znew b hz with(h1|h1)|h1|h1
  ·exact .inl h1
  ·exact(hn h1).elim
  ·exact .inr (.inl h1)
  ·exact .inr (.inr h1)
 have hzone:∀e v bs,(e=res∨e∈posts)→OwnOk P w' Z' e v bs→OwnOk P w' (fun b=>Z' b∧¬∃r,r∈B∧b∈β r) e v bs:=by
  intro e v bs he hok
  rcases hcl with rfl|⟨hc1,hc2⟩
  ·have hmv:mov e=true:=by rcases he with rfl|he;exact hm;exact hms e he
   cases e <;> simp[mov] at hmv <;> exact EntOk.mono hok (fun b hb=>⟨hb,by simp⟩) rfl rfl (by simp[Ent.hdep]) (by simp[Ent.sdep]) (fun _ _=>rfl)
  ·rcases he with rfl|he
   ·exact hc1 _ _ _ _ _ hok
   ·exact hc2 e he _ _ _ _ _ hok
 have htR:t∉R:=fun hmem=>by
  have:inB (R++B) t=true:=by simp only[inB,List.any_eq_true];exact⟨t,by simp[hmem],by simp⟩
  rw[this] at ht';cases ht'
 have htB:t∉B:=fun hmem=>by
  have:inB (R++B) t=true:=by simp only[inB,List.any_eq_true];exact⟨t,by simp[hmem],by simp⟩
  rw[this] at ht';cases ht'
 have hidx:∀{u j},idx R u=some j→u∈R:=fun hj=>List.mem_of_getElem? (idx_ok hj)
 let bn:Nat→List Nat:=fun u=>if u=t then β' 0 else match idx R u with
  |some j=>β' (j+1)
  |none=>if u∈(pes.map (·.2)).filterMap id then[] else β u
 have hbnT:bn t=β' 0:=by simp[bn]
 have hbnR:∀u j,idx R u=some j→bn u=β' (j+1):=by
  intro u j hj
  have hut:u≠t:=by rintro rfl;exact htR (hidx hj)
  simp[bn,hut,hj]
 have hbnS:∀u,u≠t→idx R u=none→u∈(pes.map (·.2)).filterMap id→bn u=[]:=by
  intro u h1 h2 h3
  simp only[bn,h1,if_false,h2,h3,if_true]
 have hbnO:∀u,u≠t→idx R u=none→u∉(pes.map (·.2)).filterMap id→bn u=β u:=by
  intro u h1 h2 h3
  simp only[bn,h1,if_false,h2,h3]
 have hcase:∀u b,b∈bn u→(∃k,b∈β' k∧(k=0∧u=t∨∃j,k=j+1∧idx R u=some j))∨(u≠t∧u∉M∧b∈β u):=by
  intro u b hb
  by_cases hut:u=t
  ·subst hut;rw[hbnT] at hb;exact .inl ⟨0,hb,.inl ⟨rfl,rfl⟩⟩
  ·cases hj:idx R u with
   |some j=>rw[hbnR u j hj] at hb;exact .inl ⟨j+1,hb,.inr ⟨j,rfl,rfl⟩⟩
   |none=>
    by_cases hs:u∈(pes.map (·.2)).filterMap id
    ·rw[hbnS u hut hj hs] at hb;simp at hb
    ·rw[hbnO u hut hj hs] at hb
     refine .inr ⟨hut,?_,hb⟩
     rw[←hM]
     simp only[List.mem_append,not_or]
     exact⟨hs,idx_none hj⟩
 have hnew:∀k b,b∈β' k→∀u,u∉M→b∈β u→False:=by
  intro k b hb u hu hbu
  rcases(hq.own k b hb).2.2 with h1|h1
  ·have:=(h.own u b hbu).1;omega
  ·obtain⟨_,_,_,s,hs,hbs⟩:=hMown b h1
   exact h.disj s u b (fun e=>hu (e▸hs)) hbs hbu
 have hlk:∀u,look (⟨t,true,some res⟩::(pokes R (upg E R posts)++((pes.map (·.2)).filterMap id).map rmv)) u =
   if u=t then some ⟨t,true,some res⟩ else match idx R u with
    |some j=>((upg E R posts)[j]?).map fun e=>⟨u,false,some e⟩
    |none=>if u∈(pes.map (·.2)).filterMap id then some (rmv u) else none:=by
  intro u
  simp only[look]
  by_cases hut:u=t
  ·subst hut;simp
  ·have:Nat.beq t u=false:=by
    cases hb:Nat.beq t u with
    |false=>rfl
    |true=>exact absurd (Nat.eq_of_beq_eq_true hb).symm hut
   rw[this,cond_false,if_neg hut,look_pokes _ _ (upg_len hlp),look_rmv]
   try (cases idx R u <;> rfl)
 refine⟨fun b=>Z' b∧¬∃r,r∈B∧b∈β r,bn,γ,h.turn _ (by simpa[Act.put] using h.defers) (by simpa[Act.put] using h.size) ?_ ?_ ?_ ?_ ?_ ?_ ?_ ?_ ?_ ?_ ?_⟩
 ·exact h.evo.trans hq.evo (fun b hb=>by
   rcases(hMown b hb).2.2.1 with h1|h1
   ·exact .inr h1
   ·exact .inl h1)
 ·exact fun b hb=>hq.zlt b hb.1
 ·intro b hz
  refine⟨⟨hq.zin b (.inl hz),?_⟩,hq.evo.block b (h.zlt b hz) (hZM b hz)⟩
  rintro⟨r,_,hb⟩
  exact(h.own r b hb).2.1 hz
 ·rintro b ⟨hz,hn⟩
  rcases hZn b hz hn with h1|h1|h1
  ·exact h.znew b h1
  ·exact .inr (.inl (Nat.le_trans h.evo.size h1))
  ·rcases(hMown b h1).2.2.1 with h2|h2
   ·exact .inr (.inl h2)
   ·exact .inr (.inr h2)
 ·intro u b hb
  rcases hcase u b hb with⟨k,hk',_⟩|⟨_,hu,hb'⟩
  ·obtain⟨h1,h2,h3⟩:=hq.own k b hk'
   refine⟨h1,fun hz=>h2 hz.1,?_⟩
   rcases h3 with h3|h3
   ·exact .inl (Nat.le_trans h.evo.size h3)
   ·exact(hMown b h3).2.2.1
  ·obtain⟨h1,h2,h3⟩:=h.own u b hb'
   refine⟨Nat.lt_of_lt_of_le h1 hq.evo.size,?_,h3⟩
   rintro⟨hz,hn⟩
   rcases hZn b hz hn with h4|h4|h4
   ·exact h2 h4
   ·omega
   ·obtain⟨_,_,_,s,hs,hbs⟩:=hMown b h4
    exact h.disj s u b (fun e=>hu (e▸hs)) hbs hb'
 ·intro u
  by_cases hut:u=t
  ·subst hut;rw[hbnT];exact hq.nodup 0
  ·cases hj:idx R u with
   |some j=>rw[hbnR u j hj];exact hq.nodup _
   |none=>
    by_cases hs:u∈(pes.map (·.2)).filterMap id
    ·rw[hbnS u hut hj hs];simp
    ·rw[hbnO u hut hj hs];exact h.nodup u
 ·intro u u' b hne hb hb'
  rcases hcase u b hb with⟨k,hk1,hk2⟩|⟨_,hu,hb1⟩ <;> rcases hcase u' b hb' with⟨k',hk1',hk2'⟩|⟨_,hu',hb1'⟩
  ·refine hq.disj k k' b ?_ hk1 hk1'
   rintro rfl
   rcases hk2 with⟨h0,rfl⟩|⟨j,hj1,hj2⟩ <;> rcases hk2' with⟨h0',rfl⟩|⟨j',hj1',hj2'⟩
   ·exact hne rfl
   ·omega
   ·omega
   ·have:j=j':=by omega
    subst this
    have:=(idx_ok hj2).symm.trans (idx_ok hj2')
    exact hne (by simpa using this)
  ·exact hnew k b hk1 u' hu' hb1'
  ·exact hnew k' b hk1' u hu hb1
  ·exact h.disj u u' b hne hb1 hb1'
 ·intro u hu
  rw[ev_put h.size ht]
  rw[hlk] at hu
  by_cases hut:u=t
  ·simp[hut] at hu
  ·simp[hut]
 ·intro u hu
  rw[hlk] at hu
  by_cases hut:u=t
  ·simp[hut] at hu
  ·simp only[hut,if_false] at hu
   cases hj:idx R u with
   |some j=>
    rw[hj] at hu
    have hjl:j<(upg E R posts).length:=by rw[upg_len hlp];exact(List.getElem?_eq_some_iff.1 (idx_ok hj)).1
    simp[hjl] at hu
   |none=>
    rw[hj] at hu
    simp only at hu
    by_cases hs:u∈(pes.map (·.2)).filterMap id
    ·rw[if_pos hs] at hu;cases hu
    ·exact hbnO u hut hj hs
 ·intro u hu b hub
  rw[hlk] at hu
  refine hq.evo.block b (h.own u b hub).1 (fun hm=>?_)
  obtain⟨_,_,_,s,hs,hbs⟩:=hMown b hm
  by_cases hut:u=t
  ·simp[hut] at hu
  ·simp only[hut,if_false] at hu
   cases hj:idx R u with
   |some j=>
    rw[hj] at hu
    have hjl:j<(upg E R posts).length:=by rw[upg_len hlp];exact(List.getElem?_eq_some_iff.1 (idx_ok hj)).1
    simp[hjl] at hu
   |none=>
    rw[hj] at hu
    simp only at hu
    by_cases hs':u∈(pes.map (·.2)).filterMap id
    ·rw[if_pos hs'] at hu;cases hu
    ·refine h.disj s u b ?_ hbs hub
     rintro rfl
     rw[←hM] at hs
     rcases List.mem_append.1 hs with h1|h1
     ·exact hs' h1
     ·exact idx_none hj h1
 ·intro u p e hl' hpe
  rw[hlk] at hl'
  by_cases hut:u=t
  ·subst hut
   simp at hl'
   subst hl'
   simp at hpe
   subst hpe
   rw[mov_iff hm,hbnT,ev_put h.size ht]
   simp only[if_true]
   exact hzone _ _ _ (.inl rfl) hq.res
  ·simp only[hut,if_false] at hl'
   cases hj:idx R u with
   |some j=>
    rw[hj] at hl'
    simp only at hl'
    cases hpj':(upg E R posts)[j]? with
    |none=>rw[hpj'] at hl';cases hl'
    |some ek=>
     obtain⟨e0,hpj,rfl⟩:=upg_get (idx_ok hj) hpj'
     rw[hpj'] at hl'
     simp at hl'
     subst hl'
     simp at hpe
     subst hpe
     have hmem:=List.mem_of_getElem? hpj
     rw[mov_iff (keepv_mov (hms _ hmem)),hbnR u j hj,ev_put h.size ht]
     simp only[hut,if_false]
     have h2:=hq.post j _ hpj
     have h3:ro (ev fr.n a γ) R[n'+j-n']?=ev fr.n a γ u:=by
      have:n'+j-n'=j:=by omega
      rw[this,idx_ok hj];rfl
     rw[h3] at h2
     have h4:=hzone _ _ _ (.inr hmem) h2
     unfold keepv
     split
     ·rename_i y X0 X hEu
      have h5:=h.ent u _ (hle u _ hEu)
      exact⟨h5.1,h4⟩
     ·exact h4
   |none=>
    rw[hj] at hl'
    simp only at hl'
    by_cases hs:u∈(pes.map (·.2)).filterMap id
    ·rw[if_pos hs] at hl';simp at hl';subst hl';simp[rmv] at hpe
    ·rw[if_neg hs] at hl';cases hl'
end Go.Proofs.YtkbcahfajbdgnaaGreatDoorT
namespace Go.Proofs.YtkbcahfajbdgnaaGreatDoorT
open Go
variable {P:Program}{fr:Fr}
inductive RvOk (P:Program) (n:Nat) (Γ:Ctx):ResultVar→Dt→Nat→Prop
 |tmp {t:Nat}{X:Dt}(ht:Nat.blt t n=true)(h:Γ t=some (.d X)):RvOk P n Γ (.tmp t) X t
 |cell {t:Nat}{T:TypeId}{cs:List C}(ht:Nat.blt t n=true)(h:Γ t=some (.box T cs))(hT:rowT P T=true)(hl:cs.length=szOf P T):RvOk P n Γ (.cell t T) (.agg cs) t
def rvRun (tmps:Array Value):ResultVar→Sem Value
 |.tmp t=>pure (tmps.getD t undef)
 |.cell a t=>do loadVar t (←asAddr (tmps.getD a undef))
theorem rv_ok {Γ:Ctx}{a:Act}{w:World}{Z:Nat→Prop}{β:Nat→List Nat}{γ:Nat→Value}(h:Core P fr Γ a w Z β γ){r:ResultVar}{X:Dt}{t:Nat}(hr:RvOk P fr.n Γ r X t) :
  ∃v bs,(rvRun a.tmps r).run P w=.ok v w∧RD P w Z X v bs∧Sub bs (β t):=by
 cases hr with
 |tmp ht hx=>
  have he:=h.ent t _ hx
  refine⟨a.tmps.getD t undef,β t,rfl,?_,Sub.refl _⟩
  have:ev fr.n a γ t=a.tmps.getD t undef:=(eval_ev (a:=a) ht).symm
  rw[←this]
  exact he
 |cell ht hx hT hl=>
  rename_i T cs
  have he:=h.ent t _ hx
  simp only[EntOk] at he
  obtain⟨b,vs,bs,h1,h2,h3,h4⟩:=he
  have hev:a.tmps.getD t undef=.pointer (some ⟨b,0,none⟩):=(eval_ev (a:=a) ht).trans h1
  have hlen:=RL.length _ h3
  have hload:=run_load_row (P:=P) (w:=w) hT (ad:=⟨b,0,none⟩) (vs:=vs.toList) (hlen.trans hl) (fun k x hk=>by
   rw[cell_row h2];simpa using hk)
  refine⟨.agg vs,bs,?_,⟨vs.toList,by simp,h3⟩,?_⟩
  ·simp only[rvRun,hev]
   simp[Instr.loadAt,Instr.sureAddr] at hload
   simp[asAddr,hload]
  ·rw[h4]
   intro x
   simp only[List.count_cons]
   omega
inductive RvsOk (P:Program) (n:Nat) (Γ:Ctx):List ResultVar→List Dt→List Nat→Prop
 |nil:RvsOk P n Γ [] [] []
 |cons {r X t rs Xs ts}(h:RvOk P n Γ r X t)(hs:RvsOk P n Γ rs Xs ts):RvsOk P n Γ (r::rs) (X::Xs) (t::ts)
theorem rvs_ok {Γ:Ctx}{a:Act}{w:World}{Z:Nat→Prop}{β:Nat→List Nat}{γ:Nat→Value}(h:Core P fr Γ a w Z β γ){rs:List ResultVar}{Xs:List Dt}{ts:List Nat}(hr:RvsOk P fr.n Γ rs Xs ts) :
  ∃vs bs,(rs.mapM (rvRun a.tmps)).run P w=.ok vs w∧RT P w Z (Xs.map some) vs bs∧Sub bs (ts.flatMap β)∧vs.length=rs.length:=by
 induction hr with
 |nil=>exact⟨[],[],rfl,⟨rfl,rfl⟩,Sub.nil _,rfl⟩
 |cons h1 hs ih=>
  obtain⟨v,b1,e1,e2,e3⟩:=rv_ok h h1
  obtain⟨vs,b2,f1,f2,f3,f4⟩:=ih
  refine⟨v::vs,b1++b2,?_,⟨v,vs,b1,b2,rfl,rfl,e2,f2⟩,?_,by simp[f4]⟩
  ·simp[List.mapM_cons,e1,f1]
  ·simpa using Sub.app e3 f3
def PostsOk (Γ:Ctx):Nat→List Ent→Prop
 |_,[]=>True
 |m,e::es=>(Γ m=some e∧mov e=true)∧PostsOk Γ (m+1) es
theorem posts_ok {Γ:Ctx}:∀{m:Nat}{es:List Ent}(_:PostsOk Γ m es) (j:Nat) (e:Ent),es[j]?=some e→Γ (m+j)=some e∧mov e=true
 |_,[],_,j,e,hj=>by simp at hj
 |m,e0::es,h,j,e,hj=>by
  cases j with
  |zero=>simp at hj;subst hj;exact h.1
  |succ j=>
   have:=posts_ok h.2 j e (by simpa using hj)
   rw[show m+(j+1)=m+1+j by omega]
   exact this
theorem fin_core {Γ:Ctx}{a:Act}{w:World}{Z:Nat→Prop}{β:Nat→List Nat}{γ:Nat→Value}(h:Core P fr Γ a w Z β γ){fn:Func}{v:Value}{bs:List Nat}{ts:List Nat}{res:Ent}{posts:List Ent}
  (hv:(results fn a.tmps).run P w=.ok v w)(hr:OwnOk P w Z res v bs)(hb:Sub bs (ts.flatMap β))(hts:∀t,t∈ts→t<fr.n)(hnd:ts.Nodup)(hp:PostsOk Γ fr.n posts):Fin P fr fn res posts a w:=by
 have hp':=posts_ok hp
 have hfl:=h.flat hnd
 have hmem:∀b,b∈bs→∃s,s∈ts∧b∈β s:=fun b hb'=>by
  obtain⟨s,h1,h2⟩:=List.mem_flatMap.1 (hb.mem hb')
  exact⟨s,h1,h2⟩
 refine⟨h.defers,v,hv,Z,fun k=>match k with|0=>bs|j+1=>β (fr.n+j),?_⟩
 refine⟨h.evo,h.zlt,h.zin,h.znew,?_,?_,?_,hr,?_⟩
 ·intro k b hb'
  cases k with
  |zero=>obtain⟨s,_,hs⟩:=hmem b hb';exact h.own s b hs
  |succ j=>exact h.own _ b hb'
 ·intro k
  cases k with
  |zero=>exact hb.nodup hfl
  |succ j=>exact h.nodup _
 ·intro k k' b hne h1 h2
  cases k with
  |zero=>
   cases k' with
   |zero=>exact hne rfl
   |succ j=>
    obtain⟨s,hs1,hs2⟩:=hmem b h1
    exact h.disj s (fr.n+j) b (by have:=hts s hs1;omega) hs2 h2
  |succ i=>
   cases k' with
   |zero=>
    obtain⟨s,hs1,hs2⟩:=hmem b h2
    exact h.disj s (fr.n+i) b (by have:=hts s hs1;omega) hs2 h1
   |succ j=>exact h.disj _ _ b (by omega) h1 h2
 ·intro j e hj
  obtain⟨h1,h2⟩:=hp' j e hj
  have:=h.ent _ e h1
  rw[mov_iff h2] at this
  rw[←h.gh]
  have hn:¬fr.n+j<fr.n:=by omega
  have hev:ev fr.n a γ (fr.n+j)=γ (fr.n+j):=by simp[ev,hn]
  rw[hev] at this
  exact this
theorem rvs_lt {Γ:Ctx}{n:Nat}{rs:List ResultVar}{Xs:List Dt}{ts:List Nat}(hr:RvsOk P n Γ rs Xs ts):∀t,t∈ts→t<n:=by
 induction hr with
 |nil=>simp
 |cons h1 hs ih=>
  intro t ht
  rcases List.mem_cons.1 ht with rfl|ht
  ·cases h1 with
   |tmp ht _=>simpa[Nat.blt_eq] using ht
   |cell ht _ _ _=>simpa[Nat.blt_eq] using ht
  ·exact ih t ht
theorem results_run {fn:Func}{tmps:Array Value}{rs:List ResultVar}(h:fn.results.toList=rs){w:World}{vs:List Value}(hr:(rs.mapM (rvRun tmps)).run P w=.ok vs w) :
  (results fn tmps).run P w=.ok (if h:vs.toArray.size=1 then vs.toArray[0] else .tuple vs.toArray) w:=by
 have e1:fn.results=rs.toArray:=by rw[←h]
 unfold results
 rw[e1]
 have e2:(rs.toArray.mapM (rvRun tmps))=List.toArray <$> rs.mapM (rvRun tmps):=by simp
 show((rs.toArray.mapM (rvRun tmps)) >>= _).run P w=_
 rw[e2,Sem.run_bind]
 simp[hr]
theorem fin_one {Γ:Ctx}{a:Act}{w:World}{fn:Func}{r:ResultVar}{X:Dt}{t:Nat}{posts:List Ent}(h:St P fr Γ a w)(hrs:fn.results.toList=[r])(hr:RvOk P fr.n Γ r X t)(hp:PostsOk Γ fr.n posts) :
  Fin P fr fn (.d X) posts a w:=by
 obtain⟨Z,β,γ,h⟩:=h
 have hrv:=RvsOk.cons hr .nil
 obtain⟨v,bs,h1,h2,h3⟩:=rv_ok h hr
 have hres:=results_run (P:=P) hrs (w:=w) (tmps:=a.tmps) (vs:=[v]) (by simp[h1])
 exact fin_core h (ts:=[t]) hres h2 (by simpa using h3) (rvs_lt hrv) (by simp) hp
theorem fin_many {Γ:Ctx}{a:Act}{w:World}{fn:Func}{rs:List ResultVar}{Xs:List Dt}{ts:List Nat}{posts:List Ent}(h:St P fr Γ a w)(hrs:fn.results.toList=rs)(hr:RvsOk P fr.n Γ rs Xs ts)
  (hn:Nat.beq rs.length 1=false)(hnd:nodupB ts=true)(hp:PostsOk Γ fr.n posts):Fin P fr fn (.tup (Xs.map some)) posts a w:=by
 obtain⟨Z,β,γ,h⟩:=h
 obtain⟨vs,bs,h1,h2,h3,h4⟩:=rvs_ok h hr
 have hres:=results_run (P:=P) hrs h1
 have hne:¬vs.toArray.size=1:=by
  intro e
  have:rs.length=1:=by rw[←h4];simpa using e
  rw[this] at hn
  cases hn
 rw[dif_neg hne] at hres
 exact fin_core h (ts:=ts) hres ⟨vs,rfl,h2⟩ h3 (rvs_lt hr) (nodupB_ok hnd) hp
theorem St.weaken {Γ Γ':Ctx}{a:Act}{w:World}(h:St P fr Γ a w)(hl:E_le Γ' Γ):St P fr Γ' a w:=by
 obtain⟨Z,β,γ,h⟩:=h
 exact⟨Z,β,γ,⟨h.gh,h.defers,h.size,h.evo,h.zlt,h.zin,h.znew,h.own,h.nodup,h.disj,h.gl,fun t e ht=>h.ent t e (hl t e ht)⟩⟩
def mk:List (Nat×Ent)→Ctx
 |[],_=>none
 |(t,e)::L,u=>bif Nat.beq t u then some e else mk L u
theorem St.freeze {Γ:Ctx}{a:Act}{w:World}(h:St P fr Γ a w) (t:Nat){X:Dt}(hx:Γ t=some (.d X)):St P fr (upd Γ [⟨t,false,some (.d (shD X))⟩]) a w:=by
 obtain⟨Z,β,γ,h⟩:=h
 have hlk:∀u,look [⟨t,false,some (.d (shD X))⟩] u=if u=t then some ⟨t,false,some (.d (shD X))⟩ else none:=by
  intro u
  simp only[look]
  by_cases hu:u=t
  ·subst hu;simp
  ·have:Nat.beq t u=false:=by
    cases hb:Nat.beq t u with
    |false=>rfl
    |true=>exact absurd (Nat.eq_of_beq_eq_true hb).symm hu
   simp[this,hu]
 refine⟨fun b=>Z b∨b∈β t,fun u=>if u=t then[] else β u,γ,h.turn _ h.defers h.size h.evo ?_ (fun b hb=>⟨.inl hb,rfl⟩) ?_ ?_ ?_ ?_ (fun _ _=>rfl) ?_ (fun _ _ _ _=>rfl) ?_⟩
 ·rintro b (hb|hb)
  ·exact h.zlt b hb
  ·exact(h.own t b hb).1
 ·rintro b (hb|hb)
  ·exact h.znew b hb
  ·exact .inr (h.own t b hb).2.2
 ·intro u b hb
  by_cases hu:u=t
  ·simp[hu] at hb
  ·simp only[hu,if_false] at hb
   refine⟨(h.own u b hb).1,?_,(h.own u b hb).2.2⟩
   rintro(hz|hz)
   ·exact(h.own u b hb).2.1 hz
   ·exact h.disj u t b hu hb hz
 ·intro u
  by_cases hu:u=t
  ·simp[hu]
  ·simpa[hu] using h.nodup u
 ·intro u u' b hne hb hb'
  by_cases hu:u=t
  ·simp[hu] at hb
  ·by_cases hu':u'=t
   ·simp[hu'] at hb'
   ·simp only[hu,hu',if_false] at hb hb'
    exact h.disj u u' b hne hb hb'
 ·intro u hu
  rw[hlk] at hu
  by_cases hut:u=t
  ·simp[hut] at hu
  ·simp[hut]
 ·intro u p e hl hpe
  rw[hlk] at hl
  by_cases hut:u=t
  ·subst hut
   simp at hl
   subst hl
   simp at hpe
   subst hpe
   have he:=h.ent u _ hx
   simp only[EntOk] at he ⊢
   simp only[if_true]
   exact RD.share he
  ·simp[hut] at hl
end Go.Proofs.YtkbcahfajbdgnaaGreatDoorT
namespace Go.Proofs.YtkbcahfajbdgnaaGreatDoorT
open Go
variable {P:Program}{fr:Fr}
def LW (P:Program) (fr:Fr) (ops:Array Oper) (k:Nat) (E:Ctx) (δ:List Up):Prop:=
 ∀Γ:Ctx,E_le E Γ→∀a w (K:Act→World→Prop) Q,St P fr Γ a w→(∀a' w',St P fr (upd Γ δ) a' w'→K a' w')→wpOp P ops Q k K a w
theorem lw_run {ops:Array Oper}{k:Nat}{o:Oper}{E:Ctx}{δ:List Up}(ho:ops[k]?=some o)(hg:o.guard=none)(h:LA P fr E o δ):LW P fr ops k E δ:=by
 intro Γ hle a w K Q hs hk
 unfold wpOp
 rw[ho]
 have hw:Region.wanted o (yielded ops a.tmps)=true:=by simp[Region.wanted,hg]
 simp only[hw,if_true]
 exact .inl (h Γ hle a w K Q hs hk)
theorem yielded_ok {Γ E:Ctx}(hle:E_le E Γ){a:Act}{w:World}(hs:St P fr Γ a w){ops:Array Oper}{g d:Nat}{og:Oper}{b:Bool}(hg:ops[g]?=some og)(hd:og.dst=some d)(hn:Nat.blt d fr.n=true)
  (hv:vs fr.n E (.tmp d)=some (.bool b)):yielded ops a.tmps g=some b:=by
 obtain⟨Z,β,γ,h⟩:=hs
 have h1:=vs_ok h (vs_le hle hv)
 have hlt:d<a.tmps.size:=by rw[h.size];simpa[Nat.blt_eq] using hn
 have h2:a.tmps[d]?=some (.bool b):=by
  simp only[Act.eval,Array.getD_eq_getD_getElem?] at h1
  rw[Array.getElem?_eq_getElem hlt] at h1 ⊢
  simpa using h1
 simp[yielded,hg,hd,h2]
theorem lw_on {ops:Array Oper}{k g d:Nat}{o og:Oper}{b:Bool}{E:Ctx}{δ:List Up}(ho:ops[k]?=some o)(hgd:o.guard=some (g,b))(hg:ops[g]?=some og)(hd:og.dst=some d)(hn:Nat.blt d fr.n=true)
  (hv:vs fr.n E (.tmp d)=some (.bool b))(h:LA P fr E o δ):LW P fr ops k E δ:=by
 intro Γ hle a w K Q hs hk
 unfold wpOp
 rw[ho]
 have hw:Region.wanted o (yielded ops a.tmps)=true:=by simp[Region.wanted,hgd,yielded_ok hle hs hg hd hn hv]
 simp only[hw,if_true]
 exact .inl (h Γ hle a w K Q hs hk)
theorem put_undef {Γ:Ctx}{a:Act}{w:World}{t:Nat}(ht:Nat.blt t fr.n=true)(hs:St P fr Γ a w):St P fr (upd Γ [⟨t,true,some (.tup [])⟩]) (a.put (some t) undef) w:=by
 obtain⟨Z,β,γ,h⟩:=hs
 refine⟨Z,_,γ,h.give [] ht (v:=undef) (bn:=[]) (e:=.tup []) (Grow.refl w _) (by simp) (by simp) ?_⟩
 intro β' ev' h1 h2 h3 h4
 simp only[EntOk]
 exact⟨[],h2,rfl,h1⟩
theorem lw_off {ops:Array Oper}{k g d t:Nat}{o og:Oper}{b c:Bool}{E:Ctx}(ho:ops[k]?=some o)(hgd:o.guard=some (g,b))(hg:ops[g]?=some og)(hd:og.dst=some d)(hn:Nat.blt d fr.n=true)
  (hv:vs fr.n E (.tmp d)=some (.bool c))(hbc:c=!b)(hdst:o.dst=some t)(ht:Nat.blt t fr.n=true):LW P fr ops k E [⟨t,true,some (.tup [])⟩]:=by
 intro Γ hle a w K Q hs hk
 unfold wpOp
 rw[ho]
 have hw:Region.wanted o (yielded ops a.tmps)=false:=by
  simp only[Region.wanted,hgd,yielded_ok hle hs hg hd hn hv]
  subst hbc
  cases b <;> rfl
 simp only[hw]
 refine hk _ _ ?_
 rw[hdst]
 exact put_undef ht hs
theorem lw_offu {ops:Array Oper}{k g d t:Nat}{o og:Oper}{b:Bool}{E:Ctx}(ho:ops[k]?=some o)(hgd:o.guard=some (g,b))(hg:ops[g]?=some og)(hd:og.dst=some d)(hn:Nat.blt d fr.n=true)
  (hv:E d=some (.tup []))(hdst:o.dst=some t)(ht:Nat.blt t fr.n=true):LW P fr ops k E [⟨t,true,some (.tup [])⟩]:=by
 intro Γ hle a w K Q hs hk
 unfold wpOp
 rw[ho]
 have hy:yielded ops a.tmps g=none:=by
  obtain⟨Z,β,γ,h⟩:=hs
  have he:=h.ent d _ (hle d _ hv)
  simp only[EntOk] at he
  obtain⟨ys,h1,h2,_⟩:=he
  subst h2
  have hlt:d<a.tmps.size:=by rw[h.size];simpa[Nat.blt_eq] using hn
  rw[←eval_ev (a:=a) (γ:=γ) hn] at h1
  have h3:a.tmps[d]?=some (.tuple #[]):=by
   simp only[Act.eval,Array.getD_eq_getD_getElem?] at h1
   rw[Array.getElem?_eq_getElem hlt] at h1 ⊢
   simpa using h1
  simp[yielded,hg,hd,h3]
 have hw:Region.wanted o (yielded ops a.tmps)=false:=by
  simp only[Region.wanted,hgd,hy]
  cases b <;> rfl
 simp only[hw]
 refine hk _ _ ?_
 rw[hdst]
 exact put_undef ht hs
structure Pl where
 E:List (Nat×Ent)
 δ:List Up
 A:List Nat
def stb (δ:List Up) (u:Nat) (e:Ent):Bool:=(match look δ u with|some _=>false|none=>true)&&!(hit δ e)
def free (off:Nat→Pl→Bool) (u:Nat) (e:Ent):Nat→List Pl→Bool
 |_,[]=>true
 |j,p::ps=>(off j p||stb p.δ u e)&&free off u e (j+1) ps
theorem free_ok {off:Nat→Pl→Bool}{u:Nat}{e:Ent}:∀{i:Nat}{L:List Pl},free off u e i L=true→∀(j:Nat) (p:Pl),L[j]?=some p→off (i+j) p=true∨stb p.δ u e=true
 |_,[],_,j,p,h=>by simp at h
 |i,q::L,hf,j,p,h=>by
  simp only[free,Bool.and_eq_true,Bool.or_eq_true] at hf
  cases j with
  |zero=>simp at h;subst h;exact hf.1
  |succ j=>
   have:=free_ok hf.2 j p (by simpa using h)
   rwa [show i+1+j=i+(j+1) by omega] at this
def Whn (Γ0:Ctx) (L:List Pl) (k:Nat) (A:List Nat) (u:Nat) (e:Ent):Prop:=
 (Γ0 u=some e∧free (fun j p=>Nat.beq j k||inB p.A k) u e 0 L=true)∨
 ∃i p,inB A i=true∧L[i]?=some p∧(match look p.δ u with|some q=>q.e|none=>none)=some e∧
  free (fun j q=>Nat.beq j k||inB q.A k||Nat.beq j i||inB p.A j) u e 0 L=true
def SrcE (Γ0:Ctx) (L:List Pl) (u:Nat) (e:Ent):Prop:=
 (Γ0 u=some e∧free (fun _ _=>false) u e 0 L=true)∨
 ∃i p,L[i]?=some p∧(match look p.δ u with|some q=>q.e|none=>none)=some e∧
  free (fun j _=>Nat.beq j i||inB p.A j) u e 0 L=true
def Srcs (Γ0:Ctx) (L:List Pl) (k:Nat) (A:List Nat):List (Nat×Ent)→Prop
 |[]=>True
 |(u,e)::E=>Whn Γ0 L k A u e∧Srcs Γ0 L k A E
def SrcEs (Γ0:Ctx) (L:List Pl):List (Nat×Ent)→Prop
 |[]=>True
 |(u,e)::E=>SrcE Γ0 L u e∧SrcEs Γ0 L E
def Plans (P:Program) (fr:Fr) (ops:Array Oper) (Γ0:Ctx) (L:List Pl):Nat→List Pl→Prop
 |_,[]=>True
 |k,p::ps=>(LW P fr ops k (mk p.E) p.δ∧Srcs Γ0 L k p.A p.E)∧Plans P fr ops Γ0 L (k+1) ps
def aheadB (ops:Array Oper) (L:List Pl) (k:Nat) (A:List Nat):Bool:=
 match ops[k]? with
 |none=>false
 |some o=>
  let d:=(o.after.toList.filter (Region.binds .any)).map (·.on)
  (d.all fun i=>Nat.blt i k)&&A.all fun j=>inB d j||d.any fun i=>match L[i]? with
   |some p=>inB p.A j
   |none=>false
def aheadsB (ops:Array Oper) (L:List Pl):Nat→List Pl→Bool
 |_,[]=>true
 |k,p::ps=>aheadB ops L k p.A&&aheadsB ops L (k+1) ps
theorem plans_ok {ops:Array Oper}{Γ0:Ctx}{L:List Pl}:∀{i:Nat}{ps:List Pl},Plans P fr ops Γ0 L i ps→∀(j:Nat) (p:Pl),ps[j]?=some p→LW P fr ops (i+j) (mk p.E) p.δ∧Srcs Γ0 L (i+j) p.A p.E
 |_,[],_,j,p,h=>by simp at h
 |i,q::ps,hf,j,p,h=>by
  cases j with
  |zero=>simp at h;subst h;exact hf.1
  |succ j=>
   have:=plans_ok hf.2 j p (by simpa using h)
   rwa [show i+1+j=i+(j+1) by omega] at this
theorem aheads_ok {ops:Array Oper}{L:List Pl}:∀{i:Nat}{ps:List Pl},aheadsB ops L i ps=true→∀(j:Nat) (p:Pl),ps[j]?=some p→aheadB ops L (i+j) p.A=true
 |_,[],_,j,p,h=>by simp at h
 |i,q::ps,hf,j,p,h=>by
  simp only[aheadsB,Bool.and_eq_true] at hf
  cases j with
  |zero=>simp at h;subst h;exact hf.1
  |succ j=>
   have:=aheads_ok hf.2 j p (by simpa using h)
   rwa [show i+1+j=i+(j+1) by omega] at this
theorem srcs_ok {Γ0:Ctx}{L:List Pl}{k:Nat}{A:List Nat}:∀{E:List (Nat×Ent)},Srcs Γ0 L k A E→∀u e,mk E u=some e→Whn Γ0 L k A u e
 |[],_,u,e,h=>by simp[mk] at h
 |(v,e0)::E,hs,u,e,h=>by
  simp only[mk] at h
  cases hb:Nat.beq v u with
  |true=>
   rw[hb] at h;simp at h;subst h
   rw[←Nat.eq_of_beq_eq_true hb];exact hs.1
  |false=>rw[hb] at h;exact srcs_ok hs.2 u e h
theorem srcEs_ok {Γ0:Ctx}{L:List Pl}:∀{E:List (Nat×Ent)},SrcEs Γ0 L E→∀u e,mk E u=some e→SrcE Γ0 L u e
 |[],_,u,e,h=>by simp[mk] at h
 |(v,e0)::E,hs,u,e,h=>by
  simp only[mk] at h
  cases hb:Nat.beq v u with
  |true=>
   rw[hb] at h;simp at h;subst h
   rw[←Nat.eq_of_beq_eq_true hb];exact hs.1
  |false=>rw[hb] at h;exact srcEs_ok hs.2 u e h
structure Done (P:Program) (fr:Fr) (Γ0:Ctx) (L:List Pl) (listed:Array Bool) (a:Act) (w:World):Prop where
 clo:∀(i:Nat) p,listed[i]?=some true→L[i]?=some p→∀j,j∈p.A→listed[j]?=some true
 st:∃Γ,St P fr Γ a w∧(∀u e,Γ0 u=some e→(∀(j:Nat) p,listed[j]?=some true→L[j]?=some p→stb p.δ u e=true)→Γ u=some e)∧
  ∀(i:Nat) p,listed[i]?=some true→L[i]?=some p→∀u e,(match look p.δ u with|some q=>q.e|none=>none)=some e→
   (∀(j:Nat) q,listed[j]?=some true→L[j]?=some q→j≠i→j∉p.A→stb q.δ u e=true)→Γ u=some e
theorem upd_stb {Γ:Ctx}{δ:List Up}{u:Nat}{e:Ent}(h:Γ u=some e)(hs:stb δ u e=true):upd Γ δ u=some e:=by
 unfold stb at hs
 unfold upd
 cases hl:look δ u with
 |some p=>rw[hl] at hs;simp at hs
 |none=>
  rw[hl] at hs
  simp at hs
  simp[h,hs]
theorem upd_new {Γ:Ctx}{δ:List Up}{u:Nat}{e:Ent}(h:(match look δ u with|some q=>q.e|none=>none)=some e):upd Γ δ u=some e:=by
 unfold upd
 cases hl:look δ u with
 |some p=>rw[hl] at h;exact h
 |none=>rw[hl] at h;simp at h
theorem ready_iff {ops:Array Oper}{listed:Array Bool}{i:Nat}(h:i∈Region.ready .any ops listed) :
  i<ops.size∧listed.getD i true=false∧∃o,ops[i]?=some o∧∀e,e∈o.after.toList→Region.binds .any e=true→listed.getD e.on false=true:=by
 simp only[Region.ready,List.mem_filter,List.mem_range,Bool.and_eq_true,Bool.not_eq_true'] at h
 obtain⟨h1,h2,h3⟩:=h
 refine⟨h1,h2,ops[i],by simp[h1],?_⟩
 rw[Array.getElem?_eq_getElem h1] at h3
 simp only[Option.map_some,Option.getD_some,Array.all_eq_true_iff_forall_mem,Bool.or_eq_true,Bool.not_eq_true'] at h3
 intro e he hb
 rcases h3 e (Array.mem_toList_iff.1 he) with h4|h4
 ·rw[hb] at h4;cases h4
 ·exact h4
theorem getD_true {l:Array Bool}{i:Nat}(h:l.getD i false=true):l[i]?=some true:=by
 rw[Array.getD_eq_getD_getElem?] at h
 cases hl:l[i]? with
 |none=>rw[hl] at h;cases h
 |some b=>rw[hl] at h;simp at h;rw[h]
theorem getD_false {l:Array Bool}{i:Nat}(h:l.getD i true=false):l[i]?=some false:=by
 rw[Array.getD_eq_getD_getElem?] at h
 cases hl:l[i]? with
 |none=>rw[hl] at h;cases h
 |some b=>rw[hl] at h;simp at h;rw[h]
theorem inB_of {B:List Nat}{r:Nat}(h:r∈B):inB B r=true:=by simp only[inB,List.any_eq_true];exact⟨r,h,by simp⟩
theorem done_step {ops:Array Oper}{Γ0:Ctx}{L:List Pl}(hpl:Plans P fr ops Γ0 L 0 L)(hah:aheadsB ops L 0 L=true){listed:Array Bool}{a:Act}{w:World}(hd:Done P fr Γ0 L listed a w)
  (hsz:L.length=ops.size){i:Nat}(hi:i∈Region.ready .any ops listed){K:Act→World→Prop}{Q:Exit→Act→World→Prop}
  (hk:∀a' w',Done P fr Γ0 L (listed.setIfInBounds i true) a' w'→K a' w'):wpOp P ops Q i K a w:=by
 obtain⟨hlt,hun,o,ho,hpre⟩:=ready_iff hi
 have hun':=getD_false hun
 have hnl:∀{j:Nat},listed[j]?=some true→j≠i:=by rintro j h rfl;rw[hun'] at h;cases h
 have hli:i<L.length:=by omega
 have hp:L[i]?=some L[i]:=List.getElem?_eq_getElem hli
 generalize L[i]=p at hp
 have hpi:=plans_ok hpl i p hp
 rw[Nat.zero_add] at hpi
 have hai:=aheads_ok hah i p hp
 rw[Nat.zero_add] at hai
 have hsub:∀j,j∈p.A→listed[j]?=some true:=by
  intro j hj
  unfold aheadB at hai
  rw[ho] at hai
  simp only[Bool.and_eq_true,List.all_eq_true,Bool.or_eq_true,List.any_eq_true] at hai
  have hdir:∀x,x∈(o.after.toList.filter (Region.binds .any)).map (·.on)→listed[x]?=some true:=by
   intro x hx
   obtain⟨e,he,rfl⟩:=List.mem_map.1 hx
   obtain⟨he1,he2⟩:=List.mem_filter.1 he
   exact getD_true (hpre e he1 he2)
  rcases hai.2 j hj with h1|⟨x,hx,h1⟩
  ·exact hdir j (inB_ok h1)
  ·cases hq:L[x]? with
   |none=>rw[hq] at h1;cases h1
   |some q=>rw[hq] at h1;exact hd.clo x q (hdir x hx) hq j (inB_ok h1)
 have hnA:∀{j:Nat}{q:Pl},listed[j]?=some true→L[j]?=some q→inB q.A i=false:=by
  intro j q hj hq
  cases hb:inB q.A i with
  |false=>rfl
  |true=>exact(hnl (hd.clo j q hj hq i (inB_ok hb)) rfl).elim
 have hbeq:∀{j k:Nat},j≠k→Nat.beq j k=false:=by
  intro j k hjk
  cases hb:Nat.beq j k with
  |false=>rfl
  |true=>exact(hjk (Nat.eq_of_beq_eq_true hb)).elim
 obtain⟨Γ,hst,h0,h1⟩:=hd.st
 have hle:E_le (mk p.E) Γ:=by
  intro u e hu
  rcases srcs_ok hpi.2 u e hu with⟨g1,g2⟩|⟨i',p',g1,g2,g3,g4⟩
  ·refine h0 u e g1 (fun j q hj hq=>?_)
   rcases free_ok g2 j q hq with g5|g5
   ·rw[Nat.zero_add,hbeq (hnl hj),hnA hj hq] at g5;cases g5
   ·exact g5
  ·refine h1 i' p' (hsub i' (inB_ok g1)) g2 u e g3 (fun j q hj hq hne hnot=>?_)
   rcases free_ok g4 j q hq with g5|g5
   ·rw[Nat.zero_add,hbeq (hnl hj),hnA hj hq,hbeq hne] at g5
    simp at g5
    exact(hnot (inB_ok g5)).elim
   ·exact g5
 refine hpi.1 Γ hle a w K Q hst (fun a' w' hs'=>hk a' w' ?_)
 have hset:∀j:Nat,(listed.setIfInBounds i true)[j]?=some true↔j=i∨listed[j]?=some true:=by
  intro j
  by_cases hj:j=i
  ·subst hj
   simp[Array.getElem?_setIfInBounds,(Array.getElem?_eq_some_iff.1 hun').1]
  ·simp[Array.getElem?_setIfInBounds,Ne.symm hj,hj]
 refine⟨?_,upd Γ p.δ,hs',?_,?_⟩
 ·intro j q hj hq x hx
  rw[hset]
  rcases(hset j).1 hj with rfl|hj
  ·rw[hp] at hq
   cases hq
   exact .inr (hsub x hx)
  ·exact .inr (hd.clo j q hj hq x hx)
 ·intro u e hu hall
  exact upd_stb (h0 u e hu (fun j q hj hq=>hall j q ((hset j).2 (.inr hj)) hq)) (hall i p ((hset i).2 (.inl rfl)) hp)
 ·intro j q hj hq u e hu hall
  rcases(hset j).1 hj with rfl|hj
  ·rw[hp] at hq
   cases hq
   exact upd_new hu
  ·refine upd_stb (h1 j q hj hq u e hu (fun j' q' hj' hq'=>hall j' q' ((hset j').2 (.inr hj')) hq')) (hall i p ((hset i).2 (.inl rfl)) hp (Ne.symm (hnl hj)) ?_)
   intro hm
   have:=hnA hj hq
   rw[inB_of hm] at this
   cases this
theorem all_listed {ops:Array Oper}{L:List Pl}(hah:aheadsB ops L 0 L=true)(hsz:L.length=ops.size){listed:Array Bool}(hls:listed.size=ops.size)(hr:Region.ready .any ops listed=[]) :
  ∀i:Nat,i<ops.size→listed[i]?=some true:=by
 intro i
 induction i using Nat.strongRecOn with
 |_ i ih=>
  intro hi
  have hg:listed[i]?=some listed[i]:=Array.getElem?_eq_getElem (by omega)
  cases hb:listed[i] with
  |true=>rw[hg,hb]
  |false=>
   exfalso
   have:i∈Region.ready .any ops listed:=by
    simp only[Region.ready,List.mem_filter,List.mem_range,Bool.and_eq_true,Bool.not_eq_true']
    refine⟨hi,?_,?_⟩
    ·rw[Array.getD_eq_getD_getElem?,hg,hb];rfl
    ·rw[Array.getElem?_eq_getElem hi]
     simp only[Option.map_some,Option.getD_some,Array.all_eq_true_iff_forall_mem,Bool.or_eq_true,Bool.not_eq_true']
     intro e he
     cases hbd:Region.binds .any e with
     |false=>exact .inl rfl
     |true=>
      right
      have hp:L[i]?=some L[i]:=List.getElem?_eq_getElem (by omega)
      have hai:=aheads_ok hah i _ hp
      rw[Nat.zero_add] at hai
      unfold aheadB at hai
      rw[Array.getElem?_eq_getElem hi] at hai
      simp only[Bool.and_eq_true,List.all_eq_true] at hai
      have hlt:=hai.1 e.on (List.mem_map.2 ⟨e,List.mem_filter.2 ⟨Array.mem_toList_iff.2 he,hbd⟩,rfl⟩)
      have hlt':e.on<i:=by simpa[Nat.blt_eq] using hlt
      have:=ih e.on hlt' (by omega)
      rw[Array.getD_eq_getD_getElem?,this];rfl
   rw[hr] at this
   simp at this
theorem any_walk {ops:Array Oper}{Γ0:Ctx}{L:List Pl}{E1:List (Nat×Ent)}{Q:Exit→Act→World→Prop}(hpl:Plans P fr ops Γ0 L 0 L)(hah:aheadsB ops L 0 L=true)(hsz:L.length=ops.size)(hend:SrcEs Γ0 L E1)
  (hk:∀a w,St P fr (mk E1) a w→Q .normal a w):∀(fuel:Nat) (listed:Array Bool),listed.size=ops.size→listed.toList.count false≤fuel→∀a w,Done P fr Γ0 L listed a w→wpAny P .any ops Q fuel listed a w:=by
 have hfin:∀(listed:Array Bool) a w,Done P fr Γ0 L listed a w→(∀i:Nat,i<ops.size→listed[i]?=some true)→Q .normal a w:=by
  intro listed a w hd hall
  obtain⟨Γ,hst,h0,h1⟩:=hd.st
  refine hk a w (hst.weaken ?_)
  intro u e hu
  rcases srcEs_ok hend u e hu with⟨g1,g2⟩|⟨i,p,g1,g2,g3⟩
  ·refine h0 u e g1 (fun j q _ hq=>?_)
   rcases free_ok g2 j q hq with g5|g5
   ·cases g5
   ·exact g5
  ·have hil:i<ops.size:=by rw[←hsz];exact(List.getElem?_eq_some_iff.1 g1).1
   refine h1 i p (hall i hil) g1 u e g2 (fun j q _ hq hne hnot=>?_)
   rcases free_ok g3 j q hq with g5|g5
   ·rw[Nat.zero_add] at g5
    simp only[Bool.or_eq_true] at g5
    rcases g5 with g5|g5
    ·exact(hne (Nat.eq_of_beq_eq_true g5)).elim
    ·exact(hnot (inB_ok g5)).elim
   ·exact g5
 intro fuel
 induction fuel with
 |zero=>
  intro listed hls hc a w hd
  have hall:∀i:Nat,i<ops.size→listed[i]?=some true:=by
   intro i hi
   have hg:listed[i]?=some listed[i]:=Array.getElem?_eq_getElem (by omega)
   cases hb:listed[i] with
   |true=>rw[hg,hb]
   |false=>
    have:false∈listed.toList:=by rw[←hb];simp
    have:=List.count_pos_iff.2 this
    omega
  refine⟨?_,hfin listed a w hd hall⟩
  cases hr:Region.ready .any ops listed with
  |nil=>rfl
  |cons i l=>
   obtain⟨h1,h2,_⟩:=ready_iff (ops:=ops) (listed:=listed) (i:=i) (by rw[hr];simp)
   have:=getD_false h2
   rw[hall i h1] at this
   cases this
 |succ fuel ih=>
  intro listed hls hc a w hd
  refine⟨fun hr=>hfin listed a w hd (all_listed hah hsz hls hr),fun i hi=>?_⟩
  refine done_step hpl hah hd hsz hi (fun a' w' hd'=>ih _ (by simpa using hls) ?_ a' w' hd')
  obtain⟨hlt,hun,_⟩:=ready_iff hi
  have hun':=getD_false hun
  obtain⟨hlt',hv⟩:=Array.getElem?_eq_some_iff.1 hun'
  have:(listed.setIfInBounds i true).toList=listed.toList.set i true:=by simp
  rw[this,List.count_set (by simpa using hlt')]
  have hpos:0<listed.toList.count false:=List.count_pos_iff.2 (by rw[←hv];simp)
  have hv':listed.toList[i]'(by simpa using hlt')=false:=by simpa using hv
  rw[hv']
  have e1:((false==false)=true)=True:=by simp
  have e2:((true==false)=true)=False:=by simp
  simp only[e1,e2,if_true,if_false]
  omega
theorem wp_any {id:Nat}{ops:Array Oper}{Γ0:Ctx}{Q:Exit→Act→World→Prop}(L:List Pl){E1:List (Nat×Ent)}(hm:P.follows .mixedOrders=true)(hpl:Plans P fr ops Γ0 L 0 L)(hah:aheadsB ops L 0 L=true)
  (hsz:Nat.beq L.length ops.size=true)(hend:SrcEs Γ0 L E1)(hk:∀a w,St P fr (mk E1) a w→Q .normal a w):∀a w,St P fr Γ0 a w→(Code.region id ops true).wp P Q a w:=by
 intro a w hst
 refine wp_region_any hm (any_walk hpl hah (Nat.eq_of_beq_eq_true hsz) hend hk _ _ (by simp) (by simp) _ _ ?_)
 obtain⟨Z,β,γ,h⟩:=hst
 have hnone:∀(j:Nat),(Array.replicate ops.size false)[j]?≠some true:=by
  intro j
  rw[Array.getElem?_replicate]
  split <;> simp
 refine⟨fun i p hi=>(hnone i hi).elim,Γ0,⟨Z,β,γ,?_⟩,fun u e hu _=>hu,fun i p hi=>(hnone i hi).elim⟩
 refine⟨h.gh,h.defers,h.size,⟨h.evo.os,h.evo.tape,h.evo.output,h.evo.size,h.evo.block,h.evo.drawn.trans (Dle.of (Nat.le_succ _))⟩,h.zlt,h.zin,h.znew,h.own,h.nodup,h.disj,h.gl.mono fun b hb=>⟨hb,rfl⟩,?_⟩
 intro t e he
 have:=h.ent t e he
 exact EntOk.mono (w':={w with drawn:=w.drawn+1}) this (fun _ h=>h) rfl rfl (fun _ _=>rfl) (fun _ _=>rfl) (fun _ _=>rfl)
theorem seq_cons {ops:Array Oper}{k:Nat}{rest:List Nat}{Γ:Ctx}{δ:List Up}{Q:Exit→Act→World→Prop}(h:LW P fr ops k Γ δ)
  (hr:∀a w,St P fr (upd Γ δ) a w→wpOps P ops Q rest a w):∀a w,St P fr Γ a w→wpOps P ops Q (k::rest) a w:=by
 intro a w hs
 rw[wpOps_cons]
 exact h Γ (fun _ _ he=>he) a w _ Q hs hr
end Go.Proofs.YtkbcahfajbdgnaaGreatDoorT
namespace Go.Proofs.YtkbcahfajbdgnaaGreatDoorT
open Go
variable {P:Program}{fr:Fr}
def W (P:Program) (fr:Fr) (Γ:Ctx) (c:Code) (Q:Exit→Act→World→Prop):Prop:=∀a w,St P fr Γ a w→c.wp P Q a w
variable {Γ Γ':Ctx}{Q:Exit→Act→World→Prop}
theorem w_skip (h:∀a w,St P fr Γ a w→Q .normal a w):W P fr Γ .skip Q:=fun a w hs=>wp_skip (h a w hs)
theorem w_ret (h:∀a w,St P fr Γ a w→Q .ret a w):W P fr Γ .ret Q:=fun a w hs=>wp_ret (h a w hs)
theorem w_exit {id:Nat}(h:∀a w,St P fr Γ a w→Q (.exit id) a w):W P fr Γ (.exit id) Q:=fun a w hs=>wp_exit (h a w hs)
theorem w_weak {c:Code}(h:W P fr Γ' c Q)(hl:E_le Γ' Γ):W P fr Γ c Q:=fun a w hs=>h a w (hs.weaken hl)
theorem w_seq' {x y:Code}(hx:W P fr Γ x (Exit.then (y.wp P Q) Q)):W P fr Γ (.seq x y) Q:=fun a w hs=>wp_seq (hx a w hs)
theorem w_block {id:Nat}{c:Code}(h:W P fr Γ c (Exit.inBlock id Q)):W P fr Γ (.block id c) Q:=fun a w hs=>wp_block (h a w hs)
theorem w_cond {c:Operand}{x y:Code}{b:Bool}(hc:vs fr.n Γ c=some (.bool b))(ht:b=true→W P fr Γ x Q)(hf:b=false→W P fr Γ y Q):W P fr Γ (.cond c x y) Q:=by
 intro a w hs
 have hs':=hs
 obtain⟨Z,β,γ,h⟩:=hs
 exact wp_cond_split (vs_ok h hc) (fun e=>ht e a w hs') (fun e=>hf e a w hs')
def rng:Nat→Nat→List Nat
 |_,0=>[]
 |k,n+1=>k::rng (k+1) n
theorem rng_eq:∀n k,rng k n=(List.range n).map (k+·)
 |0,_=>rfl
 |n+1,k=>by
  rw[rng,rng_eq n,List.range_succ_eq_map]
  simp only[List.map_cons,List.map_map,Nat.add_zero,List.cons.injEq,true_and]
  refine List.map_congr_left (fun x _=>?_)
  simp;omega
theorem w_reg {id:Nat}{ops:Array Oper}(h:∀a w,St P fr Γ a w→wpOps P ops Q (rng 0 ops.size) a w):W P fr Γ (.region id ops false) Q:=by
 intro a w hs
 refine wp_region ?_
 have:=h a w hs
 rw[rng_eq] at this
 simpa using this
theorem w_end {ops:Array Oper}(h:∀a w,St P fr Γ a w→Q .normal a w):∀a w,St P fr Γ a w→wpOps P ops Q [] a w:=fun a w hs=>by
 simpa[wpOps] using h a w hs
theorem w_loop {σ:Type}(Γs:σ→Ctx) (I:Nat→σ→Prop){c:Code}(k₀:Nat) (s₀:σ)(h₀:I k₀ s₀)
  (round:∀k s,I k s→W P fr (Γs s) c (Exit.then (fun a w=>∃k' s',k'<k∧I k' s'∧St P fr (Γs s') a w) Q)):W P fr (Γs s₀) (.loop c) Q:=by
 intro a w hs
 let J:Nat→Act→World→Prop:=fun k a w=>∃s,I k s∧St P fr (Γs s) a w
 let I':Act→World→Prop:=fun a w=>∃k,J k a w
 classical
 let μ:Act→World→Nat:=fun a w=>if h:∃k,J k a w then Classical.choose (p:=fun k=>J k a w∧∀j,J j a w→k≤j) (by
  obtain⟨k,hk⟩:=h
  induction k using Nat.strongRecOn with
  |_ k ih=>
   by_cases hm:∀j,J j a w→k≤j
   ·exact⟨k,hk,hm⟩
   ·obtain⟨j,hj⟩:=Classical.not_forall.1 hm
    have hj1:J j a w:=Classical.byContradiction fun hn=>hj (fun h=>(hn h).elim)
    have hj2:j<k:=Nat.lt_of_not_le fun hle=>hj (fun _=>hle)
    exact ih j hj2 hj1) else 0
 refine wp_loop I' μ ⟨k₀,s₀,h₀,hs⟩ ?_
 intro a w hI
 have hμ:J (μ a w) a w∧∀j,J j a w→μ a w≤j:=by
  show J (if h:_ then _ else _) a w∧_
  have hh:∃k,J k a w:=hI
  simp only[μ,dif_pos hh]
  exact Classical.choose_spec (p:=fun k=>J k a w∧∀j,J j a w→k≤j) _
 obtain⟨s,hIs,hst⟩:=hμ.1
 refine wp_mono (round (μ a w) s hIs a w hst) ?_
 intro e a' w' hq
 cases e with
 |normal=>
  obtain⟨k',s',hlt,hI',hst'⟩:=hq
  refine⟨⟨k',s',hI',hst'⟩,Nat.lt_of_le_of_lt ?_ hlt⟩
  have hh:∃k,J k a' w':=⟨k',s',hI',hst'⟩
  have hspec:=Classical.choose_spec (p:=fun k=>J k a' w'∧∀j,J j a' w'→k≤j)
  show(if h:_ then _ else _)≤k'
  rw[dif_pos hh]
  exact(hspec _).2 k' ⟨s',hI',hst'⟩
 |_=>exact hq
end Go.Proofs.YtkbcahfajbdgnaaGreatDoorT
namespace Go.Proofs.YtkbcahfajbdgnaaGreatDoorT
open Go
variable {P:Program}{fr:Fr}
theorem la_mvs {E:Ctx}{o:Oper}{x:Operand}{t:Nat}{v:Value}(ho:o.op=.move x∨o.op=.assign x)(hd:o.dst=some t)(ht:Nat.blt t fr.n=true)
  (hx:vs fr.n E x=some v):LA P fr E o [⟨t,true,some (.d (.one (.v v)))⟩]:=by
 refine LA.val hd ht fun Γ a w Z β γ hle h=>⟨a.eval x,run_mv ho w,fun β' ev' hb hb' hv hv'=>?_⟩
 unfold vs at hx
 split at hx
 ·rename_i r u hq
  simp at hx
  subst hx
  have:=vwr_ok h (vwr_le hle hq)
  simp only[RD,RC] at this
  simp only[EntOk,RD,RC]
  exact⟨hv.trans this.1,this.2.1,hb⟩
 ·cases hx
theorem la_mvr {E:Ctx}{o:Oper}{x:Operand}{t:Nat}{r:Option Nat}{X:Dt}(ho:o.op=.move x∨o.op=.assign x)(hd:o.dst=some t)(ht:Nat.blt t fr.n=true)
  (hx:vwr fr.n E x=some (r,X))(hr:r≠some t):LA P fr E o [⟨t,true,some (mkv r X)⟩]:=by
 refine LA.val hd ht fun Γ a w Z β γ hle h=>⟨a.eval x,run_mv ho w,fun β' ev' hb hb' hv hv'=>mkv_ok hb ?_⟩
 have:=vwr_ok h (vwr_le hle hx)
 rw[hv]
 refine RD.mono (fun b hb=>?_) (fun _ _=>rfl) this
 cases r with
 |none=>exact hb
 |some q=>
  simp only[zr] at hb ⊢
  rw[hb' q (by rintro rfl;exact hr rfl)]
  exact hb
theorem la_eq {E:Ctx}{o:Oper}{s t r:Nat}(ho:o.op=.move (.tmp s)∨o.op=.assign (.tmp s))(hd:o.dst=some t)(ht:Nat.blt t fr.n=true)(hs:Nat.blt s fr.n=true)
  (hx:s=r∨E s=some (.eq r))(hr:Nat.beq r t=false):LA P fr E o [⟨t,true,some (.eq r)⟩]:=by
 refine LA.val hd ht fun Γ a w Z β γ hle h=>⟨a.eval (.tmp s),run_mv ho w,fun β' ev' hb hb' hv hv'=>?_⟩
 have hrt:r≠t:=by rintro rfl;simp at hr
 simp only[EntOk]
 rw[hv,hv' r hrt,eval_ev (γ:=γ) hs]
 rcases hx with rfl|hx
 ·rfl
 ·exact h.ent s _ (hle s _ hx)
def ix {α:Type}(xs:List α) (i:Int):Option α:=bif decide (0≤i) then xs[i.toNat]? else none
theorem ix_ok {α:Type}{xs:List α}{i:Int}{z:α}(h:ix xs i=some z):0≤i∧xs[i.toNat]?=some z:=by
 unfold ix at h
 cases hb:decide (0≤i) with
 |true=>rw[hb] at h;exact⟨of_decide_eq_true hb,h⟩
 |false=>rw[hb] at h;cases h
theorem bnd {α β:Type}{o:Option α}{f:α→Option β}{r:β}(h:o.bind f=some r):∃x,o=some x∧f x=some r:=by
 cases o with
 |none=>cases h
 |some x=>exact⟨x,rfl,h⟩
inductive Ex (R S:Type) where
 |ret (r:R)
 |go (s:S)
abbrev iv (x:Int):Dt:=.one (.v (.int .i64 x))
abbrev bv (x:Bool):Dt:=.one (.v (.bool x))
abbrev sv (x:ByteArray):Dt:=.one (.v (.string x))
theorem la_ix {E:Ctx}{o:Oper}{t:Nat}{T Et:TypeId}{x y:Operand}{r:Option Nat}{b:Bool}{i:Int}{α:Type}{f:α→List C}{xs:List α}{z:α}
  (ho:o.op=.indexAddr T x y)(hd:o.dst=some t)(ht:Nat.blt t fr.n=true)(hT:elemT P T Et=true)
  (hx:vwr fr.n E x=some (r,.one (.sl b Et (xs.map f))))(hy:vs fr.n E y=some (.int .i64 i))(hz:ix xs i=some z)(hr:r≠some t) :
  LA P fr E o [⟨t,true,some (.sp r (f z))⟩]:=by
 obtain⟨inf,zz,hu,hi,_⟩:=elemT_ok hT
 exact la_idx ho hd ht hu hi hx hy (ix_ok hz).1 (ix_ok hz).2 hr
end Go.Proofs.YtkbcahfajbdgnaaGreatDoorT
namespace Go.Proofs.YtkbcahfajbdgnaaGreatDoorT
open Go
variable {P:Program}{fr:Fr}
def neR:Option Nat→Nat→Bool
 |none,_=>true
 |some q,t=>!(Nat.beq q t)
theorem neR_ok {r:Option Nat}{t:Nat}(h:neR r t=true):r≠some t:=by
 rintro rfl
 simp[neR] at h
def stx {α:Type}(xs:List α) (i:Int) (v:α):Option (List α):=bif decide (0≤i)&&decide (i<(xs.length:Int)) then some (xs.set i.toNat v) else none
theorem stx_ok {α:Type}{xs ys:List α}{i:Int}{v:α}(h:stx xs i v=some ys):0≤i∧i<(xs.length:Int)∧ys=xs.set i.toNat v∧∃z,xs[i.toNat]?=some z:=by
 unfold stx at h
 cases hb:decide (0≤i)&&decide (i<(xs.length:Int)) with
 |true=>
  rw[hb] at h
  simp only[Bool.and_eq_true,decide_eq_true_eq] at hb
  simp at h
  exact⟨hb.1,hb.2,h.symm,_,List.getElem?_eq_getElem (by omega)⟩
 |false=>rw[hb] at h;cases h
def mkx {α:Type}(i:Int) (z:α):Option (List α):=bif decide (0≤i)&&decide (i≤2147483648) then some (List.replicate i.toNat z) else none
theorem mkx_ok {α:Type}{i:Int}{z:α}{ys:List α}(h:mkx i z=some ys):0≤i∧i≤2147483648∧ys=List.replicate i.toNat z:=by
 unfold mkx at h
 cases hb:decide (0≤i)&&decide (i≤2147483648) with
 |true=>
  rw[hb] at h
  simp only[Bool.and_eq_true,decide_eq_true_eq] at hb
  simp at h
  exact⟨hb.1,hb.2,h.symm⟩
 |false=>rw[hb] at h;cases h
def apx {α:Type}(xs ys:List α):Option (List α):=bif Nat.ble (xs.length+ys.length) 2147483648 then some (xs++ys) else none
theorem apx_ok {α:Type}{xs ys zs:List α}(h:apx xs ys=some zs):xs.length+ys.length≤2147483648∧zs=xs++ys:=by
 unfold apx at h
 cases hb:Nat.ble (xs.length+ys.length) 2147483648 with
 |true=>rw[hb] at h;simp at h;exact⟨Nat.le_of_ble_eq_true hb,h.symm⟩
 |false=>rw[hb] at h;cases h
def slx {α:Type}(xs:List α) (i j:Int):Option (List α):=bif decide (0≤i)&&decide (i≤j)&&decide (j≤(xs.length:Int)) then some ((xs.drop i.toNat).take (j.toNat-i.toNat)) else none
theorem slx_ok {α:Type}{xs ys:List α}{i j:Int}(h:slx xs i j=some ys):0≤i∧i≤j∧j≤(xs.length:Int)∧ys=(xs.drop i.toNat).take (j.toNat-i.toNat):=by
 unfold slx at h
 cases hb:decide (0≤i)&&decide (i≤j)&&decide (j≤(xs.length:Int)) with
 |true=>
  rw[hb] at h
  simp only[Bool.and_eq_true,decide_eq_true_eq] at hb
  simp at h
  exact⟨hb.1.1,hb.1.2,hb.2,h.symm⟩
 |false=>rw[hb] at h;cases h
section
variable {E:Ctx}{o:Oper}{t:Nat}{T T' Et:TypeId}{x y:Operand}{α:Type}{f:α→List C}{xs ys:List α}{z:α}{i j:Int}{rr:Option Nat}{r k:Nat}{b:Bool}
theorem r_ix (ho:o.op=.indexAddr T x y)(hd:o.dst=some t)(ht:Nat.blt t fr.n=true)(hT:elemT P T Et=true)
  (hx:vwr fr.n E x=some (rr,.one (.sl b Et (xs.map f))))(hy:vs fr.n E y=some (.int .i64 i))(hz:ix xs i=some z)(hr:neR rr t=true):LA P fr E o [⟨t,true,some (.sp rr (f z))⟩]:=
 la_ix ho hd ht hT hx hy hz (neR_ok hr)
theorem r_ld {c:C}{cs:List C}(ho:o.op=.load T x)(hd:o.dst=some t)(ht:Nat.blt t fr.n=true)(hT:flatT P T=true)(hx:spOf fr.n E x=some (rr,c::cs))(hr:neR rr t=true) :
  LA P fr E o [⟨t,true,some (mkv rr (.one c))⟩]:=la_ld ho hd ht hT hx (neR_ok hr)
theorem r_lds {cs:List C}(ho:o.op=.load T x)(hd:o.dst=some t)(ht:Nat.blt t fr.n=true)(hT:rowT P T=true)(hx:spOf fr.n E x=some (rr,cs))(hn:cs.length=szOf P T)(hr:neR rr t=true) :
  LA P fr E o [⟨t,true,some (mkv rr (.agg cs))⟩]:=la_lds ho hd ht hT hx hn (neR_ok hr)
theorem r_fsp {f':Nat}{cs:List C}(ho:o.op=.fieldAddr T x f')(hd:o.dst=some t)(ht:Nat.blt t fr.n=true)(hT:fldAt P T f' k=true)(hx:spOf fr.n E x=some (rr,cs))(hr:neR rr t=true) :
  LA P fr E o [⟨t,true,some (.sp rr (cs.drop k))⟩]:=la_fsp ho hd ht hT hx (neR_ok hr)
theorem ix_lt (h:ix xs i=some z):0≤i∧i<(xs.length:Int):=by
 obtain⟨h0,h1⟩:=ix_ok h
 have:=(List.getElem?_eq_some_iff.1 h1).1
 exact⟨h0,by omega⟩
theorem r_eixg (ho:o.op=.indexAddr T x y)(hd:o.dst=some t)(ht:Nat.blt t fr.n=true)(hT:elemT P T Et=true)
  (hx:slOf fr.n E x=some (r,Et,xs.map f))(hy:vs fr.n E y=some (.int .i64 i))(hz:ix xs i=some z)(hr:Nat.beq r t=false):LA P fr E o [⟨t,true,some (.elt r Et i.toNat 0)⟩]:=
 la_eidx ho hd ht hT hx hy (ix_lt hz).1 (ix_lt hz).2 hr
theorem r_ste {c':C}{S:List Nat}{v:α}(ho:o.op=.store T x y)(hd:o.dst=none)(hT:szOf P T=1)(hi:(P.info? T).isSome=true)(hp:elOf fr.n E x=some (r,Et,i.toNat,0,xs.map f))
  (hz:stx xs i v=some ys)(hx:tk fr.n E y=some (.one c',S))(h1:∀z,(f z).length=1)(hf:f v=[c'])(hS:S.contains r=false)(hSn:nodupB S=true) :
  LA P fr E o (⟨r,false,some (.d (.one (.sl true Et (ys.map f))))⟩::S.map rmv):=by
 obtain⟨_,_,rfl,z,hz'⟩:=stx_ok hz
 refine la_ste ho hd hT hi hp hz' (by rw[h1];rfl) hx ?_ hS (nodupB_ok hSn)
 have:=h1 z
 rw[hf]
 match hfz:f z,this with
 |[c],_=>rfl
theorem r_mk {cs:List C}(ho:o.op=.makeSlice T x y)(hd:o.dst=some t)(ht:Nat.blt t fr.n=true)(hT:elemT P T Et=true)(hz:zeroOk P Et cs)(hf:cs=f z)(hx:vs fr.n E x=some (.int .i64 i))(hy:vs fr.n E y=some (.int .i64 i))
  (hm:mkx i z=some ys):LA P fr E o [⟨t,true,some (.d (.one (.sl true Et (ys.map f))))⟩]:=by
 obtain⟨h0,h1,rfl⟩:=mkx_ok hm
 exact la_mk ho hd ht hT hz hf hx hy h0 h1
theorem r_slc {lo hi:Option Operand}(ho:o.op=.slice T x lo hi none)(hd:o.dst=some t)(ht:Nat.blt t fr.n=true)(hT:elemT P T Et=true)(hx:vwr fr.n E x=some (rr,.one (.sl b Et (xs.map f))))(hlo:sbnd fr.n E lo 0 i)
  (hhi:sbnd fr.n E hi xs.length j)(hs:slx xs i j=some ys)(hr:neR rr t=true):LA P fr E o [⟨t,true,some (mkv rr (.one (.sl false Et (ys.map f))))⟩]:=by
 obtain⟨h0,h1,h2,rfl⟩:=slx_ok hs
 exact la_slc ho hd ht hT hx hlo hhi h0 h1 h2 (neR_ok hr)
theorem r_app {s:Operand}{Ss Sx:List Nat}{o2:Bool}{zs:List α}(ho:o.op=.call {callee:=.builtin .append,args:=#[s,x],argTypes:=#[T,T]})(hd:o.dst=some t)(ht:Nat.blt t fr.n=true)(hT:elemT P T Et=true)
  (hs:tk fr.n E s=some (.one (.sl true Et (xs.map f)),Ss))(hx:tk fr.n E x=some (.one (.sl o2 Et (ys.map f)),Sx))(hz:apx xs ys=some zs)(hS:nodupB (Ss++Sx)=true) :
  LA P fr E o (⟨t,true,some (.d (.one (.sl true Et (zs.map f))))⟩::(Ss++Sx).map rmv):=by
 obtain⟨h1,rfl⟩:=apx_ok hz
 exact la_app ho hd ht hT hs hx rfl h1 (nodupB_ok hS)
theorem r_leno (ho:o.op=.call {callee:=.builtin .len,args:=#[x],argTypes:=#[T]})(hd:o.dst=some t)(ht:Nat.blt t fr.n=true)(hT:P.underlying T=some (.slice T'))(hx:slOf fr.n E x=some (r,Et,xs.map f)) :
  LA P fr E o [⟨t,true,some (.d (.one (.v (.int .i64 (xs.length:Int)))))⟩]:=
 LA.scal hd ht rfl fun Γ a w Z β γ hle h=>by
  obtain⟨_,hev,hv⟩:=slOf_ok h (slOf_le hle hx)
  rw[←hev] at hv
  have hq:∃ad cap,a.eval x=.slice ad xs.length cap:=by
   simp only[RC] at hv
   rcases hv with⟨h1,h2,_⟩|⟨ad,cap,vs,_,_,hy,_⟩|⟨g,cap,cur,bs,_,_,hy,_⟩
   ·have:xs=[]:=by simpa using h2
    subst this
    exact⟨none,0,h1⟩
   ·exact⟨_,cap,by simpa using hy⟩
   ·exact⟨_,cap,by simpa using hy⟩
  obtain⟨ad,cap,hq⟩:=hq
  unfold execOp
  rw[ho]
  simp[resolve,invoke,builtin,Builtin.len_,run_underlying hT,hq,goInt]
end
theorem r_nil {E:Ctx}{o:Oper}{t:Nat}(b:Bool) (Et:TypeId){α:Type}(f:α→List C)(ho:o.op=.move (.const (.slice none 0 0))∨o.op=.assign (.const (.slice none 0 0)))(hd:o.dst=some t)(ht:Nat.blt t fr.n=true) :
  LA P fr E o [⟨t,true,some (.d (.one (.sl b Et (([]:List α).map f))))⟩]:=by
 refine LA.val hd ht fun Γ a w Z β γ hle h=>⟨_,run_mv ho w,fun β' ev' hb hb' hv hv'=>?_⟩
 simp only[EntOk,RD,RC]
 exact .inl ⟨hv,rfl,hb⟩
section
variable {Γ:Ctx}{Q:Exit→Act→World→Prop}{i j:Nat}{K:Act→World→Prop}
theorem q_in (h:∀a w,St P fr Γ a w→Q .normal a w):∀a w,St P fr Γ a w→Exit.inBlock i Q (.exit i) a w:=fun a w hs=>by
 simp only[Exit.inBlock,if_true];exact h a w hs
theorem q_out (hn:Nat.beq i j=false)(h:∀a w,St P fr Γ a w→Q (.exit i) a w):∀a w,St P fr Γ a w→Exit.inBlock j Q (.exit i) a w:=fun a w hs=>by
 have:¬i=j:=by rintro rfl;simp at hn
 simp only[Exit.inBlock,if_neg this];exact h a w hs
theorem q_nb (h:∀a w,St P fr Γ a w→Q .normal a w):∀a w,St P fr Γ a w→Exit.inBlock i Q .normal a w:=h
end
def LWs (P:Program) (fr:Fr) (ops:Array Oper):Nat→List Pl→Prop
 |_,[]=>True
 |k,p::ps=>LW P fr ops k (mk p.E) p.δ∧LWs P fr ops (k+1) ps
def Sss (Γ0:Ctx) (L:List Pl):Nat→List Pl→Prop
 |_,[]=>True
 |k,p::ps=>Srcs Γ0 L k p.A p.E∧Sss Γ0 L (k+1) ps
theorem plans_of {ops:Array Oper}{Γ0:Ctx}{L:List Pl}:∀{k:Nat}{ps:List Pl},LWs P fr ops k ps→Sss Γ0 L k ps→Plans P fr ops Γ0 L k ps
 |_,[],_,_=>trivial
 |_,_::_,h,h'=>⟨⟨h.1,h'.1⟩,plans_of h.2 h'.2⟩
theorem rl_n {w:World}{Z:Nat→Prop}:RL P w Z [] [] []:=by simp[RL]
theorem rl_c {w:World}{Z:Nat→Prop}{c:C}{y:Value}{cs:List C}{vs:List Value}(h:RC P w Z c y [])(hs:RL P w Z cs vs []):RL P w Z (c::cs) (y::vs) []:=by
 simp only[RL];exact⟨y,vs,[],[],rfl,rfl,h,hs⟩
theorem rc_v {w:World}{Z:Nat→Prop}{x:Value}(h:x.oneCell'=true):RC P w Z (.v x) x []:=by simp only[RC];exact⟨trivial,h,trivial⟩
theorem rc_n {w:World}{Z:Nat→Prop}{o:Bool}{E:TypeId}:RC P w Z (.sl o E []) (.slice none 0 0) []:=by simp only[RC];exact .inl ⟨trivial,trivial,trivial⟩
end Go.Proofs.YtkbcahfajbdgnaaGreatDoorT
namespace Go.Proofs.YtkbcahfajbdgnaaGreatDoorT
open Go
variable {P:Program}
def Rds (P:Program) (t:TypeId){α:Type}(f:α→List C) (wf:α→Prop):Prop:=
 ∀{H:Type}(enc:TypeId×Value→H) (w:World) (base:Nat) (spare:Nat→Bool)(held:Bool) (fuel:Nat) (cs:List Value) (d:DataW H×List MemPlace),DataW.trod enc P w base spare held fuel t cs=some d→
  ∃x,wf x∧RL P w (fun b=>b<w.heap.size) (f x) cs []
theorem rds_int {t:TypeId}{k:IntKind}(ht:P.underlying t=some (.int k)):Rds P t (fun x=>[.v (.int k x)]) (fun x=>(Lit.int k x).wf=true):=by
 intro H enc w base spare held fuel cs d h
 obtain⟨n,rfl,_,hw⟩:=DataW.trod_int ht h
 exact⟨n,hw,rl_c (rc_v rfl) rl_n⟩
theorem rds_bool {t:TypeId}(ht:P.underlying t=some .bool):Rds P t (fun x=>[.v (.bool x)]) (fun _=>True):=by
 intro H enc w base spare held fuel cs d h
 obtain⟨b,rfl,_⟩:=DataW.trod_bool ht h
 exact⟨b,trivial,rl_c (rc_v rfl) rl_n⟩
theorem rds_string {t:TypeId}(ht:P.underlying t=some .string):Rds P t (fun x=>[.v (.string x)]) (fun s=>s.size≤maxLen):=by
 intro H enc w base spare held fuel cs d h
 obtain⟨s,rfl,_,hl⟩:=DataW.trod_string ht h
 exact⟨s,hl,rl_c (rc_v rfl) rl_n⟩
theorem cells_get {w:World}{base:Nat}{a:Addr}{n:Nat}{cs:List Value}(h:w.cells? base a n=some cs):cs.length=n∧∀(i:Nat) (x:Value),cs[i]?=some x→w.cell? (a.add i)=some x:=by
 unfold World.cells? at h
 split at h
 ·have hl:=mapM_some_length h
  simp at hl
  refine⟨hl,fun i x hx=>?_⟩
  have hi:i<cs.length:=(List.getElem?_eq_some_iff.1 hx).1
  have:=mapM_some_get h i i (List.getElem?_range (by omega))
  rw[←hx]
  exact this
 ·cases h
theorem cell_lt {w:World}{a:Addr}{x:Value}(h:w.cell? a=some x):a.block<w.heap.size:=by
 rcases Nat.lt_or_ge a.block w.heap.size with hl|hl
 ·exact hl
 ·simp[World.cell?,Array.getElem?_eq_none hl] at h
theorem rds_slice {t E:TypeId}{α:Type}{f:α→List C}{wf:α→Prop}(ht:P.underlying t=some (.slice E))(hc:P.cellsOf E=szOf P E)(hp0:Nat.blt 0 (szOf P E)=true)(h:Rds P E f wf) :
  Rds P t (fun xs:List α=>[.sl false E (xs.map f)]) (fun xs=>xs.length≤maxLen∧∀x,x∈xs→wf x):=by
 have hp:0<szOf P E:=by rw[←Nat.blt_eq];exact hp0
 intro H enc w base spare held fuel cs d hd
 rcases DataW.trod_slice ht hd with⟨rfl,_⟩|⟨a,len,cap,elems,rest,n,_,rfl,_,_,hl,hm,hel,hi,_⟩
 ·exact⟨[],⟨Nat.zero_le _,fun x hx=>by simp at hx⟩,rl_c rc_n rl_n⟩
 ·rw[hc] at hi
  have key:∀m,m≤len→∃(xs:List α) (vs:List Value),xs.length=m∧(∀x,x∈xs→wf x)∧vs.length=m*szOf P E∧(∀(k:Nat) (x:Value),vs[k]?=some x→w.cell? (a.add k)=some x)∧(∀e∈xs.map f,e.length=szOf P E)∧
    RLL P w (fun b=>b<w.heap.size) (xs.map f) vs []:=by
   intro m
   induction m with
   |zero=>intro _;exact⟨[],[],rfl,by simp,by simp,by simp,by simp,by simp[RLL]⟩
   |succ m ih=>
    intro hle
    obtain⟨xs,vs,h1,h2,h3,h4,h5,h6⟩:=ih (by omega)
    have hm':=hi m (by omega)
    have hlt:m<elems.length:=by omega
    rw[List.getElem?_eq_getElem hlt] at hm'
    obtain⟨cs',hc1,hc2⟩:=Option.bind_eq_some_iff.1 hm'
    obtain⟨x,hw,hr⟩:=h enc w base spare held n cs' _ hc2
    obtain⟨hl',hg⟩:=cells_get hc1
    have hfl:=RL.length _ hr
    refine⟨xs++[x],vs++cs',by simp[h1],?_,?_,?_,?_,?_⟩
    ·intro y hy
     rcases List.mem_append.1 hy with hy|hy
     ·exact h2 y hy
     ·simp at hy;subst hy;exact hw
    ·simp[h3,hl',Nat.add_mul]
    ·intro k y hk
     by_cases hk':k<vs.length
     ·rw[List.getElem?_append_left hk'] at hk;exact h4 k y hk
     ·rw[List.getElem?_append_right (by omega)] at hk
      have:=hg _ y hk
      rw[add_add] at this
      rwa [show m*szOf P E+(k-vs.length)=k by omega] at this
    ·intro e he
     simp only[List.map_append,List.mem_append,List.map_cons,List.map_nil,List.mem_singleton] at he
     rcases he with he|rfl
     ·exact h5 e he
     ·omega
    ·rw[List.map_append]
     exact(RLL.app _ _ _ _).2 ⟨vs,cs',[],[],rfl,rfl,h6,by simp only[List.map_cons,List.map_nil,RLL];exact⟨cs',[],[],[],by simp,rfl,hr,rfl,rfl⟩⟩
  obtain⟨xs,vs,h1,h2,h3,h4,h5,h6⟩:=key len (Nat.le_refl _)
  refine⟨xs,⟨by omega,h2⟩,rl_c ?_ rl_n⟩
  simp only[RC]
  refine .inr (.inl ⟨a,cap,vs,trivial,trivial,by simp[h1],by simp[h1];omega,hm,?_,h4,h5,h6⟩)
  by_cases hx:xs=[]
  ·left;simp[hx]
  ·right
   have hvs:0<vs.length:=by
    rw[h3,←h1]
    exact Nat.mul_pos (List.length_pos_iff.2 hx) hp
   have:=h4 0 vs[0] (by simp)
   have hb:=cell_lt this
   rwa [add_block] at hb
inductive Parts (P:Program):List Field→Nat→Nat→(α:Type)→(α→List C)→(α→Prop)→Prop
 |one {f:Field}{α:Type}{g:α→List C}{wf:α→Prop}(h:Rds P f.type g wf){total:Nat}(ht:f.offset+szOf P f.type=total):Parts P [f] f.offset total α g wf
 |cons {f:Field}{fs:List Field}{α β:Type}{g:α→List C}{k:β→List C}{wf:α→Prop}{wk:β→Prop}(h:Rds P f.type g wf){total off:Nat}(ho:f.offset+szOf P f.type=off)(hs:Parts P fs off total β k wk) :
   Parts P (f::fs) f.offset total (α×β) (fun x=>g x.1++k x.2) (fun x=>wf x.1∧wk x.2)
end Go.Proofs.YtkbcahfajbdgnaaGreatDoorT
namespace Go.Proofs.YtkbcahfajbdgnaaGreatDoorT
open Go Go.RowKit
variable {P:Program}
theorem gl_mk {W:World}(h:∀q∈glSpec,P.globalNamed q.1=none∨∃cs,W.var? P q.1=some cs∧q.2 cs):Gl P W (fun b=>b<W.heap.size):=by
 intro q hq g hg
 rcases h q hq with h|⟨cs,hv,hQ⟩
 ·rw[h] at hg;cases hg
 ·unfold World.var? at hv
  rw[hg,Option.bind_some] at hv
  split at hv
  ·rename_i cs' b1 b2 hc
   cases hv
   exact⟨(Array.getElem?_eq_some_iff.1 hc).1,_,b1,b2,hc,hQ⟩
  ·cases hv
theorem none_of {nm:String}(h:(P.globalNamed nm).isNone=true):P.globalNamed nm=none:=Option.isNone_iff_eq_none.1 h
theorem gl_tab {W:World}(h:Lib.TabIs P W "internal/strconv.uint64pow10" .u64 Lib.pow10Tab)(h2:(P.globalNamed "strconv.ErrSyntax").isNone=true)(h3:(P.globalNamed "strconv.ErrRange").isNone=true):Gl P W (fun b=>b<W.heap.size):=by
 refine gl_mk fun q hq=>?_
 simp only[glSpec,List.mem_cons,List.not_mem_nil,or_false] at hq
 rcases hq with rfl|rfl|rfl
 ·exact .inr ⟨_,h,rfl⟩
 ·exact .inl (none_of h2)
 ·exact .inl (none_of h3)
theorem law_calls {f:FuncId}{n:Nat}{Xs:List Dt}{vals:List Value}{W:World}(hgl:Gl P W (fun b=>b<W.heap.size))(h:Ret P f n (Xs.map .d) [] (.d (bv true)) [])(hl:vals.length=Xs.length)
  (hX:∀(i:Nat) X,Xs[i]?=some X→∀v,vals[i]?=some v→RD P W (fun b=>b<W.heap.size) X v []):Calls P f vals.toArray W fun e w'=>e=.returned (.bool true)∧Below W.heap.size W w':=by
 have hc:=h.2 W (fun b=>b<W.heap.size) vals (fun _=>undef) (fun _=>[]) [] ⟨by simpa using hl,fun b hb=>hb,fun t b hb=>by simp at hb,fun t=>by simp,fun t u b _ hb=>by simp at hb,hgl,?_⟩
 ·refine Calls.mono hc ?_
  rintro e w' ⟨v,rfl,Z',β',hp⟩
  have hr:=hp.res
  simp only[OwnOk,EntOk,RD,RC] at hr
  refine⟨by rw[hr.1],hp.evo.os,hp.evo.tape,hp.evo.output,hp.evo.size,fun k hk=>hp.evo.block k hk (by simp)⟩
 ·intro t e he
  unfold Γin at he
  cases ht:Nat.blt t n with
  |false=>rw[ht] at he;simp at he
  |true=>
   rw[ht] at he
   simp only[cond_true,List.getElem?_map] at he
   cases hx:Xs[t]? with
   |none=>rw[hx] at he;cases he
   |some X=>
    rw[hx] at he
    simp at he
    subst he
    have hlt:t<vals.length:=by rw[hl];exact(List.getElem?_eq_some_iff.1 hx).1
    have ht':t<n:=by simpa[Nat.blt_eq] using ht
    have hv:vals[t]?=some vals[t]:=List.getElem?_eq_getElem hlt
    have:=hX t X hx _ hv
    simp only[EntOk,evi,ht',if_true]
    rw[List.getD_eq_getElem?_getD,hv]
    exact this
theorem rl_one {w:World}{Z:Nat→Prop}{c:C}{v:Value}(h:RL P w Z [c] [v] []):RC P w Z c v []:=by
 simp only[RL] at h
 obtain⟨y,vs',b1,b2,h1,h2,h3,h4,_⟩:=h
 simp at h1
 obtain⟨rfl,_⟩:=h1
 have:=(List.append_eq_nil_iff.1 h2.symm).1
 rw[this] at h3
 exact h3
end Go.Proofs.YtkbcahfajbdgnaaGreatDoorT
