/- Rules over any program: data as trees of cells, an evaluator that is checked once, and plain words. -/
import Derived.Test.YtkbcahfajbdgnaaGreatDoorTrtrC
set_option linter.all false
namespace Go.Proofs.YtkbcahfajbdgnaaGreatDoorT
open Go
def EvO {A:Type}(f:Nat→Option A) (o:Option A):Prop:=∀r,o=some r→∃k,∀n,k≤n→f n=some r
section
variable {A B S:Type}
theorem EvO.const (x:Option A):EvO (fun _=>x) x:=fun r h=>⟨0,fun _ _=>h⟩
theorem EvO.none {f:Nat→Option A}:EvO f none:=fun r h=>by cases h
theorem EvO.bind {m:Nat→Option B}{o:Option B}{g:Nat→B→Option A}{h:B→Option A}(hm:EvO m o)(hg:∀x,EvO (fun n=>g n x) (h x)):EvO (fun n=>(m n).bind (g n)) (o.bind h):=by
 intro r hr
 cases o with
 |none=>cases hr
 |some x=>
  obtain⟨k1,h1⟩:=hm x rfl
  obtain⟨k2,h2⟩:=hg x r hr
  exact⟨max k1 k2,fun n hn=>by simp only[h1 n (show k1≤n by omega)];exact h2 n (by omega)⟩
theorem EvO.bif {c:Bool}{f g:Nat→Option A}{x y:Option A}(h1:EvO f x)(h2:EvO g y):EvO (fun n=>bif c then f n else g n) (bif c then x else y):=by
 cases c
 ·exact h2
 ·exact h1
theorem EvO.nilx {c:Bool}{f g:Nat→Option A}{x y:Option A}(h1:EvO f x)(h2:EvO g y):EvO (fun n=>nilx c (f n) (g n)) (nilx c x y):=by
 intro r hr
 obtain⟨hy,hx⟩:=nilx_some hr
 obtain⟨k2,e2⟩:=h2 r hy
 cases c with
 |false=>exact⟨k2,fun n hn=>e2 n hn⟩
 |true=>
  obtain⟨k1,e1⟩:=h1 r (hx rfl)
  refine⟨max k1 k2,fun n hn=>?_⟩
  simp[YtkbcahfajbdgnaaGreatDoorT.nilx,bothEq,e1 n (by omega),e2 n (by omega)]
theorem EvO.eqf {f g:Nat→Option A}{o:Option A}(h:EvO f o) (e:∀n,f n=g n):EvO g o:=by
 have:f=g:=funext e
 rw[←this];exact h
theorem loop_ev {f:Nat→(S→Option A)→S→Option A}{f':(S→Option A)→S→Option A}(hf:∀(g:Nat→S→Option A) (g':S→Option A),(∀s,EvO (fun n=>g n s) (g' s))→∀s,EvO (fun n=>f n (g n) s) (f' g' s)) :
  ∀(k:Nat) (N:Nat→Nat) (_:∀c,∃m,∀n,m≤n→c≤N n) (s:S),EvO (fun n=>loopK (f n) (N n) s) (loopK f' k s)
 |0,N,_,s=>EvO.none
 |k+1,N,hN,s=>by
  intro r hr
  simp only[loopK] at hr
  obtain⟨k1,h1⟩:=hf (fun n=>loopK (f n) (N n-1)) (loopK f' k) (loop_ev hf k (fun n=>N n-1) (fun c=>by obtain⟨m,hm⟩:=hN (c+1);exact⟨m,fun n hn=>by have:=hm n hn;omega⟩)) s r hr
  obtain⟨k2,h2⟩:=hN 1
  refine⟨max k1 k2,fun n hn=>?_⟩
  have h3:=h1 n (by omega)
  have h4:=h2 n (by omega)
  obtain⟨m,hm⟩:∃m,N n=m+1:=⟨N n-1,by omega⟩
  simp only[hm] at h3 ⊢
  exact h3
open Classical in
noncomputable def loopF (f:(S→Option A)→S→Option A) (s:S):Option A:=
 if h:∃r k,∀n,k≤n→loopK f n s=some r then some h.choose else none
theorem loopF_some {f:(S→Option A)→S→Option A}{s:S}{r:A}(h:loopF f s=some r):∃k,∀n,k≤n→loopK f n s=some r:=by
 unfold loopF at h
 split at h
 ·rename_i h'
  cases h
  exact h'.choose_spec
 ·cases h
theorem loopF_of {f:(S→Option A)→S→Option A}{s:S}{r:A}(k:Nat)(h:∀n,k≤n→loopK f n s=some r):loopF f s=some r:=by
 have h':∃r k,∀n,k≤n→loopK f n s=some r:=⟨r,k,h⟩
 unfold loopF
 rw[dif_pos h']
 obtain⟨k',hk'⟩:=h'.choose_spec
 have:=hk' (max k k') (by omega)
 rw[h (max k k') (by omega)] at this
 rw[Option.some.inj this]
end
noncomputable def lpF:Lp:=fun f s=>loopF f s
section
variable {A:Type}
def tstW (n:Nat) (Γ G:SCtx) (c:Operand):Option (Bool×SCtx):=tst n Γ G c fun b Γ'=>some (b,Γ')
theorem tst_nat {n:Nat}{Γ G:SCtx}{c:Operand}{k:Bool→SCtx→Option A}:tst n Γ G c k=(tstW n Γ G c).bind fun p=>k p.1 p.2:=by
 unfold tstW tst
 cases c with
 |tmp t=>
  simp only
  cases Nat.blt t n with
  |false=>rfl
  |true=>
   simp only[cond_true]
   cases lk Γ t with
   |some e=>
    simp only
    cases e.sc with
    |none=>rfl
    |some s=>cases s with
     |bool b=>cases b <;> rfl
     |_=>rfl
   |none=>
    simp only
    cases lk G t with
    |none=>rfl
    |some e=>
     simp only
     cases e.sc with
     |none=>rfl
     |some s=>cases s with
      |bool b=>cases b <;> rfl
      |_=>rfl
 |const l=>cases l with
  |bool b=>cases b <;> rfl
  |_=>rfl
 |_=>rfl
theorem tst_ev {n:Nat}{Γ G:SCtx}{c:Operand}{k:Nat→Bool→SCtx→Option A}{k':Bool→SCtx→Option A}(h:∀b Γ',EvO (fun m=>k m b Γ') (k' b Γ')):EvO (fun m=>tst n Γ G c (k m)) (tst n Γ G c k'):=by
 simp only[tst_nat]
 exact EvO.bind (EvO.const _) (fun p=>h p.1 p.2)
def Dy.run (d:Option Dy) (k:List SUp→Option A):Option A:=match d with
 |some d=>d.m.bind fun z=>k (d.δ z)
 |none=>none
theorem run_same {d:Option Dy}{k:Nat→List SUp→Option A}{k':List SUp→Option A}(hk:∀δ,EvO (fun n=>k n δ) (k' δ)):EvO (fun n=>Dy.run d (k n)) (Dy.run d k'):=by
 cases d with
 |none=>exact EvO.none
 |some d=>exact EvO.bind (EvO.const _) (fun z=>hk _)
theorem frz_run {s:Nat}{S:List Nat}{Γ:SCtx}{q:SCtx→Option Dy}{d:SD}(h:lk Γ s=some (.v d)) (k:List SUp→Option A) :
  Dy.run (frz Γ (s::S) q) k=Dy.run (frz (supd Γ [⟨s,false,some (.v (frzO d))⟩]) S q) (fun δ=>k (δ++[⟨s,false,some (.v (frzO d))⟩])):=by
 simp only[frz,h]
 cases frz (supd Γ [⟨s,false,some (.v (frzO d))⟩]) S q <;> rfl
theorem frz_run0 {s:Nat}{S:List Nat}{Γ:SCtx}{q:SCtx→Option Dy}(h:∀d,lk Γ s≠some (.v d)) (k:List SUp→Option A):Dy.run (frz Γ (s::S) q) k=none:=by
 unfold frz
 split
 ·rename_i d hd;exact absurd hd (h d)
 ·rfl
theorem frz_ev:∀{S:List Nat}{Γ:SCtx}{q:Nat→SCtx→Option Dy}{q':SCtx→Option Dy}(_:∀Γ' (k:Nat→List SUp→Option A) (k':List SUp→Option A),(∀δ,EvO (fun n=>k n δ) (k' δ))→EvO (fun n=>Dy.run (q n Γ') (k n)) (Dy.run (q' Γ') k'))
  {k:Nat→List SUp→Option A}{k':List SUp→Option A}(_:∀δ,EvO (fun n=>k n δ) (k' δ)),EvO (fun n=>Dy.run (frz Γ S (q n)) (k n)) (Dy.run (frz Γ S q') k')
 |[],Γ,q,q',hq,k,k',hk=>hq Γ k k' hk
 |s::S,Γ,q,q',hq,k,k',hk=>by
  by_cases h:∃d,lk Γ s=some (.v d)
  ·obtain⟨d,h⟩:=h
   rw[frz_run h]
   refine EvO.eqf ?_ (fun n=>(frz_run h (k n)).symm)
   exact frz_ev hq (k:=fun n δ=>k n (δ++[⟨s,false,some (.v (frzO d))⟩])) (fun δ=>hk _)
  ·rw[frz_run0 (fun d hd=>h ⟨d,hd⟩)]
   exact EvO.none
def callS (n:Nat) (I:Inst) (xs:List Operand) (caps:List Nat) (t:Nat) (Γ:SCtx):Option (InVals I×(Tup (outTys I)→List SUp)):=
 let R:=colR n Γ I.pds xs++caps
 let B:=colB n Γ I.pds xs
 match handP n Γ R B I.n I.pds I.n xs with
 |some (v,ows,rs)=>match capsAt Γ R I.n I.caps (I.n+rs.length) caps with
  |some cv=>bif eqL (rs++caps) R&&nodupB (ows.filterMap id++R++B)&&!(inB (R++B) t)&&Nat.ble (xs.length+caps.length) I.n&&(B.isEmpty||cleanI I&&I.rb.isNone) then
    some ((v,cv),fun r=>⟨t,true,some (resX I.rb (resOf I r))⟩::(spokes R (postsE I (v,cv) r)++(ows.filterMap id).map srm))
   else none
  |none=>none
 |none=>none
theorem callI_eq {n:Nat}{I:Inst}{Φ:InVals I→Option (Tup (outTys I))}{xs:List Operand}{caps:List Nat}{t:Nat}{Γ:SCtx}:
  callI n I Φ xs caps t Γ=match callS n I xs caps t Γ with
   |some p=>some ⟨Tup (outTys I),Φ p.1,p.2⟩
   |none=>none:=by
 unfold callI callS
 simp only
 cases handP n Γ (colR n Γ I.pds xs++caps) (colB n Γ I.pds xs) I.n I.pds I.n xs with
 |none=>rfl
 |some p=>
  obtain⟨v,ows,rs⟩:=p
  simp only
  cases capsAt Γ (colR n Γ I.pds xs++caps) I.n I.caps (I.n+rs.length) caps with
  |none=>rfl
  |some cv=>
   simp only
   generalize (eqL (rs++caps) (colR n Γ I.pds xs++caps)&&nodupB (ows.filterMap id++(colR n Γ I.pds xs++caps)++colB n Γ I.pds xs)&&!(inB (colR n Γ I.pds xs++caps++colB n Γ I.pds xs) t)&&Nat.ble (xs.length+caps.length) I.n&&((colB n Γ I.pds xs).isEmpty||cleanI I&&I.rb.isNone))=b
   cases b <;> rfl
structure InnS (I:Inst) where
 u:Ty
 zs:List (El u)
 i:Int
 put:El u→InVals I
 δ:El u×Tup (outTys I)→List SUp
def callInnS (n:Nat) (I:Inst) (xs:List Operand) (t:Nat) (Γ:SCtx):Option (InnS I):=match innP n Γ t I.pds xs,capN I.caps with
 |some q,some cv=>bif Nat.beq I.res.length 1&&I.caps.isEmpty&&I.rb.isNone&&Nat.ble xs.length I.n then
   some ⟨q.u,q.zs,q.i,fun z=>(q.put z,cv),fun p=>[⟨q.r,false,some (.v ⟨true,true,.sl q.E q.u,q.zs.set q.i.toNat (q.back p.1 (tfst (tsnd (as1:=outL I.res) p.2)))⟩)⟩,srm q.s,⟨t,true,some (resX I.rb (resOf I p.2))⟩]⟩
  else none
 |_,_=>none
theorem inn_eq {n:Nat}{I:Inst}{Φ:InVals I→Option (Tup (outTys I))}{xs:List Operand}{t:Nat}{Γ:SCtx}{b:Bool}:
  (bif b then callInn n I Φ xs t Γ else none)=match (bif b then callInnS n I xs t Γ else none) with
   |some p=>some ⟨El p.u×Tup (outTys I),bind2 (ix p.zs p.i) (fun z=>Φ (p.put z)),p.δ⟩
   |none=>none:=by
 cases b with
 |false=>rfl
 |true=>
  simp only[cond_true]
  unfold callInn callInnS
  cases innP n Γ t I.pds xs with
  |none=>rfl
  |some q=>cases capN I.caps with
   |none=>rfl
   |some cv=>
    simp only
    cases (Nat.beq I.res.length 1&&I.caps.isEmpty&&I.rb.isNone&&Nat.ble xs.length I.n) <;> rfl
theorem callD_ev {n:Nat}{I:Inst}{Φ:Nat→InVals I→Option (Tup (outTys I))}{Φ':InVals I→Option (Tup (outTys I))}(hΦ:∀x,EvO (fun m=>Φ m x) (Φ' x)){x:Operand}{xs:List Operand}{t:Nat}{Γ:SCtx}
  {k:Nat→List SUp→Option A}{k':List SUp→Option A}(hk:∀δ,EvO (fun n=>k n δ) (k' δ)):EvO (fun m=>Dy.run (callD n I (Φ m) Γ x xs t) (k m)) (Dy.run (callD n I Φ' Γ x xs t) k'):=by
 unfold callD
 cases calE n (sem Γ) x with
 |none=>exact EvO.none
 |some p=>
  obtain⟨f,caps⟩:=p
  simp only
  cases nEq f I.f with
  |none=>exact EvO.none
  |some _=>
   simp only[callI_eq]
   cases callS n I xs caps t Γ with
   |some p=>exact EvO.bind (hΦ _) (fun z=>hk _)
   |none=>
    simp only[inn_eq]
    cases (bif caps.isEmpty&&isFn x then callInnS n I xs t Γ else none) with
    |some p=>exact EvO.bind (EvO.bind (EvO.const _) (fun z=>EvO.bind (hΦ _) (fun y=>EvO.const _))) (fun z=>hk _)
    |none=>
    refine frz_ev ?_ hk
    intro Γ' k k' hk
    cases calE n (sem Γ') x with
    |none=>exact EvO.none
    |some p=>
     obtain⟨f',caps'⟩:=p
     simp only
     cases nEq f' I.f with
     |none=>exact EvO.none
     |some _=>
      simp only
      cases callS n I xs caps' t Γ' with
      |none=>exact EvO.none
      |some p=>exact EvO.bind (hΦ _) (fun z=>hk _)
end
def Ev.wi (v:Ev) (Φ:∀j,InVals (v.FT j)→Option (Tup (outTys (v.FT j)))):Ev:=⟨v.n,v.tt,v.H,v.FT,Φ⟩
section
variable {A:Type}{v:Ev}{Φ:Nat→∀j,InVals (v.FT j)→Option (Tup (outTys (v.FT j)))}{Φ':∀j,InVals (v.FT j)→Option (Tup (outTys (v.FT j)))}
theorem opT_same {Γ:SCtx}{o:Oper}{t:Nat}(h:¬∃x xs ats,o.op=.call ⟨.value x,xs,ats⟩) (Φ1 Φ2:∀j,InVals (v.FT j)→Option (Tup (outTys (v.FT j)))):opT (v.wi Φ1) Γ o t=opT (v.wi Φ2) Γ o t:=by
 unfold opT
 split <;> first
  |rfl
  |(rename_i x xs ats ho;exact absurd ⟨_,_,_,ho⟩ h)
theorem opD_ev (hΦ:∀j x,EvO (fun m=>Φ m j x) (Φ' j x)){Γ:SCtx}{o:Oper}{k:Nat→List SUp→Option A}{k':List SUp→Option A}(hk:∀δ,EvO (fun n=>k n δ) (k' δ)) :
  EvO (fun m=>Dy.run (opD (v.wi (Φ m)) Γ o) (k m)) (Dy.run (opD (v.wi Φ') Γ o) k'):=by
 unfold opD
 cases o.dst with
 |none=>exact run_same hk
 |some t=>
  simp only
  cases hb:Nat.blt t v.n with
  |false=>simp only[Ev.wi,hb,cond_false];exact EvO.none
  |true=>
   simp only[Ev.wi,hb,cond_true]
   by_cases hc:∃x xs ats,o.op=.call ⟨.value x,xs,ats⟩
   ·obtain⟨x,xs,ats,ho⟩:=hc
    have e:∀Φ0:∀j,InVals (v.FT j)→Option (Tup (outTys (v.FT j))),opT ⟨v.n,v.tt,v.H,v.FT,Φ0⟩ Γ o t=match lkN v.H.ca t with
      |some j=>callD v.n (v.FT j) (Φ0 j) Γ x xs.toList t
      |none=>none:=by
     intro Φ0
     unfold opT
     simp only[ho]
     all_goals (cases lkN v.H.ca t <;> rfl)
    simp only[e]
    cases lkN v.H.ca t with
    |none=>exact EvO.none
    |some j=>exact callD_ev (hΦ j) hk
   ·have e:∀Φ0:∀j,InVals (v.FT j)→Option (Tup (outTys (v.FT j))),opT ⟨v.n,v.tt,v.H,v.FT,Φ0⟩ Γ o t=opT ⟨v.n,v.tt,v.H,v.FT,Φ'⟩ Γ o t:=fun Φ0=>opT_same hc Φ0 Φ'
    simp only[fun m=>e (Φ m)]
    exact run_same hk
theorem evSt_ev (hΦ:∀j x,EvO (fun m=>Φ m j x) (Φ' j x)){view:SCtx→SCtx}{o:Oper}{k:Nat→SCtx→List SUp→Option A}{k':SCtx→List SUp→Option A}(hk:∀Γ δ,EvO (fun n=>k n Γ δ) (k' Γ δ)) (Γ:SCtx) :
  EvO (fun m=>evSt (v.wi (Φ m)) view o (k m) Γ) (evSt (v.wi Φ') view o k' Γ):=opD_ev (k:=fun m=>k m Γ) hΦ (hk Γ)
theorem evGo_ev (hΦ:∀j x,EvO (fun m=>Φ m j x) (Φ' j x)){G:SCtx}{view:SCtx→SCtx}{o:Oper}{k:Nat→SCtx→List SUp→Option A}{k':SCtx→List SUp→Option A}(hk:∀Γ δ,EvO (fun n=>k n Γ δ) (k' Γ δ)) (Γ:SCtx) :
  EvO (fun m=>evGo (v.wi (Φ m)) G view o (k m) Γ) (evGo (v.wi Φ') G view o k' Γ):=by
 unfold evGo
 cases o.op <;> first
  |exact tst_ev (fun b Γ'=>evSt_ev hΦ hk Γ')
  |exact evSt_ev hΦ hk Γ
theorem evOff_ev {o:Oper}{k:Nat→SCtx→List SUp→Option A}{k':SCtx→List SUp→Option A}(hk:∀Γ δ,EvO (fun n=>k n Γ δ) (k' Γ δ)) (Γ:SCtx) :
  EvO (fun m=>evOff (v.wi (Φ m)) o (k m) Γ) (evOff (v.wi Φ') o k' Γ):=by
 unfold evOff
 cases o.dst with
 |none=>exact EvO.none
 |some t=>exact EvO.bif (hk _ _) EvO.none
theorem evOn_ev (hΦ:∀j x,EvO (fun m=>Φ m j x) (Φ' j x)){G:SCtx}{view:SCtx→SCtx}{d:Nat}{want:Bool}{o:Oper}{k:Nat→SCtx→List SUp→Option A}{k':SCtx→List SUp→Option A}(hk:∀Γ δ,EvO (fun n=>k n Γ δ) (k' Γ δ)) (Γ:SCtx) :
    EvO (fun m=>evOn (v.wi (Φ m)) G view d want o (k m) Γ) (evOn (v.wi Φ') G view d want o k' Γ):=by
  unfold evOn
  cases o.op <;> first
    | (refine tst_ev (fun b Γ' => ?_)
       simp only[Ev.wi]
       cases opSc v.n (view Γ') (.tmp d) with
       |none=>exact EvO.none
       |some s=>cases s with
         |bool b=>exact EvO.bif (evSt_ev hΦ hk Γ') EvO.none
         |_=>exact EvO.none)
    |exact evSt_ev hΦ hk Γ
theorem evOp1_ev (hΦ:∀j x,EvO (fun m=>Φ m j x) (Φ' j x)){ops:List Oper}{G:SCtx}{view:SCtx→SCtx}{o:Oper}{k:Nat→SCtx→List SUp→Option A}{k':SCtx→List SUp→Option A}(hk:∀Γ δ,EvO (fun n=>k n Γ δ) (k' Γ δ)) (Γ:SCtx) :
  EvO (fun m=>evOp1 (v.wi (Φ m)) ops G view o (k m) Γ) (evOp1 (v.wi Φ') ops G view o k' Γ):=by
 unfold evOp1
 cases o.guard with
 |none=>exact evGo_ev hΦ hk Γ
 |some p=>
  obtain⟨g,want⟩:=p
  simp only
  cases gdst ops g with
  |none=>exact EvO.none
  |some d=>
   simp only
   refine EvO.bif (EvO.bif (evOff_ev hk Γ) (tst_ev fun b Γ'=>?_)) EvO.none
   simp only[Ev.wi]
   cases opSc v.n (view Γ') (.tmp d) with
   |none=>exact EvO.none
   |some s=>cases s with
    |bool b=>exact EvO.bif (evOn_ev hΦ hk Γ') (evOff_ev (v:=v) (Φ:=Φ) (Φ':=Φ') hk Γ')
    |_=>exact EvO.none
theorem evOps_ev (hΦ:∀j x,EvO (fun m=>Φ m j x) (Φ' j x)){ops:List Oper}{G:SCtx}{K:Nat→SCtx→Option A}{K':SCtx→Option A}(hK:∀Γ,EvO (fun n=>K n Γ) (K' Γ)):∀(os:List Oper) (Γ:SCtx),
  EvO (fun m=>evOps (v.wi (Φ m)) ops G os Γ (K m)) (evOps (v.wi Φ') ops G os Γ K')
 |[],Γ=>hK Γ
 |o::os,Γ=>by
  simp only[evOps]
  have h1:(∀Φ0:∀j,InVals (v.FT j)→Option (Tup (outTys (v.FT j))),nilT (v.wi Φ0).n (v.wi Φ0).tt (Γ++G) o=nilT v.n v.tt (Γ++G) o):=fun _=>rfl
  simp only[h1]
  cases nilT v.n v.tt (Γ++G) o with
  |some p=>
   obtain⟨e,pos,t⟩:=p
   simp only[frc_eq]
   exact EvO.nilx (EvO.bif (evOps_ev hΦ hK os _) EvO.none) (EvO.bif (evOps_ev hΦ hK os _) EvO.none)
  |none=>
   refine evOp1_ev hΦ (fun Γ1 δ=>EvO.bif ?_ EvO.none) Γ
   simp only[frc_eq]
   exact evOps_ev hΦ hK os _
theorem evDr_ev (hΦ:∀j x,EvO (fun m=>Φ m j x) (Φ' j x)){ops:List Oper}{G:SCtx}{K:Nat→List (Nat×Nat)→List Pq→SCtx→Option A}{K':List (Nat×Nat)→List Pq→SCtx→Option A}(hK:∀a b Γ,EvO (fun n=>K n a b Γ) (K' a b Γ)) :
  ∀(os:List Oper) (k:Nat) (src:List (Nat×Nat)) (acc:List Pq) (Γ:SCtx),EvO (fun m=>evDr (v.wi (Φ m)) ops G os k src acc Γ (K m)) (evDr (v.wi Φ') ops G os k src acc Γ K')
 |[],k,src,acc,Γ=>hK _ _ _
 |o::os,k,src,acc,Γ=>by
  simp only[evDr,frc_eq]
  refine evOp1_ev hΦ (fun Γ1 δ=>EvO.bif ?_ EvO.none) Γ
  exact evDr_ev hΦ hK os _ _ _ _
theorem evDrawn_ev (hΦ:∀j x,EvO (fun m=>Φ m j x) (Φ' j x)){ops:Array Oper}{G Γ:SCtx}{K:Nat→SCtx→Option A}{K':SCtx→Option A}(hK:∀Γ,EvO (fun n=>K n Γ) (K' Γ)) :
  EvO (fun m=>evDrawn (v.wi (Φ m)) ops G Γ (K m)) (evDrawn (v.wi Φ') ops G Γ K'):=by
 unfold evDrawn
 refine evDr_ev hΦ (fun a b Γ=>?_) _ _ _ _ _
 simp only[frc_eq]
 exact EvO.bif (hK _) EvO.none
theorem evDrawq_ev (hΦ:∀j x,EvO (fun m=>Φ m j x) (Φ' j x)){ops:Array Oper}{G Γ:SCtx}{K:Nat→SCtx→Option A}{K':SCtx→Option A}(hK:∀Γ,EvO (fun n=>K n Γ) (K' Γ)) :
  EvO (fun m=>evDrawq (v.wi (Φ m)) ops G Γ (K m)) (evDrawq (v.wi Φ') ops G Γ K'):=by
 unfold evDrawq
 simp only[frc_eq]
 exact EvO.bif (evDrawn_ev hΦ (fun Γ=>hK _)) (evDrawn_ev hΦ hK)
structure KEv (K:Nat→Ks A) (K':Ks A):Prop where
 nx:∀Γ,EvO (fun n=>(K n).nx Γ) (K'.nx Γ)
 rt:∀Γ,EvO (fun n=>(K n).rt Γ) (K'.rt Γ)
 ex:∀i Γ,EvO (fun n=>(K n).ex i Γ) (K'.ex i Γ)
theorem ret_ev {S:Type}{f:Nat→Option A}{o:Option A}(h:EvO f o):EvO (fun n=>(retM (f n):Option (Ex A S))) (retM o):=by
 have e:∀o:Option A,(retM o:Option (Ex A S))=o.bind fun r=>some (.ret r):=by intro o;cases o <;> rfl
 have:=EvO.bind (g:=fun _ r=>some (.ret r)) (h:=fun r=>(some (.ret r):Option (Ex A S))) h (fun r=>EvO.const _)
 rw[e]
 exact this.eqf (fun n=>(e _).symm)
theorem within_rt (K:Ks A) (j:Jn) (Γk Γ:SCtx):(K.within j Γk).rt Γ=retM (K.rt (Γ++Γk)):=by
 show(match K.rt (Γ++Γk) with
  |some r=>some (.ret r)
  |none=>none:Option (Ex A (Tup (tysH j.v))))=_
 cases K.rt (Γ++Γk) <;> rfl
theorem within_ex (K:Ks A) (j:Jn) (Γk:SCtx) (i:Nat) (Γ:SCtx):(K.within j Γk).ex i Γ=retM (K.ex i (Γ++Γk)):=by
 show(match K.ex i (Γ++Γk) with
  |some r=>some (.ret r)
  |none=>none:Option (Ex A (Tup (tysH j.v))))=_
 cases K.ex i (Γ++Γk) <;> rfl
theorem evCode_ev (hΦ:∀j x,EvO (fun m=>Φ m j x) (Φ' j x)):∀(c:Code)(h:Hn){A:Type}(G Γ:SCtx) (K:Nat→Ks A) (K':Ks A),KEv K K'→
  EvO (fun m=>evCode (v.wi (Φ m)) (lpN m) c h G Γ (K m)) (evCode (v.wi Φ') lpF c h G Γ K')
 |.skip,_,_,G,Γ,K,K',hK=>hK.nx Γ
 |.ret,_,_,G,Γ,K,K',hK=>hK.rt Γ
 |.exit i,_,_,G,Γ,K,K',hK=>hK.ex i Γ
 |.region _ ops draw,_,_,G,Γ,K,K',hK=>by
  simp only[evCode]
  exact EvO.bif (evDrawq_ev hΦ hK.nx) (evOps_ev hΦ hK.nx _ _)
 |.seq a b,h,_,G,Γ,K,K',hK=>by
  have plain:∀h1 h2,EvO (fun m=>evCode (v.wi (Φ m)) (lpN m) a h1 G Γ ⟨fun Γ'=>evCode (v.wi (Φ m)) (lpN m) b h2 G Γ' (K m),(K m).rt,(K m).ex⟩)
    (evCode (v.wi Φ') lpF a h1 G Γ ⟨fun Γ'=>evCode (v.wi Φ') lpF b h2 G Γ' K',K'.rt,K'.ex⟩):=by
   intro h1 h2
   exact evCode_ev hΦ a h1 G Γ (fun m=>⟨fun Γ'=>evCode (v.wi (Φ m)) (lpN m) b h2 G Γ' (K m),(K m).rt,(K m).ex⟩) _ ⟨fun Γ'=>evCode_ev hΦ b h2 G Γ' K K' hK,hK.rt,hK.ex⟩
  cases h with
  |join j ha hb=>
   simp only[evCode,frc_eq]
   unfold joinK
   refine EvO.bind (evCode_ev hΦ a ha _ _ (fun m=>(K m).within j (outW j.w Γ)) _ ⟨?_,?_,?_⟩) (fun o=>?_)
   ·intro Γ'
    exact EvO.const _
   ·intro Γ'
    simp only[within_rt]
    exact ret_ev (hK.rt _)
   ·intro i Γ'
    simp only[within_ex]
    exact ret_ev (hK.ex i _)
   ·cases o with
    |ret r=>exact EvO.const _
    |go x=>exact evCode_ev hΦ b hb G _ K K' hK
  |nil=>simp only[evCode];exact plain _ _
  |two x y=>simp only[evCode];exact plain _ _
  |loop x y=>simp only[evCode];exact plain _ _
 |.cond c a b,h,_,G,Γ,K,K',hK=>by
  simp only[evCode]
  refine tst_ev (fun x Γ'=>EvO.bif (evCode_ev hΦ a _ G Γ' K K' hK) (evCode_ev hΦ b _ G Γ' K K' hK))
 |.block id a,h,_,G,Γ,K,K',hK=>by
  simp only[evCode]
  exact evCode_ev hΦ a h G Γ (fun m=>⟨(K m).nx,(K m).rt,fun i Γ'=>bif Nat.beq i id then(K m).nx Γ' else(K m).ex i Γ'⟩) _ ⟨hK.nx,hK.rt,fun i Γ'=>EvO.bif (hK.nx Γ') (hK.ex i Γ')⟩
 |.loop a,h,A,G,Γ,K,K',hK=>by
  cases h with
  |loop j ha=>
   simp only[evCode,frc_eq]
   cases pull (inW j.w Γ) j.v with
   |none=>exact EvO.none
   |some x=>
    intro r hr
    obtain⟨k,hk⟩:=loopF_some hr
    refine loop_ev (f':=fun f x=>evCode (v.wi Φ') lpF a ha (outW j.w Γ++G) (push j.v x)
     ⟨fun Γ'=>match pull Γ' j.v with
      |some x'=>f x'
      |none=>none,fun Γ'=>K'.rt (Γ'++outW j.w Γ),fun i Γ'=>K'.ex i (Γ'++outW j.w Γ)⟩) ?_ k (fun n=>n) (fun c=>⟨c,fun n h=>h⟩) x r (hk k (Nat.le_refl _))
    intro g g' hg s
    refine evCode_ev hΦ a ha _ _ (fun m=>⟨fun Γ'=>match pull Γ' j.v with
      |some x'=>g m x'
      |none=>none,fun Γ'=>(K m).rt (Γ'++outW j.w Γ),fun i Γ'=>(K m).ex i (Γ'++outW j.w Γ)⟩) _ ⟨?_,fun Γ'=>hK.rt _,fun i Γ'=>hK.ex i _⟩
    intro Γ'
    cases hp:pull Γ' j.v with
    |none=>simp only[hp];exact EvO.none
    |some x'=>simp only[hp];exact hg x'
  |nil=>simp only[evCode];exact EvO.none
  |two x y=>simp only[evCode];exact EvO.none
  |join x y z=>simp only[evCode];exact EvO.none
 |.rangeFunc _ _ _ _,_,_,_,_,_,_,_=>by simp only[evCode];exact EvO.none
 |.scope _,_,_,_,_,_,_,_=>by simp only[evCode];exact EvO.none
 |.label _,_,_,_,_,_,_,_=>by simp only[evCode];exact EvO.none
 |.goto _,_,_,_,_,_,_,_=>by simp only[evCode];exact EvO.none
 |.refuse _,_,_,_,_,_,_,_=>by simp only[evCode];exact EvO.none
end
section
variable {P:Program}{tt:TypeId→Option Ty}{FT:Nat→Inst}{SP:∀j,Option (InVals (FT j)→Option (Tup (outTys (FT j))))}
open Classical in
noncomputable def callL (tt:TypeId→Option Ty) (FT:Nat→Inst) (SP:∀j,Option (InVals (FT j)→Option (Tup (outTys (FT j))))) (j:Nat) (v:InVals (FT j)):Option (Tup (outTys (FT j))):=
 if h:∃r k,∀n,k≤n→callN tt FT SP n j v=some r then some h.choose else none
theorem callL_some {j:Nat}{v:InVals (FT j)}{r:Tup (outTys (FT j))}(h:callL tt FT SP j v=some r):∃k,∀n,k≤n→callN tt FT SP n j v=some r:=by
 unfold callL at h
 split at h
 ·rename_i h'
  cases h
  exact h'.choose_spec
 ·cases h
theorem callL_of {j:Nat}{v:InVals (FT j)}{r:Tup (outTys (FT j))}(k:Nat)(h:∀n,k≤n→callN tt FT SP n j v=some r):callL tt FT SP j v=some r:=by
 have h':∃r k,∀n,k≤n→callN tt FT SP n j v=some r:=⟨r,k,h⟩
 unfold callL
 rw[dif_pos h']
 obtain⟨k',hk'⟩:=h'.choose_spec
 have:=hk' (max k k') (by omega)
 rw[h (max k k') (by omega)] at this
 rw[Option.some.inj this]
theorem callL_ok (h:FTok P tt FT SP){j:Nat}{v:InVals (FT j)}{r:Tup (outTys (FT j))}(hc:callL tt FT SP j v=some r):RetI P (FT j) v r:=by
 obtain⟨k,hk⟩:=callL_some hc
 exact callN_ok h k j v r (hk k (Nat.le_refl _))
def Le {A:Type}(a b:Option A):Prop:=∀r,a=some r→b=some r
theorem runI_ev {I:Inst}{v:InVals I}:EvO (fun n=>runI tt FT (callN tt FT SP n) (lpN n) I v) (runI tt FT (callL tt FT SP) lpF I v):=by
 unfold runI
 cases I.fn.body with
 |none=>exact EvO.none
 |some c=>
  refine evCode_ev (v:=⟨I.n,tt,I.h,FT,callL tt FT SP⟩) (Φ:=fun n=>callN tt FT SP n) (Φ':=callL tt FT SP) (fun j x r hr=>callL_some hr) c I.h.code _ _ (fun _=>⟨retV tt I (fixIn I v),retV tt I (fixIn I v),fun _ _=>none⟩) _ ⟨fun Γ=>EvO.const _,fun Γ=>EvO.const _,fun i Γ=>EvO.const _⟩
theorem callL_le {j:Nat}{v:InVals (FT j)}{o:Option (Tup (outTys (FT j)))}(hs:SP j=none)(h:runI tt FT (callL tt FT SP) lpF (FT j) v=o):Le o (callL tt FT SP j v):=by
 intro r hr
 subst h
 obtain⟨k,hk⟩:=runI_ev r hr
 refine callL_of (k+1) (fun n hn=>?_)
 obtain⟨m,rfl⟩:∃m,n=m+1:=⟨n-1,by omega⟩
 simp only[callN,hs]
 exact hk m (by omega)
theorem callL_sp {j:Nat}{v:InVals (FT j)}{f:InVals (FT j)→Option (Tup (outTys (FT j)))}(hs:SP j=some f):Le (f v) (callL tt FT SP j v):=by
 intro r hr
 refine callL_of 1 (fun n hn=>?_)
 obtain⟨m,rfl⟩:∃m,n=m+1:=⟨n-1,by omega⟩
 simp only[callN,hs]
 exact hr
end
end Go.Proofs.YtkbcahfajbdgnaaGreatDoorT
namespace Go.Proofs.YtkbcahfajbdgnaaGreatDoorT
open Go Go.Proofs
variable {P:Program}
def iC (xs:List Int):List (List C):=xs.map fun x=>[.v (.int .i64 x)]
theorem iC_rll {w:World}{Z:Nat→Prop}:∀(xs:List Int){vs:List Value}{bs:List Nat},RLL P w Z (iC xs) vs bs→bs=[]∧vs=xs.map (Value.int .i64)
 |[],vs,bs,h=>by simp only[iC,List.map_nil,RLL] at h;simp[h]
 |x::xs,vs,bs,h=>by
  simp only[iC,List.map_cons,RLL,RL,RC] at h
  obtain⟨v1,v2,b1,b2,rfl,rfl,⟨y,vs',c1,c2,rfl,rfl,⟨rfl,_,rfl⟩,rfl,rfl⟩,hr⟩:=h
  obtain⟨rfl,rfl⟩:=iC_rll xs hr
  simp
theorem iC_mk {w:World}{Z:Nat→Prop}:∀(xs:List Int),RLL P w Z (iC xs) (xs.map (Value.int .i64)) []
 |[]=>by simp[iC,RLL]
 |x::xs=>by
  simp only[iC,List.map_cons,RLL,RL,RC]
  exact⟨[.int .i64 x],xs.map (Value.int .i64),[],[],rfl,rfl,⟨_,[],[],[],rfl,rfl,⟨rfl,rfl,rfl⟩,rfl,rfl⟩,iC_mk xs⟩
end Go.Proofs.YtkbcahfajbdgnaaGreatDoorT
namespace Go.Proofs.YtkbcahfajbdgnaaGreatDoorT
open Go Go.Proofs Go.RowKit
variable {P:Program}
theorem ret_plain {f n:Nat}{pars:List Ent}{ds:List Dt}{x:Value}(hg:isGo P f=true)(hx:∀w Z,RC P w Z (.v x) x [])
  (h:∀w Z vals γ β M,Pre P n pars (ds.map .d) w Z vals γ β M→Calls P f vals.toArray w fun e w'=>e=.returned x∧Below w.heap.size w w') :
  Ret P f n pars (ds.map .d) (.d (.one (.v x))) (ds.map .d):=by
 refine⟨hg,fun w Z vals γ β M hp=>(h w Z vals γ β M hp).mono fun e w' ⟨he,hb⟩=>⟨x,he,Z,fun t=>match t with|0=>[]|j+1=>β (n+j),?_⟩⟩
 exact {
  evo:=⟨hb.os,hb.tape,hb.output,hb.size,fun b hlt _=>hb.block b hlt,trivial⟩
  zlt:=fun b hz=>Nat.lt_of_lt_of_le (hp.zlt b hz) hb.size
  zin:=fun _ h=>h
  znew:=fun _ h=>.inl h
  own:=fun t b hb'=>by
   cases t with
   |zero=>simp at hb'
   |succ j=>
    have:=hp.own (n+j) b hb'
    exact⟨Nat.lt_of_lt_of_le this.1 hb.size,this.2.1,.inr this.2.2⟩
  nodup:=fun t=>by
   cases t with
   |zero=>simp
   |succ j=>exact hp.nodup (n+j)
  disj:=fun t u b htu hb1 hb2=>by
   cases t with
   |zero=>simp at hb1
   |succ j=>
    cases u with
    |zero=>simp at hb2
    |succ i=>exact hp.disj (n+j) (n+i) b (by omega) hb1 hb2
  res:=by simp only[OwnOk,EntOk,RD];exact hx w' Z
  post:=fun j e he=>by
   rw[List.getElem?_map,Option.map_eq_some_iff] at he
   obtain⟨D,hD,rfl⟩:=he
   have hn:Nat.blt (n+j) n=false:=by cases h:Nat.blt (n+j) n with|false=>rfl|true=>rw[Nat.blt_eq] at h;omega
   have:=hp.ent (n+j) (.d D) (by simp[Γin,hn,hD])
   simp only[EntOk,evi,show¬n+j<n by omega,if_false] at this
   simp only[OwnOk,EntOk]
   refine RD.mono (fun _ h=>h) (fun b hb'=>hb.block b ?_) this
   rcases hb' with hz|ho
   ·exact hp.zlt b hz
   ·exact(hp.own (n+j) b ho).1}
theorem below_grow (w:World) (k:Nat) (os:Array Obj):Below w.heap.size w (Go.Sort.grow (w.drewN k) os):=
 ⟨rfl,rfl,rfl,by simp[Go.Sort.grow,World.drewN],fun b hb=>by
  rw[Go.Sort.heap_grow_old _ _ (by simpa[World.drewN] using hb)];rfl⟩
def itoaF (a:Int):Option ByteArray:=bif decide (-9223372036854775808≤a)&&decide (a≤9223372036854775807) then some ⟨(Lib.itoa a).toArray⟩ else none
theorem var_of {w:World}{Z:Nat→Prop}(h:Gl P w Z){nm:String}{Q:Array Value→Prop}(hm:(nm,Q)∈glSpec)(hn:(P.globalNamed nm).isSome=true):∃cs,w.var? P nm=some cs∧Q cs:=by
 obtain⟨g,hg⟩:=Option.isSome_iff_exists.1 hn
 obtain⟨_,cs,b1,b2,hc,hQ⟩:=h (nm,Q) hm g hg
 exact⟨cs,by simp[World.var?,hg,hc],hQ⟩
theorem ret_itoa {ρ:Go.Shelf.Ren}(Ly:LaysM.n171 P ρ){n:Nat}{a:Int}(hg:isGo P (ρ.f 171)=true)(hn:0<n)(hgn:(P.globalNamed "internal/strconv.uint64pow10").isSome=true)(hb:-9223372036854775808≤a∧a≤9223372036854775807) :
  Ret P (ρ.f 171) n [.d (.one (.v (.int .i64 a)))] [] (.d (.one (.v (.string ⟨(Lib.itoa a).toArray⟩)))) []:=by
 refine ret_plain (ds:=[]) (x:=.string ⟨(Lib.itoa a).toArray⟩) hg (fun w Z=>by simp[RC,Value.oneCell']) fun w Z vals γ β M hp=>?_
 obtain⟨v0,rfl⟩:∃v0,vals=[v0]:=by
  have:=hp.len
  match vals,this with
  |[v],_=>exact⟨v,rfl⟩
 have b1:Nat.blt 0 n=true:=by rw[Nat.blt_eq];exact hn
 have h0:=hp.ent 0 (.d (.one (.v (.int .i64 a)))) (by simp[Γin,b1])
 simp only[EntOk,evi,hn,if_true,RD,RC] at h0
 have h0':v0=.int .i64 a:=by simpa using h0.1
 subst h0'
 obtain⟨cs,hc,hQ⟩:=var_of hp.gl (nm:="internal/strconv.uint64pow10") (List.Mem.head _) hgn
 have:=Any.strconv_Itoa Ly a hb.1 hb.2 w (by unfold Lib.TabIs;rw[hc];exact congrArg some hQ)
 exact this.mono fun e w' ⟨he,k,os,hw⟩=>⟨he,hw▸below_grow w k os⟩
theorem retI_itoa {ρ:Go.Shelf.Ren}(Ly:LaysM.n171 P ρ){fn:Func}{n:Nat}{h:Hint}{a:Int}{r:ByteArray}(hg:isGo P (ρ.f 171)=true)(hn:0<n)(hgn:(P.globalNamed "internal/strconv.uint64pow10").isSome=true)(hv:itoaF a=some r) :
  RetI P ⟨ρ.f 171,fn,n,[.rd (.int .i64)],[],[⟨false,false,.str⟩],h,none⟩ ((a,()),()) r:=by
 unfold itoaF at hv
 cases hb:decide (-9223372036854775808≤a)&&decide (a≤9223372036854775807) with
 |false=>rw[hb] at hv;cases hv
 |true=>
  rw[hb] at hv
  cases hv
  simp only[Bool.and_eq_true,decide_eq_true_eq] at hb
  exact ret_itoa Ly hg hn hgn hb
def sC (xs:List ByteArray):List (List C):=xs.map fun x=>[.v (.string x)]
theorem sC_rll {w:World}{Z:Nat→Prop}:∀(xs:List ByteArray){vs:List Value}{bs:List Nat},RLL P w Z (sC xs) vs bs→bs=[]∧vs=xs.map Value.string
 |[],vs,bs,h=>by simp only[sC,List.map_nil,RLL] at h;simp[h]
 |x::xs,vs,bs,h=>by
  simp only[sC,List.map_cons,RLL,RL,RC] at h
  obtain⟨v1,v2,b1,b2,rfl,rfl,⟨y,vs',c1,c2,rfl,rfl,⟨rfl,_,rfl⟩,rfl,rfl⟩,hr⟩:=h
  obtain⟨rfl,rfl⟩:=sC_rll xs hr
  simp
def joinS (xs:List ByteArray) (sep:ByteArray):ByteArray:=⟨(Lib.join (xs.map (·.data.toList)) sep.data.toList).toArray⟩
def joinF (xs:List ByteArray) (sep:ByteArray):Option (ByteArray×List ByteArray):=
 bif Nat.ble xs.length 140737488355328&&Nat.ble (Lib.join (xs.map (·.data.toList)) sep.data.toList).length 140737488355328 then some (joinS xs sep,xs) else none
theorem ret_join {ρ:Go.Shelf.Ren}(Ly:Lays.n156 P ρ) (X:Builder.Extra P ρ)(hg:isGo P (ρ.f 156)=true){n:Nat}(hn:1<n){E:TypeId}{xs:List ByteArray}{sep:ByteArray}
  (h1:xs.length≤140737488355328)(h2:(Lib.join (xs.map (·.data.toList)) sep.data.toList).length≤140737488355328) :
  Ret P (ρ.f 156) n [.eq n,.d (.one (.v (.string sep)))] [.d (.one (.sl true E (sC xs)))] (.d (.one (.v (.string (joinS xs sep))))) [.d (.one (.sl true E (sC xs)))]:=by
 refine ret_plain (ds:=[.one (.sl true E (sC xs))]) (x:=.string (joinS xs sep)) hg (fun w Z=>by simp[RC,Value.oneCell']) fun w Z vals γ β M hp=>?_
 obtain⟨v0,v1,rfl⟩:∃v0 v1,vals=[v0,v1]:=by
  have:=hp.len
  match vals,this with
  |[v,u],_=>exact⟨v,u,rfl⟩
 have b1:Nat.blt 0 n=true:=by rw[Nat.blt_eq];omega
 have b1':Nat.blt 1 n=true:=by rw[Nat.blt_eq];omega
 have b2:Nat.blt n n=false:=by cases h:Nat.blt n n with|false=>rfl|true=>rw[Nat.blt_eq] at h;omega
 have e0:=hp.ent 0 (.eq n) (by simp[Γin,b1])
 have e1:=hp.ent 1 (.d (.one (.v (.string sep)))) (by simp[Γin,b1'])
 have e2:=hp.ent n (.d (.one (.sl true E (sC xs)))) (by simp[Γin,b2])
 simp only[EntOk,evi,show 0<n by omega,hn,if_true,Nat.lt_irrefl,if_false,RD] at e0 e1 e2
 have e0':v0=γ n:=by simpa using e0
 simp only[RC] at e1
 have e1':v1=.string sep:=by simpa using e1.1
 subst e0'
 subst e1'
 have hl:(sC xs).length=xs.length:=by simp[sC]
 have none_:xs=[]→(∃p cap,γ n=.slice p 0 cap)→Calls P (ρ.f 156) [γ n,.string sep].toArray w fun e w'=>e=.returned (.string (joinS xs sep))∧Below w.heap.size w w':=by
  rintro rfl ⟨p,cap,hy⟩
  have:=Any.strings_Join_none Ly X p cap sep w
  rw[←hy] at this
  refine this.mono fun e w' ⟨he,hw⟩=>⟨?_,hw▸Below.refl _ _⟩
  rw[he]
  rfl
 simp only[RC] at e2
 rcases e2 with⟨hy,he,_⟩|⟨_,_,_,ho,_⟩|⟨g,cap,cur,bs',_,hb,hy,hle,hcap,hgc,hsz,hel,hr⟩
 ·have hx:xs=[]:=by simpa[sC] using he
  exact none_ hx ⟨_,_,hy⟩
 ·cases ho
 by_cases hx0:xs=[]
 ·subst hx0
  exact none_ rfl ⟨_,_,hy⟩
 obtain⟨rfl,hvs⟩:=sC_rll xs hr
 have h1':szOf P E=1:=by
  obtain⟨x,xs',rfl⟩:=List.exists_cons_of_ne_nil hx0
  have:=hel [.v (.string x)] (by simp[sC])
  simpa using this.symm
 rw[h1',hl] at hvs
 simp only[Nat.mul_one] at hvs
 have hgM:=hp.own n g (by rw[hb];simp)
 have:=Any.strings_Join Ly X g 0 cap xs sep w (fun j x hj=>by
  have hjl:=(List.getElem?_eq_some_iff.1 hj).1
  have h2:(cur.toList.take xs.length)[j]?=(xs.map Value.string)[j]?:=by rw[hvs]
  rw[List.getElem?_take_of_lt hjl,Array.getElem?_toList,List.getElem?_map,hj,Option.map_some] at h2
  rw[Nat.zero_add]
  simp only[World.cell?,hgc,Option.isSome_none,Bool.false_eq_true,if_false]
  exact h2) hgM.1 h1 (by rw[←hl];exact hle) h2
 rw[hl] at hy
 rw[←hy] at this
 exact this
theorem retI_join {ρ:Go.Shelf.Ren}(Ly:Lays.n156 P ρ) (X:Builder.Extra P ρ){fn:Func}{n:Nat}{E:TypeId}{h:Hint}{xs:List ByteArray}{sep:ByteArray}{r:ByteArray×List ByteArray}(hg:isGo P (ρ.f 156)=true)(hn:1<n)(hv:joinF xs sep=some r) :
  RetI P ⟨ρ.f 156,fn,n,[.mu true true E .str,.rd .str],[],[⟨false,false,.str⟩],h,none⟩ ((xs,(sep,())),()) r:=by
 unfold joinF at hv
 cases hb:Nat.ble xs.length 140737488355328&&Nat.ble (Lib.join (xs.map (·.data.toList)) sep.data.toList).length 140737488355328 with
 |false=>rw[hb] at hv;cases hv
 |true=>
  rw[hb] at hv
  cases hv
  simp only[Bool.and_eq_true,Nat.ble_eq] at hb
  exact ret_join Ly X hg hn hb.1 hb.2
end Go.Proofs.YtkbcahfajbdgnaaGreatDoorT
namespace Go.Proofs.YtkbcahfajbdgnaaGreatDoorT
open Go Go.Proofs Go.RowKit
variable {P:Program}
def readM (s:ByteArray):Option Int:=match Lib.atoiAll s.data.toList with
 |.ok v=>if (⟨(Lib.itoa v).toArray⟩:ByteArray)=s∧-1000000≤v∧v≤1000000 then some v else none
 |_=>none
end Go.Proofs.YtkbcahfajbdgnaaGreatDoorT
namespace Go.Proofs.YtkbcahfajbdgnaaGreatDoorT
open Go Go.Proofs
variable {P:Program}
def cmpL:List Int→List Int→Int
 |[],[]=>0
 |[],_::_=>-1
 |_::_,[]=>1
 |x::a,y::b=>if x<y then -1 else if y<x then 1 else cmpL a b
theorem cmpL_self:∀a,cmpL a a=0
 |[]=>rfl
 |x::a=>by simp[cmpL,cmpL_self a]
theorem cmpL_eq:∀{a b},cmpL a b=0→a=b
 |[],[],_=>rfl
 |[],_::_,h=>by simp[cmpL] at h
 |_::_,[],h=>by simp[cmpL] at h
 |x::a,y::b,h=>by
  simp only[cmpL] at h
  split at h
  ·cases h
  ·split at h
   ·cases h
   ·have:=cmpL_eq h
    rw[this,show x=y by omega]
theorem cmpL_neg:∀a b,cmpL b a=- cmpL a b
 |[],[]=>rfl
 |[],_::_=>rfl
 |_::_,[]=>rfl
 |x::a,y::b=>by
  simp only[cmpL]
  by_cases h1:x<y
  ·rw[if_neg (by omega:¬y<x),if_pos h1]
   simp[h1]
  ·by_cases h2:y<x
   ·simp[h1,h2]
   ·simp only[h1,h2,if_false];exact cmpL_neg a b
theorem cmpL_trans:∀{a b c},cmpL a b≤0→cmpL b c≤0→cmpL a c≤0
 |[],_,[],_,_=>by simp[cmpL]
 |[],_,_::_,_,_=>by simp[cmpL]
 |_::_,[],_,h,_=>by simp[cmpL] at h
 |_::_,_::_,[],_,h=>by simp[cmpL] at h
 |x::a,y::b,z::c,h1,h2=>by
  simp only[cmpL] at h1 h2 ⊢
  by_cases e1:x<y
  ·by_cases e2:y<z
   ·rw[if_pos (by omega)];omega
   ·by_cases e3:z<y
    ·rw[if_neg e2,if_pos e3] at h2;omega
    ·rw[if_pos (by omega)];omega
  ·by_cases e1':y<x
   ·rw[if_neg e1,if_pos e1'] at h1;omega
   ·rw[if_neg e1,if_neg e1'] at h1
    by_cases e2:y<z
    ·rw[if_pos (by omega)];omega
    ·by_cases e3:z<y
     ·rw[if_neg e2,if_pos e3] at h2;omega
     ·rw[if_neg e2,if_neg e3] at h2
      rw[if_neg (by omega),if_neg (by omega)]
      exact cmpL_trans h1 h2
def leL (a b:List Int):Prop:=cmpL a b≤0
theorem leL_anti {a b:List Int}(h1:leL a b)(h2:leL b a):a=b:=by
 unfold leL at h1 h2
 rw[cmpL_neg a b] at h2
 exact cmpL_eq (by omega)
theorem sort_uniq:∀{a b:List (List Int)},a.Perm b→a.Pairwise leL→b.Pairwise leL→a=b
 |[],b,h,_,_=>by simpa using h
 |x::a,[],h,_,_=>by simp at h
 |x::a,y::b,h,ha,hb=>by
  rw[List.pairwise_cons] at ha hb
  have hx:x∈y::b:=h.mem_iff.1 (by simp)
  have hy:y∈x::a:=h.mem_iff.2 (by simp)
  have hxy:x=y:=by
   rcases List.mem_cons.1 hx with hx|hx
   ·exact hx
   ·rcases List.mem_cons.1 hy with hy|hy
    ·exact hy.symm
    ·exact leL_anti (ha.1 y hy) (hb.1 x hx)
  subst hxy
  rw[sort_uniq (List.perm_cons x |>.1 h) ha.2 hb.2]
def srtR (rows:List (List Int)):List (List Int):=rows.mergeSort fun a b=>decide (cmpL a b≤0)
theorem srtR_sorted (rows:List (List Int)):(srtR rows).Pairwise leL:=by
 have:=List.pairwise_mergeSort (le:=fun a b:List Int=>decide (cmpL a b≤0)) (fun a b c h1 h2=>by simp only[decide_eq_true_eq] at h1 h2 ⊢;exact cmpL_trans h1 h2)
  (fun a b=>by have:=cmpL_neg a b;simp only[Bool.or_eq_true,decide_eq_true_eq];omega) rows
 exact this.imp (fun h=>by simpa[leL] using h)
theorem srtR_perm (rows:List (List Int)):(srtR rows).Perm rows:=List.mergeSort_perm rows _
def rC (E2:TypeId) (rows:List (List Int)):List (List C):=rows.map fun r=>[.sl true E2 (iC r)]
theorem rC_rll {E2:TypeId}{w:World}{Z:Nat→Prop}:∀(rows:List (List Int)){vs:List Value}{bs:List Nat},RLL P w Z (rC E2 rows) vs bs→
  ∃bl:List (List Nat),bs=bl.flatten∧vs.length=rows.length∧bl.length=rows.length∧∀(i:Nat) (r:List Int) (v:Value) (b:List Nat),rows[i]?=some r→vs[i]?=some v→bl[i]?=some b→RC P w Z (.sl true E2 (iC r)) v b
 |[],vs,bs,h=>by
  simp only[rC,List.map_nil,RLL] at h
  obtain⟨rfl,rfl⟩:=h
  exact⟨[],rfl,rfl,rfl,fun i r v b h=>by simp at h⟩
 |r::rows,vs,bs,h=>by
  simp only[rC,List.map_cons,RLL,RL] at h
  obtain⟨v1,v2,b1,b2,rfl,rfl,⟨y,vs',c1,c2,rfl,rfl,h1,rfl,rfl⟩,hr⟩:=h
  obtain⟨bl,rfl,h2,h3,h4⟩:=rC_rll rows hr
  refine⟨c1::bl,by simp,by simp[h2],by simp[h3],fun i r' v b hr hv hb=>?_⟩
  cases i with
  |zero=>simp at hr hv hb;subst hr;subst hv;subst hb;exact h1
  |succ i=>exact h4 i r' v b (by simpa using hr) (by simpa using hv) (by simpa using hb)
theorem rC_mk {E2:TypeId}{w:World}{Z:Nat→Prop}{f:Nat→List Int}{g:Nat→Value}{k:Nat→List Nat}:∀(p:List Nat),(∀i∈p,RC P w Z (.sl true E2 (iC (f i))) (g i) (k i))→
  RLL P w Z (rC E2 (p.map f)) (p.map g) (p.flatMap k)
 |[],_=>by simp[rC,RLL]
 |i::p,h=>by
  simp only[rC,List.map_cons,RLL,RL,List.flatMap_cons]
  refine⟨[g i],p.map g,k i,p.flatMap k,rfl,rfl,⟨g i,[],k i,[],rfl,by simp,h i (by simp),rfl,rfl⟩,?_⟩
  exact rC_mk p (fun j hj=>h j (by simp[hj]))
def CmpRow (P:Program) (g:Nat) (E2:TypeId) (B:Nat):Prop:=∀(a b:List Int) (u v:Value) (w:World) (Z:Nat→Prop),a.length≤B→b.length≤B→
 RC P w Z (.sl false E2 (iC a)) u []→RC P w Z (.sl false E2 (iC b)) v []→Calls P g #[u,v] w fun e w'=>e=.returned (.int .i64 (cmpL a b))∧∃q,w'=w.drewN q
theorem row_cells {w:World}{Z:Nat→Prop}{E2:TypeId}{a:List Int}{u:Value}(h:RC P w Z (.sl false E2 (iC a)) u []) :
  ∃p cap,u=.slice p a.length cap∧(a.length=0∨∃b o,p=some ⟨b,o,none⟩∧∀j,j<a.length→w.cell? ⟨b,o+j,none⟩=some (.int .i64 (a.getD j 0))):=by
 have hl:(iC a).length=a.length:=by simp[iC]
 simp only[RC] at h
 rcases h with⟨h1,h2,_⟩|⟨ad,cap,vs,_,_,hy,_,_,_,hc,_,hr⟩|⟨_,_,_,_,ho,_⟩
 ·have:a=[]:=by simpa[iC] using h2
  subst this
  exact⟨none,0,h1,.inl rfl⟩
 ·obtain⟨-,rfl⟩:=iC_rll a hr
  rw[hl] at hy
  refine⟨some ad,cap,hy,?_⟩
  by_cases h0:a.length=0
  ·exact .inl h0
  ·right
   have key:∀j,j<a.length→w.cell? (ad.add j)=some (.int .i64 (a.getD j 0)):=fun j hj=>by
    refine hc j _ ?_
    rw[List.getElem?_map,List.getElem?_eq_getElem hj,List.getD_eq_getElem?_getD,List.getElem?_eq_getElem hj]
    rfl
   have hsp:ad.spot=none:=by
    have h0':=key 0 (by omega)
    rw[show ad.add 0=ad by simp[Addr.add]] at h0'
    unfold World.cell? at h0'
    split at h0'
    ·cases hs:ad.spot with
     |none=>rfl
     |some _=>rw[hs] at h0';simp at h0'
    ·cases h0'
   refine⟨ad.block,ad.off,?_,fun j hj=>?_⟩
   ·cases ad
    simp only at hsp
    subst hsp
    rfl
   ·have e:ad.add j=⟨ad.block,ad.off+j,none⟩:=by
     cases ad
     simp only at hsp
     subst hsp
     exact Addr.add_lit _ _ _
    rw[←e]
    exact key j hj
 ·cases ho
theorem row_share {w W:World}{Z Z2:Nat→Prop}{E2:TypeId}{r:List Int}{v:Value}{b:List Nat}(h:RC P w Z (.sl true E2 (iC r)) v b)(hz:∀x∈b,Z2 x∧W.heap[x]?=w.heap[x]?):RC P W Z2 (.sl false E2 (iC r)) v []:=by
 simp only[RC] at h ⊢
 rcases h with⟨h1,h2,h3⟩|⟨_,_,_,ho,_⟩|⟨g,cap,cur,bs',_,hb,hy,hle,hcap,hgc,hs,hel,hr⟩
 ·exact .inl ⟨h1,h2,trivial⟩
 ·cases ho
 ·obtain⟨rfl,hvs⟩:=iC_rll r hr
  obtain⟨z1,z2⟩:=hz g (by rw[hb];simp)
  refine .inr (.inl ⟨⟨g,0,none⟩,cap,cur.toList.take ((iC r).length*szOf P E2),trivial,trivial,hy,hle,hcap,.inr z1,?_,hel,?_⟩)
  ·intro k x hx
   rw[cell_row (z2.trans hgc) k]
   have hk:=(List.getElem?_eq_some_iff.1 hx).1
   rw[List.length_take] at hk
   rw[List.getElem?_take_of_lt (by omega)] at hx
   rw[←hx];simp
  ·rw[hvs];exact iC_mk r
theorem swo_of (f:Nat→List Int):Go.Sort.SWO (ltOf fun i j=>cmpL (f i) (f j)):=by
 refine⟨fun x=>by simp[ltOf,cmpL_self],fun x y z h1 h2=>?_,fun x y z h1 h2=>?_⟩
 ·simp only[ltOf,decide_eq_true_eq] at h1 h2 ⊢
  have h3:=cmpL_trans (a:=f x) (b:=f y) (c:=f z) (by omega) (by omega)
  by_cases h4:cmpL (f x) (f z)=0
  ·have e:=cmpL_eq h4
   rw[e] at h1
   have:=cmpL_neg (f z) (f y)
   omega
  ·omega
 ·simp only[ltOf,decide_eq_false_iff_not,Int.not_lt] at h1 h2 ⊢
  have e1:=cmpL_neg (f x) (f y)
  have e2:=cmpL_neg (f y) (f z)
  have e3:=cmpL_neg (f x) (f z)
  have:=cmpL_trans (a:=f z) (b:=f y) (c:=f x) (by omega) (by omega)
  omega
theorem ret_sortR {ρ:Go.Shelf.Ren}(Ly:SlLaysF.n6 P ρ)(hg:isGo P (ρ.f 6)=true){g:Nat}{E2:TypeId}{B:Nat}
  (hgg:isGo P g=true)(hc:CmpRow P g E2 B)
  {n:Nat}(hn:1<n){E:TypeId}{rows:List (List Int)}(hlen:rows.length<4611686018427387904)(hB:∀r∈rows,r.length≤B) :
  Ret P (ρ.f 6) n [.eq n,.fn g []] [.d (.one (.sl true E (rC E2 rows)))] (.tup []) [.d (.one (.sl true E (rC E2 (srtR rows))))]:=by
 refine⟨hg,fun w Z vals γ β M hp=>?_⟩
 obtain⟨v0,v1,rfl⟩:∃v0 v1,vals=[v0,v1]:=by
  have:=hp.len
  match vals,this with
  |[v,u],_=>exact⟨v,u,rfl⟩
 have b0:Nat.blt 0 n=true:=by rw[Nat.blt_eq];omega
 have b1:Nat.blt 1 n=true:=by rw[Nat.blt_eq];exact hn
 have b2:Nat.blt n n=false:=by cases h:Nat.blt n n with|false=>rfl|true=>rw[Nat.blt_eq] at h;omega
 have h0:=hp.ent 0 (.eq n) (by simp[Γin,b0])
 have hf:=hp.ent 1 (.fn g []) (by simp[Γin,b1])
 have h1:=hp.ent n (.d (.one (.sl true E (rC E2 rows)))) (by simp[Γin,b2])
 simp only[EntOk,evi,show 0<n by omega,hn,if_true,Nat.lt_irrefl,if_false,List.map_nil] at h0 h1 hf
 have h0':v0=γ n:=by simpa using h0
 have hf':v1=.func (.func g) #[] #[]:=by simpa using hf
 subst h0' hf'
 simp only[RD] at h1
 have hl:rC E2 rows=[]↔rows=[]:=by simp[rC]
 have mk:∀(w':World) (β1:List Nat),Evo w w' M→(∀b∈β1,b∈β n)→β1.Nodup→RD P w' Z (.one (.sl true E (rC E2 (srtR rows)))) (γ n) β1→
   ∃Z' β',Pos P n w w' Z M γ (.tup []) [.d (.one (.sl true E (rC E2 (srtR rows))))] (.tuple #[]) Z' β':=by
  intro w' β1 hev hsub hnd hrd
  refine⟨Z,fun t=>if t=1 then β1 else[],?_⟩
  exact {
   evo:=hev
   zlt:=fun b hb=>Nat.lt_of_lt_of_le (hp.zlt b hb) hev.size
   zin:=fun _ h=>h
   znew:=fun _ h=>.inl h
   own:=fun t b hb=>by
    by_cases ht:t=1
    ·simp only[ht,if_true] at hb
     have:=hp.own n b (hsub b hb)
     exact⟨Nat.lt_of_lt_of_le this.1 hev.size,this.2.1,.inr this.2.2⟩
    ·simp[ht] at hb
   nodup:=fun t=>by by_cases ht:t=1 <;> simp[ht,hnd]
   disj:=fun t u b htu hb hb'=>by
    by_cases ht:t=1
    ·by_cases hu:u=1
     ·omega
     ·simp[hu] at hb'
    ·simp[ht] at hb
   res:=by simp only[OwnOk,EntOk];exact⟨[],rfl,by simp[RT]⟩
   post:=fun j e he=>by
    match j,he with
    |0,he=>
     simp only[List.getElem?_cons_zero,Option.some.injEq] at he
     subst he
     simp only[OwnOk,EntOk]
     exact hrd}
 by_cases hx0:rows=[]
 ·subst hx0
  have hy:∃p cap,γ n=.slice p 0 cap:=by
   simp only[RC] at h1
   rcases h1 with⟨hy,_⟩|⟨_,_,_,ho,_⟩|⟨g,cap,cur,bs',_,hb,hy,_⟩
   ·exact⟨_,_,hy⟩
   ·cases ho
   ·exact⟨_,_,hy⟩
  obtain⟨p,cap,hy⟩:=hy
  have hs:srtR []=[]:=by simp[srtR]
  have hcl:=AnyF.slices_SortFunc_none (P:=P) (ρ:=ρ) {Ly with} p cap (.func (.func g) #[] #[]) w
  rw[←hy] at hcl
  refine hcl.mono fun e w' ⟨he,hw⟩=>⟨.tuple #[],he,?_⟩
  subst hw
  refine mk _ (β n) (Evo.refl _ _) (fun _ h=>h) (hp.nodup n) ?_
  simp only[RD,hs]
  exact h1
 ·simp only[RC] at h1
  rcases h1 with⟨_,he,_⟩|⟨_,_,_,ho,_⟩|⟨g0,cap,cur,bs',_,hb,hy,hle,hcap,hgc,hsz,hel,hr⟩
  ·exact absurd (hl.1 he) hx0
  ·cases ho
  have h1':szOf P E=1:=by
   obtain⟨x,xs',rfl⟩:=List.exists_cons_of_ne_nil hx0
   have:=hel [.sl true E2 (iC x)] (by simp[rC])
   simpa using this.symm
  have hlr:(rC E2 rows).length=rows.length:=by simp[rC]
  rw[h1',hlr] at hr
  rw[h1'] at hsz
  simp only[Nat.mul_one] at hr hsz
  rw[hlr] at hle hy
  obtain⟨bl,rfl,hv1,hv2,hrc⟩:=rC_rll rows hr
  generalize hvs:cur.toList.take rows.length=hs at hr hv1 hrc
  have hpos:0<rows.length:=List.length_pos_iff.2 hx0
  let fr:Nat→List Int:=fun i=>if i<rows.length then rows.getD i [] else rows.getD 0 []
  let fv:Nat→Value:=fun i=>if i<rows.length then hs.getD i undef else hs.getD 0 undef
  let fb:Nat→List Nat:=fun i=>if i<rows.length then bl.getD i [] else bl.getD 0 []
  have hall:∀i,∃j,j<rows.length∧fr i=rows.getD j []∧fv i=hs.getD j undef∧fb i=bl.getD j []:=by
   intro i
   by_cases hi:i<rows.length
   ·exact⟨i,hi,by simp[fr,hi],by simp[fv,hi],by simp[fb,hi]⟩
   ·exact⟨0,hpos,by simp[fr,hi],by simp[fv,hi],by simp[fb,hi]⟩
  have hRC:∀i,RC P w Z (.sl true E2 (iC (fr i))) (fv i) (fb i)∧(fr i).length≤B∧∀b∈fb i,b∈bl.flatten:=by
   intro i
   obtain⟨j,hj,e1,e2,e3⟩:=hall i
   have g1:rows[j]?=some (rows.getD j []):=by rw[List.getD_eq_getElem?_getD,List.getElem?_eq_getElem hj];rfl
   have g2:hs[j]?=some (hs.getD j undef):=by rw[List.getD_eq_getElem?_getD,List.getElem?_eq_getElem (by omega)];rfl
   have g3:bl[j]?=some (bl.getD j []):=by rw[List.getD_eq_getElem?_getD,List.getElem?_eq_getElem (by omega)];rfl
   rw[e1,e2,e3]
   refine⟨hrc j _ _ _ g1 g2 g3,hB _ (List.mem_of_getElem? g1),fun b hb=>?_⟩
   exact List.mem_flatten.2 ⟨_,List.mem_of_getElem? g3,hb⟩
  have hnd:=hp.nodup n
  rw[hb,List.nodup_cons] at hnd
  have hown:∀b,b∈g0::bl.flatten→b<w.heap.size∧¬Z b∧b∈M:=fun b hb'=>hp.own n b (by rw[hb];exact hb')
  have hfrm:∀i,i<rows.length→(List.range rows.length).toArray[i]! = i:=by
   intro i hi
   rw[getElem!_pos _ i (by simpa using hi)];simp
  have hdsz:(List.range rows.length).toArray.size=rows.length:=by simp
  have hget:∀j,j<rows.length→cur[j]?=some (fv j):=by
   intro j hj
   have g2:hs[j]?=some (hs.getD j undef):=by rw[List.getD_eq_getElem?_getD,List.getElem?_eq_getElem (by omega)];rfl
   rw[←hvs,List.getElem?_take_of_lt hj,Array.getElem?_toList] at g2
   rw[g2]
   simp[fv,hj,hvs]
  have hH:Go.Sort.Holds fv w g0 0 (List.range rows.length).toArray:=by
   intro j hj
   rw[hdsz] at hj
   refine⟨?_,?_⟩
   ·rw[Nat.zero_add,hfrm j hj]
    simp only[World.cell?,hgc,Option.isSome_none,Bool.false_eq_true,if_false]
    exact hget j hj
   ·simp[World.frozen?,hgc]
  have hheap:∀(m:Nat) (os:Array Obj) (dk:Array Nat) b,b<w.heap.size→(sortWorld fv w g0 0 m dk os).heap[b]?=(w.heap[b]?).map (if g0=b then Go.Sort.onCells (Go.Sort.putCells fv 0 dk) else id):=by
   intro m os dk b hb'
   unfold sortWorld
   rw[Go.Sort.heap_grow_old _ _ (by simp[Go.Sort.putRow,Go.Sort.mapBlock,Go.Sort.ahead];exact hb')]
   simp only[Go.Sort.putRow,Go.Sort.mapBlock,Go.Sort.ahead,Array.getElem?_modify]
   by_cases hgb:g0=b
   ·simp[hgb]
   ·simp[hgb]
  have hsame:∀(m:Nat) (os:Array Obj) (dk:Array Nat) b,b<w.heap.size→b≠g0→(sortWorld fv w g0 0 m dk os).heap[b]?=w.heap[b]?:=by
   intro m os dk b hb' hne
   rw[hheap m os dk b hb',if_neg (Ne.symm hne)];simp
  have hsize:∀(m:Nat) (os:Array Obj) (dk:Array Nat),w.heap.size≤(sortWorld fv w g0 0 m dk os).heap.size:=by
   intro m os dk
   unfold sortWorld
   simp[Go.Sort.putRow,Go.Sort.mapBlock,Go.Sort.ahead]
  have hcmp:CmpLays1 P g #[] fv (fun i j=>cmpL (fr i) (fr j)) g0 0 (List.range rows.length).toArray.size w:=by
   intro m os dk _ x y
   obtain⟨hx1,hx2,hx3⟩:=hRC x
   obtain⟨hy1,hy2,hy3⟩:=hRC y
   have inner:∀i,RC P (sortWorld fv w g0 0 m dk os) (fun b=>b∈bl.flatten∨Z b) (.sl false E2 (iC (fr i))) (fv i) []:=by
    intro i
    obtain⟨q1,_,q3⟩:=hRC i
    refine row_share q1 (fun b hb'=>⟨.inl (q3 b hb'),hsame _ _ _ b (hown b (by simp[q3 b hb'])).1 ?_⟩)
    rintro rfl
    exact hnd.1 (q3 b hb')
   exact(hc _ _ _ _ _ _ hx2 hy2 (inner x) (inner y)).mono fun e w' ⟨he,q,hq⟩=>⟨he,q,#[],by rw[hq,Go.Sort.grow_empty]⟩
  have hmain:=Any.slices_SortFunc Ly fv (fun i=>RC.one (hRC i).1) (fun i j=>cmpL (fr i) (fr j)) (swo_of fr) g #[] g0 0 cap (List.range rows.length).toArray w
   (fun args w=>run_callFunc hgg args w) hcmp hH (hown g0 (by simp)).1 (by rw[hdsz];exact hlen)
  rw[hdsz] at hmain
  rw[←hy] at hmain
  refine hmain.mono fun e w' ⟨he,d',m,os,hperm,hsorted,hw⟩=>⟨.tuple #[],he,?_⟩
  subst hw
  obtain⟨hps,_,hpp⟩:=hperm
  rw[hdsz] at hps
  have hpl:d'.toList.Perm (List.range rows.length):=by
   have e1:(d'.extract 0 rows.length).toList=d'.toList:=by rw[←hps];simp
   have e2:((List.range rows.length).toArray.extract 0 rows.length).toList=List.range rows.length:=by simp
   rw[e1,e2] at hpp
   exact hpp
  generalize hp':d'.toList=p at hpl
  have hplen:p.length=rows.length:=by rw[←hp'];simpa using hps
  have hpmem:∀i∈p,i<rows.length:=fun i hi=>List.mem_range.1 (hpl.mem_iff.1 hi)
  have hrange:(List.range rows.length).map fr=rows:=by
   apply List.ext_getElem?
   intro i
   by_cases hi:i<rows.length
   ·simp[fr,hi]
   ·rw[List.getElem?_eq_none (by simp;omega),List.getElem?_eq_none (by omega)]
  have hrows:p.map fr=srtR rows:=by
   refine sort_uniq ?_ ?_ (srtR_sorted rows)
   ·refine((hpl.map fr).trans ?_).trans (srtR_perm rows).symm
    rw[hrange]
   ·rw[List.pairwise_map,List.pairwise_iff_getElem]
    intro i j hi hj hij
    have hs2:=hsorted i j (Nat.zero_le _) hij (by omega)
    have gi:d'[i]! = p[i]:=by rw[getElem!_pos d' i (by omega)];simp[←hp']
    have gj:d'[j]! = p[j]:=by rw[getElem!_pos d' j (by omega)];simp[←hp']
    rw[gi,gj] at hs2
    simp only[ltOf,decide_eq_false_iff_not,Int.not_lt] at hs2
    have:=cmpL_neg (fr p[i]) (fr p[j])
    unfold leL
    omega
  have hblk:(p.flatMap fb).Perm bl.flatten:=by
   refine(hpl.flatMap_right fb).trans ?_
   have:(List.range rows.length).flatMap fb=bl.flatten:=by
    have e:(List.range rows.length).map fb=bl:=by
     apply List.ext_getElem?
     intro i
     by_cases hi:i<rows.length
     ·simp[fb,hi,hv2]
     ·rw[List.getElem?_eq_none (by simp;omega),List.getElem?_eq_none (by omega)]
    rw[List.flatMap_def,e]
   rw[this]
  refine mk _ (g0::p.flatMap fb) ?_ ?_ ?_ ?_
  ·refine⟨rfl,rfl,rfl,hsize _ _ _,fun b hb' hM=>?_,trivial⟩
   ·refine hsame _ _ _ b hb' ?_
    rintro rfl
    exact hM (hown b (by simp)).2.2
  ·intro b hb'
   rw[hb]
   rcases List.mem_cons.1 hb' with rfl|hb'
   ·simp
   ·exact List.mem_cons_of_mem _ (hblk.mem_iff.1 hb')
  ·rw[List.nodup_cons]
   exact⟨fun h=>hnd.1 (hblk.mem_iff.1 h),hblk.nodup_iff.2 hnd.2⟩
  ·simp only[RD,RC]
   have hls:(rC E2 (srtR rows)).length=rows.length:=by simp[rC,(srtR_perm rows).length_eq]
   refine .inr (.inr ⟨g0,cap,Go.Sort.putCells fv 0 d' cur,p.flatMap fb,trivial,rfl,?_,?_,hcap,?_,?_,?_,?_⟩)
   ·rw[hls];exact hy
   ·rw[hls];exact hle
   ·rw[hheap _ _ _ g0 (hown g0 (by simp)).1,hgc];simp[Go.Sort.onCells]
   ·simp[Go.Sort.putCells,hsz,h1']
   ·intro e he
    simp only[rC,List.mem_map] at he
    obtain⟨x,_,rfl⟩:=he
    rw[h1'];rfl
   ·rw[hls,h1',Nat.mul_one]
    have hcells:(Go.Sort.putCells fv 0 d' cur).toList.take rows.length=p.map fv:=by
     apply List.ext_getElem?
     intro j
     by_cases hj:j<rows.length
     ·have hjc:j<cur.size:=(Array.getElem?_eq_some_iff.1 (hget j hj)).1
      rw[List.getElem?_take_of_lt hj,Array.getElem?_toList]
      have gj:d'[j]! = p[j]'(by omega):=by rw[getElem!_pos d' j (by omega)];simp[←hp']
      simp only[Go.Sort.putCells,Array.getElem?_mapIdx,Array.getElem?_eq_getElem hjc,Option.map_some,hps,Nat.zero_le,true_and,Nat.zero_add,hj,if_true,Nat.sub_zero,gj]
      rw[List.getElem?_map,List.getElem?_eq_getElem (by omega),Option.map_some]
     ·rw[List.getElem?_eq_none (by simp;omega),List.getElem?_eq_none (by simp;omega)]
    rw[hcells,←hrows]
    refine rC_mk p (fun i _=>?_)
    obtain⟨q1,_,q3⟩:=hRC i
    refine RC.mono (fun _ h=>h) _ (fun b hb'=>?_) q1
    rcases hb' with hz|hb'
    ·exact hsame _ _ _ b (hp.zlt b hz) (by rintro rfl;exact(hown b (by simp)).2.1 hz)
    ·exact hsame _ _ _ b (hown b (by simp[q3 b hb'])).1 (by rintro rfl;exact hnd.1 (q3 b hb'))
def okR (rows:List (List Int)):Bool:=Nat.blt rows.length 4611686018427387904&&rows.all fun r=>Nat.ble r.length 1073741824
def sortRF (rows:List (List Int)):Option (List (List Int)):=bif okR rows then some (srtR rows) else none
theorem retI_sortR {ρ:Go.Shelf.Ren}(Ly:SlLaysF.n6 P ρ){fn:Func}{n g:Nat}{E E2:TypeId}{h:Hint}{xs r:List (List Int)}(hg:isGo P (ρ.f 6)=true)
  (hgg:isGo P g=true)(hc:CmpRow P g E2 1073741824)
  (hn:1<n)(hv:sortRF xs=some r) :
  RetI P ⟨ρ.f 6,fn,n,[.mu true true E (.sl E2 (.int .i64)),.fn g []],[],[],h,none⟩ ((xs,((),())),()) r:=by
 unfold sortRF at hv
 cases hb:okR xs with
 |false=>rw[hb] at hv;cases hv
 |true=>
  rw[hb] at hv
  cases hv
  unfold okR at hb
  rw[Bool.and_eq_true,List.all_eq_true] at hb
  exact ret_sortR Ly hg hgg hc hn (by simpa using hb.1) (fun r hr=>Nat.le_of_ble_eq_true (hb.2 r hr))
end Go.Proofs.YtkbcahfajbdgnaaGreatDoorT
namespace Go.Proofs.YtkbcahfajbdgnaaGreatDoorT
open Go
theorem Le.out {A:Type}{a b:Option A}(h:Le a b){r:A}(e:a=some r):b=some r:=h r e
section
variable {A B S:Type}
@[simp] theorem joinK_ret (r:A) (f:S→Option A):joinK (some (.ret r)) f=some r:=rfl
@[simp] theorem joinK_go (s:S) (f:S→Option A):joinK (some (.go s)) f=f s:=rfl
@[simp] theorem joinK_none (f:S→Option A):joinK none f=none:=rfl
@[simp] theorem joinK_bind (m:Option B) (g:B→Option (Ex A S)) (f:S→Option A):joinK (m.bind g) f=m.bind fun z=>joinK (g z) f:=by cases m <;> rfl
@[simp] theorem joinK_bif (c:Bool) (a b:Option (Ex A S)) (f:S→Option A):joinK (bif c then a else b) f=bif c then joinK a f else joinK b f:=by cases c <;> rfl
@[simp] theorem joinK_sbif (c:Bool) (a b:Ex A S) (f:S→Option A):joinK (some (bif c then a else b)) f=bif c then joinK (some a) f else joinK (some b) f:=by cases c <;> rfl
@[simp] theorem joinK_ite (c:Prop) [Decidable c] (a b:Option (Ex A S)) (f:S→Option A):joinK (if c then a else b) f=if c then joinK a f else joinK b f:=by split <;> rfl
@[simp] theorem joinK_site (c:Prop) [Decidable c] (a b:Ex A S) (f:S→Option A):joinK (some (if c then a else b)) f=if c then joinK (some a) f else joinK (some b) f:=by split <;> rfl
@[simp] theorem bif_bind (c:Bool) (a b:Option B) (f:B→Option A):(bif c then a else b).bind f=bif c then a.bind f else b.bind f:=by cases c <;> rfl
@[simp] theorem nilx_same (e:Bool) (a:Option A):nilx e a a=a:=by cases e <;> simp[nilx,bothEq]
@[simp] theorem nilx_cons (x:B) (xs:List B) (a b:Option A):nilx (x::xs).isEmpty a b=b:=rfl
@[simp] theorem retM_some (r:A):(retM (some r):Option (Ex A S))=some (.ret r):=rfl
theorem loopF_ind {f:(S→Option A)→S→Option A}(μ:S→Nat) (I:S→Prop) (res:S→A)
  (h:∀s,I s→∀g:S→Option A,(∀s',I s'→μ s'<μ s→g s'=some (res s'))→f g s=some (res s)):∀s,I s→loopF f s=some (res s):=by
 intro s hs
 refine loopF_of (μ s+1) ?_
 have key:∀(k:Nat) (s:S),I s→μ s≤k→∀n,k+1≤n→loopK f n s=some (res s):=by
  intro k
  induction k with
  |zero=>
   intro s hs hm n hn
   obtain⟨m,rfl⟩:∃m,n=m+1:=⟨n-1,by omega⟩
   simp only[loopK]
   exact h s hs _ (fun s' _ hl=>by omega)
  |succ k ih=>
   intro s hs hm n hn
   obtain⟨m,rfl⟩:∃m,n=m+1:=⟨n-1,by omega⟩
   simp only[loopK]
   exact h s hs _ (fun s' hs' hl=>ih s' hs' (by omega) m (by omega))
 exact fun n hn=>key (μ s) s hs (Nat.le_refl _) n hn
def forE {T C:Type}(step:Nat→T→S→Ex A S):List T→Nat→S→(S→C)→(A→C)→C
 |[],_,a,fin,_=>fin a
 |x::xs,i,a,fin,out=>match step i x a with
  |.ret r=>out r
  |.go a'=>forE step xs (i+1) a' fin out
theorem loopF_for {T R S':Type}{f:(S'→Option (Ex R S))→S'→Option (Ex R S)}{l:List T}{st:Nat→S→S'}(I:Nat→S→Prop) (step:Nat→T→S→Ex R S)
  (h1:∀i x a (g:S'→Option (Ex R S)),l[i]?=some x→I i a→f g (st i a)=match step i x a with|.ret r=>some (.ret r)|.go a'=>g (st (i+1) a'))
  (hI:∀i x a a',l[i]?=some x→I i a→step i x a=.go a'→I (i+1) a')
  (h2:∀a (g:S'→Option (Ex R S)),I l.length a→f g (st l.length a)=some (.go a)) :
  ∀a,I 0 a→loopF f (st 0 a)=some (forE step l 0 a Ex.go Ex.ret):=by
 intro a h0
 refine loopF_of (l.length+1) ?_
 have key:∀(xs:List T) (i:Nat) (a:S),l.drop i=xs→i+xs.length=l.length→I i a→∀n,xs.length+1≤n→loopK f n (st i a)=some (forE step xs i a Ex.go Ex.ret):=by
  intro xs
  induction xs with
  |nil=>
   intro i a hd hl hI' n hn
   obtain⟨m,rfl⟩:∃m,n=m+1:=⟨n-1,by omega⟩
   simp only[List.length_nil,Nat.add_zero] at hl
   subst hl
   simp only[loopK,forE]
   exact h2 a _ hI'
  |cons x xs ih=>
   intro i a hd hl hI' n hn
   obtain⟨m,rfl⟩:∃m,n=m+1:=⟨n-1,by omega⟩
   have hx:l[i]?=some x:=by
    have:=congrArg (·[0]?) hd
    simpa using this
   have hd':l.drop (i+1)=xs:=by
    have:=congrArg (·.drop 1) hd
    simpa[List.drop_drop] using this
   simp only[loopK,forE]
   rw[h1 i x a _ hx hI']
   cases hs:step i x a with
   |ret r=>rfl
   |go a'=>
    simp only
    exact ih (i+1) a' hd' (by simp at hl;omega) (hI i x a a' hx hI' hs) m (by simp at hn;omega)
 exact fun n hn=>key l 0 a rfl (by simp) h0 n hn
end
theorem wrap_nat {n:Nat}(h:n<9223372036854775807):IntKind.i64.wrap ((n:Int)+1)=((n+1:Nat):Int):=by
 rw[IntKind.wrap_i64];omega
@[simp] theorem wrap_lit {n:Nat}(h:n≤9223372036854775807):IntKind.i64.wrap (no_index (OfNat.ofNat n:Int))=OfNat.ofNat n:=by
 rw[IntKind.wrap_i64]
 show((n:Int)+_) % _-_=(n:Int)
 omega
@[simp] theorem nat_neg {n:Nat}:decide ((n:Int)<0)=false:=by simp
@[simp] theorem nat_ge {n:Nat}:decide ((n:Int)≥0)=true:=by simp
theorem ix_nat {T:Type}{l:List T}{i:Nat}:ix l (i:Int)=l[i]?:=by simp[ix]
theorem ix_some {T:Type}{l:List T}{i:Nat}{x:T}(h:l[i]?=some x):ix l (i:Int)=some x:=by rw[ix_nat,h]
theorem lt_nat {T:Type}{l:List T}{i:Nat}{x:T}(h:l[i]?=some x):decide ((i:Int)<(l.length:Int))=true:=by
 have:=(List.getElem?_eq_some_iff.1 h).1
 simpa using this
theorem lt_self {n:Nat}:decide ((n:Int)<(n:Int))=false:=by simp
theorem apx_some {T:Type}{xs ys:List T}(h:xs.length+ys.length≤2147483648):apx xs ys=some (xs++ys):=by
 unfold apx
 have:Nat.ble (xs.length+ys.length) 2147483648=true:=by rw[Nat.ble_eq];exact h
 rw[this];rfl
theorem mkx_nat {T:Type}{n:Nat}{z:T}(h:n≤2147483648):mkx (n:Int) z=some (List.replicate n z):=by
 unfold mkx
 have:(decide (0≤(n:Int))&&decide ((n:Int)≤2147483648))=true:=by simp;omega
 rw[this];simp
theorem stx_nat {T:Type}{xs:List T}{i:Nat}{v:T}(h:i<xs.length):stx xs (i:Int) v=some (xs.set i v):=by
 unfold stx
 have:(decide (0≤(i:Int))&&decide ((i:Int)<(xs.length:Int)))=true:=by simp;omega
 rw[this];simp
section
variable {T R S:Type}
def allI (p:Nat→T→Bool):List T→Nat→Bool
 |[],_=>true
 |x::xs,i=>p i x&&allI p xs (i+1)
theorem allI_const (p:T→Bool):∀(l:List T) (i:Nat),allI (fun _=>p) l i=l.all p
 |[],_=>rfl
 |x::xs,i=>by simp[allI,allI_const p xs]
theorem forE_chk (p:Nat→T→Bool) (r0:R){C:Type}(fin:S→C) (out:R→C):∀(l:List T) (i:Nat) (a:S),forE (fun i x a=>bif p i x then Ex.go a else Ex.ret r0) l i a fin out=bif allI p l i then fin a else out r0
 |[],_,_=>rfl
 |x::xs,i,a=>by
  simp only[forE,allI]
  cases p i x
  ·rfl
  ·simp only[cond_true,Bool.true_and];exact forE_chk p r0 fin out xs (i+1) a
theorem loop_chk {f:(S×Int→Option (Ex R S))→S×Int→Option (Ex R S)}(l:List T) (p:Nat→T→Bool) (r0:R)
  (h1:∀(i:Nat) x a (g:S×Int→Option (Ex R S)),l[i]?=some x→f g (a,(i:Int))=bif p i x then g (a,((i+1:Nat):Int)) else some (.ret r0))
  (h2:∀a (g:S×Int→Option (Ex R S)),f g (a,(l.length:Int))=some (.go a)) (a:S) :
  loopF f (a,0)=some (bif allI p l 0 then .go a else .ret r0):=by
 have:=loopF_for (f:=f) (l:=l) (st:=fun i a=>(a,(i:Int))) (fun _ _=>True) (fun i x a=>bif p i x then Ex.go a else Ex.ret r0)
  (fun i x a g hx _=>by rw[h1 i x a g hx];cases p i x <;> rfl) (fun _ _ _ _ _ _ _=>trivial) (fun a g _=>h2 a g) a trivial
 rw[forE_chk] at this
 exact this
def findI (p:T→Bool):List T→Nat→Option Nat
 |[],_=>none
 |x::xs,i=>bif p x then some i else findI p xs (i+1)
theorem forE_find (p:T→Bool) (out':Nat→R){C:Type}(fin:S→C) (out:R→C):∀(l:List T) (i:Nat) (a:S),forE (fun i x a=>bif p x then Ex.ret (out' i) else Ex.go a) l i a fin out=(match findI p l i with|some j=>out (out' j)|none=>fin a)
 |[],_,_=>rfl
 |x::xs,i,a=>by
  simp only[forE,findI]
  cases p x
  ·simp only[cond_false];exact forE_find p out' fin out xs (i+1) a
  ·rfl
theorem loop_find {f:(S×Int→Option (Ex R S))→S×Int→Option (Ex R S)}(l:List T) (p:T→Bool) (out':Nat→R)
  (h1:∀(i:Nat) x a (g:S×Int→Option (Ex R S)),l[i]?=some x→f g (a,(i:Int))=bif p x then some (.ret (out' i)) else g (a,((i+1:Nat):Int)))
  (h2:∀a (g:S×Int→Option (Ex R S)),f g (a,(l.length:Int))=some (.go a)) (a:S) :
  loopF f (a,0)=some (match findI p l 0 with|some j=>.ret (out' j)|none=>.go a):=by
 have:=loopF_for (f:=f) (l:=l) (st:=fun i a=>(a,(i:Int))) (fun _ _=>True) (fun i x a=>bif p x then Ex.ret (out' i) else Ex.go a)
  (fun i x a g hx _=>by rw[h1 i x a g hx];cases p x <;> rfl) (fun _ _ _ _ _ _ _=>trivial) (fun a g _=>h2 a g) a trivial
 rw[forE_find] at this
 exact this
theorem findI_some {p:T→Bool}:∀{l:List T}{i j:Nat},findI p l i=some j→i≤j∧∃x,l[j-i]?=some x∧p x=true
 |[],_,_,h=>by cases h
 |x::xs,i,j,h=>by
  simp only[findI] at h
  cases hp:p x with
  |true=>rw[hp] at h;cases h;exact⟨Nat.le_refl _,x,by simp,hp⟩
  |false=>
   rw[hp] at h
   obtain⟨h1,y,h2,h3⟩:=findI_some h
   refine⟨by omega,y,?_,h3⟩
   rw[show j-i=(j-(i+1))+1 by omega]
   simpa using h2
theorem findI_none {p:T→Bool}:∀{l:List T}{i:Nat},findI p l i=none↔l.any p=false
 |[],_=>by simp[findI]
 |x::xs,i=>by
  simp only[findI,List.any_cons]
  cases p x
  ·simpa using findI_none (l:=xs)
  ·simp
end
def bl (s:ByteArray):List Int:=s.data.toList.map fun b=>(b.toNat:Int)
theorem bl_len (s:ByteArray):(bl s).length=s.size:=by simp[bl]
theorem bix_nat {s:ByteArray}{i:Nat}:bix s (i:Int)=(bl s)[i]?:=by
 unfold bix bt bl
 by_cases h:i<s.size
 ·have hs:i<s.data.toList.length:=h
  have hd:(decide (0≤(i:Int))&&decide ((i:Int)<(s.size:Int)))=true:=by simp;exact h
  rw[hd]
  simp only[cond_true,Int.toNat_natCast,h,dif_pos,List.getElem?_map,List.getElem?_eq_getElem hs]
  rfl
 ·have hd:(decide (0≤(i:Int))&&decide ((i:Int)<(s.size:Int)))=false:=by simp;omega
  rw[hd]
  have:(bl s)[i]?=none:=List.getElem?_eq_none (by rw[bl_len];omega)
  unfold bl at this
  rw[this];rfl
theorem bix_some {s:ByteArray}{i:Nat}{x:Int}(h:(bl s)[i]?=some x):bix s (i:Int)=some x:=by rw[bix_nat,h]
end Go.Proofs.YtkbcahfajbdgnaaGreatDoorT
namespace Go.Proofs.YtkbcahfajbdgnaaGreatDoorX
open Go Go.Proofs.YtkbcahfajbdgnaaGreatDoorT
set_option linter.all false
abbrev Nd:=Int×ByteArray×Int×Int×Int×Bool×List Int×Unit
abbrev Tb:=ByteArray×Int×Unit
abbrev Sp:=Int×Int×Unit
theorem bne_dec (a b:Int):(a != b)=!decide (a=b):=rfl
theorem beq_dec (a b:Int):(a==b)=decide (a=b):=rfl
instance decNd:DecidableEq (Int×ByteArray×Int×Int×Int×Bool×List Int×Unit):=
 haveI:DecidableEq (Int×Int×Bool×List Int×Unit):=inferInstance
 haveI:DecidableEq (ByteArray×Int×Int×Int×Bool×List Int×Unit):=inferInstance
 inferInstance
def okIn (x lo hi:Int):Bool:=decide (lo≤x)&&decide (x≤hi)
theorem okIn_iff {x lo hi:Int}:okIn x lo hi=true↔lo≤x∧x≤hi:=by simp[okIn]
def arity (k:Int):Int:=if k=0 then 0 else if k=3∨k=4 then 2 else if k=1∨k=2∨k=5∨k=6∨k=7 then 1 else -1
section
variable {T R S:Type}
def brkI (p:Nat→T→Option R):List T→Nat→Option R
 |[],_=>none
 |x::xs,i=>match p i x with
  |some r=>some r
  |none=>brkI p xs (i+1)
theorem forE_brk (p:Nat→T→Option R){C:Type}(fin:S→C) (out:R→C):∀(l:List T) (i:Nat) (a:S),forE (fun i x a=>match p i x with|some r=>Ex.ret r|none=>Ex.go a) l i a fin out=(match brkI p l i with|some r=>out r|none=>fin a)
 |[],_,_=>rfl
 |x::xs,i,a=>by
  simp only[forE,brkI]
  cases h:p i x with
  |some r=>rfl
  |none=>simp only;exact forE_brk p fin out xs (i+1) a
theorem loop_brk {f:(S×Int→Option (Ex R S))→S×Int→Option (Ex R S)}(l:List T) (p:Nat→T→Option R)
  (h1:∀(i:Nat) x a (g:S×Int→Option (Ex R S)),l[i]?=some x→f g (a,(i:Int))=match p i x with|some r=>some (.ret r)|none=>g (a,((i+1:Nat):Int)))
  (h2:∀a (g:S×Int→Option (Ex R S)),f g (a,(l.length:Int))=some (.go a)) (a:S) :
  loopF f (a,0)=some (match brkI p l 0 with|some r=>.ret r|none=>.go a):=by
 have:=loopF_for (f:=f) (l:=l) (st:=fun i a=>(a,(i:Int))) (fun _ _=>True) (fun i x a=>match p i x with|some r=>Ex.ret r|none=>Ex.go a)
  (fun i x a g hx _=>by rw[h1 i x a g hx];cases p i x <;> rfl) (fun _ _ _ _ _ _ _=>trivial) (fun a g _=>h2 a g) a trivial
 rw[forE_brk] at this
 exact this
def foldI (step:Nat→T→S→S):List T→Nat→S→S
 |[],_,a=>a
 |x::xs,i,a=>foldI step xs (i+1) (step i x a)
theorem forE_fold (step:Nat→T→S→S){C:Type}(fin:S→C) (out:R→C):∀(l:List T) (i:Nat) (a:S),forE (fun i x a=>(Ex.go (step i x a):Ex R S)) l i a fin out=fin (foldI step l i a)
 |[],_,_=>rfl
 |x::xs,i,a=>by simp only[forE,foldI];exact forE_fold step fin out xs (i+1) _
theorem loop_fold {S':Type}{f:(S'→Option (Ex R S))→S'→Option (Ex R S)}(st:Nat→S→S') (l:List T) (I:Nat→S→Prop) (step:Nat→T→S→S)
  (h1:∀(i:Nat) x a (g:S'→Option (Ex R S)),l[i]?=some x→I i a→f g (st i a)=g (st (i+1) (step i x a)))
  (hI:∀(i:Nat) x a,l[i]?=some x→I i a→I (i+1) (step i x a))
  (h2:∀a (g:S'→Option (Ex R S)),I l.length a→f g (st l.length a)=some (.go a)) (a:S)(h0:I 0 a) :
  loopF f (st 0 a)=some (.go (foldI step l 0 a)):=by
 have:=loopF_for (f:=f) (l:=l) (st:=st) I (fun i x a=>(Ex.go (step i x a):Ex R S))
  (fun i x a g hx hi=>by rw[h1 i x a g hx hi]) (fun i x a a' hx hi h=>by cases h;exact hI i x a hx hi) (fun a g hi=>h2 a g hi) a h0
 rw[forE_fold] at this
 exact this
theorem foldI_const (step:T→S→S):∀(l:List T) (i:Nat) (a:S),foldI (fun _=>step) l i a=l.foldl (fun a x=>step x a) a
 |[],_,_=>rfl
 |x::xs,i,a=>by simp only[foldI,List.foldl_cons];exact foldI_const step xs (i+1) _
theorem loop_map {U:Type}{f:(List U×Int→Option (Ex R (List U)))→List U×Int→Option (Ex R (List U))}(l:List T) (m:T→U)
  (hl:l.length≤2147483648)
  (h1:∀(i:Nat) x (a:List U) (g:List U×Int→Option (Ex R (List U))),l[i]?=some x→a.length=i→f g (a,(i:Int))=g (a++[m x],((i+1:Nat):Int)))
  (h2:∀a (g:List U×Int→Option (Ex R (List U))),f g (a,(l.length:Int))=some (.go a)) :
  loopF f ([],0)=some (.go (l.map m)):=by
 have:=loop_fold (f:=f) (fun i a=>(a,(i:Int))) l (fun i a=>a.length=i) (fun i x a=>a++[m x]) (fun i x a g hx hi=>h1 i x a g hx hi)
  (fun i x a _ hi=>by simp[hi]) (fun a g _=>h2 a g) [] rfl
 rw[foldI_const (fun x a=>a++[m x])] at this
 rw[show((0:Nat):Int)=0 from rfl] at this
 rw[this]
 congr 2
 have key:∀(l:List T) (a:List U),l.foldl (fun a x=>a++[m x]) a=a++l.map m:=by
  intro l
  induction l with
  |nil=>simp
  |cons x xs ih=>intro a;simp[ih]
 rw[key];rfl
theorem foldl_flat {U:Type}(m:T→List U):∀(l:List T) (a:List U),l.foldl (fun a x=>a++m x) a=a++l.flatMap m
 |[],_=>by simp
 |x::xs,a=>by simp[foldl_flat m xs]
end
theorem loop_findC {S C T:Type}{f:(S×Int×C→Option (Ex (Int×C) (S×C)))→S×Int×C→Option (Ex (Int×C) (S×C))}(l:List T) (p:T→Bool) (c:C)
  (h1:∀(i:Nat) x a (g:S×Int×C→Option (Ex (Int×C) (S×C))),l[i]?=some x→f g (a,(i:Int),c)=bif p x then some (.ret ((i:Int),c)) else g (a,((i+1:Nat):Int),c))
  (h2:∀a (g:S×Int×C→Option (Ex (Int×C) (S×C))),f g (a,(l.length:Int),c)=some (.go (a,c))) (a:S) :
  loopF f (a,0,c)=some (match findI p l 0 with|some j=>.ret ((j:Int),c)|none=>.go (a,c)):=by
 have:=loopF_of (f:=f) (s:=(a,0,c)) (r:=match findI p l 0 with|some j=>.ret ((j:Int),c)|none=>.go (a,c)) (l.length+1) (by
  have key:∀(xs:List T) (i:Nat),l.drop i=xs→i+xs.length=l.length→∀n,xs.length+1≤n→loopK f n (a,(i:Int),c)=some (match findI p xs i with|some j=>.ret ((j:Int),c)|none=>.go (a,c)):=by
   intro xs
   induction xs with
   |nil=>
    intro i hd hl n hn
    obtain⟨m,rfl⟩:∃m,n=m+1:=⟨n-1,by omega⟩
    simp only[List.length_nil,Nat.add_zero] at hl
    subst hl
    simp only[loopK,findI]
    exact h2 a _
   |cons x xs ih=>
    intro i hd hl n hn
    obtain⟨m,rfl⟩:∃m,n=m+1:=⟨n-1,by omega⟩
    have hx:l[i]?=some x:=by
     have:=congrArg (·[0]?) hd
     simpa using this
    have hd':l.drop (i+1)=xs:=by
     have:=congrArg (·.drop 1) hd
     simpa[List.drop_drop] using this
    simp only[loopK,findI]
    rw[h1 i x a _ hx]
    cases p x with
    |true=>rfl
    |false=>simp only[cond_false];exact ih (i+1) hd' (by simp at hl;omega) m (by simp at hn;omega)
  exact fun n hn=>key l 0 rfl (by simp) n hn)
 exact this
theorem beq_toList (a b:ByteArray):(a.toList==b.toList)=decide (a=b):=by
 rw[ByteArray.toList_eq,ByteArray.toList_eq]
 by_cases h:a=b
 ·subst h;simp
 ·simp only[h,decide_false,beq_eq_false_iff_ne]
  intro e
  apply h
  cases a;cases b
  simp only at e
  congr 1
  exact Array.toList_inj.1 e
def less (a b:ByteArray):Bool:=Op.bytesLess a.toList b.toList
theorem less_def (a b:ByteArray):Op.bytesLess a.toList b.toList=less a b:=rfl
def lexE:List (Int×Int)→Option Bool
 |[]=>none
 |(x,y)::q=>if x=y then lexE q else some (decide (x<y))
theorem less_lex (a b:ByteArray):less a b=(match lexE ((bl a).zip (bl b)) with|some r=>r|none=>decide ((bl a).length<(bl b).length)):=by
 unfold less bl
 rw[ByteArray.toList_eq,ByteArray.toList_eq]
 generalize a.data.toList=A
 generalize b.data.toList=B
 induction A generalizing B with
 |nil=>cases B <;> simp[Op.bytesLess,lexE]
 |cons x xs ih=>
  cases B with
  |nil=>simp[Op.bytesLess,lexE]
  |cons y ys=>
   simp only[List.map_cons,List.zip_cons_cons,lexE,Op.bytesLess,ih]
   by_cases h:x=y
   ·subst h;simp
   ·have h':¬((x.toNat:Int)=(y.toNat:Int)):=by
     intro e;apply h;exact UInt8.toNat_inj.1 (by omega)
    simp[h,h',UInt8.lt_iff_toNat_lt]
inductive PT where
 |n0 (n:Nd)
 |n1 (n:Nd) (a:PT)
 |n2 (n:Nd) (a b:PT)
namespace PT
def hd:PT→Nd
 |n0 n=>n
 |n1 n _=>n
 |n2 n _ _=>n
def flat:PT→List Nd
 |n0 n=>[n]
 |n1 n a=>n::a.flat
 |n2 n a b=>n::(a.flat++b.flat)
def size:PT→Nat
 |n0 _=>1
 |n1 _ a=>a.size+1
 |n2 _ a b=>a.size+b.size+1
def depth:PT→Nat
 |n0 _=>1
 |n1 _ a=>a.depth+1
 |n2 _ a b=>max a.depth b.depth+1
def ok:PT→Prop
 |n0 n=>arity n.1=0
 |n1 n a=>arity n.1=1∧a.ok
 |n2 n a b=>arity n.1=2∧a.ok∧b.ok
@[simp] theorem len_flat:∀t:PT,t.flat.length=t.size
 |n0 _=>rfl
 |n1 _ a=>by simp[flat,size,len_flat a]
 |n2 _ a b=>by simp[flat,size,len_flat a,len_flat b]
theorem size_pos:∀t:PT,0<t.size
 |n0 _=>by simp[size]
 |n1 _ _=>by simp[size]
 |n2 _ _ _=>by simp[size]
theorem depth_pos:∀t:PT,0<t.depth
 |n0 _=>by simp[depth]
 |n1 _ _=>by simp[depth]
 |n2 _ _ _=>by simp[depth]
theorem flat_hd (t:PT):∃l,t.flat=t.hd::l:=by cases t <;> simp[flat,hd]
end PT
open PT
def parse:Nat→List Nd→Option (PT×List Nd)
 |0,_=>none
 |_+1,[]=>none
 |r+1,n::q=>
  if arity n.1=1 then match parse r q with
   |some (a,q1)=>some (n1 n a,q1)
   |none=>none
  else if arity n.1=2 then match parse r q with
   |some (a,q1)=>match parse r q1 with
    |some (b,q2)=>some (n2 n a b,q2)
    |none=>none
   |none=>none
  else some (n0 n,q)
theorem parse_flat:∀{r:Nat}{l:List Nd}{t:PT}{q:List Nd},parse r l=some (t,q)→(∀n∈l,0≤arity n.1)→l=t.flat++q∧t.ok∧t.depth≤r
 |0,_,_,_,h,_=>by simp[parse] at h
 |r+1,[],_,_,h,_=>by simp[parse] at h
 |r+1,n::l,t,q,h,ha=>by
  have hn:=ha n (by simp)
  have hl:∀m∈l,0≤arity m.1:=fun m hm=>ha m (by simp[hm])
  simp only[parse] at h
  split at h
  ·rename_i h1
   split at h
   ·rename_i a q1 hp
    cases h
    obtain⟨e,ho,hd⟩:=parse_flat hp hl
    exact⟨by simp[flat,e],⟨h1,ho⟩,by simp[depth];omega⟩
   ·cases h
  ·split at h
   ·rename_i h1 h2
    split at h
    ·rename_i a q1 hp
     obtain⟨e,ho,hd⟩:=parse_flat hp hl
     split at h
     ·rename_i b q2 hp2
      cases h
      have hl2:∀m∈q1,0≤arity m.1:=fun m hm=>hl m (by rw[e];simp[hm])
      obtain⟨e2,ho2,hd2⟩:=parse_flat hp2 hl2
      exact⟨by simp[flat,e,e2],⟨h2,ho,ho2⟩,by simp[depth];omega⟩
     ·cases h
    ·cases h
   ·rename_i h1 h2
    cases h
    refine⟨by simp[flat],?_,by simp[depth]⟩
    show arity n.1=0
    revert hn h1 h2
    unfold arity
    split <;> (try split) <;> (try split) <;> simp
theorem flat_parse:∀{t:PT}{r:Nat}{q:List Nd},t.ok→t.depth≤r→parse r (t.flat++q)=some (t,q)
 |n0 n,0,q,_,hd=>by simp[depth] at hd
 |n1 n a,0,q,_,hd=>by simp[depth] at hd
 |n2 n a b,0,q,_,hd=>by simp[depth] at hd
 |n0 n,r+1,q,ho,hd=>by
  have:arity n.1=0:=ho
  simp[flat,parse,this]
 |n1 n a,r+1,q,ho,hd=>by
  obtain⟨h1,h2⟩:=ho
  simp only[depth] at hd
  simp[flat,parse,h1,flat_parse (t:=a) (r:=r) (q:=q) h2 (by omega)]
 |n2 n a b,r+1,q,ho,hd=>by
  obtain⟨h1,h2,h3⟩:=ho
  simp only[depth] at hd
  simp[flat,parse,h1,flat_parse (t:=a) (r:=r) (q:=b.flat++q) h2 (by omega),flat_parse (t:=b) (r:=r) (q:=q) h3 (by omega)]
theorem flat_inj {t u:PT}{q r:List Nd}(ht:t.ok)(hu:u.ok)(h:t.flat++q=u.flat++r):t=u∧q=r:=by
 have h1:=flat_parse (q:=q) ht (show t.depth≤max t.depth u.depth by omega)
 have h2:=flat_parse (q:=r) hu (show u.depth≤max t.depth u.depth by omega)
 rw[h,h2] at h1
 cases h1;exact⟨rfl,rfl⟩
def wordOkL (l:List Int):Bool:=allI (fun i c=>okIn c 97 122||(!(decide (i=0))&&okIn c 48 57)) l 0&&okIn l.length 1 12
def wordOk (w:ByteArray):Bool:=wordOkL (bl w)
def nodeOk (n:Nd):Bool:=
  let (k,name,col,op,num,slot,cols,_):=n
  (decide (k=0)||decide (name=ByteArray.empty))&&(decide (k=2)||decide (cols=[]))&&(decide (k=1)||decide (op=0))&&(!slot||okIn num 0 39)&&
  (if k=0 then wordOk name&&decide (col=0)&&decide (num=0)&&!slot
   else if k=1 then okIn col 0 63&&okIn op 0 3&&okIn num (-1000000) 1000000&&(!decide (op=3)||(decide (num=0)&&!slot))
   else if k=2 then cols.all (fun c=>okIn c 0 63)&&okIn cols.length 1 6&&decide (col=0)&&decide (num=0)&&!slot
   else if k=3 then okIn col 0 63&&okIn num 0 63&&!slot
   else if k=5 then okIn col 0 63&&decide (num=0)&&!slot
   else if k=6 then decide (col=0)&&okIn num 0 1000000
   else if k=4∨k=7 then decide (col=0)&&decide (num=0)&&!slot
   else false)
theorem nodeOk_arity {n:Nd}(h:nodeOk n=true):0≤arity n.1:=by
 obtain⟨k,name,col,op,num,slot,cols,u⟩:=n
 simp only[nodeOk] at h
 unfold arity
 simp only
 repeat' split
 all_goals first
  |omega
  |(exfalso;simp_all)
def planT (p:List Nd):Option PT:=
 if okIn p.length 1 40=true∧p.all nodeOk=true then match parse 10 p with
  |some (t,[])=>some t
  |_=>none
 else none
def planOk (p:List Nd):Bool:=(planT p).isSome
structure PlanT (t:PT):Prop where
 ok:t.ok
 deep:t.depth≤10
 size:t.size≤40
 nodes:∀n∈t.flat,nodeOk n=true
theorem planT_some {p:List Nd}{t:PT}(h:planT p=some t):PlanT t∧p=t.flat:=by
 unfold planT at h
 split at h
 ·rename_i hc
  obtain⟨h1,h2⟩:=hc
  split at h
  ·rename_i t' hp
   cases h
   have hn:∀n∈p,nodeOk n=true:=by simpa using h2
   obtain⟨e,ho,hd⟩:=parse_flat hp (fun n hm=>nodeOk_arity (hn n hm))
   simp only[List.append_nil] at e
   subst e
   refine⟨⟨ho,hd,?_,hn⟩,rfl⟩
   have:=(okIn_iff.1 h1).2
   simp only[len_flat] at this
   omega
  ·cases h
 ·cases h
theorem planT_flat {t:PT}(h:PlanT t):planT t.flat=some t:=by
 unfold planT
 have h1:okIn t.flat.length 1 40=true:=by
  rw[okIn_iff]
  have:=h.size
  have:=t.size_pos
  simp only[len_flat]
  omega
 have h2:t.flat.all nodeOk=true:=by simpa using h.nodes
 rw[if_pos ⟨h1,h2⟩]
 have:=flat_parse (q:=[]) h.ok h.deep
 simp only[List.append_nil] at this
 rw[this]
theorem planOk_iff {p:List Nd}:planOk p=true↔∃t,PlanT t∧p=t.flat:=by
 unfold planOk
 constructor
 ·intro h
  obtain⟨t,ht⟩:=Option.isSome_iff_exists.1 h
  exact⟨t,planT_some ht⟩
 ·rintro⟨t,ht,rfl⟩
  rw[planT_flat ht];rfl
def At (p:List Nd) (k:Nat) (t:PT):Prop:=∃q,p.drop k=t.flat++q
theorem At.hd {p:List Nd}{k:Nat}{t:PT}(h:At p k t):p[k]?=some t.hd:=by
 obtain⟨q,h⟩:=h
 obtain⟨l,hl⟩:=t.flat_hd
 have:=congrArg (·[0]?) h
 simpa[hl] using this
theorem At.le {p:List Nd}{k:Nat}{t:PT}(h:At p k t):k+t.size≤p.length:=by
 obtain⟨q,h⟩:=h
 have:=congrArg List.length h
 simp at this
 have:=t.size_pos
 omega
theorem At.c1 {p:List Nd}{k:Nat}{n:Nd}{a:PT}(h:At p k (n1 n a)):At p (k+1) a:=by
 obtain⟨q,h⟩:=h
 refine⟨q,?_⟩
 have:=congrArg (·.drop 1) h
 simpa[List.drop_drop,flat] using this
theorem At.l2 {p:List Nd}{k:Nat}{n:Nd}{a b:PT}(h:At p k (n2 n a b)):At p (k+1) a:=by
 obtain⟨q,h⟩:=h
 refine⟨b.flat++q,?_⟩
 have:=congrArg (·.drop 1) h
 simpa[List.drop_drop,flat] using this
theorem At.r2 {p:List Nd}{k:Nat}{n:Nd}{a b:PT}(h:At p k (n2 n a b)):At p (k+1+a.size) b:=by
 obtain⟨q,h⟩:=h
 refine⟨q,?_⟩
 have:=congrArg (·.drop (1+a.size)) h
 rw[List.drop_drop] at this
 rw[show k+1+a.size=k+(1+a.size) by omega,this]
 have e:(n2 n a b).flat++q=(n::a.flat)++(b.flat++q):=by simp[flat]
 rw[e,List.drop_append_of_le_length (by simp;omega)]
 have:(n::a.flat).drop (1+a.size)=[]:=List.drop_eq_nil_of_le (by simp;omega)
 rw[this];rfl
theorem At.root (t:PT):At t.flat 0 t:=⟨[],by simp⟩
theorem At.rest {p:List Nd}{k:Nat}{t:PT}(h:At p k t):p.drop k=t.flat++p.drop (k+t.size):=by
 obtain⟨q,h⟩:=h
 rw[h,←List.drop_drop,h]
 simp
theorem At.split {p:List Nd}{k:Nat}{t:PT}(h:At p k t):p=p.take k++t.flat++p.drop (k+t.size):=by
 rw[List.append_assoc,←h.rest,List.take_append_drop]
theorem At.nodes {p:List Nd}{k:Nat}{t:PT}(h:At p k t){n:Nd}(hn:n∈t.flat):n∈p:=by
 rw[h.split];simp[hn]
theorem At.part {p:List Nd}{k:Nat}{t:PT}(h:At p k t):(p.take (k+t.size)).drop k=t.flat:=by
 have h1:=h.rest
 have h2:(p.drop k).take t.size=t.flat:=by
  rw[h1,List.take_append_of_le_length (by simp),List.take_of_length_le (by simp)]
 rw[List.drop_take]
 simpa using h2
end Go.Proofs.YtkbcahfajbdgnaaGreatDoorX
namespace Go.Proofs.YtkbcahfajbdgnaaGreatDoorX
open Go Go.Proofs.YtkbcahfajbdgnaaGreatDoorT
set_option linter.all false
section
variable {T:Type}
theorem ix_set {v:List T}{i:Nat}{y:T}(h:i<v.length):ix (v.set i y) (i:Int)=some y:=by
 rw[ix_nat,List.getElem?_set_self h]
end
end Go.Proofs.YtkbcahfajbdgnaaGreatDoorX
namespace Go.Proofs.YtkbcahfajbdgnaaGreatDoorT
open Go
section
variable {T:Type}{key:T→Int}
def Same (key:T→Int) (xs ys:List T):Prop:=∀v:Int,xs.filter (fun x=>key x==v)=ys.filter (fun x=>key x==v)
def Srt (key:T→Int) (xs:List T):Prop:=xs.Pairwise fun a b=>key a≤key b
theorem Same.refl (xs:List T):Same key xs xs:=fun _=>rfl
theorem Same.symm {xs ys:List T}(h:Same key xs ys):Same key ys xs:=fun v=>(h v).symm
theorem Same.trans {xs ys zs:List T}(h:Same key xs ys) (k:Same key ys zs):Same key xs zs:=fun v=>(h v).trans (k v)
theorem Same.app {xs xs' ys ys':List T}(h:Same key xs xs') (k:Same key ys ys'):Same key (xs++ys) (xs'++ys'):=fun v=>by
 rw[List.filter_append,List.filter_append,h v,k v]
theorem Same.mem {xs ys:List T}(h:Same key xs ys){x:T}(hx:x∈xs):x∈ys:=by
 have:x∈xs.filter (fun z=>key z==key x):=List.mem_filter.2 ⟨hx,by simp⟩
 rw[h (key x)] at this
 exact(List.mem_filter.1 this).1
theorem Same.swap {xs ys:List T}(h:∀x∈xs,∀y∈ys,key x≠key y):Same key (xs++ys) (ys++xs):=fun v=>by
 rw[List.filter_append,List.filter_append]
 by_cases he:∃x∈xs,key x=v
 ·obtain⟨x,hx,rfl⟩:=he
  have:ys.filter (fun z=>key z==key x)=[]:=List.filter_eq_nil_iff.2 fun y hy=>by
   have:=h x hx y hy
   simp;omega
  rw[this];simp
 ·have:xs.filter (fun z=>key z==v)=[]:=List.filter_eq_nil_iff.2 fun x hx=>by
   have:key x≠v:=fun hv=>he ⟨x,hx,hv⟩
   simpa using this
  rw[this];simp
theorem Srt.uniq:∀{xs ys:List T},Srt key xs→Srt key ys→Same key xs ys→xs=ys
 |[],[],_,_,_=>rfl
 |[],y::ys,_,_,h=>by have:=h.symm.mem (List.mem_cons_self (a:=y) (l:=ys));cases this
 |x::xs,[],_,_,h=>by have:=h.mem (List.mem_cons_self (a:=x) (l:=xs));cases this
 |x::xs,y::ys,hx,hy,h=>by
  have h1:=h.mem (List.mem_cons_self (a:=x) (l:=xs))
  have h2:=h.symm.mem (List.mem_cons_self (a:=y) (l:=ys))
  unfold Srt at hx hy
  rw[List.pairwise_cons] at hx hy
  have h3:key y≤key x:=by
   rcases List.mem_cons.1 h1 with rfl|h1
   ·omega
   ·exact hy.1 _ h1
  have h4:key x≤key y:=by
   rcases List.mem_cons.1 h2 with rfl|h2
   ·omega
   ·exact hx.1 _ h2
  have h5:key y=key x:=by omega
  have h6:=h (key x)
  rw[List.filter_cons_of_pos (by simp),List.filter_cons_of_pos (by simp[h5])] at h6
  have h7:x=y:=(List.cons.inj h6).1
  subst h7
  rw[Srt.uniq hx.2 hy.2 fun v=>?_]
  have h8:=h v
  rw[List.filter_cons,List.filter_cons] at h8
  split at h8
  ·exact(List.cons.inj h8).2
  ·exact h8
def insS (key:T→Int) (x:T):List T→List T
 |[]=>[x]
 |y::ys=>bif decide (key x<key y) then x::y::ys else y::insS key x ys
def srt (key:T→Int) (xs:List T):List T:=xs.foldl (fun out x=>insS key x out) []
theorem insS_mem {x z:T}:∀{out:List T},z∈insS key x out↔z=x∨z∈out
 |[]=>by simp[insS]
 |y::ys=>by
  simp only[insS]
  cases decide (key x<key y) with
  |true=>simp
  |false=>simp only[cond_false,List.mem_cons,insS_mem];grind
theorem insS_len {x:T}:∀{out:List T},(insS key x out).length=out.length+1
 |[]=>rfl
 |y::ys=>by
  simp only[insS]
  cases decide (key x<key y) with
  |true=>simp
  |false=>simp[insS_len]
theorem insS_ok {x:T}:∀{out:List T},Srt key out→Srt key (insS key x out)∧Same key (out++[x]) (insS key x out)
 |[],_=>⟨by simp[insS,Srt],fun _=>rfl⟩
 |y::ys,h=>by
  have h0:=h
  unfold Srt at h
  rw[List.pairwise_cons] at h
  simp only[insS]
  cases hd:decide (key x<key y) with
  |true=>
   have hd:=of_decide_eq_true hd
   refine⟨?_,?_⟩
   ·simp only[cond_true]
    refine List.pairwise_cons.2 ⟨fun z hz=>?_,h0⟩
    rcases List.mem_cons.1 hz with rfl|hz
    ·omega
    ·have:=h.1 z hz;omega
   ·refine Same.swap (ys:=[x]) fun z hz w hw=>?_
    rw[List.mem_singleton.1 hw]
    rcases List.mem_cons.1 hz with rfl|hz
    ·omega
    ·have:=h.1 z hz;omega
  |false=>
   have hd:=of_decide_eq_false hd
   obtain⟨h1,h2⟩:=insS_ok h.2 (x:=x)
   refine⟨List.pairwise_cons.2 ⟨fun z hz=>?_,h1⟩,?_⟩
   ·rcases insS_mem.1 hz with rfl|hz
    ·omega
    ·exact h.1 z hz
   ·exact Same.app (Same.refl [y]) h2
theorem srt_snoc (xs:List T) (x:T):srt key (xs++[x])=insS key x (srt key xs):=by simp[srt]
theorem srt_ok (xs:List T):Srt key (srt key xs)∧Same key xs (srt key xs)∧(srt key xs).length=xs.length:=by
 suffices h:∀(n:Nat) (xs:List T),xs.length=n→Srt key (srt key xs)∧Same key xs (srt key xs)∧(srt key xs).length=xs.length from h _ xs rfl
 intro n
 induction n with
 |zero=>
  intro xs h
  have:=List.length_eq_zero_iff.1 h
  subst this
  exact⟨by simp[srt,Srt],fun _=>rfl,rfl⟩
 |succ n ih=>
  intro xs h
  rcases List.eq_nil_or_concat xs with rfl|⟨xs,x,rfl⟩
  ·cases h
  rw[List.concat_eq_append] at *
  have ih:=ih xs (by simpa using h)
  rw[srt_snoc]
  obtain⟨h1,h2⟩:=insS_ok ih.1 (x:=x)
  exact⟨h1,(Same.app ih.2.1 (Same.refl [x])).trans h2,by rw[insS_len,ih.2.2];simp⟩
theorem srt_len (xs:List T):(srt key xs).length=xs.length:=(srt_ok xs).2.2
theorem srt_of {xs m:List T}(h:Srt key m)(hs:Same key xs m):m=srt key xs:=Srt.uniq h (srt_ok xs).1 (hs.symm.trans (srt_ok xs).2.1)
theorem srt_mem {xs:List T}{x:T}:x∈srt key xs↔x∈xs:=⟨(srt_ok xs).2.1.symm.mem,(srt_ok xs).2.1.mem⟩
theorem srt_self {xs:List T}(h:Srt key xs):srt key xs=xs:=(srt_of h (Same.refl xs)).symm
theorem Srt.app {xs ys:List T}(h1:Srt key xs)(h2:Srt key ys)(h:∀x∈xs,∀y∈ys,key x≤key y):Srt key (xs++ys):=List.pairwise_append.2 ⟨h1,h2,h⟩
theorem Srt.parts {xs ys:List T}(h:Srt key (xs++ys)):Srt key xs∧Srt key ys∧∀x∈xs,∀y∈ys,key x≤key y:=List.pairwise_append.1 h
theorem srt_halves {l1 l2 r1 r2:List T}(hl:Srt key (l1++l2))(hr:Srt key (r1++r2))(h1:∀y∈r1,∀x∈l2,key y<key x)(h2:∀x∈l1,∀y∈r2,key x≤key y) :
  srt key (l1++r1)++srt key (l2++r2)=srt key ((l1++l2)++(r1++r2)):=by
 obtain⟨a1,a2,a3⟩:=hl.parts
 obtain⟨b1,b2,b3⟩:=hr.parts
 refine srt_of (Srt.app (srt_ok _).1 (srt_ok _).1 ?_) ?_
 ·intro x hx y hy
  rcases List.mem_append.1 (srt_mem.1 hx) with hx|hx <;> rcases List.mem_append.1 (srt_mem.1 hy) with hy|hy
  ·exact a3 x hx y hy
  ·exact h2 x hx y hy
  ·have:=h1 x hx y hy;omega
  ·exact b3 x hx y hy
 ·refine Same.trans ?_ (Same.app (srt_ok (l1++r1)).2.1 (srt_ok (l2++r2)).2.1)
  have h3:Same key (l2++r1) (r1++l2):=Same.swap fun x hx y hy=>by have:=h1 y hy x hx;omega
  have:=Same.app (Same.refl (key:=key) l1) (Same.app h3 (Same.refl r2))
  simpa[List.append_assoc] using this
end
theorem ix_mid {T:Type}{X Z:List T}{x:T}{i:Int}(h:i=(X.length:Int)):ix (X++x::Z) i=some x:=by
 subst h;exact ix_some (by simp)
theorem ix_hi {T:Type}{X Y Z:List T}{x y:T}{i:Int}(h:i=(X.length:Int)+1+(Y.length:Int)):ix (X++x::(Y++y::Z)) i=some y:=by
 have:X++x::(Y++y::Z)=(X++x::Y)++y::Z:=by simp
 rw[this]
 exact ix_mid (by rw[h];simp;omega)
theorem stx_mid {T:Type}{X Z:List T}{x v:T}{i:Int}(h:i=(X.length:Int)):stx (X++x::Z) i v=some (X++v::Z):=by
 subst h;rw[stx_nat (by simp)];simp
theorem stx_hi {T:Type}{X Y Z:List T}{x y v:T}{i:Int}(h:i=(X.length:Int)+1+(Y.length:Int)):stx (X++x::(Y++y::Z)) i v=some (X++x::(Y++v::Z)):=by
 have:∀v,X++x::(Y++v::Z)=(X++x::Y)++v::Z:=by simp
 rw[this,this]
 exact stx_mid (by rw[h];simp;omega)
theorem wrap_in {x:Int}(h1:-9223372036854775808≤x)(h2:x≤9223372036854775807):IntKind.i64.wrap x=x:=by
 rw[IntKind.wrap_i64];omega
theorem shr_half {x:Int}(h1:0≤x)(h2:x≤9223372036854775807):shrV .u64 (IntKind.u64.wrap x) 1=some (x / 2):=by
 have:IntKind.u64.wrap x=x:=by simp[IntKind.wrap,IntKind.bits,IntKind.signed];omega
 rw[this]
 simp[shrV,IntKind.bits,Int.fdiv_eq_ediv_of_nonneg]
theorem loopF_tail {A S:Type}{f:(S→Option A)→S→Option A}(μ:S→Nat) (I:S→Prop) (R:A→Prop)
  (h:∀s,I s→(∃r,R r∧∀g:S→Option A,f g s=some r)∨(∃s',I s'∧μ s'<μ s∧∀g:S→Option A,f g s=g s')):∀s,I s→∃r,loopF f s=some r∧R r:=by
 have key:∀(k:Nat) (s:S),I s→μ s≤k→∃r,R r∧∀n,k+1≤n→loopK f n s=some r:=by
  intro k
  induction k with
  |zero=>
   intro s hs hm
   rcases h s hs with⟨r,hr,hg⟩|⟨s',_,hl,_⟩
   ·refine⟨r,hr,fun n hn=>?_⟩
    obtain⟨m,rfl⟩:∃m,n=m+1:=⟨n-1,by omega⟩
    simp only[loopK]
    exact hg _
   ·omega
  |succ k ih=>
   intro s hs hm
   rcases h s hs with⟨r,hr,hg⟩|⟨s',hs',hl,hg⟩
   ·refine⟨r,hr,fun n hn=>?_⟩
    obtain⟨m,rfl⟩:∃m,n=m+1:=⟨n-1,by omega⟩
    simp only[loopK]
    exact hg _
   ·obtain⟨r,hr,hn⟩:=ih s' hs' (by omega)
    refine⟨r,hr,fun n hn'=>?_⟩
    obtain⟨m,rfl⟩:∃m,n=m+1:=⟨n-1,by omega⟩
    simp only[loopK]
    rw[hg]
    exact hn m (by omega)
 intro s hs
 obtain⟨r,hr,hn⟩:=key (μ s) s hs (Nat.le_refl _)
 exact⟨r,loopF_of (μ s+1) hn,hr⟩
end Go.Proofs.YtkbcahfajbdgnaaGreatDoorT
namespace Go.Proofs.YtkbcahfajbdgnaaGreatDoorT
open Go
set_option linter.all false
def Ok {A:Type}(m:Option A) (Q:A→Prop):Prop:=∃a,m=some a∧Q a
def OkG {X A:Type}(G:X→Prop) (m:X→Option A) (Q:A→Prop):Prop:=∃a,(∀g,G g→m g=some a)∧Q a
section
variable {X A B S:Type}{G:X→Prop}{Q:A→Prop}{R:B→Prop}
theorem Ok.of {m:Option A}(h:Ok m Q):OkG G (fun _=>m) Q:=by
 obtain⟨a,h1,h2⟩:=h
 exact⟨a,fun _ _=>h1,h2⟩
theorem OkG.out {m:Option A}(h:OkG (fun _:Unit=>True) (fun _=>m) Q):Ok m Q:=by
 obtain⟨a,h1,h2⟩:=h
 exact⟨a,h1 () trivial,h2⟩
theorem OkG.bind {m:X→Option A}{f:X→A→Option B}(h:OkG G m Q) (k:∀a,Q a→OkG G (fun g=>f g a) R):OkG G (fun g=>(m g).bind (f g)) R:=by
 obtain⟨a,h1,h2⟩:=h
 obtain⟨b,h3,h4⟩:=k a h2
 exact⟨b,fun g hg=>by dsimp only;rw[h1 g hg];exact h3 g hg,h4⟩
theorem OkG.call {m:Option A}{f:X→A→Option B}(h:Ok m Q) (k:∀a,Q a→OkG G (fun g=>f g a) R):OkG G (fun g=>m.bind (f g)) R:=
 OkG.bind (m:=fun _=>m) h.of k
theorem OkG.val {a:A}(h:Q a):OkG G (fun _=>some a) Q:=⟨a,fun _ _=>rfl,h⟩
theorem OkG.bif {c:Bool}{m n:X→Option A}(h1:c=true→OkG G m Q)(h2:c=false→OkG G n Q):OkG G (fun g=>bif c then m g else n g) Q:=by
 cases c
 ·exact h2 rfl
 ·exact h1 rfl
theorem OkG.join {m:X→Option (Ex B S)}{f:X→S→Option B}(W:S→Prop)(h:OkG G m (fun x=>match x with|.ret r=>R r|.go s=>W s)) (k:∀s,W s→OkG G (fun g=>f g s) R):OkG G (fun g=>joinK (m g) (f g)) R:=by
 obtain⟨x,h1,h2⟩:=h
 cases x with
 |ret r=>exact⟨r,fun g hg=>by dsimp only;rw[h1 g hg];rfl,h2⟩
 |go s=>
  obtain⟨b,h3,h4⟩:=k s h2
  exact⟨b,fun g hg=>by dsimp only;rw[h1 g hg];exact h3 g hg,h4⟩
theorem OkG.mono {Q':A→Prop}{m:X→Option A}(h:OkG G m Q) (k:∀a,Q a→Q' a):OkG G m Q':=by
 obtain⟨a,h1,h2⟩:=h
 exact⟨a,h1,k a h2⟩
theorem Ok.loop {f:(S→Option A)→S→Option A}(μ:S→Nat) (I:S→Prop)
  (h:∀s,I s→∀G:(S→Option A)→Prop,(∀s',I s'→μ s'<μ s→OkG G (fun g=>g s') Q)→OkG G (fun g=>f g s) Q):∀s,I s→Ok (loopF f s) Q:=by
 have key:∀k:Nat,∃res:S→Option A,∀s,I s→μ s<k→∃r,res s=some r∧Q r∧∀n,k≤n→loopK f n s=some r:=by
  intro k
  induction k with
  |zero=>exact⟨fun _=>none,fun s _ hs=>by omega⟩
  |succ k ih=>
   obtain⟨res,hr⟩:=ih
   refine⟨fun s=>f res s,fun s hs hm=>?_⟩
   obtain⟨r,h1,h2⟩:=h s hs (fun g=>∀s',I s'→μ s'<μ s→g s'=res s') (fun s' hs' hm'=>by
    obtain⟨r',e1,e2,_⟩:=hr s' hs' (by omega)
    exact⟨r',fun g hg=>by dsimp only;rw[hg s' hs' hm',e1],e2⟩)
   refine⟨r,h1 res (fun _ _ _=>rfl),h2,fun n hn=>?_⟩
   obtain⟨m,rfl⟩:∃m,n=m+1:=⟨n-1,by omega⟩
   simp only[loopK]
   refine h1 _ fun s' hs' hm'=>?_
   obtain⟨r',e1,_,e3⟩:=hr s' hs' (by omega)
   rw[e3 m (by omega),e1]
 intro s hs
 obtain⟨res,hr⟩:=key (μ s+1)
 obtain⟨r,_,h2,h3⟩:=hr s hs (by omega)
 exact⟨r,loopF_of (μ s+1) h3,h2⟩
theorem Ok.eq {m:Option A}{a:A}(h:m=some a) (q:Q a):Ok m Q:=⟨a,h,q⟩
theorem Le.ok {a b:Option A}(h:Le a b) (k:Ok a Q):Ok b Q:=by
 obtain⟨x,h1,h2⟩:=k
 exact⟨x,h x h1,h2⟩
end
end Go.Proofs.YtkbcahfajbdgnaaGreatDoorT
