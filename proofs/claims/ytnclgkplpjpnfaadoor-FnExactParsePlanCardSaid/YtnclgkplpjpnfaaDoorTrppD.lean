/- Rules over any program: data as trees of cells, an evaluator that is checked once, and plain words. -/
import Derived.Test.YtnclgkplpjpnfaaDoorTrppC
set_option linter.all false
namespace Go.Proofs.YtnclgkplpjpnfaaDoorT
open Go
def EvO {A:Type}(f:Nat→Option A) (o:Option A):Prop:=∀r,o=some r→∃k,∀n,k≤n→f n=some r
section
variable {A B S:Type}
theorem EvO.const (x:Option A):EvO (fun _=>x) x:=fun r h=>⟨0,fun _ _=>h⟩
theorem EvO.none {f:Nat→Option A}:EvO f none:=fun r h=>by cases h
theorem EvO.bind {m:Nat→Option B}{o:Option B}{g:Nat→B→Option A}{h:B→Option A}(hm:EvO m o)(hg:∀x,EvO (fun n=>g n x) (h x)):EvO (fun n=>(m n).bind (g n)) (o.bind h):=by
 intro r hr
 cases o with
 |none=>cases hr
 |some x=>
  obtain⟨k1,h1⟩:=hm x rfl
  obtain⟨k2,h2⟩:=hg x r hr
  exact⟨max k1 k2,fun n hn=>by simp only[h1 n (show k1≤n by omega)];exact h2 n (by omega)⟩
theorem EvO.bif {c:Bool}{f g:Nat→Option A}{x y:Option A}(h1:EvO f x)(h2:EvO g y):EvO (fun n=>bif c then f n else g n) (bif c then x else y):=by
 cases c
 ·exact h2
 ·exact h1
theorem EvO.nilx {c:Bool}{f g:Nat→Option A}{x y:Option A}(h1:EvO f x)(h2:EvO g y):EvO (fun n=>nilx c (f n) (g n)) (nilx c x y):=by
 intro r hr
 obtain⟨hy,hx⟩:=nilx_some hr
 obtain⟨k2,e2⟩:=h2 r hy
 cases c with
 |false=>exact⟨k2,fun n hn=>e2 n hn⟩
 |true=>
  obtain⟨k1,e1⟩:=h1 r (hx rfl)
  refine⟨max k1 k2,fun n hn=>?_⟩
  simp[YtnclgkplpjpnfaaDoorT.nilx,bothEq,e1 n (by omega),e2 n (by omega)]
theorem EvO.eqf {f g:Nat→Option A}{o:Option A}(h:EvO f o) (e:∀n,f n=g n):EvO g o:=by
 have:f=g:=funext e
 rw[←this];exact h
theorem loop_ev {f:Nat→(S→Option A)→S→Option A}{f':(S→Option A)→S→Option A}(hf:∀(g:Nat→S→Option A) (g':S→Option A),(∀s,EvO (fun n=>g n s) (g' s))→∀s,EvO (fun n=>f n (g n) s) (f' g' s)) :
  ∀(k:Nat) (N:Nat→Nat) (_:∀c,∃m,∀n,m≤n→c≤N n) (s:S),EvO (fun n=>loopK (f n) (N n) s) (loopK f' k s)
 |0,N,_,s=>EvO.none
 |k+1,N,hN,s=>by
  intro r hr
  simp only[loopK] at hr
  obtain⟨k1,h1⟩:=hf (fun n=>loopK (f n) (N n-1)) (loopK f' k) (loop_ev hf k (fun n=>N n-1) (fun c=>by obtain⟨m,hm⟩:=hN (c+1);exact⟨m,fun n hn=>by have:=hm n hn;omega⟩)) s r hr
  obtain⟨k2,h2⟩:=hN 1
  refine⟨max k1 k2,fun n hn=>?_⟩
  have h3:=h1 n (by omega)
  have h4:=h2 n (by omega)
  obtain⟨m,hm⟩:∃m,N n=m+1:=⟨N n-1,by omega⟩
  simp only[hm] at h3 ⊢
  exact h3
open Classical in
noncomputable def loopF (f:(S→Option A)→S→Option A) (s:S):Option A:=
 if h:∃r k,∀n,k≤n→loopK f n s=some r then some h.choose else none
theorem loopF_some {f:(S→Option A)→S→Option A}{s:S}{r:A}(h:loopF f s=some r):∃k,∀n,k≤n→loopK f n s=some r:=by
 unfold loopF at h
 split at h
 ·rename_i h'
  cases h
  exact h'.choose_spec
 ·cases h
theorem loopF_of {f:(S→Option A)→S→Option A}{s:S}{r:A}(k:Nat)(h:∀n,k≤n→loopK f n s=some r):loopF f s=some r:=by
 have h':∃r k,∀n,k≤n→loopK f n s=some r:=⟨r,k,h⟩
 unfold loopF
 rw[dif_pos h']
 obtain⟨k',hk'⟩:=h'.choose_spec
 have:=hk' (max k k') (by omega)
 rw[h (max k k') (by omega)] at this
 rw[Option.some.inj this]
end
noncomputable def lpF:Lp:=fun f s=>loopF f s
section
variable {A:Type}
def tstW (n:Nat) (Γ G:SCtx) (c:Operand):Option (Bool×SCtx):=tst n Γ G c fun b Γ'=>some (b,Γ')
theorem tst_nat {n:Nat}{Γ G:SCtx}{c:Operand}{k:Bool→SCtx→Option A}:tst n Γ G c k=(tstW n Γ G c).bind fun p=>k p.1 p.2:=by
 unfold tstW tst
 cases c with
 |tmp t=>
  simp only
  cases Nat.blt t n with
  |false=>rfl
  |true=>
   simp only[cond_true]
   cases lk Γ t with
   |some e=>
    simp only
    cases e.sc with
    |none=>rfl
    |some s=>cases s with
     |bool b=>cases b <;> rfl
     |_=>rfl
   |none=>
    simp only
    cases lk G t with
    |none=>rfl
    |some e=>
     simp only
     cases e.sc with
     |none=>rfl
     |some s=>cases s with
      |bool b=>cases b <;> rfl
      |_=>rfl
 |const l=>cases l with
  |bool b=>cases b <;> rfl
  |_=>rfl
 |_=>rfl
theorem tst_ev {n:Nat}{Γ G:SCtx}{c:Operand}{k:Nat→Bool→SCtx→Option A}{k':Bool→SCtx→Option A}(h:∀b Γ',EvO (fun m=>k m b Γ') (k' b Γ')):EvO (fun m=>tst n Γ G c (k m)) (tst n Γ G c k'):=by
 simp only[tst_nat]
 exact EvO.bind (EvO.const _) (fun p=>h p.1 p.2)
def Dy.run (d:Option Dy) (k:List SUp→Option A):Option A:=match d with
 |some d=>d.m.bind fun z=>k (d.δ z)
 |none=>none
theorem run_same {d:Option Dy}{k:Nat→List SUp→Option A}{k':List SUp→Option A}(hk:∀δ,EvO (fun n=>k n δ) (k' δ)):EvO (fun n=>Dy.run d (k n)) (Dy.run d k'):=by
 cases d with
 |none=>exact EvO.none
 |some d=>exact EvO.bind (EvO.const _) (fun z=>hk _)
theorem frz_run {s:Nat}{S:List Nat}{Γ:SCtx}{q:SCtx→Option Dy}{d:SD}(h:lk Γ s=some (.v d)) (k:List SUp→Option A) :
  Dy.run (frz Γ (s::S) q) k=Dy.run (frz (supd Γ [⟨s,false,some (.v (frzO d))⟩]) S q) (fun δ=>k (δ++[⟨s,false,some (.v (frzO d))⟩])):=by
 simp only[frz,h]
 cases frz (supd Γ [⟨s,false,some (.v (frzO d))⟩]) S q <;> rfl
theorem frz_run0 {s:Nat}{S:List Nat}{Γ:SCtx}{q:SCtx→Option Dy}(h:∀d,lk Γ s≠some (.v d)) (k:List SUp→Option A):Dy.run (frz Γ (s::S) q) k=none:=by
 unfold frz
 split
 ·rename_i d hd;exact absurd hd (h d)
 ·rfl
theorem frz_ev:∀{S:List Nat}{Γ:SCtx}{q:Nat→SCtx→Option Dy}{q':SCtx→Option Dy}(_:∀Γ' (k:Nat→List SUp→Option A) (k':List SUp→Option A),(∀δ,EvO (fun n=>k n δ) (k' δ))→EvO (fun n=>Dy.run (q n Γ') (k n)) (Dy.run (q' Γ') k'))
  {k:Nat→List SUp→Option A}{k':List SUp→Option A}(_:∀δ,EvO (fun n=>k n δ) (k' δ)),EvO (fun n=>Dy.run (frz Γ S (q n)) (k n)) (Dy.run (frz Γ S q') k')
 |[],Γ,q,q',hq,k,k',hk=>hq Γ k k' hk
 |s::S,Γ,q,q',hq,k,k',hk=>by
  by_cases h:∃d,lk Γ s=some (.v d)
  ·obtain⟨d,h⟩:=h
   rw[frz_run h]
   refine EvO.eqf ?_ (fun n=>(frz_run h (k n)).symm)
   exact frz_ev hq (k:=fun n δ=>k n (δ++[⟨s,false,some (.v (frzO d))⟩])) (fun δ=>hk _)
  ·rw[frz_run0 (fun d hd=>h ⟨d,hd⟩)]
   exact EvO.none
def callS (n:Nat) (I:Inst) (xs:List Operand) (caps:List Nat) (t:Nat) (Γ:SCtx):Option (InVals I×(Tup (outTys I)→List SUp)):=
 let R:=colR n Γ I.pds xs++caps
 let B:=colB n Γ I.pds xs
 match handP n Γ R B I.n I.pds I.n xs with
 |some (v,ows,rs)=>match capsAt Γ R I.n I.caps (I.n+rs.length) caps with
  |some cv=>bif eqL (rs++caps) R&&nodupB (ows.filterMap id++R++B)&&!(inB (R++B) t)&&Nat.ble (xs.length+caps.length) I.n&&(B.isEmpty||cleanI I&&I.rb.isNone) then
    some ((v,cv),fun r=>⟨t,true,some (resX I.rb (resOf I r))⟩::(spokes R (postsE I (v,cv) r)++(ows.filterMap id).map srm))
   else none
  |none=>none
 |none=>none
theorem callI_eq {n:Nat}{I:Inst}{Φ:InVals I→Option (Tup (outTys I))}{xs:List Operand}{caps:List Nat}{t:Nat}{Γ:SCtx}:
  callI n I Φ xs caps t Γ=match callS n I xs caps t Γ with
   |some p=>some ⟨Tup (outTys I),Φ p.1,p.2⟩
   |none=>none:=by
 unfold callI callS
 simp only
 cases handP n Γ (colR n Γ I.pds xs++caps) (colB n Γ I.pds xs) I.n I.pds I.n xs with
 |none=>rfl
 |some p=>
  obtain⟨v,ows,rs⟩:=p
  simp only
  cases capsAt Γ (colR n Γ I.pds xs++caps) I.n I.caps (I.n+rs.length) caps with
  |none=>rfl
  |some cv=>
   simp only
   generalize (eqL (rs++caps) (colR n Γ I.pds xs++caps)&&nodupB (ows.filterMap id++(colR n Γ I.pds xs++caps)++colB n Γ I.pds xs)&&!(inB (colR n Γ I.pds xs++caps++colB n Γ I.pds xs) t)&&Nat.ble (xs.length+caps.length) I.n&&((colB n Γ I.pds xs).isEmpty||cleanI I&&I.rb.isNone))=b
   cases b <;> rfl
structure InnS (I:Inst) where
 u:Ty
 zs:List (El u)
 i:Int
 put:El u→InVals I
 δ:El u×Tup (outTys I)→List SUp
def callInnS (n:Nat) (I:Inst) (xs:List Operand) (t:Nat) (Γ:SCtx):Option (InnS I):=match innP n Γ t I.pds xs,capN I.caps with
 |some q,some cv=>bif Nat.beq I.res.length 1&&I.caps.isEmpty&&I.rb.isNone&&Nat.ble xs.length I.n then
   some ⟨q.u,q.zs,q.i,fun z=>(q.put z,cv),fun p=>[⟨q.r,false,some (.v ⟨true,true,.sl q.E q.u,q.zs.set q.i.toNat (q.back p.1 (tfst (tsnd (as1:=outL I.res) p.2)))⟩)⟩,srm q.s,⟨t,true,some (resX I.rb (resOf I p.2))⟩]⟩
  else none
 |_,_=>none
theorem inn_eq {n:Nat}{I:Inst}{Φ:InVals I→Option (Tup (outTys I))}{xs:List Operand}{t:Nat}{Γ:SCtx}{b:Bool}:
  (bif b then callInn n I Φ xs t Γ else none)=match (bif b then callInnS n I xs t Γ else none) with
   |some p=>some ⟨El p.u×Tup (outTys I),bind2 (ix p.zs p.i) (fun z=>Φ (p.put z)),p.δ⟩
   |none=>none:=by
 cases b with
 |false=>rfl
 |true=>
  simp only[cond_true]
  unfold callInn callInnS
  cases innP n Γ t I.pds xs with
  |none=>rfl
  |some q=>cases capN I.caps with
   |none=>rfl
   |some cv=>
    simp only
    cases (Nat.beq I.res.length 1&&I.caps.isEmpty&&I.rb.isNone&&Nat.ble xs.length I.n) <;> rfl
theorem callD_ev {n:Nat}{I:Inst}{Φ:Nat→InVals I→Option (Tup (outTys I))}{Φ':InVals I→Option (Tup (outTys I))}(hΦ:∀x,EvO (fun m=>Φ m x) (Φ' x)){x:Operand}{xs:List Operand}{t:Nat}{Γ:SCtx}
  {k:Nat→List SUp→Option A}{k':List SUp→Option A}(hk:∀δ,EvO (fun n=>k n δ) (k' δ)):EvO (fun m=>Dy.run (callD n I (Φ m) Γ x xs t) (k m)) (Dy.run (callD n I Φ' Γ x xs t) k'):=by
 unfold callD
 cases calE n (sem Γ) x with
 |none=>exact EvO.none
 |some p=>
  obtain⟨f,caps⟩:=p
  simp only
  cases nEq f I.f with
  |none=>exact EvO.none
  |some _=>
   simp only[callI_eq]
   cases callS n I xs caps t Γ with
   |some p=>exact EvO.bind (hΦ _) (fun z=>hk _)
   |none=>
    simp only[inn_eq]
    cases (bif caps.isEmpty&&isFn x then callInnS n I xs t Γ else none) with
    |some p=>exact EvO.bind (EvO.bind (EvO.const _) (fun z=>EvO.bind (hΦ _) (fun y=>EvO.const _))) (fun z=>hk _)
    |none=>
    refine frz_ev ?_ hk
    intro Γ' k k' hk
    cases calE n (sem Γ') x with
    |none=>exact EvO.none
    |some p=>
     obtain⟨f',caps'⟩:=p
     simp only
     cases nEq f' I.f with
     |none=>exact EvO.none
     |some _=>
      simp only
      cases callS n I xs caps' t Γ' with
      |none=>exact EvO.none
      |some p=>exact EvO.bind (hΦ _) (fun z=>hk _)
end
def Ev.wi (v:Ev) (Φ:∀j,InVals (v.FT j)→Option (Tup (outTys (v.FT j)))):Ev:=⟨v.n,v.tt,v.H,v.FT,Φ⟩
section
variable {A:Type}{v:Ev}{Φ:Nat→∀j,InVals (v.FT j)→Option (Tup (outTys (v.FT j)))}{Φ':∀j,InVals (v.FT j)→Option (Tup (outTys (v.FT j)))}
theorem opT_same {Γ:SCtx}{o:Oper}{t:Nat}(h:¬∃x xs ats,o.op=.call ⟨.value x,xs,ats⟩) (Φ1 Φ2:∀j,InVals (v.FT j)→Option (Tup (outTys (v.FT j)))):opT (v.wi Φ1) Γ o t=opT (v.wi Φ2) Γ o t:=by
 unfold opT
 split <;> first
  |rfl
  |(rename_i x xs ats ho;exact absurd ⟨_,_,_,ho⟩ h)
theorem opD_ev (hΦ:∀j x,EvO (fun m=>Φ m j x) (Φ' j x)){Γ:SCtx}{o:Oper}{k:Nat→List SUp→Option A}{k':List SUp→Option A}(hk:∀δ,EvO (fun n=>k n δ) (k' δ)) :
  EvO (fun m=>Dy.run (opD (v.wi (Φ m)) Γ o) (k m)) (Dy.run (opD (v.wi Φ') Γ o) k'):=by
 unfold opD
 cases o.dst with
 |none=>exact run_same hk
 |some t=>
  simp only
  cases hb:Nat.blt t v.n with
  |false=>simp only[Ev.wi,hb,cond_false];exact EvO.none
  |true=>
   simp only[Ev.wi,hb,cond_true]
   by_cases hc:∃x xs ats,o.op=.call ⟨.value x,xs,ats⟩
   ·obtain⟨x,xs,ats,ho⟩:=hc
    have e:∀Φ0:∀j,InVals (v.FT j)→Option (Tup (outTys (v.FT j))),opT ⟨v.n,v.tt,v.H,v.FT,Φ0⟩ Γ o t=match lkN v.H.ca t with
      |some j=>callD v.n (v.FT j) (Φ0 j) Γ x xs.toList t
      |none=>none:=by
     intro Φ0
     unfold opT
     simp only[ho]
     all_goals (cases lkN v.H.ca t <;> rfl)
    simp only[e]
    cases lkN v.H.ca t with
    |none=>exact EvO.none
    |some j=>exact callD_ev (hΦ j) hk
   ·have e:∀Φ0:∀j,InVals (v.FT j)→Option (Tup (outTys (v.FT j))),opT ⟨v.n,v.tt,v.H,v.FT,Φ0⟩ Γ o t=opT ⟨v.n,v.tt,v.H,v.FT,Φ'⟩ Γ o t:=fun Φ0=>opT_same hc Φ0 Φ'
    simp only[fun m=>e (Φ m)]
    exact run_same hk
theorem evSt_ev (hΦ:∀j x,EvO (fun m=>Φ m j x) (Φ' j x)){view:SCtx→SCtx}{o:Oper}{k:Nat→SCtx→List SUp→Option A}{k':SCtx→List SUp→Option A}(hk:∀Γ δ,EvO (fun n=>k n Γ δ) (k' Γ δ)) (Γ:SCtx) :
  EvO (fun m=>evSt (v.wi (Φ m)) view o (k m) Γ) (evSt (v.wi Φ') view o k' Γ):=opD_ev (k:=fun m=>k m Γ) hΦ (hk Γ)
theorem evGo_ev (hΦ:∀j x,EvO (fun m=>Φ m j x) (Φ' j x)){G:SCtx}{view:SCtx→SCtx}{o:Oper}{k:Nat→SCtx→List SUp→Option A}{k':SCtx→List SUp→Option A}(hk:∀Γ δ,EvO (fun n=>k n Γ δ) (k' Γ δ)) (Γ:SCtx) :
  EvO (fun m=>evGo (v.wi (Φ m)) G view o (k m) Γ) (evGo (v.wi Φ') G view o k' Γ):=by
 unfold evGo
 cases o.op <;> first
  |exact tst_ev (fun b Γ'=>evSt_ev hΦ hk Γ')
  |exact evSt_ev hΦ hk Γ
theorem evOff_ev {o:Oper}{k:Nat→SCtx→List SUp→Option A}{k':SCtx→List SUp→Option A}(hk:∀Γ δ,EvO (fun n=>k n Γ δ) (k' Γ δ)) (Γ:SCtx) :
  EvO (fun m=>evOff (v.wi (Φ m)) o (k m) Γ) (evOff (v.wi Φ') o k' Γ):=by
 unfold evOff
 cases o.dst with
 |none=>exact EvO.none
 |some t=>exact EvO.bif (hk _ _) EvO.none
theorem evOn_ev (hΦ:∀j x,EvO (fun m=>Φ m j x) (Φ' j x)){G:SCtx}{view:SCtx→SCtx}{d:Nat}{want:Bool}{o:Oper}{k:Nat→SCtx→List SUp→Option A}{k':SCtx→List SUp→Option A}(hk:∀Γ δ,EvO (fun n=>k n Γ δ) (k' Γ δ)) (Γ:SCtx) :
    EvO (fun m=>evOn (v.wi (Φ m)) G view d want o (k m) Γ) (evOn (v.wi Φ') G view d want o k' Γ):=by
  unfold evOn
  cases o.op <;> first
    | (refine tst_ev (fun b Γ' => ?_)
       simp only[Ev.wi]
       cases opSc v.n (view Γ') (.tmp d) with
       |none=>exact EvO.none
       |some s=>cases s with
         |bool b=>exact EvO.bif (evSt_ev hΦ hk Γ') EvO.none
         |_=>exact EvO.none)
    |exact evSt_ev hΦ hk Γ
theorem evOp1_ev (hΦ:∀j x,EvO (fun m=>Φ m j x) (Φ' j x)){ops:List Oper}{G:SCtx}{view:SCtx→SCtx}{o:Oper}{k:Nat→SCtx→List SUp→Option A}{k':SCtx→List SUp→Option A}(hk:∀Γ δ,EvO (fun n=>k n Γ δ) (k' Γ δ)) (Γ:SCtx) :
  EvO (fun m=>evOp1 (v.wi (Φ m)) ops G view o (k m) Γ) (evOp1 (v.wi Φ') ops G view o k' Γ):=by
 unfold evOp1
 cases o.guard with
 |none=>exact evGo_ev hΦ hk Γ
 |some p=>
  obtain⟨g,want⟩:=p
  simp only
  cases gdst ops g with
  |none=>exact EvO.none
  |some d=>
   simp only
   refine EvO.bif (EvO.bif (evOff_ev hk Γ) (tst_ev fun b Γ'=>?_)) EvO.none
   simp only[Ev.wi]
   cases opSc v.n (view Γ') (.tmp d) with
   |none=>exact EvO.none
   |some s=>cases s with
    |bool b=>exact EvO.bif (evOn_ev hΦ hk Γ') (evOff_ev (v:=v) (Φ:=Φ) (Φ':=Φ') hk Γ')
    |_=>exact EvO.none
theorem evOps_ev (hΦ:∀j x,EvO (fun m=>Φ m j x) (Φ' j x)){ops:List Oper}{G:SCtx}{K:Nat→SCtx→Option A}{K':SCtx→Option A}(hK:∀Γ,EvO (fun n=>K n Γ) (K' Γ)):∀(os:List Oper) (Γ:SCtx),
  EvO (fun m=>evOps (v.wi (Φ m)) ops G os Γ (K m)) (evOps (v.wi Φ') ops G os Γ K')
 |[],Γ=>hK Γ
 |o::os,Γ=>by
  simp only[evOps]
  have h1:(∀Φ0:∀j,InVals (v.FT j)→Option (Tup (outTys (v.FT j))),nilT (v.wi Φ0).n (v.wi Φ0).tt (Γ++G) o=nilT v.n v.tt (Γ++G) o):=fun _=>rfl
  simp only[h1]
  cases nilT v.n v.tt (Γ++G) o with
  |some p=>
   obtain⟨e,pos,t⟩:=p
   simp only[frc_eq]
   exact EvO.nilx (EvO.bif (evOps_ev hΦ hK os _) EvO.none) (EvO.bif (evOps_ev hΦ hK os _) EvO.none)
  |none=>
   refine evOp1_ev hΦ (fun Γ1 δ=>EvO.bif ?_ EvO.none) Γ
   simp only[frc_eq]
   exact evOps_ev hΦ hK os _
theorem evDr_ev (hΦ:∀j x,EvO (fun m=>Φ m j x) (Φ' j x)){ops:List Oper}{G:SCtx}{K:Nat→List (Nat×Nat)→List Pq→SCtx→Option A}{K':List (Nat×Nat)→List Pq→SCtx→Option A}(hK:∀a b Γ,EvO (fun n=>K n a b Γ) (K' a b Γ)) :
  ∀(os:List Oper) (k:Nat) (src:List (Nat×Nat)) (acc:List Pq) (Γ:SCtx),EvO (fun m=>evDr (v.wi (Φ m)) ops G os k src acc Γ (K m)) (evDr (v.wi Φ') ops G os k src acc Γ K')
 |[],k,src,acc,Γ=>hK _ _ _
 |o::os,k,src,acc,Γ=>by
  simp only[evDr,frc_eq]
  refine evOp1_ev hΦ (fun Γ1 δ=>EvO.bif ?_ EvO.none) Γ
  exact evDr_ev hΦ hK os _ _ _ _
theorem evDrawn_ev (hΦ:∀j x,EvO (fun m=>Φ m j x) (Φ' j x)){ops:Array Oper}{G Γ:SCtx}{K:Nat→SCtx→Option A}{K':SCtx→Option A}(hK:∀Γ,EvO (fun n=>K n Γ) (K' Γ)) :
  EvO (fun m=>evDrawn (v.wi (Φ m)) ops G Γ (K m)) (evDrawn (v.wi Φ') ops G Γ K'):=by
 unfold evDrawn
 refine evDr_ev hΦ (fun a b Γ=>?_) _ _ _ _ _
 simp only[frc_eq]
 exact EvO.bif (hK _) EvO.none
theorem evDrawq_ev (hΦ:∀j x,EvO (fun m=>Φ m j x) (Φ' j x)){ops:Array Oper}{G Γ:SCtx}{K:Nat→SCtx→Option A}{K':SCtx→Option A}(hK:∀Γ,EvO (fun n=>K n Γ) (K' Γ)) :
  EvO (fun m=>evDrawq (v.wi (Φ m)) ops G Γ (K m)) (evDrawq (v.wi Φ') ops G Γ K'):=by
 unfold evDrawq
 simp only[frc_eq]
 exact EvO.bif (evDrawn_ev hΦ (fun Γ=>hK _)) (evDrawn_ev hΦ hK)
structure KEv (K:Nat→Ks A) (K':Ks A):Prop where
 nx:∀Γ,EvO (fun n=>(K n).nx Γ) (K'.nx Γ)
 rt:∀Γ,EvO (fun n=>(K n).rt Γ) (K'.rt Γ)
 ex:∀i Γ,EvO (fun n=>(K n).ex i Γ) (K'.ex i Γ)
theorem ret_ev {S:Type}{f:Nat→Option A}{o:Option A}(h:EvO f o):EvO (fun n=>(retM (f n):Option (Ex A S))) (retM o):=by
 have e:∀o:Option A,(retM o:Option (Ex A S))=o.bind fun r=>some (.ret r):=by intro o;cases o <;> rfl
 have:=EvO.bind (g:=fun _ r=>some (.ret r)) (h:=fun r=>(some (.ret r):Option (Ex A S))) h (fun r=>EvO.const _)
 rw[e]
 exact this.eqf (fun n=>(e _).symm)
theorem within_rt (K:Ks A) (j:Jn) (Γk Γ:SCtx):(K.within j Γk).rt Γ=retM (K.rt (Γ++Γk)):=by
 show(match K.rt (Γ++Γk) with
  |some r=>some (.ret r)
  |none=>none:Option (Ex A (Tup (tysH j.v))))=_
 cases K.rt (Γ++Γk) <;> rfl
theorem within_ex (K:Ks A) (j:Jn) (Γk:SCtx) (i:Nat) (Γ:SCtx):(K.within j Γk).ex i Γ=retM (K.ex i (Γ++Γk)):=by
 show(match K.ex i (Γ++Γk) with
  |some r=>some (.ret r)
  |none=>none:Option (Ex A (Tup (tysH j.v))))=_
 cases K.ex i (Γ++Γk) <;> rfl
theorem evCode_ev (hΦ:∀j x,EvO (fun m=>Φ m j x) (Φ' j x)):∀(c:Code)(h:Hn){A:Type}(G Γ:SCtx) (K:Nat→Ks A) (K':Ks A),KEv K K'→
  EvO (fun m=>evCode (v.wi (Φ m)) (lpN m) c h G Γ (K m)) (evCode (v.wi Φ') lpF c h G Γ K')
 |.skip,_,_,G,Γ,K,K',hK=>hK.nx Γ
 |.ret,_,_,G,Γ,K,K',hK=>hK.rt Γ
 |.exit i,_,_,G,Γ,K,K',hK=>hK.ex i Γ
 |.region _ ops draw,_,_,G,Γ,K,K',hK=>by
  simp only[evCode]
  exact EvO.bif (evDrawq_ev hΦ hK.nx) (evOps_ev hΦ hK.nx _ _)
 |.seq a b,h,_,G,Γ,K,K',hK=>by
  have plain:∀h1 h2,EvO (fun m=>evCode (v.wi (Φ m)) (lpN m) a h1 G Γ ⟨fun Γ'=>evCode (v.wi (Φ m)) (lpN m) b h2 G Γ' (K m),(K m).rt,(K m).ex⟩)
    (evCode (v.wi Φ') lpF a h1 G Γ ⟨fun Γ'=>evCode (v.wi Φ') lpF b h2 G Γ' K',K'.rt,K'.ex⟩):=by
   intro h1 h2
   exact evCode_ev hΦ a h1 G Γ (fun m=>⟨fun Γ'=>evCode (v.wi (Φ m)) (lpN m) b h2 G Γ' (K m),(K m).rt,(K m).ex⟩) _ ⟨fun Γ'=>evCode_ev hΦ b h2 G Γ' K K' hK,hK.rt,hK.ex⟩
  cases h with
  |join j ha hb=>
   simp only[evCode,frc_eq]
   unfold joinK
   refine EvO.bind (evCode_ev hΦ a ha _ _ (fun m=>(K m).within j (outW j.w Γ)) _ ⟨?_,?_,?_⟩) (fun o=>?_)
   ·intro Γ'
    exact EvO.const _
   ·intro Γ'
    simp only[within_rt]
    exact ret_ev (hK.rt _)
   ·intro i Γ'
    simp only[within_ex]
    exact ret_ev (hK.ex i _)
   ·cases o with
    |ret r=>exact EvO.const _
    |go x=>exact evCode_ev hΦ b hb G _ K K' hK
  |nil=>simp only[evCode];exact plain _ _
  |two x y=>simp only[evCode];exact plain _ _
  |loop x y=>simp only[evCode];exact plain _ _
 |.cond c a b,h,_,G,Γ,K,K',hK=>by
  simp only[evCode]
  refine tst_ev (fun x Γ'=>EvO.bif (evCode_ev hΦ a _ G Γ' K K' hK) (evCode_ev hΦ b _ G Γ' K K' hK))
 |.block id a,h,_,G,Γ,K,K',hK=>by
  simp only[evCode]
  exact evCode_ev hΦ a h G Γ (fun m=>⟨(K m).nx,(K m).rt,fun i Γ'=>bif Nat.beq i id then(K m).nx Γ' else(K m).ex i Γ'⟩) _ ⟨hK.nx,hK.rt,fun i Γ'=>EvO.bif (hK.nx Γ') (hK.ex i Γ')⟩
 |.loop a,h,A,G,Γ,K,K',hK=>by
  cases h with
  |loop j ha=>
   simp only[evCode,frc_eq]
   cases pull (inW j.w Γ) j.v with
   |none=>exact EvO.none
   |some x=>
    intro r hr
    obtain⟨k,hk⟩:=loopF_some hr
    refine loop_ev (f':=fun f x=>evCode (v.wi Φ') lpF a ha (outW j.w Γ++G) (push j.v x)
     ⟨fun Γ'=>match pull Γ' j.v with
      |some x'=>f x'
      |none=>none,fun Γ'=>K'.rt (Γ'++outW j.w Γ),fun i Γ'=>K'.ex i (Γ'++outW j.w Γ)⟩) ?_ k (fun n=>n) (fun c=>⟨c,fun n h=>h⟩) x r (hk k (Nat.le_refl _))
    intro g g' hg s
    refine evCode_ev hΦ a ha _ _ (fun m=>⟨fun Γ'=>match pull Γ' j.v with
      |some x'=>g m x'
      |none=>none,fun Γ'=>(K m).rt (Γ'++outW j.w Γ),fun i Γ'=>(K m).ex i (Γ'++outW j.w Γ)⟩) _ ⟨?_,fun Γ'=>hK.rt _,fun i Γ'=>hK.ex i _⟩
    intro Γ'
    cases hp:pull Γ' j.v with
    |none=>simp only[hp];exact EvO.none
    |some x'=>simp only[hp];exact hg x'
  |nil=>simp only[evCode];exact EvO.none
  |two x y=>simp only[evCode];exact EvO.none
  |join x y z=>simp only[evCode];exact EvO.none
 |.rangeFunc _ _ _ _,_,_,_,_,_,_,_=>by simp only[evCode];exact EvO.none
 |.scope _,_,_,_,_,_,_,_=>by simp only[evCode];exact EvO.none
 |.label _,_,_,_,_,_,_,_=>by simp only[evCode];exact EvO.none
 |.goto _,_,_,_,_,_,_,_=>by simp only[evCode];exact EvO.none
 |.refuse _,_,_,_,_,_,_,_=>by simp only[evCode];exact EvO.none
end
section
variable {P:Program}{tt:TypeId→Option Ty}{FT:Nat→Inst}{SP:∀j,Option (InVals (FT j)→Option (Tup (outTys (FT j))))}
open Classical in
noncomputable def callL (tt:TypeId→Option Ty) (FT:Nat→Inst) (SP:∀j,Option (InVals (FT j)→Option (Tup (outTys (FT j))))) (j:Nat) (v:InVals (FT j)):Option (Tup (outTys (FT j))):=
 if h:∃r k,∀n,k≤n→callN tt FT SP n j v=some r then some h.choose else none
theorem callL_some {j:Nat}{v:InVals (FT j)}{r:Tup (outTys (FT j))}(h:callL tt FT SP j v=some r):∃k,∀n,k≤n→callN tt FT SP n j v=some r:=by
 unfold callL at h
 split at h
 ·rename_i h'
  cases h
  exact h'.choose_spec
 ·cases h
theorem callL_of {j:Nat}{v:InVals (FT j)}{r:Tup (outTys (FT j))}(k:Nat)(h:∀n,k≤n→callN tt FT SP n j v=some r):callL tt FT SP j v=some r:=by
 have h':∃r k,∀n,k≤n→callN tt FT SP n j v=some r:=⟨r,k,h⟩
 unfold callL
 rw[dif_pos h']
 obtain⟨k',hk'⟩:=h'.choose_spec
 have:=hk' (max k k') (by omega)
 rw[h (max k k') (by omega)] at this
 rw[Option.some.inj this]
theorem callL_ok (h:FTok P tt FT SP){j:Nat}{v:InVals (FT j)}{r:Tup (outTys (FT j))}(hc:callL tt FT SP j v=some r):RetI P (FT j) v r:=by
 obtain⟨k,hk⟩:=callL_some hc
 exact callN_ok h k j v r (hk k (Nat.le_refl _))
def Le {A:Type}(a b:Option A):Prop:=∀r,a=some r→b=some r
theorem runI_ev {I:Inst}{v:InVals I}:EvO (fun n=>runI tt FT (callN tt FT SP n) (lpN n) I v) (runI tt FT (callL tt FT SP) lpF I v):=by
 unfold runI
 cases I.fn.body with
 |none=>exact EvO.none
 |some c=>
  refine evCode_ev (v:=⟨I.n,tt,I.h,FT,callL tt FT SP⟩) (Φ:=fun n=>callN tt FT SP n) (Φ':=callL tt FT SP) (fun j x r hr=>callL_some hr) c I.h.code _ _ (fun _=>⟨retV tt I (fixIn I v),retV tt I (fixIn I v),fun _ _=>none⟩) _ ⟨fun Γ=>EvO.const _,fun Γ=>EvO.const _,fun i Γ=>EvO.const _⟩
theorem callL_le {j:Nat}{v:InVals (FT j)}{o:Option (Tup (outTys (FT j)))}(hs:SP j=none)(h:runI tt FT (callL tt FT SP) lpF (FT j) v=o):Le o (callL tt FT SP j v):=by
 intro r hr
 subst h
 obtain⟨k,hk⟩:=runI_ev r hr
 refine callL_of (k+1) (fun n hn=>?_)
 obtain⟨m,rfl⟩:∃m,n=m+1:=⟨n-1,by omega⟩
 simp only[callN,hs]
 exact hk m (by omega)
theorem callL_sp {j:Nat}{v:InVals (FT j)}{f:InVals (FT j)→Option (Tup (outTys (FT j)))}(hs:SP j=some f):Le (f v) (callL tt FT SP j v):=by
 intro r hr
 refine callL_of 1 (fun n hn=>?_)
 obtain⟨m,rfl⟩:∃m,n=m+1:=⟨n-1,by omega⟩
 simp only[callN,hs]
 exact hr
end
end Go.Proofs.YtnclgkplpjpnfaaDoorT
namespace Go.Proofs.YtnclgkplpjpnfaaDoorT
open Go Go.Proofs Go.RowKit
variable {P:Program}
theorem ret_plain {f n:Nat}{pars:List Ent}{ds:List Dt}{x:Value}(hg:isGo P f=true)(hx:∀w Z,RC P w Z (.v x) x [])
  (h:∀w Z vals γ β M,Pre P n pars (ds.map .d) w Z vals γ β M→Calls P f vals.toArray w fun e w'=>e=.returned x∧Below w.heap.size w w') :
  Ret P f n pars (ds.map .d) (.d (.one (.v x))) (ds.map .d):=by
 refine⟨hg,fun w Z vals γ β M hp=>(h w Z vals γ β M hp).mono fun e w' ⟨he,hb⟩=>⟨x,he,Z,fun t=>match t with|0=>[]|j+1=>β (n+j),?_⟩⟩
 exact {
  evo:=⟨hb.os,hb.tape,hb.output,hb.size,fun b hlt _=>hb.block b hlt,trivial⟩
  zlt:=fun b hz=>Nat.lt_of_lt_of_le (hp.zlt b hz) hb.size
  zin:=fun _ h=>h
  znew:=fun _ h=>.inl h
  own:=fun t b hb'=>by
   cases t with
   |zero=>simp at hb'
   |succ j=>
    have:=hp.own (n+j) b hb'
    exact⟨Nat.lt_of_lt_of_le this.1 hb.size,this.2.1,.inr this.2.2⟩
  nodup:=fun t=>by
   cases t with
   |zero=>simp
   |succ j=>exact hp.nodup (n+j)
  disj:=fun t u b htu hb1 hb2=>by
   cases t with
   |zero=>simp at hb1
   |succ j=>
    cases u with
    |zero=>simp at hb2
    |succ i=>exact hp.disj (n+j) (n+i) b (by omega) hb1 hb2
  res:=by simp only[OwnOk,EntOk,RD];exact hx w' Z
  post:=fun j e he=>by
   rw[List.getElem?_map,Option.map_eq_some_iff] at he
   obtain⟨D,hD,rfl⟩:=he
   have hn:Nat.blt (n+j) n=false:=by cases h:Nat.blt (n+j) n with|false=>rfl|true=>rw[Nat.blt_eq] at h;omega
   have:=hp.ent (n+j) (.d D) (by simp[Γin,hn,hD])
   simp only[EntOk,evi,show¬n+j<n by omega,if_false] at this
   simp only[OwnOk,EntOk]
   refine RD.mono (fun _ h=>h) (fun b hb'=>hb.block b ?_) this
   rcases hb' with hz|ho
   ·exact hp.zlt b hz
   ·exact(hp.own (n+j) b ho).1}
theorem below_grow (w:World) (k:Nat) (os:Array Obj):Below w.heap.size w (Go.Sort.grow (w.drewN k) os):=
 ⟨rfl,rfl,rfl,by simp[Go.Sort.grow,World.drewN],fun b hb=>by
  rw[Go.Sort.heap_grow_old _ _ (by simpa[World.drewN] using hb)];rfl⟩
theorem var_of {w:World}{Z:Nat→Prop}(h:Gl P w Z){nm:String}{Q:Array Value→Prop}(hm:(nm,Q)∈glSpec)(hn:(P.globalNamed nm).isSome=true):∃cs,w.var? P nm=some cs∧Q cs:=by
 obtain⟨g,hg⟩:=Option.isSome_iff_exists.1 hn
 obtain⟨_,cs,b1,b2,hc,hQ⟩:=h (nm,Q) hm g hg
 exact⟨cs,by simp[World.var?,hg,hc],hQ⟩
def sC (xs:List ByteArray):List (List C):=xs.map fun x=>[.v (.string x)]
end Go.Proofs.YtnclgkplpjpnfaaDoorT
namespace Go.Proofs.YtnclgkplpjpnfaaDoorT
open Go Go.Proofs Go.RowKit
variable {P:Program}
theorem ret_plainE {f n:Nat}{pars:List Ent}{ds:List Dt}{res:Ent}{x:Value}(hg:isGo P f=true)(hx:∀w Z,OwnOk P w Z res x [])
  (h:∀w Z vals γ β M,Pre P n pars (ds.map .d) w Z vals γ β M→Calls P f vals.toArray w fun e w'=>e=.returned x∧Below w.heap.size w w') :
  Ret P f n pars (ds.map .d) res (ds.map .d):=by
 refine⟨hg,fun w Z vals γ β M hp=>(h w Z vals γ β M hp).mono fun e w' ⟨he,hb⟩=>⟨x,he,Z,fun t=>match t with|0=>[]|j+1=>β (n+j),?_⟩⟩
 exact {
  evo:=⟨hb.os,hb.tape,hb.output,hb.size,fun b hlt _=>hb.block b hlt,trivial⟩
  zlt:=fun b hz=>Nat.lt_of_lt_of_le (hp.zlt b hz) hb.size
  zin:=fun _ h=>h
  znew:=fun _ h=>.inl h
  own:=fun t b hb'=>by
   cases t with
   |zero=>simp at hb'
   |succ j=>
    have:=hp.own (n+j) b hb'
    exact⟨Nat.lt_of_lt_of_le this.1 hb.size,this.2.1,.inr this.2.2⟩
  nodup:=fun t=>by
   cases t with
   |zero=>simp
   |succ j=>exact hp.nodup (n+j)
  disj:=fun t u b htu hb1 hb2=>by
   cases t with
   |zero=>simp at hb1
   |succ j=>
    cases u with
    |zero=>simp at hb2
    |succ i=>exact hp.disj (n+j) (n+i) b (by omega) hb1 hb2
  res:=hx w' Z
  post:=fun j e he=>by
   rw[List.getElem?_map,Option.map_eq_some_iff] at he
   obtain⟨D,hD,rfl⟩:=he
   have hn:Nat.blt (n+j) n=false:=by cases h:Nat.blt (n+j) n with|false=>rfl|true=>rw[Nat.blt_eq] at h;omega
   have:=hp.ent (n+j) (.d D) (by simp[Γin,hn,hD])
   simp only[EntOk,evi,show¬n+j<n by omega,if_false] at this
   simp only[OwnOk,EntOk]
   refine RD.mono (fun _ h=>h) (fun b hb'=>hb.block b ?_) this
   rcases hb' with hz|ho
   ·exact hp.zlt b hz
   ·exact(hp.own (n+j) b ho).1}
def trimF (s p:ByteArray):Option ByteArray:=some ⟨(Lib.trimPrefix s.data.toList p.data.toList).toArray⟩
theorem ret_trim {ρ:Go.Shelf.Ren}(Ly:Lays.n101 P ρ){n:Nat}{s p:ByteArray}(hg:isGo P (ρ.f 101)=true)(hn:1<n) :
  Ret P (ρ.f 101) n [.d (.one (.v (.string s))),.d (.one (.v (.string p)))] [] (.d (.one (.v (.string ⟨(Lib.trimPrefix s.data.toList p.data.toList).toArray⟩)))) []:=by
 refine ret_plain (ds:=[]) hg (fun w Z=>by simp[RC,Value.oneCell']) fun w Z vals γ β M hp=>?_
 obtain⟨v0,v1,rfl⟩:∃v0 v1,vals=[v0,v1]:=by
  have:=hp.len
  match vals,this with
  |[v,u],_=>exact⟨v,u,rfl⟩
 have b1:Nat.blt 0 n=true:=by rw[Nat.blt_eq];omega
 have b2:Nat.blt 1 n=true:=by rw[Nat.blt_eq];omega
 have e0:=hp.ent 0 (.d (.one (.v (.string s)))) (by simp[Γin,b1])
 have e1:=hp.ent 1 (.d (.one (.v (.string p)))) (by simp[Γin,b2])
 simp only[EntOk,evi,show 0<n by omega,hn,if_true,RD,RC] at e0 e1
 have h0:v0=.string s:=by simpa using e0.1
 have h1:v1=.string p:=by simpa using e1.1
 subst h0
 subst h1
 exact(Any.strings_TrimPrefix Ly s p w).mono fun e w' ⟨he,hw⟩=>⟨he,hw▸Below.refl _ _⟩
theorem retI_trim {ρ:Go.Shelf.Ren}(Ly:Lays.n101 P ρ){fn:Func}{n:Nat}{h:Hint}{s p r:ByteArray}(hg:isGo P (ρ.f 101)=true)(hn:1<n)(hv:trimF s p=some r) :
  RetI P ⟨ρ.f 101,fn,n,[.rd .str,.rd .str],[],[⟨false,false,.str⟩],h,none⟩ ((s,(p,())),()) r:=by
 cases hv
 exact ret_trim Ly hg hn
theorem retI_two {f:FuncId}{fn:Func}{n:Nat}{h:Hint}{s:ByteArray}{a:Int}{b:Bool}(hg:isGo P f=true)(hn:0<n)
  (hc:∀w Z,Gl P w Z→(∀b,Z b→b<w.heap.size)→Calls P f #[.string s] w fun e w'=>e=.returned (.tuple #[.int .i64 a,.bool b])∧Below w.heap.size w w') :
  RetI P ⟨f,fn,n,[.rd .str],[],[⟨false,false,.int .i64⟩,⟨false,false,.bool⟩],h,none⟩ ((s,()),()) (a,b):=by
 show Ret P f n [.d (.one (.v (.string s)))] [] (.tup [some (.one (.v (.int .i64 a))),some (.one (.v (.bool b)))]) []
 refine ret_plainE (ds:=[]) (x:=.tuple #[.int .i64 a,.bool b]) hg (fun w Z=>by simp only[OwnOk,EntOk];exact⟨[.int .i64 a,.bool b],rfl,by simp[RT,RD,RC,Value.oneCell'];exact⟨_,_,⟨rfl,rfl⟩,_,_,⟨rfl,rfl⟩,⟨rfl,rfl⟩,_,_,rfl,_,_,rfl,⟨rfl,rfl⟩,rfl,rfl⟩⟩) fun w Z vals γ β M hp=>?_
 obtain⟨v0,rfl⟩:∃v0,vals=[v0]:=by
  have:=hp.len
  match vals,this with
  |[v],_=>exact⟨v,rfl⟩
 have b1:Nat.blt 0 n=true:=by rw[Nat.blt_eq];exact hn
 have h0:=hp.ent 0 (.d (.one (.v (.string s)))) (by simp[Γin,b1])
 simp only[EntOk,evi,hn,if_true,RD,RC] at h0
 have h0':v0=.string s:=by simpa using h0.1
 subst h0'
 exact hc w Z hp.gl hp.zlt
def sepP (c:Nat):Bool:=c==32||c==10
def fieldsF (s:ByteArray):Option (List ByteArray):=bif Nat.ble s.size 4294967296 then some (Lib.goFieldsP sepP s) else none
theorem sC_mk {w:World}{Z:Nat→Prop}:∀(xs:List ByteArray),RLL P w Z (sC xs) (xs.map Value.string) []
 |[]=>by simp[sC,RLL]
 |x::xs=>by
  simp only[sC,List.map_cons,RLL,RL,RC]
  exact⟨[.string x],xs.map Value.string,[],[],rfl,rfl,⟨_,[],[],[],rfl,rfl,⟨rfl,rfl,rfl⟩,rfl,rfl⟩,sC_mk xs⟩
theorem ret_fields {ρ:Go.Shelf.Ren}(Ly:Lays.n229 P ρ)(hg:isGo P (ρ.f 229)=true){g n:Nat}(hn:1<n){s:ByteArray}(hs:s.size≤4294967296)(hgg:isGo P g=true)
  (hcl:∀(w:World) (x:Nat),x≤1114111→FnGives P g #[] #[encR x] (.bool (sepP x)) w)(hE:szOf P (ρ.t 9)=1)
  (hi154:(P.info? (ρ.t 154)).map (fun i=>(i.zero,i.size,i.bytes))=some (some (.agg #[.int .i64 0,.int .i64 0]),2,16))
  (hi9:(P.info? (ρ.t 9)).map (fun i=>(i.zero,i.size,i.bytes))=some (some (.string ⟨#[]⟩),1,16)) :
  Ret P (ρ.f 229) n [.d (.one (.v (.string s))),.fn g []] [] (.d (.one (.sl true (ρ.t 9) (sC (Lib.goFieldsP sepP s))))) []:=by
 refine⟨hg,fun w Z vals γ β M hp=>?_⟩
 obtain⟨v0,v1,rfl⟩:∃v0 v1,vals=[v0,v1]:=by
  have:=hp.len
  match vals,this with
  |[v,u],_=>exact⟨v,u,rfl⟩
 have b1:Nat.blt 0 n=true:=by rw[Nat.blt_eq];omega
 have b2:Nat.blt 1 n=true:=by rw[Nat.blt_eq];omega
 have e0:=hp.ent 0 (.d (.one (.v (.string s)))) (by simp[Γin,b1])
 have e1:=hp.ent 1 (.fn g []) (by simp[Γin,b2])
 simp only[EntOk,evi,show 0<n by omega,hn,if_true,RD,RC] at e0 e1
 have h0:v0=.string s:=by simpa using e0.1
 have h1:v1=.func (.func g) #[] #[]:=by simpa using e1
 subst h0
 subst h1
 have hc:=Any.strings_FieldsFunc_runes Ly g #[] (fun args w=>run_callFunc hgg args w) sepP s w hs (fun W x hx _=>hcl W x hx) hi154 hi9
 refine hc.mono fun e w' ⟨A,he,hA,hr,hb⟩=>⟨_,he,Z,fun t=>if t=0 then[A] else[],?_⟩
 exact {
  evo:=⟨hb.os,hb.tape,hb.output,hb.size,fun b hlt _=>hb.block b hlt,trivial⟩
  zlt:=fun b hz=>Nat.lt_of_lt_of_le (hp.zlt b hz) hb.size
  zin:=fun _ h=>h
  znew:=fun _ h=>.inl h
  own:=fun t b hb'=>by
   by_cases ht:t=0
   ·simp only[ht,if_true,List.mem_singleton] at hb'
    subst hb'
    obtain⟨_,hr⟩:=hr
    rcases hr with⟨hy,_⟩|⟨g',cap,cur,hy,hg',hcur,_⟩
    ·cases hy
    ·injection hy with hy _ _
     injection hy with hy
     injection hy with hy _ _
     subst hy
     exact⟨(Array.getElem?_eq_some_iff.1 hcur).1,fun hz=>by have:=hp.zlt _ hz;omega,.inl hA⟩
   ·simp[ht] at hb'
  nodup:=fun t=>by by_cases ht:t=0 <;> simp[ht]
  disj:=fun t u b htu hb1 hb2=>by
   by_cases ht:t=0
   ·by_cases hu:u=0
    ·omega
    ·simp[hu] at hb2
   ·simp[ht] at hb1
  res:=by
   simp only[OwnOk,EntOk,RD,RC]
   obtain⟨hl,hr⟩:=hr
   rcases hr with⟨hy,_⟩|⟨g',cap,cur,hy,hg',hcur,h1,h2,h3,h4⟩
   ·cases hy
   ·have hlen:(sC (Lib.goFieldsP sepP s)).length=(Lib.goFieldsP sepP s).length:=by simp[sC]
    refine .inr (.inr ⟨g',cap,cur,[],trivial,?_,?_,?_,h2,hcur,?_,?_,?_⟩)
    ·injection hy with hy _ _
     injection hy with hy
     injection hy with hy _ _
     subst hy
     rfl
    ·rw[hlen];exact hy
    ·rw[hlen];exact h1
    ·rw[hE];simpa using h3
    ·intro e he
     simp only[sC,List.mem_map] at he
     obtain⟨x,_,rfl⟩:=he
     rw[hE];rfl
    ·rw[hlen,hE,h4]
     exact sC_mk _
  post:=fun j e he=>by simp at he}
theorem retI_fields {ρ:Go.Shelf.Ren}(Ly:Lays.n229 P ρ){fn:Func}{g n:Nat}{h:Hint}{s:ByteArray}{r:List ByteArray}(hg:isGo P (ρ.f 229)=true)(hn:1<n)(hgg:isGo P g=true)
  (hcl:∀(w:World) (x:Nat),x≤1114111→FnGives P g #[] #[encR x] (.bool (sepP x)) w)(hE:szOf P (ρ.t 9)=1)
  (hi154:(P.info? (ρ.t 154)).map (fun i=>(i.zero,i.size,i.bytes))=some (some (.agg #[.int .i64 0,.int .i64 0]),2,16))
  (hi9:(P.info? (ρ.t 9)).map (fun i=>(i.zero,i.size,i.bytes))=some (some (.string ⟨#[]⟩),1,16))(hv:fieldsF s=some r) :
  RetI P ⟨ρ.f 229,fn,n,[.rd .str,.fn g []],[],[⟨true,true,.sl (ρ.t 9) .str⟩],h,none⟩ ((s,((),())),()) r:=by
 unfold fieldsF at hv
 cases hb:Nat.ble s.size 4294967296 with
 |false=>rw[hb] at hv;cases hv
 |true=>
  rw[hb] at hv
  cases hv
  exact ret_fields Ly hg hn (Nat.le_of_ble_eq_true hb) hgg hcl hE hi154 hi9
end Go.Proofs.YtnclgkplpjpnfaaDoorT
namespace Go.Proofs.YtnclgkplpjpnfaaDoorT
open Go Go.Proofs Go.RowKit
variable {P:Program}
def readM (s:ByteArray):Option Int:=match Lib.atoiAll s.data.toList with
 |.ok v=>if (⟨(Lib.itoa v).toArray⟩:ByteArray)=s∧-1000000≤v∧v≤1000000 then some v else none
 |_=>none
def readV (s:ByteArray):Int×Bool:=match readM s with
 |some v=>(v,true)
 |none=>(0,false)
def readF (s:ByteArray):Option (Int×Bool):=bif Nat.ble s.size 281474976710656 then some (readV s) else none
theorem retI_read {f:FuncId}{fn:Func}{n:Nat}{h:Hint}{s:ByteArray}{r:Int×Bool}(hg:isGo P f=true)(hn:0<n)
  (hc:∀(s:ByteArray) w Z,s.size≤281474976710656→Gl P w Z→(∀b,Z b→b<w.heap.size)→Calls P f #[.string s] w fun e w'=>e=.returned (.tuple #[.int .i64 (readV s).1,.bool (readV s).2])∧Below w.heap.size w w')(hv:readF s=some r) :
  RetI P ⟨f,fn,n,[.rd .str],[],[⟨false,false,.int .i64⟩,⟨false,false,.bool⟩],h,none⟩ ((s,()),()) r:=by
 unfold readF at hv
 cases hb:Nat.ble s.size 281474976710656 with
 |false=>rw[hb] at hv;cases hv
 |true=>
  rw[hb] at hv
  cases hv
  exact retI_two hg hn (hc s · · (Nat.le_of_ble_eq_true hb))
theorem gl_pow {w:World}{Z:Nat→Prop}(h:Gl P w Z)(hn:(P.globalNamed "internal/strconv.uint64pow10").isSome=true):Lib.TabIs P w "internal/strconv.uint64pow10" .u64 Lib.pow10Tab:=by
 obtain⟨cs,hc,hQ⟩:=var_of h (nm:="internal/strconv.uint64pow10") (List.Mem.head _) hn
 unfold Lib.TabIs
 rw[hc]
 exact congrArg some hQ
theorem gl_syn {w:World}{Z:Nat→Prop}(h:Gl P w Z)(hn:(P.globalNamed "strconv.ErrSyntax").isSome=true):∃t p,w.var? P "strconv.ErrSyntax"=some #[.iface t p]:=by
 obtain⟨cs,hc,t,p,hQ⟩:=var_of h (nm:="strconv.ErrSyntax") (.tail _ (.head _)) hn
 exact⟨t,p,by rw[hc,hQ]⟩
theorem gl_ran {w:World}{Z:Nat→Prop}(h:Gl P w Z)(hn:(P.globalNamed "strconv.ErrRange").isSome=true):∃t p,w.var? P "strconv.ErrRange"=some #[.iface t p]:=by
 obtain⟨cs,hc,t,p,hQ⟩:=var_of h (nm:="strconv.ErrRange") (.tail _ (.tail _ (.head _))) hn
 exact⟨t,p,by rw[hc,hQ]⟩
theorem beq_nat (x:Nat) (k:Nat):(((x:Int)==(k:Int)):Bool)=(x==k):=by
 rw[Bool.eq_iff_iff,beq_iff_eq,beq_iff_eq]
 omega
theorem atoi_range {l:List UInt8}{v:Int}(h:Lib.atoiAll l=.ok v):-9223372036854775808≤v∧v≤9223372036854775807:=by
 unfold Lib.atoiAll at h
 split at h
 ·cases h
 ·rename_i c r
  simp only at h
  split at h
  ·cases h
  ·cases h
  ·rename_i u hu
   split at h
   ·cases h
   ·rename_i h1
    split at h
    ·cases h
    ·rename_i h2
     injection h with h
     subst h
     by_cases hc:c.toNat=45
     ·simp only[hc,true_and,if_true,Nat.not_lt] at h2 ⊢
      omega
     ·simp only[hc,not_false_eq_true,true_and,if_false,Nat.not_le] at h1 ⊢
      omega
end Go.Proofs.YtnclgkplpjpnfaaDoorT
namespace Go.Proofs.YtnclgkplpjpnfaaDoorT
open Go
theorem Le.out {A:Type}{a b:Option A}(h:Le a b){r:A}(e:a=some r):b=some r:=h r e
section
variable {A B S:Type}
@[simp] theorem joinK_ret (r:A) (f:S→Option A):joinK (some (.ret r)) f=some r:=rfl
@[simp] theorem joinK_go (s:S) (f:S→Option A):joinK (some (.go s)) f=f s:=rfl
@[simp] theorem joinK_none (f:S→Option A):joinK none f=none:=rfl
@[simp] theorem joinK_bind (m:Option B) (g:B→Option (Ex A S)) (f:S→Option A):joinK (m.bind g) f=m.bind fun z=>joinK (g z) f:=by cases m <;> rfl
@[simp] theorem joinK_bif (c:Bool) (a b:Option (Ex A S)) (f:S→Option A):joinK (bif c then a else b) f=bif c then joinK a f else joinK b f:=by cases c <;> rfl
@[simp] theorem joinK_sbif (c:Bool) (a b:Ex A S) (f:S→Option A):joinK (some (bif c then a else b)) f=bif c then joinK (some a) f else joinK (some b) f:=by cases c <;> rfl
@[simp] theorem joinK_ite (c:Prop) [Decidable c] (a b:Option (Ex A S)) (f:S→Option A):joinK (if c then a else b) f=if c then joinK a f else joinK b f:=by split <;> rfl
@[simp] theorem joinK_site (c:Prop) [Decidable c] (a b:Ex A S) (f:S→Option A):joinK (some (if c then a else b)) f=if c then joinK (some a) f else joinK (some b) f:=by split <;> rfl
@[simp] theorem bif_bind (c:Bool) (a b:Option B) (f:B→Option A):(bif c then a else b).bind f=bif c then a.bind f else b.bind f:=by cases c <;> rfl
@[simp] theorem nilx_same (e:Bool) (a:Option A):nilx e a a=a:=by cases e <;> simp[nilx,bothEq]
@[simp] theorem nilx_cons (x:B) (xs:List B) (a b:Option A):nilx (x::xs).isEmpty a b=b:=rfl
@[simp] theorem retM_some (r:A):(retM (some r):Option (Ex A S))=some (.ret r):=rfl
theorem loopF_ind {f:(S→Option A)→S→Option A}(μ:S→Nat) (I:S→Prop) (res:S→A)
  (h:∀s,I s→∀g:S→Option A,(∀s',I s'→μ s'<μ s→g s'=some (res s'))→f g s=some (res s)):∀s,I s→loopF f s=some (res s):=by
 intro s hs
 refine loopF_of (μ s+1) ?_
 have key:∀(k:Nat) (s:S),I s→μ s≤k→∀n,k+1≤n→loopK f n s=some (res s):=by
  intro k
  induction k with
  |zero=>
   intro s hs hm n hn
   obtain⟨m,rfl⟩:∃m,n=m+1:=⟨n-1,by omega⟩
   simp only[loopK]
   exact h s hs _ (fun s' _ hl=>by omega)
  |succ k ih=>
   intro s hs hm n hn
   obtain⟨m,rfl⟩:∃m,n=m+1:=⟨n-1,by omega⟩
   simp only[loopK]
   exact h s hs _ (fun s' hs' hl=>ih s' hs' (by omega) m (by omega))
 exact fun n hn=>key (μ s) s hs (Nat.le_refl _) n hn
def forE {T C:Type}(step:Nat→T→S→Ex A S):List T→Nat→S→(S→C)→(A→C)→C
 |[],_,a,fin,_=>fin a
 |x::xs,i,a,fin,out=>match step i x a with
  |.ret r=>out r
  |.go a'=>forE step xs (i+1) a' fin out
theorem loopF_for {T R S':Type}{f:(S'→Option (Ex R S))→S'→Option (Ex R S)}{l:List T}{st:Nat→S→S'}(I:Nat→S→Prop) (step:Nat→T→S→Ex R S)
  (h1:∀i x a (g:S'→Option (Ex R S)),l[i]?=some x→I i a→f g (st i a)=match step i x a with|.ret r=>some (.ret r)|.go a'=>g (st (i+1) a'))
  (hI:∀i x a a',l[i]?=some x→I i a→step i x a=.go a'→I (i+1) a')
  (h2:∀a (g:S'→Option (Ex R S)),I l.length a→f g (st l.length a)=some (.go a)) :
  ∀a,I 0 a→loopF f (st 0 a)=some (forE step l 0 a Ex.go Ex.ret):=by
 intro a h0
 refine loopF_of (l.length+1) ?_
 have key:∀(xs:List T) (i:Nat) (a:S),l.drop i=xs→i+xs.length=l.length→I i a→∀n,xs.length+1≤n→loopK f n (st i a)=some (forE step xs i a Ex.go Ex.ret):=by
  intro xs
  induction xs with
  |nil=>
   intro i a hd hl hI' n hn
   obtain⟨m,rfl⟩:∃m,n=m+1:=⟨n-1,by omega⟩
   simp only[List.length_nil,Nat.add_zero] at hl
   subst hl
   simp only[loopK,forE]
   exact h2 a _ hI'
  |cons x xs ih=>
   intro i a hd hl hI' n hn
   obtain⟨m,rfl⟩:∃m,n=m+1:=⟨n-1,by omega⟩
   have hx:l[i]?=some x:=by
    have:=congrArg (·[0]?) hd
    simpa using this
   have hd':l.drop (i+1)=xs:=by
    have:=congrArg (·.drop 1) hd
    simpa[List.drop_drop] using this
   simp only[loopK,forE]
   rw[h1 i x a _ hx hI']
   cases hs:step i x a with
   |ret r=>rfl
   |go a'=>
    simp only
    exact ih (i+1) a' hd' (by simp at hl;omega) (hI i x a a' hx hI' hs) m (by simp at hn;omega)
 exact fun n hn=>key l 0 a rfl (by simp) h0 n hn
end
theorem wrap_nat {n:Nat}(h:n<9223372036854775807):IntKind.i64.wrap ((n:Int)+1)=((n+1:Nat):Int):=by
 rw[IntKind.wrap_i64];omega
@[simp] theorem wrap_lit {n:Nat}(h:n≤9223372036854775807):IntKind.i64.wrap (no_index (OfNat.ofNat n:Int))=OfNat.ofNat n:=by
 rw[IntKind.wrap_i64]
 show((n:Int)+_) % _-_=(n:Int)
 omega
@[simp] theorem nat_neg {n:Nat}:decide ((n:Int)<0)=false:=by simp
@[simp] theorem nat_ge {n:Nat}:decide ((n:Int)≥0)=true:=by simp
theorem ix_nat {T:Type}{l:List T}{i:Nat}:ix l (i:Int)=l[i]?:=by simp[ix]
theorem ix_some {T:Type}{l:List T}{i:Nat}{x:T}(h:l[i]?=some x):ix l (i:Int)=some x:=by rw[ix_nat,h]
theorem lt_nat {T:Type}{l:List T}{i:Nat}{x:T}(h:l[i]?=some x):decide ((i:Int)<(l.length:Int))=true:=by
 have:=(List.getElem?_eq_some_iff.1 h).1
 simpa using this
theorem apx_some {T:Type}{xs ys:List T}(h:xs.length+ys.length≤2147483648):apx xs ys=some (xs++ys):=by
 unfold apx
 have:Nat.ble (xs.length+ys.length) 2147483648=true:=by rw[Nat.ble_eq];exact h
 rw[this];rfl
theorem stx_nat {T:Type}{xs:List T}{i:Nat}{v:T}(h:i<xs.length):stx xs (i:Int) v=some (xs.set i v):=by
 unfold stx
 have:(decide (0≤(i:Int))&&decide ((i:Int)<(xs.length:Int)))=true:=by simp;omega
 rw[this];simp
section
variable {T R S:Type}
def allI (p:Nat→T→Bool):List T→Nat→Bool
 |[],_=>true
 |x::xs,i=>p i x&&allI p xs (i+1)
theorem allI_const (p:T→Bool):∀(l:List T) (i:Nat),allI (fun _=>p) l i=l.all p
 |[],_=>rfl
 |x::xs,i=>by simp[allI,allI_const p xs]
theorem forE_chk (p:Nat→T→Bool) (r0:R){C:Type}(fin:S→C) (out:R→C):∀(l:List T) (i:Nat) (a:S),forE (fun i x a=>bif p i x then Ex.go a else Ex.ret r0) l i a fin out=bif allI p l i then fin a else out r0
 |[],_,_=>rfl
 |x::xs,i,a=>by
  simp only[forE,allI]
  cases p i x
  ·rfl
  ·simp only[cond_true,Bool.true_and];exact forE_chk p r0 fin out xs (i+1) a
theorem loop_chk {f:(S×Int→Option (Ex R S))→S×Int→Option (Ex R S)}(l:List T) (p:Nat→T→Bool) (r0:R)
  (h1:∀(i:Nat) x a (g:S×Int→Option (Ex R S)),l[i]?=some x→f g (a,(i:Int))=bif p i x then g (a,((i+1:Nat):Int)) else some (.ret r0))
  (h2:∀a (g:S×Int→Option (Ex R S)),f g (a,(l.length:Int))=some (.go a)) (a:S) :
  loopF f (a,0)=some (bif allI p l 0 then .go a else .ret r0):=by
 have:=loopF_for (f:=f) (l:=l) (st:=fun i a=>(a,(i:Int))) (fun _ _=>True) (fun i x a=>bif p i x then Ex.go a else Ex.ret r0)
  (fun i x a g hx _=>by rw[h1 i x a g hx];cases p i x <;> rfl) (fun _ _ _ _ _ _ _=>trivial) (fun a g _=>h2 a g) a trivial
 rw[forE_chk] at this
 exact this
def findI (p:T→Bool):List T→Nat→Option Nat
 |[],_=>none
 |x::xs,i=>bif p x then some i else findI p xs (i+1)
theorem forE_find (p:T→Bool) (out':Nat→R){C:Type}(fin:S→C) (out:R→C):∀(l:List T) (i:Nat) (a:S),forE (fun i x a=>bif p x then Ex.ret (out' i) else Ex.go a) l i a fin out=(match findI p l i with|some j=>out (out' j)|none=>fin a)
 |[],_,_=>rfl
 |x::xs,i,a=>by
  simp only[forE,findI]
  cases p x
  ·simp only[cond_false];exact forE_find p out' fin out xs (i+1) a
  ·rfl
theorem loop_find {f:(S×Int→Option (Ex R S))→S×Int→Option (Ex R S)}(l:List T) (p:T→Bool) (out':Nat→R)
  (h1:∀(i:Nat) x a (g:S×Int→Option (Ex R S)),l[i]?=some x→f g (a,(i:Int))=bif p x then some (.ret (out' i)) else g (a,((i+1:Nat):Int)))
  (h2:∀a (g:S×Int→Option (Ex R S)),f g (a,(l.length:Int))=some (.go a)) (a:S) :
  loopF f (a,0)=some (match findI p l 0 with|some j=>.ret (out' j)|none=>.go a):=by
 have:=loopF_for (f:=f) (l:=l) (st:=fun i a=>(a,(i:Int))) (fun _ _=>True) (fun i x a=>bif p x then Ex.ret (out' i) else Ex.go a)
  (fun i x a g hx _=>by rw[h1 i x a g hx];cases p x <;> rfl) (fun _ _ _ _ _ _ _=>trivial) (fun a g _=>h2 a g) a trivial
 rw[forE_find] at this
 exact this
theorem findI_some {p:T→Bool}:∀{l:List T}{i j:Nat},findI p l i=some j→i≤j∧∃x,l[j-i]?=some x∧p x=true
 |[],_,_,h=>by cases h
 |x::xs,i,j,h=>by
  simp only[findI] at h
  cases hp:p x with
  |true=>rw[hp] at h;cases h;exact⟨Nat.le_refl _,x,by simp,hp⟩
  |false=>
   rw[hp] at h
   obtain⟨h1,y,h2,h3⟩:=findI_some h
   refine⟨by omega,y,?_,h3⟩
   rw[show j-i=(j-(i+1))+1 by omega]
   simpa using h2
theorem findI_none {p:T→Bool}:∀{l:List T}{i:Nat},findI p l i=none↔l.any p=false
 |[],_=>by simp[findI]
 |x::xs,i=>by
  simp only[findI,List.any_cons]
  cases p x
  ·simpa using findI_none (l:=xs)
  ·simp
end
def bl (s:ByteArray):List Int:=s.data.toList.map fun b=>(b.toNat:Int)
theorem bl_len (s:ByteArray):(bl s).length=s.size:=by simp[bl]
theorem bix_nat {s:ByteArray}{i:Nat}:bix s (i:Int)=(bl s)[i]?:=by
 unfold bix bt bl
 by_cases h:i<s.size
 ·have hs:i<s.data.toList.length:=h
  have hd:(decide (0≤(i:Int))&&decide ((i:Int)<(s.size:Int)))=true:=by simp;exact h
  rw[hd]
  simp only[cond_true,Int.toNat_natCast,h,dif_pos,List.getElem?_map,List.getElem?_eq_getElem hs]
  rfl
 ·have hd:(decide (0≤(i:Int))&&decide ((i:Int)<(s.size:Int)))=false:=by simp;omega
  rw[hd]
  have:(bl s)[i]?=none:=List.getElem?_eq_none (by rw[bl_len];omega)
  unfold bl at this
  rw[this];rfl
theorem bix_some {s:ByteArray}{i:Nat}{x:Int}(h:(bl s)[i]?=some x):bix s (i:Int)=some x:=by rw[bix_nat,h]
end Go.Proofs.YtnclgkplpjpnfaaDoorT
namespace Go.Proofs.YtnclgkplpjpnfaaDoorX
open Go Go.Proofs.YtnclgkplpjpnfaaDoorT
set_option linter.all false
abbrev Nd:=Int×ByteArray×Int×Int×Int×Bool×List Int×Unit
abbrev Tb:=ByteArray×Int×Unit
abbrev Sp:=Int×Int×Unit
theorem bne_dec (a b:Int):(a != b)=!decide (a=b):=rfl
theorem beq_dec (a b:Int):(a==b)=decide (a=b):=rfl
instance decNd:DecidableEq (Int×ByteArray×Int×Int×Int×Bool×List Int×Unit):=
 haveI:DecidableEq (Int×Int×Bool×List Int×Unit):=inferInstance
 haveI:DecidableEq (ByteArray×Int×Int×Int×Bool×List Int×Unit):=inferInstance
 inferInstance
def okIn (x lo hi:Int):Bool:=decide (lo≤x)&&decide (x≤hi)
theorem okIn_iff {x lo hi:Int}:okIn x lo hi=true↔lo≤x∧x≤hi:=by simp[okIn]
def arity (k:Int):Int:=if k=0 then 0 else if k=3∨k=4 then 2 else if k=1∨k=2∨k=5∨k=6∨k=7 then 1 else -1
theorem beq_toList (a b:ByteArray):(a.toList==b.toList)=decide (a=b):=by
 rw[ByteArray.toList_eq,ByteArray.toList_eq]
 by_cases h:a=b
 ·subst h;simp
 ·simp only[h,decide_false,beq_eq_false_iff_ne]
  intro e
  apply h
  cases a;cases b
  simp only at e
  congr 1
  exact Array.toList_inj.1 e
def less (a b:ByteArray):Bool:=Op.bytesLess a.toList b.toList
inductive PT where
 |n0 (n:Nd)
 |n1 (n:Nd) (a:PT)
 |n2 (n:Nd) (a b:PT)
namespace PT
def hd:PT→Nd
 |n0 n=>n
 |n1 n _=>n
 |n2 n _ _=>n
def flat:PT→List Nd
 |n0 n=>[n]
 |n1 n a=>n::a.flat
 |n2 n a b=>n::(a.flat++b.flat)
def size:PT→Nat
 |n0 _=>1
 |n1 _ a=>a.size+1
 |n2 _ a b=>a.size+b.size+1
def depth:PT→Nat
 |n0 _=>1
 |n1 _ a=>a.depth+1
 |n2 _ a b=>max a.depth b.depth+1
def ok:PT→Prop
 |n0 n=>arity n.1=0
 |n1 n a=>arity n.1=1∧a.ok
 |n2 n a b=>arity n.1=2∧a.ok∧b.ok
@[simp] theorem len_flat:∀t:PT,t.flat.length=t.size
 |n0 _=>rfl
 |n1 _ a=>by simp[flat,size,len_flat a]
 |n2 _ a b=>by simp[flat,size,len_flat a,len_flat b]
theorem size_pos:∀t:PT,0<t.size
 |n0 _=>by simp[size]
 |n1 _ _=>by simp[size]
 |n2 _ _ _=>by simp[size]
theorem depth_pos:∀t:PT,0<t.depth
 |n0 _=>by simp[depth]
 |n1 _ _=>by simp[depth]
 |n2 _ _ _=>by simp[depth]
theorem flat_hd (t:PT):∃l,t.flat=t.hd::l:=by cases t <;> simp[flat,hd]
end PT
open PT
def parse:Nat→List Nd→Option (PT×List Nd)
 |0,_=>none
 |_+1,[]=>none
 |r+1,n::q=>
  if arity n.1=1 then match parse r q with
   |some (a,q1)=>some (n1 n a,q1)
   |none=>none
  else if arity n.1=2 then match parse r q with
   |some (a,q1)=>match parse r q1 with
    |some (b,q2)=>some (n2 n a b,q2)
    |none=>none
   |none=>none
  else some (n0 n,q)
theorem parse_flat:∀{r:Nat}{l:List Nd}{t:PT}{q:List Nd},parse r l=some (t,q)→(∀n∈l,0≤arity n.1)→l=t.flat++q∧t.ok∧t.depth≤r
 |0,_,_,_,h,_=>by simp[parse] at h
 |r+1,[],_,_,h,_=>by simp[parse] at h
 |r+1,n::l,t,q,h,ha=>by
  have hn:=ha n (by simp)
  have hl:∀m∈l,0≤arity m.1:=fun m hm=>ha m (by simp[hm])
  simp only[parse] at h
  split at h
  ·rename_i h1
   split at h
   ·rename_i a q1 hp
    cases h
    obtain⟨e,ho,hd⟩:=parse_flat hp hl
    exact⟨by simp[flat,e],⟨h1,ho⟩,by simp[depth];omega⟩
   ·cases h
  ·split at h
   ·rename_i h1 h2
    split at h
    ·rename_i a q1 hp
     obtain⟨e,ho,hd⟩:=parse_flat hp hl
     split at h
     ·rename_i b q2 hp2
      cases h
      have hl2:∀m∈q1,0≤arity m.1:=fun m hm=>hl m (by rw[e];simp[hm])
      obtain⟨e2,ho2,hd2⟩:=parse_flat hp2 hl2
      exact⟨by simp[flat,e,e2],⟨h2,ho,ho2⟩,by simp[depth];omega⟩
     ·cases h
    ·cases h
   ·rename_i h1 h2
    cases h
    refine⟨by simp[flat],?_,by simp[depth]⟩
    show arity n.1=0
    revert hn h1 h2
    unfold arity
    split <;> (try split) <;> (try split) <;> simp
theorem flat_parse:∀{t:PT}{r:Nat}{q:List Nd},t.ok→t.depth≤r→parse r (t.flat++q)=some (t,q)
 |n0 n,0,q,_,hd=>by simp[depth] at hd
 |n1 n a,0,q,_,hd=>by simp[depth] at hd
 |n2 n a b,0,q,_,hd=>by simp[depth] at hd
 |n0 n,r+1,q,ho,hd=>by
  have:arity n.1=0:=ho
  simp[flat,parse,this]
 |n1 n a,r+1,q,ho,hd=>by
  obtain⟨h1,h2⟩:=ho
  simp only[depth] at hd
  simp[flat,parse,h1,flat_parse (t:=a) (r:=r) (q:=q) h2 (by omega)]
 |n2 n a b,r+1,q,ho,hd=>by
  obtain⟨h1,h2,h3⟩:=ho
  simp only[depth] at hd
  simp[flat,parse,h1,flat_parse (t:=a) (r:=r) (q:=b.flat++q) h2 (by omega),flat_parse (t:=b) (r:=r) (q:=q) h3 (by omega)]
theorem flat_inj {t u:PT}{q r:List Nd}(ht:t.ok)(hu:u.ok)(h:t.flat++q=u.flat++r):t=u∧q=r:=by
 have h1:=flat_parse (q:=q) ht (show t.depth≤max t.depth u.depth by omega)
 have h2:=flat_parse (q:=r) hu (show u.depth≤max t.depth u.depth by omega)
 rw[h,h2] at h1
 cases h1;exact⟨rfl,rfl⟩
def wordOkL (l:List Int):Bool:=allI (fun i c=>okIn c 97 122||(!(decide (i=0))&&okIn c 48 57)) l 0&&okIn l.length 1 12
def wordOk (w:ByteArray):Bool:=wordOkL (bl w)
def nodeOk (n:Nd):Bool:=
  let (k,name,col,op,num,slot,cols,_):=n
  (decide (k=0)||decide (name=ByteArray.empty))&&(decide (k=2)||decide (cols=[]))&&(decide (k=1)||decide (op=0))&&(!slot||okIn num 0 39)&&
  (if k=0 then wordOk name&&decide (col=0)&&decide (num=0)&&!slot
   else if k=1 then okIn col 0 63&&okIn op 0 3&&okIn num (-1000000) 1000000&&(!decide (op=3)||(decide (num=0)&&!slot))
   else if k=2 then cols.all (fun c=>okIn c 0 63)&&okIn cols.length 1 6&&decide (col=0)&&decide (num=0)&&!slot
   else if k=3 then okIn col 0 63&&okIn num 0 63&&!slot
   else if k=5 then okIn col 0 63&&decide (num=0)&&!slot
   else if k=6 then decide (col=0)&&okIn num 0 1000000
   else if k=4∨k=7 then decide (col=0)&&decide (num=0)&&!slot
   else false)
theorem nodeOk_arity {n:Nd}(h:nodeOk n=true):0≤arity n.1:=by
 obtain⟨k,name,col,op,num,slot,cols,u⟩:=n
 simp only[nodeOk] at h
 unfold arity
 simp only
 repeat' split
 all_goals first
  |omega
  |(exfalso;simp_all)
def planT (p:List Nd):Option PT:=
 if okIn p.length 1 40=true∧p.all nodeOk=true then match parse 10 p with
  |some (t,[])=>some t
  |_=>none
 else none
def planOk (p:List Nd):Bool:=(planT p).isSome
structure PlanT (t:PT):Prop where
 ok:t.ok
 deep:t.depth≤10
 size:t.size≤40
 nodes:∀n∈t.flat,nodeOk n=true
theorem planT_some {p:List Nd}{t:PT}(h:planT p=some t):PlanT t∧p=t.flat:=by
 unfold planT at h
 split at h
 ·rename_i hc
  obtain⟨h1,h2⟩:=hc
  split at h
  ·rename_i t' hp
   cases h
   have hn:∀n∈p,nodeOk n=true:=by simpa using h2
   obtain⟨e,ho,hd⟩:=parse_flat hp (fun n hm=>nodeOk_arity (hn n hm))
   simp only[List.append_nil] at e
   subst e
   refine⟨⟨ho,hd,?_,hn⟩,rfl⟩
   have:=(okIn_iff.1 h1).2
   simp only[len_flat] at this
   omega
  ·cases h
 ·cases h
theorem planT_flat {t:PT}(h:PlanT t):planT t.flat=some t:=by
 unfold planT
 have h1:okIn t.flat.length 1 40=true:=by
  rw[okIn_iff]
  have:=h.size
  have:=t.size_pos
  simp only[len_flat]
  omega
 have h2:t.flat.all nodeOk=true:=by simpa using h.nodes
 rw[if_pos ⟨h1,h2⟩]
 have:=flat_parse (q:=[]) h.ok h.deep
 simp only[List.append_nil] at this
 rw[this]
theorem planOk_iff {p:List Nd}:planOk p=true↔∃t,PlanT t∧p=t.flat:=by
 unfold planOk
 constructor
 ·intro h
  obtain⟨t,ht⟩:=Option.isSome_iff_exists.1 h
  exact⟨t,planT_some ht⟩
 ·rintro⟨t,ht,rfl⟩
  rw[planT_flat ht];rfl
def At (p:List Nd) (k:Nat) (t:PT):Prop:=∃q,p.drop k=t.flat++q
theorem At.hd {p:List Nd}{k:Nat}{t:PT}(h:At p k t):p[k]?=some t.hd:=by
 obtain⟨q,h⟩:=h
 obtain⟨l,hl⟩:=t.flat_hd
 have:=congrArg (·[0]?) h
 simpa[hl] using this
theorem At.le {p:List Nd}{k:Nat}{t:PT}(h:At p k t):k+t.size≤p.length:=by
 obtain⟨q,h⟩:=h
 have:=congrArg List.length h
 simp at this
 have:=t.size_pos
 omega
theorem At.c1 {p:List Nd}{k:Nat}{n:Nd}{a:PT}(h:At p k (n1 n a)):At p (k+1) a:=by
 obtain⟨q,h⟩:=h
 refine⟨q,?_⟩
 have:=congrArg (·.drop 1) h
 simpa[List.drop_drop,flat] using this
theorem At.l2 {p:List Nd}{k:Nat}{n:Nd}{a b:PT}(h:At p k (n2 n a b)):At p (k+1) a:=by
 obtain⟨q,h⟩:=h
 refine⟨b.flat++q,?_⟩
 have:=congrArg (·.drop 1) h
 simpa[List.drop_drop,flat] using this
theorem At.r2 {p:List Nd}{k:Nat}{n:Nd}{a b:PT}(h:At p k (n2 n a b)):At p (k+1+a.size) b:=by
 obtain⟨q,h⟩:=h
 refine⟨q,?_⟩
 have:=congrArg (·.drop (1+a.size)) h
 rw[List.drop_drop] at this
 rw[show k+1+a.size=k+(1+a.size) by omega,this]
 have e:(n2 n a b).flat++q=(n::a.flat)++(b.flat++q):=by simp[flat]
 rw[e,List.drop_append_of_le_length (by simp;omega)]
 have:(n::a.flat).drop (1+a.size)=[]:=List.drop_eq_nil_of_le (by simp;omega)
 rw[this];rfl
theorem At.root (t:PT):At t.flat 0 t:=⟨[],by simp⟩
theorem At.rest {p:List Nd}{k:Nat}{t:PT}(h:At p k t):p.drop k=t.flat++p.drop (k+t.size):=by
 obtain⟨q,h⟩:=h
 rw[h,←List.drop_drop,h]
 simp
theorem At.split {p:List Nd}{k:Nat}{t:PT}(h:At p k t):p=p.take k++t.flat++p.drop (k+t.size):=by
 rw[List.append_assoc,←h.rest,List.take_append_drop]
theorem At.nodes {p:List Nd}{k:Nat}{t:PT}(h:At p k t){n:Nd}(hn:n∈t.flat):n∈p:=by
 rw[h.split];simp[hn]
theorem At.part {p:List Nd}{k:Nat}{t:PT}(h:At p k t):(p.take (k+t.size)).drop k=t.flat:=by
 have h1:=h.rest
 have h2:(p.drop k).take t.size=t.flat:=by
  rw[h1,List.take_append_of_le_length (by simp),List.take_of_length_le (by simp)]
 rw[List.drop_take]
 simpa using h2
end Go.Proofs.YtnclgkplpjpnfaaDoorX
namespace Go.Proofs.YtnclgkplpjpnfaaDoorX
open Go Go.Proofs.YtnclgkplpjpnfaaDoorT
set_option linter.all false
section
variable {T:Type}
def mkL (mk:T→Int→T) (w:T→Nat):List T→Int→List T
 |[],_=>[]
 |x::xs,k=>mk x k::mkL mk w xs (k+w x)
def wtL (w:T→Nat) (l:List T):Nat:=(l.map w).sum
@[simp] theorem mkL_len (mk:T→Int→T) (w:T→Nat):∀(l:List T) (k:Int),(mkL mk w l k).length=l.length
 |[],_=>rfl
 |x::xs,k=>by simp[mkL,mkL_len mk w xs]
theorem ix_set {v:List T}{i:Nat}{y:T}(h:i<v.length):ix (v.set i y) (i:Int)=some y:=by
 rw[ix_nat,List.getElem?_set_self h]
theorem mark_loop {mk:T→Int→T}{w:T→Nat}{B:Int}{L:(Int×Int×List T→Option (Ex (Int×List T) (Int×List T)))→Int×Int×List T→Option (Ex (Int×List T) (Int×List T))}{a:List T}{k:Int}(hl:a.length≤1073741824)(h0:0≤k)(hB:k+wtL w a≤B)
  (hL:∀f (v:List T) (i:Nat) x k,v[i]?=some x→x∈a→v.length=a.length→0≤k→k+w x≤B→L f (k,(i:Int),v)=f (k+w x,((i+1:Nat):Int),v.set i (mk x k)))
  (hE:∀f (v:List T) k,L f (k,(v.length:Int),v)=some (.go (k,v))):loopF L (k,0,a)=some (.go (k+wtL w a,mkL mk w a k)):=by
 refine loopF_of (a.length+1) ?_
 have key:∀(xs ys:List T) (i:Nat) (k':Int),(∀x∈xs,x∈a)→i+xs.length=a.length→ys.length=i→0≤k'→k'+wtL w xs≤B→∀n,xs.length+1≤n→
   loopK L n (k',(i:Int),ys++xs)=some (.go (k'+wtL w xs,ys++mkL mk w xs k')):=by
  intro xs
  induction xs with
  |nil=>
   intro ys i k' hm hi hy h0 hB n hn
   obtain⟨m,rfl⟩:∃m,n=m+1:=⟨n-1,by omega⟩
   simp only[loopK]
   have:=hE (loopK L m) (ys++[]) k'
   have hlen:(ys++([]:List T)).length=i:=by simp[hy]
   rw[hlen] at this
   rw[this]
   simp[wtL,mkL]
  |cons x xs ih=>
   intro ys i k' hm hi hy h0 hB n hn
   obtain⟨m,rfl⟩:∃m,n=m+1:=⟨n-1,by omega⟩
   have hw:wtL w (x::xs)=w x+wtL w xs:=by simp[wtL]
   rw[hw] at hB
   simp only[loopK]
   rw[hL (loopK L m) (ys++x::xs) i x k' (by rw[List.getElem?_append_right (by omega)];simp[hy]) (hm x (by simp)) (by simp only[List.length_append];omega) h0 (by omega)]
   have hset:(ys++x::xs).set i (mk x k')=(ys++[mk x k'])++xs:=by
    rw[List.set_append_right _ _ (by omega),hy];simp
   rw[hset,ih (ys++[mk x k']) (i+1) (k'+w x) (fun y hy=>hm y (by simp[hy])) (by simp at hi;omega) (by simp[hy]) (by omega) (by omega) m (by simp at hn;omega)]
   rw[hw]
   simp only[mkL]
   congr 3
   ·omega
   ·simp
 have:=key a [] 0 k (fun x h=>h) (by simp) rfl h0 hB
 intro n hn
 have:=this n hn
 simpa using this
theorem held_loop {mk:T→Int→T}{w:T→Nat}{B:Int}{L:(Int×Int×Int→Option (Ex Int (Int×Int)))→Int×Int×Int→Option (Ex Int (Int×Int))}{a:List T}{k:Int}(hl:a.length≤1073741824)(h0:0≤k)(hB:k+wtL w a≤B)
  (hL:∀f (i:Nat) x k' u,(mkL mk w a k)[i]?=some (mk x k')→x∈a→0≤k'→k'+w x≤B→L f (k',u,(i:Int))=f (k'+w x,u,((i+1:Nat):Int)))
  (hE:∀f k u,L f (k,u,(a.length:Int))=some (.go (k,u))):loopF L (k,0,0)=some (.go (k+wtL w a,0)):=by
 refine loopF_of (a.length+1) ?_
 have key:∀(xs:List T) (i:Nat) (k':Int),(∀x∈xs,x∈a)→(mkL mk w a k).drop i=mkL mk w xs k'→i+xs.length=a.length→0≤k'→k'+wtL w xs≤B→∀n,xs.length+1≤n→
   loopK L n (k',0,(i:Int))=some (.go (k'+wtL w xs,0)):=by
  intro xs
  induction xs with
  |nil=>
   intro i k' hm hd hi h0 hB n hn
   obtain⟨m,rfl⟩:∃m,n=m+1:=⟨n-1,by omega⟩
   simp only[List.length_nil,Nat.add_zero] at hi
   subst hi
   simp only[loopK]
   rw[hE]
   simp[wtL]
  |cons x xs ih=>
   intro i k' hm hd hi h0 hB n hn
   obtain⟨m,rfl⟩:∃m,n=m+1:=⟨n-1,by omega⟩
   have hw:wtL w (x::xs)=w x+wtL w xs:=by simp[wtL]
   rw[hw] at hB
   have hx:(mkL mk w a k)[i]?=some (mk x k'):=by
    have:=congrArg (·[0]?) hd
    simpa[mkL] using this
   have hd':(mkL mk w a k).drop (i+1)=mkL mk w xs (k'+w x):=by
    have:=congrArg (·.drop 1) hd
    simpa[List.drop_drop,mkL] using this
   simp only[loopK]
   rw[hL (loopK L m) i x k' 0 hx (hm x (by simp)) h0 (by omega)]
   rw[ih (i+1) (k'+w x) (fun y hy=>hm y (by simp[hy])) hd' (by simp at hi;omega) (by omega) (by omega) m (by simp at hn;omega),hw]
   congr 3
   omega
 exact key a 0 k (fun x h=>h) rfl (by simp) h0 hB
theorem eq_loop {a:List T}{L:(Bool×Int→Option (Ex Bool Bool))→Bool×Int→Option (Ex Bool Bool)}(hl:a.length≤1073741824)
  (hL:∀f (i:Nat) x v,a[i]?=some x→x∈a→L f (v,(i:Int))=f (v,((i+1:Nat):Int)))(hE:∀f v,L f (v,(a.length:Int))=some (.go v)):loopF L (false,0)=some (.go false):=by
 have:=loop_chk (f:=L) a (fun _ _=>true) false (fun i x v g hx=>by rw[hL g i x v hx (List.mem_of_getElem? hx)];rfl) (fun v g=>hE g v) false
 rw[this]
 have:∀(l:List T) (i:Nat),allI (fun _ _=>true) l i=true:=by
  intro l
  induction l with
  |nil=>intro i;rfl
  |cons x xs ih=>intro i;simp[allI,ih]
 rw[this];rfl
end
end Go.Proofs.YtnclgkplpjpnfaaDoorX
namespace Go.Proofs.YtnclgkplpjpnfaaDoorT
open Go
section
variable {T:Type}{key:T→Int}
def Same (key:T→Int) (xs ys:List T):Prop:=∀v:Int,xs.filter (fun x=>key x==v)=ys.filter (fun x=>key x==v)
def Srt (key:T→Int) (xs:List T):Prop:=xs.Pairwise fun a b=>key a≤key b
theorem Same.refl (xs:List T):Same key xs xs:=fun _=>rfl
theorem Same.symm {xs ys:List T}(h:Same key xs ys):Same key ys xs:=fun v=>(h v).symm
theorem Same.trans {xs ys zs:List T}(h:Same key xs ys) (k:Same key ys zs):Same key xs zs:=fun v=>(h v).trans (k v)
theorem Same.app {xs xs' ys ys':List T}(h:Same key xs xs') (k:Same key ys ys'):Same key (xs++ys) (xs'++ys'):=fun v=>by
 rw[List.filter_append,List.filter_append,h v,k v]
theorem Same.mem {xs ys:List T}(h:Same key xs ys){x:T}(hx:x∈xs):x∈ys:=by
 have:x∈xs.filter (fun z=>key z==key x):=List.mem_filter.2 ⟨hx,by simp⟩
 rw[h (key x)] at this
 exact(List.mem_filter.1 this).1
theorem Same.swap {xs ys:List T}(h:∀x∈xs,∀y∈ys,key x≠key y):Same key (xs++ys) (ys++xs):=fun v=>by
 rw[List.filter_append,List.filter_append]
 by_cases he:∃x∈xs,key x=v
 ·obtain⟨x,hx,rfl⟩:=he
  have:ys.filter (fun z=>key z==key x)=[]:=List.filter_eq_nil_iff.2 fun y hy=>by
   have:=h x hx y hy
   simp;omega
  rw[this];simp
 ·have:xs.filter (fun z=>key z==v)=[]:=List.filter_eq_nil_iff.2 fun x hx=>by
   have:key x≠v:=fun hv=>he ⟨x,hx,hv⟩
   simpa using this
  rw[this];simp
theorem Srt.uniq:∀{xs ys:List T},Srt key xs→Srt key ys→Same key xs ys→xs=ys
 |[],[],_,_,_=>rfl
 |[],y::ys,_,_,h=>by have:=h.symm.mem (List.mem_cons_self (a:=y) (l:=ys));cases this
 |x::xs,[],_,_,h=>by have:=h.mem (List.mem_cons_self (a:=x) (l:=xs));cases this
 |x::xs,y::ys,hx,hy,h=>by
  have h1:=h.mem (List.mem_cons_self (a:=x) (l:=xs))
  have h2:=h.symm.mem (List.mem_cons_self (a:=y) (l:=ys))
  unfold Srt at hx hy
  rw[List.pairwise_cons] at hx hy
  have h3:key y≤key x:=by
   rcases List.mem_cons.1 h1 with rfl|h1
   ·omega
   ·exact hy.1 _ h1
  have h4:key x≤key y:=by
   rcases List.mem_cons.1 h2 with rfl|h2
   ·omega
   ·exact hx.1 _ h2
  have h5:key y=key x:=by omega
  have h6:=h (key x)
  rw[List.filter_cons_of_pos (by simp),List.filter_cons_of_pos (by simp[h5])] at h6
  have h7:x=y:=(List.cons.inj h6).1
  subst h7
  rw[Srt.uniq hx.2 hy.2 fun v=>?_]
  have h8:=h v
  rw[List.filter_cons,List.filter_cons] at h8
  split at h8
  ·exact(List.cons.inj h8).2
  ·exact h8
def insS (key:T→Int) (x:T):List T→List T
 |[]=>[x]
 |y::ys=>bif decide (key x<key y) then x::y::ys else y::insS key x ys
def srt (key:T→Int) (xs:List T):List T:=xs.foldl (fun out x=>insS key x out) []
theorem insS_mem {x z:T}:∀{out:List T},z∈insS key x out↔z=x∨z∈out
 |[]=>by simp[insS]
 |y::ys=>by
  simp only[insS]
  cases decide (key x<key y) with
  |true=>simp
  |false=>simp only[cond_false,List.mem_cons,insS_mem];grind
theorem insS_len {x:T}:∀{out:List T},(insS key x out).length=out.length+1
 |[]=>rfl
 |y::ys=>by
  simp only[insS]
  cases decide (key x<key y) with
  |true=>simp
  |false=>simp[insS_len]
theorem insS_ok {x:T}:∀{out:List T},Srt key out→Srt key (insS key x out)∧Same key (out++[x]) (insS key x out)
 |[],_=>⟨by simp[insS,Srt],fun _=>rfl⟩
 |y::ys,h=>by
  have h0:=h
  unfold Srt at h
  rw[List.pairwise_cons] at h
  simp only[insS]
  cases hd:decide (key x<key y) with
  |true=>
   have hd:=of_decide_eq_true hd
   refine⟨?_,?_⟩
   ·simp only[cond_true]
    refine List.pairwise_cons.2 ⟨fun z hz=>?_,h0⟩
    rcases List.mem_cons.1 hz with rfl|hz
    ·omega
    ·have:=h.1 z hz;omega
   ·refine Same.swap (ys:=[x]) fun z hz w hw=>?_
    rw[List.mem_singleton.1 hw]
    rcases List.mem_cons.1 hz with rfl|hz
    ·omega
    ·have:=h.1 z hz;omega
  |false=>
   have hd:=of_decide_eq_false hd
   obtain⟨h1,h2⟩:=insS_ok h.2 (x:=x)
   refine⟨List.pairwise_cons.2 ⟨fun z hz=>?_,h1⟩,?_⟩
   ·rcases insS_mem.1 hz with rfl|hz
    ·omega
    ·exact h.1 z hz
   ·exact Same.app (Same.refl [y]) h2
theorem srt_snoc (xs:List T) (x:T):srt key (xs++[x])=insS key x (srt key xs):=by simp[srt]
theorem srt_ok (xs:List T):Srt key (srt key xs)∧Same key xs (srt key xs)∧(srt key xs).length=xs.length:=by
 suffices h:∀(n:Nat) (xs:List T),xs.length=n→Srt key (srt key xs)∧Same key xs (srt key xs)∧(srt key xs).length=xs.length from h _ xs rfl
 intro n
 induction n with
 |zero=>
  intro xs h
  have:=List.length_eq_zero_iff.1 h
  subst this
  exact⟨by simp[srt,Srt],fun _=>rfl,rfl⟩
 |succ n ih=>
  intro xs h
  rcases List.eq_nil_or_concat xs with rfl|⟨xs,x,rfl⟩
  ·cases h
  rw[List.concat_eq_append] at *
  have ih:=ih xs (by simpa using h)
  rw[srt_snoc]
  obtain⟨h1,h2⟩:=insS_ok ih.1 (x:=x)
  exact⟨h1,(Same.app ih.2.1 (Same.refl [x])).trans h2,by rw[insS_len,ih.2.2];simp⟩
theorem srt_len (xs:List T):(srt key xs).length=xs.length:=(srt_ok xs).2.2
theorem srt_of {xs m:List T}(h:Srt key m)(hs:Same key xs m):m=srt key xs:=Srt.uniq h (srt_ok xs).1 (hs.symm.trans (srt_ok xs).2.1)
theorem srt_mem {xs:List T}{x:T}:x∈srt key xs↔x∈xs:=⟨(srt_ok xs).2.1.symm.mem,(srt_ok xs).2.1.mem⟩
theorem srt_self {xs:List T}(h:Srt key xs):srt key xs=xs:=(srt_of h (Same.refl xs)).symm
theorem Srt.app {xs ys:List T}(h1:Srt key xs)(h2:Srt key ys)(h:∀x∈xs,∀y∈ys,key x≤key y):Srt key (xs++ys):=List.pairwise_append.2 ⟨h1,h2,h⟩
theorem Srt.parts {xs ys:List T}(h:Srt key (xs++ys)):Srt key xs∧Srt key ys∧∀x∈xs,∀y∈ys,key x≤key y:=List.pairwise_append.1 h
end
end Go.Proofs.YtnclgkplpjpnfaaDoorT
namespace Go.Proofs.YtnclgkplpjpnfaaDoorT
open Go
set_option linter.all false
def Ok {A:Type}(m:Option A) (Q:A→Prop):Prop:=∃a,m=some a∧Q a
def OkG {X A:Type}(G:X→Prop) (m:X→Option A) (Q:A→Prop):Prop:=∃a,(∀g,G g→m g=some a)∧Q a
section
variable {X A B S:Type}{G:X→Prop}{Q:A→Prop}{R:B→Prop}
theorem Ok.of {m:Option A}(h:Ok m Q):OkG G (fun _=>m) Q:=by
 obtain⟨a,h1,h2⟩:=h
 exact⟨a,fun _ _=>h1,h2⟩
theorem OkG.out {m:Option A}(h:OkG (fun _:Unit=>True) (fun _=>m) Q):Ok m Q:=by
 obtain⟨a,h1,h2⟩:=h
 exact⟨a,h1 () trivial,h2⟩
theorem OkG.bind {m:X→Option A}{f:X→A→Option B}(h:OkG G m Q) (k:∀a,Q a→OkG G (fun g=>f g a) R):OkG G (fun g=>(m g).bind (f g)) R:=by
 obtain⟨a,h1,h2⟩:=h
 obtain⟨b,h3,h4⟩:=k a h2
 exact⟨b,fun g hg=>by dsimp only;rw[h1 g hg];exact h3 g hg,h4⟩
theorem OkG.call {m:Option A}{f:X→A→Option B}(h:Ok m Q) (k:∀a,Q a→OkG G (fun g=>f g a) R):OkG G (fun g=>m.bind (f g)) R:=
 OkG.bind (m:=fun _=>m) h.of k
theorem OkG.val {a:A}(h:Q a):OkG G (fun _=>some a) Q:=⟨a,fun _ _=>rfl,h⟩
theorem OkG.bif {c:Bool}{m n:X→Option A}(h1:c=true→OkG G m Q)(h2:c=false→OkG G n Q):OkG G (fun g=>bif c then m g else n g) Q:=by
 cases c
 ·exact h2 rfl
 ·exact h1 rfl
theorem OkG.join {m:X→Option (Ex B S)}{f:X→S→Option B}(W:S→Prop)(h:OkG G m (fun x=>match x with|.ret r=>R r|.go s=>W s)) (k:∀s,W s→OkG G (fun g=>f g s) R):OkG G (fun g=>joinK (m g) (f g)) R:=by
 obtain⟨x,h1,h2⟩:=h
 cases x with
 |ret r=>exact⟨r,fun g hg=>by dsimp only;rw[h1 g hg];rfl,h2⟩
 |go s=>
  obtain⟨b,h3,h4⟩:=k s h2
  exact⟨b,fun g hg=>by dsimp only;rw[h1 g hg];exact h3 g hg,h4⟩
theorem OkG.mono {Q':A→Prop}{m:X→Option A}(h:OkG G m Q) (k:∀a,Q a→Q' a):OkG G m Q':=by
 obtain⟨a,h1,h2⟩:=h
 exact⟨a,h1,k a h2⟩
theorem Ok.loop {f:(S→Option A)→S→Option A}(μ:S→Nat) (I:S→Prop)
  (h:∀s,I s→∀G:(S→Option A)→Prop,(∀s',I s'→μ s'<μ s→OkG G (fun g=>g s') Q)→OkG G (fun g=>f g s) Q):∀s,I s→Ok (loopF f s) Q:=by
 have key:∀k:Nat,∃res:S→Option A,∀s,I s→μ s<k→∃r,res s=some r∧Q r∧∀n,k≤n→loopK f n s=some r:=by
  intro k
  induction k with
  |zero=>exact⟨fun _=>none,fun s _ hs=>by omega⟩
  |succ k ih=>
   obtain⟨res,hr⟩:=ih
   refine⟨fun s=>f res s,fun s hs hm=>?_⟩
   obtain⟨r,h1,h2⟩:=h s hs (fun g=>∀s',I s'→μ s'<μ s→g s'=res s') (fun s' hs' hm'=>by
    obtain⟨r',e1,e2,_⟩:=hr s' hs' (by omega)
    exact⟨r',fun g hg=>by dsimp only;rw[hg s' hs' hm',e1],e2⟩)
   refine⟨r,h1 res (fun _ _ _=>rfl),h2,fun n hn=>?_⟩
   obtain⟨m,rfl⟩:∃m,n=m+1:=⟨n-1,by omega⟩
   simp only[loopK]
   refine h1 _ fun s' hs' hm'=>?_
   obtain⟨r',e1,_,e3⟩:=hr s' hs' (by omega)
   rw[e3 m (by omega),e1]
 intro s hs
 obtain⟨res,hr⟩:=key (μ s+1)
 obtain⟨r,_,h2,h3⟩:=hr s hs (by omega)
 exact⟨r,loopF_of (μ s+1) h3,h2⟩
theorem Ok.eq {m:Option A}{a:A}(h:m=some a) (q:Q a):Ok m Q:=⟨a,h,q⟩
theorem Le.ok {a b:Option A}(h:Le a b) (k:Ok a Q):Ok b Q:=by
 obtain⟨x,h1,h2⟩:=k
 exact⟨x,h x h1,h2⟩
end
end Go.Proofs.YtnclgkplpjpnfaaDoorT
