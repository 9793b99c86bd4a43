/- The row of the statement, out of the plain law and the printed text. -/
import Derived.Test.YtnclgkplpjpnfaaDoorRows
import Derived.Test.YtnclgkplpjpnfaaDoorPppA
import Derived.Test.YtnclgkplpjpnfaaDoorTie
import Derived.Test.YtnclgkplpjpnfaaDoorCards
import Derived.WalkKit
import Derived.ProofKit
import Derived.OpenShut
import Derived.ShutString
import Derived.ChangeOld
import Derived.Below
import Derived.Handed
import Derived.LaidLaws
import Derived.Stop.LaidErr
import Derived.SevenTiedAt
import Derived.Test.YtnclgkplpjpnfaaDoorNpp
import Derived.Test.YtnclgkplpjpnfaaDoorMpp
set_option linter.all false
namespace Go.Proofs.YtnclgkplpjpnfaaDoor.fnExactParsePlan
open Go.ChangeShapes Go.WideShapes Go.ChangeAt Go.RowKit Go.Proofs.YtnclgkplpjpnfaaDoorT Go.Proofs.YtnclgkplpjpnfaaDoorX
open Go.ChangeMaps (open_string shut_string)
set_option linter.all false
theorem own:ownKnob Tryd.prog.godebug=none:=by kernel_rfl
theorem laidOut:laidOutB Tryd.prog=true:=by kernel_rfl
def oneCell:DataW Unit→Value
 |.lit (.int k z)=>Value.int k z
 |_=>undef
def cellsOf:DataW Unit→Array Value
 |.agg xs=>(xs.flatMap fun x=>match x with|.agg ys=>ys.map oneCell|y=>[oneCell y]).toArray
 |_=>#[]
def setCells (cs:Array Value):Obj→Obj
 |.cells _ t frozen=>.cells cs t frozen
 |o=>o
def textOf:DataW Unit→ByteArray
 |.iface _ (.ptr (.agg [.lit (.string l)]))=>⟨l.toArray⟩
 |_=>ByteArray.empty
noncomputable def low:Nat:=(World.holding Tryd.prog default ⟨#[],#[],[]⟩).heap.size
noncomputable def laidWorld (os:Os):World:=
 let w0:=World.holding Tryd.prog os ⟨#[.cells #[.string (textOf Rows.laid_strconv_ErrRange)] 100,.cells #[.string (textOf Rows.laid_strconv_ErrSyntax)] 100],#[],[]⟩
 {w0 with heap:=(((((w0.heap.modify 3 (setCells (cellsOf Rows.laid_math_bits_deBruijn32tab))).modify 4 (setCells (cellsOf Rows.laid_math_bits_deBruijn64tab))).modify 2 (setCells (cellsOf Rows.laid_internal_strconv_uint64pow10))).modify 1 (setCells #[.iface 98 (.pointer (some ⟨low+0,0,none⟩))])).modify 0 (setCells #[.iface 98 (.pointer (some ⟨low+1,0,none⟩))]))}
theorem laidWorld_met (os:Os) (args:Array Value):laidMet Tryd.prog Rows.fnExactParsePlanRow.laid ((laidWorld os).forCall (fun _ _=>0) ⟨#[],args,[]⟩).memory:=
 laidMet_of_run' 8 (by kernel_rfl) (by kernel_rfl)
theorem tab_of {W:World}(h:laidMet Tryd.prog Rows.fnExactParsePlanRow.laid W):Lib.TabIs Tryd.prog W "internal/strconv.uint64pow10" .u64 Lib.pow10Tab:=
 Lib.tabIs_of_head (rest:=_) (g:=2) (t:=107) (e:=87) (n:=20) (by kernel_rfl) (by kernel_rfl) Tryd.underlying107 Tryd.underlying87 (by kernel_rfl) (by kernel_rfl) h.tail.tail
theorem star_is:"*"++"errors.errorString"="*errors.errorString":=by decide
theorem row_star (u:TypeId)(h:Tryd.prog.typeName? 3 u=some "*errors.errorString"):u=98:=
 typeName_ptr_named (nm:="errors.errorString") (by rw[star_is];kernel_rfl) (by kernel_rfl) (by decide) u (by rw[star_is];exact h)
theorem nge_of {W:World}(h:laidMet Tryd.prog Rows.fnExactParsePlanRow.laid W):∃t p,W.var? Tryd.prog "strconv.ErrRange"=some #[.iface t p]:=by
 obtain⟨a,s,hv,-,-,-⟩:=laid_sentinel (g:=1) (ti:=75) (tp:=98) (te:=100) (ts:=9) h.tail.tail.tail (by kernel_rfl) (by kernel_rfl) Tryd.underlying75 row_star Tryd.underlying98 Tryd.underlying100 rfl rfl Tryd.underlying9 (by kernel_rfl) (by kernel_rfl)
 exact⟨_,_,hv⟩
theorem tax_of {W:World}(h:laidMet Tryd.prog Rows.fnExactParsePlanRow.laid W):∃t p,W.var? Tryd.prog "strconv.ErrSyntax"=some #[.iface t p]:=by
 obtain⟨a,s,hv,-,-,-⟩:=laid_sentinel (g:=0) (ti:=75) (tp:=98) (te:=100) (ts:=9) h.tail.tail.tail.tail (by kernel_rfl) (by kernel_rfl) Tryd.underlying75 row_star Tryd.underlying98 Tryd.underlying100 rfl rfl Tryd.underlying9 (by kernel_rfl) (by kernel_rfl)
 exact⟨_,_,hv⟩
set_option maxRecDepth 100000 in
theorem lifted (os:Os) (started:os.Started) (H:Type) (enc:TypeId×Value→H) :
  ReturnsInHanded {} Tryd.checked os 3 .any (fun w args=>(Rows.fnExactParsePlanSpec.pre enc Tryd.prog Tryd.f3 Rows.fnExactParsePlanRow.domain false w args∧laidMet Tryd.prog Rows.fnExactParsePlanRow.laid w)∧sizedMet enc Tryd.prog Tryd.f3 (OpenSpec.ofChange Rows.fnExactParsePlanSpec) false w args) (Rows.fnExactParsePlanSpec.post enc Tryd.prog Tryd.f3 false true false false):=by
 refine returnsInHanded_of_change_and (C:=Tryd.checked) (X:=fun w _=>laidMet Tryd.prog Rows.fnExactParsePlanRow.laid w) (fun _ _ _ hh h=>h.of_heap hh) own started (by kernel_rfl) Tryd.func3
  (ChangeSpec.witness_at (enc:=enc) (C:=Tryd.checked) (os:=os) (X:=fun w _=>laidMet Tryd.prog Rows.fnExactParsePlanRow.laid w) false (laidWorld os) #[.string ByteArray.empty] 8 rfl (by kernel_rfl) (by kernel_rfl) (by kernel_rfl) (by kernel_rfl) (by kernel_rfl) (laidWorld_met os _)) ?_
 intro W base args ds gs before hval0 hW hcnd hsz0 hL _
 have hval:∀(j:Nat) t v,Tryd.f3.params[j]?=some t→args[j]?=some v→Value.okWide Tryd.prog W .any base t v:=hval0
 have hW':=hW
 obtain⟨p,q,hA0,hV,rfl,hfz,hnd⟩:=hW
 have hA:DataW.TrodAll enc Tryd.prog W 0 (fun _=>true) true Tryd.f3.params.toList args.toList ds p:=hA0
 rw[Tryd.params3] at hA hval
 obtain⟨v0,vs0,d0,ds0,p0,q0,hargs,rfl,rfl,h0,r0⟩:=trodAll_cons hA
 obtain⟨rfl,rfl,rfl⟩:=trodAll_nil r0
 obtain rfl:args=#[v0]:=by cases args;simp_all
 obtain⟨rfl,rfl⟩:=trodVars_none hV
 have k0:=h0
 have lt0:∀x∈p0,x.block<W.heap.size:=by obtain⟨m,hm⟩:=k0;exact DataW.trod_lt m _ _ _ hm
 obtain⟨x0,w0,g0⟩:=arg_ty (P:=Tryd.prog) (t:=.str) (T:=9) (tt_ok _ _ (by kernel_rfl)) (hval 0 9 v0 rfl rfl) h0
 clear hA0 hval0
 have hF:F_16 x0=some true:=pure_FnExactParsePlan (wl_Text w0)
 have hR:Ret Tryd.prog 3 66 ([dt false false .str x0].map .d) [] (.d (bv true)) []:=law_ret (callL_ok ft_ok hF) (by kernel_rfl) (by kernel_rfl) rfl rfl rfl rfl
 refine(law_calls (vals:=[v0]) (gl_all (tab_of hL) (tax_of hL) (nge_of hL)) hR rfl (fun i X hX v hv=>?_)).mono fun e W' ⟨he,bel⟩=>?_
 ·match i,hX,hv with
  |0,rfl,rfl=>exact g0
 subst he
 exact⟨_,rfl,_,_,_,[],_,[],hW',trodAll_mk1 (shut_bool Tryd.underlying4 _),(trodAll_cons_mk (Below.trod laidOut (by kernel_rfl) (of_decide_eq_true (by kernel_rfl)) k0 bel lt0) trodAll_mk0),rfl,bel.frame _,fun h=>by cases h⟩
theorem over:Rows.fnExactParsePlanRow.holds Tryd.pinned (OpenSpec.ofChange Rows.fnExactParsePlanSpec):=
 OpenClaim.holds_of_wide 3 Tryd.f3 rfl rfl rfl rfl rfl rfl rfl ⟨rfl,rfl,rfl,rfl,rfl⟩ rfl rfl rfl rfl rfl named Tryd.func3 mf.facts
  (of_decide_eq_true (by kernel_rfl)) (by unfold Func.isWrapper;first|(rw[if_pos (by decide +kernel)];kernel_rfl)|(rw[if_neg (by decide +kernel)];exact⟨rfl,rfl⟩))
  (fun os started H enc _=>lifted os started H enc)
theorem proved:Rows.FnExactParsePlanSaid:=over
theorem card:Rows.FnExactParsePlanCardSaid:=
 Claim7.holds_tied_plain_at .later [] [.data,.data,.data,.sentinel,.sentinel] true (true,"c0f18d94cba61a8aa0646b09b255178f80495131a05d11bb4e9599cdc057a6b6") true
  proved (fun _ h=>by cases h) (by kernel_rfl) (fun _ h=>by cases h) fnExactParsePlan_row_tie rfl ⟨rfl,rfl⟩ (by kernel_rfl) rfl
  (fun f fn hf hfn=>by
   obtain rfl:f=3:=Option.some.inj (named.symm.trans hf) |>.symm
   obtain rfl:fn=Tryd.f3:=(Option.some.inj (Tryd.func3.symm.trans hfn)).symm
   exact⟨by kernel_rfl,fun j t ht=>by
    rw[Tryd.params3] at ht
    have hm:t∈[9]:=by simpa using Array.mem_of_getElem? ht
    have hall:([9].all fun u=>!Tryd.prog.wantsStandIn u)=true:=by kernel_rfl
    exact(show Tryd.prog.wantsStandIn t=false by simpa using List.all_eq_true.1 hall t hm)⟩)
  (by kernel_rfl)
#print axioms card
end Go.Proofs.YtnclgkplpjpnfaaDoor.fnExactParsePlan
namespace Go.Proofs.YtnclgkplpjpnfaaDoor
theorem fnExactParsePlan_holds:Rows.FnExactParsePlanCardSaid:=fnExactParsePlan.card
end Go.Proofs.YtnclgkplpjpnfaaDoor
