/- The row of the statement, out of the plain law and the printed text. -/
import Derived.Test.YtlebkomgiibknaaDoorRows
import Derived.Test.YtlebkomgiibknaaDoorPstA
import Derived.Test.YtlebkomgiibknaaDoorTie
import Derived.Test.YtlebkomgiibknaaDoorCards
import Derived.WalkKit
import Derived.ProofKit
import Derived.OpenShut
import Derived.ShutString
import Derived.ChangeOld
import Derived.Below
import Derived.Handed
import Derived.LaidLaws
import Derived.Stop.LaidErr
import Derived.SevenTiedAt
import Derived.Test.YtlebkomgiibknaaDoorNst
import Derived.Test.YtlebkomgiibknaaDoorMst
set_option linter.all false
namespace Go.Proofs.YtlebkomgiibknaaDoor.fnExactStoreText
open Go.ChangeShapes Go.WideShapes Go.ChangeAt Go.RowKit Go.Proofs.YtlebkomgiibknaaDoorT Go.Proofs.YtlebkomgiibknaaDoorX
open Go.ChangeMaps (open_string shut_string)
set_option linter.all false
theorem own : ownKnob Tryd.prog.godebug = none := by kernel_rfl
theorem laidOut : laidOutB Tryd.prog = true := by kernel_rfl
def cellsOf : DataW Unit → Array Value
 | .agg xs => (xs.map fun x => match x with | .lit (.int k z) => Value.int k z | _ => undef).toArray
 | _ => #[]
def setCells (cs : Array Value) : Obj → Obj
 | .cells _ t frozen => .cells cs t frozen
 | o => o
noncomputable def laidWorld (os : Os) : World :=
 let w0 := World.holding Tryd.prog os ⟨#[], #[], []⟩
 { w0 with heap := (((w0.heap.modify 2 (setCells (cellsOf Rows.laid_math_bits_deBruijn32tab))).modify 3 (setCells (cellsOf Rows.laid_math_bits_deBruijn64tab))).modify 1 (setCells (cellsOf Rows.laid_internal_strconv_uint64pow10))) }
theorem laidWorld_met (os : Os) (args : Array Value) : laidMet Tryd.prog Rows.fnExactStoreTextRow.laid ((laidWorld os).forCall (fun _ _ => 0) ⟨#[], args, []⟩).memory :=
 laidMet_of_run' 8 (by kernel_rfl) (by kernel_rfl)
theorem tab_of {W : World} (h : laidMet Tryd.prog Rows.fnExactStoreTextRow.laid W) : Lib.TabIs Tryd.prog W "internal/strconv.uint64pow10" .u64 Lib.pow10Tab :=
 Lib.tabIs_of_head (rest := []) (g := 1) (t := 82) (e := 75) (n := 20) (by kernel_rfl) (by kernel_rfl) Tryd.underlying82 Tryd.underlying75 (by kernel_rfl) (by kernel_rfl) h.tail.tail
set_option maxRecDepth 100000 in
theorem lifted (os : Os) (started : os.Started) (H : Type) (enc : TypeId × Value → H) :
  ReturnsInHanded {} Tryd.checked os 3 .any (fun w args => (Rows.fnExactStoreTextSpec.pre enc Tryd.prog Tryd.f3 Rows.fnExactStoreTextRow.domain false w args ∧ laidMet Tryd.prog Rows.fnExactStoreTextRow.laid w) ∧ sizedMet enc Tryd.prog Tryd.f3 (OpenSpec.ofChange Rows.fnExactStoreTextSpec) false w args) (Rows.fnExactStoreTextSpec.post enc Tryd.prog Tryd.f3 false true false false) := by
 refine returnsInHanded_of_change_and (C := Tryd.checked) (X := fun w _ => laidMet Tryd.prog Rows.fnExactStoreTextRow.laid w) (fun _ _ _ hh h => h.of_heap hh) own started (by kernel_rfl) Tryd.func3
  (ChangeSpec.witness_at (enc := enc) (C := Tryd.checked) (os := os) (X := fun w _ => laidMet Tryd.prog Rows.fnExactStoreTextRow.laid w) false (laidWorld os) #[.slice none 0 0, .slice none 0 0] 8 rfl (by kernel_rfl) (by kernel_rfl) (by kernel_rfl) (by kernel_rfl) (by kernel_rfl) (laidWorld_met os _)) ?_
 intro W base args ds gs before hval0 hW hcnd hsz0 hL _
 have hval : ∀ (j : Nat) t v, Tryd.f3.params[j]? = some t → args[j]? = some v → Value.okWide Tryd.prog W .any base t v := hval0
 have hW' := hW
 obtain ⟨p, q, hA0, hV, rfl, hfz, hnd⟩ := hW
 have hA : DataW.TrodAll enc Tryd.prog W 0 (fun _ => true) true Tryd.f3.params.toList args.toList ds p := hA0
 rw [Tryd.params3] at hA hval
 obtain ⟨v0, vs0, d0, ds0, p0, q0, hargs, rfl, rfl, h0, r0⟩ := trodAll_cons hA
 obtain ⟨v1, vs1, d1, ds1, p1, q1, rfl, rfl, rfl, h1, r1⟩ := trodAll_cons r0
 obtain ⟨rfl, rfl, rfl⟩ := trodAll_nil r1
 obtain rfl : args = #[v0, v1] := by cases args; simp_all
 obtain ⟨rfl, rfl⟩ := trodVars_none hV
 have k0 := h0
 have lt0 : ∀ x ∈ p0, x.block < W.heap.size := by obtain ⟨m, hm⟩ := k0; exact DataW.trod_lt m _ _ _ hm
 obtain ⟨x0, w0, g0⟩ := arg_ty (P := Tryd.prog) (t := (.sl 35 (.pr .str (.pr (.int .i64) .un)))) (T := 22) (tt_ok _ _ (by kernel_rfl)) (hval 0 22 v0 rfl rfl) h0
 have k1 := h1
 have lt1 : ∀ x ∈ p1, x.block < W.heap.size := by obtain ⟨m, hm⟩ := k1; exact DataW.trod_lt m _ _ _ hm
 obtain ⟨x1, w1, g1⟩ := arg_ty (P := Tryd.prog) (t := (.sl 37 (.sl 41 (.sl 3 (.int .i64))))) (T := 23) (tt_ok _ _ (by kernel_rfl)) (hval 1 23 v1 rfl rfl) h1
 clear hA0 hval0
 have hF : F_laws_FnExactStoreText x0 x1 = some true := pure_FnExactStoreText (wl_TableS w0) (wl_IntSSS w1)
 have hR : Ret Tryd.prog 3 45 ([dt false false (.sl 35 (.pr .str (.pr (.int .i64) .un))) x0, dt false false (.sl 37 (.sl 41 (.sl 3 (.int .i64)))) x1].map .d) [] (.d (bv true)) [] := law_ret (callL_ok ft_ok hF) (by kernel_rfl) (by kernel_rfl) rfl rfl rfl rfl
 refine (law_calls (vals := [v0, v1]) (gl_tab (tab_of hL)) hR rfl (fun i X hX v hv => ?_)).mono fun e W' ⟨he, bel⟩ => ?_
 ·match i, hX, hv with
  | 0, rfl, rfl => exact g0
  | 1, rfl, rfl => exact g1
 subst he
 exact ⟨_, rfl, _, _, _, [], _, [], hW', trodAll_mk1 (shut_bool Tryd.underlying4 _), (trodAll_cons_mk (Below.trod laidOut (by kernel_rfl) (of_decide_eq_true (by kernel_rfl)) k0 bel lt0) (trodAll_cons_mk (Below.trod laidOut (by kernel_rfl) (of_decide_eq_true (by kernel_rfl)) k1 bel lt1) trodAll_mk0)), rfl, bel.frame _, fun h => by cases h⟩
theorem over : Rows.fnExactStoreTextRow.holds Tryd.pinned (OpenSpec.ofChange Rows.fnExactStoreTextSpec) :=
 OpenClaim.holds_of_wide 3 Tryd.f3 rfl rfl rfl rfl rfl rfl rfl ⟨rfl, rfl, rfl, rfl, rfl⟩ rfl rfl rfl rfl rfl named Tryd.func3 mf.facts
  (of_decide_eq_true (by kernel_rfl)) (by unfold Func.isWrapper; first | (rw [if_pos (by decide +kernel)]; kernel_rfl) | (rw [if_neg (by decide +kernel)]; exact ⟨rfl, rfl⟩))
  (fun os started H enc _ => lifted os started H enc)
theorem proved : Rows.FnExactStoreTextSaid := over
theorem card : Rows.FnExactStoreTextCardSaid :=
 Claim7.holds_tied_plain_at .later [] [.data, .data, .data] true (true, "6fe856dbd65a397cd3f45b0b9d04ee9e8f1508436da2274a933dfa727851505c") false
  proved (fun _ h => by cases h) (by kernel_rfl) (fun _ h => by cases h) fnExactStoreText_row_tie rfl ⟨rfl, rfl⟩ (by kernel_rfl) rfl
  (fun f fn hf hfn => by
   obtain rfl : f = 3 := Option.some.inj (named.symm.trans hf) |>.symm
   obtain rfl : fn = Tryd.f3 := (Option.some.inj (Tryd.func3.symm.trans hfn)).symm
   exact ⟨by kernel_rfl, fun j t ht => by
    rw [Tryd.params3] at ht
    have hm : t ∈ [22, 23] := by simpa using Array.mem_of_getElem? ht
    have hall : ([22, 23].all fun u => !Tryd.prog.wantsStandIn u) = true := by kernel_rfl
    exact (show Tryd.prog.wantsStandIn t = false by simpa using List.all_eq_true.1 hall t hm)⟩)
  (by kernel_rfl)
#print axioms card
end Go.Proofs.YtlebkomgiibknaaDoor.fnExactStoreText
namespace Go.Proofs.YtlebkomgiibknaaDoor
theorem fnExactStoreText_holds : Rows.FnExactStoreTextCardSaid := fnExactStoreText.card
end Go.Proofs.YtlebkomgiibknaaDoor
