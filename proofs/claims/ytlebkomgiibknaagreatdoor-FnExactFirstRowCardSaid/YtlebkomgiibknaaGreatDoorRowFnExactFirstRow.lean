/- The row of the statement, out of the plain law and the printed text. -/
import Derived.Test.YtlebkomgiibknaaGreatDoorRows
import Derived.Test.YtlebkomgiibknaaGreatDoorPfrB
import Derived.Test.YtlebkomgiibknaaGreatDoorTie
import Derived.Test.YtlebkomgiibknaaGreatDoorCards
import Derived.WalkKit
import Derived.ProofKit
import Derived.OpenShut
import Derived.ShutString
import Derived.ChangeOld
import Derived.Below
import Derived.Handed
import Derived.LaidLaws
import Derived.Stop.LaidErr
import Derived.SevenTiedAt
import Derived.Test.YtlebkomgiibknaaGreatDoorNfr
import Derived.Test.YtlebkomgiibknaaGreatDoorMfr
set_option linter.all false
namespace Go.Proofs.YtlebkomgiibknaaGreatDoor.fnExactFirstRow
open Go.ChangeShapes Go.WideShapes Go.ChangeAt Go.RowKit Go.Proofs.YtlebkomgiibknaaGreatDoorT Go.Proofs.YtlebkomgiibknaaGreatDoorX
open Go.ChangeMaps (open_string shut_string)
set_option linter.all false
theorem own : ownKnob Tryz.prog.godebug = none := by kernel_rfl
theorem laidOut : laidOutB Tryz.prog = true := by kernel_rfl
def cellsOf : DataW Unit → Array Value
 | .agg xs => (xs.map fun x => match x with | .lit (.int k z) => Value.int k z | _ => undef).toArray
 | _ => #[]
def setCells (cs : Array Value) : Obj → Obj
 | .cells _ t frozen => .cells cs t frozen
 | o => o
noncomputable def laidWorld (os : Os) : World :=
 let w0 := World.holding Tryz.prog os ⟨#[], #[], []⟩
 { w0 with heap := (((w0.heap.modify 2 (setCells (cellsOf Rows.laid_math_bits_deBruijn32tab))).modify 3 (setCells (cellsOf Rows.laid_math_bits_deBruijn64tab))).modify 1 (setCells (cellsOf Rows.laid_internal_strconv_uint64pow10))) }
theorem laidWorld_met (os : Os) (args : Array Value) : laidMet Tryz.prog Rows.fnExactFirstRowRow.laid ((laidWorld os).forCall (fun _ _ => 0) ⟨#[], args, []⟩).memory :=
 laidMet_of_run' 8 (by kernel_rfl) (by kernel_rfl)
theorem tab_of {W : World} (h : laidMet Tryz.prog Rows.fnExactFirstRowRow.laid W) : Lib.TabIs Tryz.prog W "internal/strconv.uint64pow10" .u64 Lib.pow10Tab :=
 Lib.tabIs_of_head (rest := []) (g := 1) (t := 187) (e := 180) (n := 20) (by kernel_rfl) (by kernel_rfl) Tryz.underlying187 Tryz.underlying180 (by kernel_rfl) (by kernel_rfl) h.tail.tail
set_option maxRecDepth 100000 in
theorem lifted (os : Os) (started : os.Started) (H : Type) (enc : TypeId × Value → H) :
  ReturnsInHanded {} Tryz.checked os 3 .any (fun w args => (Rows.fnExactFirstRowSpec.pre enc Tryz.prog Tryz.f3 Rows.fnExactFirstRowRow.domain false w args ∧ laidMet Tryz.prog Rows.fnExactFirstRowRow.laid w) ∧ sizedMet enc Tryz.prog Tryz.f3 (OpenSpec.ofChange Rows.fnExactFirstRowSpec) false w args) (Rows.fnExactFirstRowSpec.post enc Tryz.prog Tryz.f3 false true false false) := by
 refine returnsInHanded_of_change_and (C := Tryz.checked) (X := fun w _ => laidMet Tryz.prog Rows.fnExactFirstRowRow.laid w) (fun _ _ _ hh h => h.of_heap hh) own started (by kernel_rfl) Tryz.func3
  (ChangeSpec.witness_at (enc := enc) (C := Tryz.checked) (os := os) (X := fun w _ => laidMet Tryz.prog Rows.fnExactFirstRowRow.laid w) false (laidWorld os) #[.slice none 0 0, .slice none 0 0, .int .i64 0] 8 rfl (by kernel_rfl) (by kernel_rfl) (by kernel_rfl) (by kernel_rfl) (by kernel_rfl) (laidWorld_met os _)) ?_
 intro W base args ds gs before hval0 hW hcnd hsz0 hL _
 have hval : ∀ (j : Nat) t v, Tryz.f3.params[j]? = some t → args[j]? = some v → Value.okWide Tryz.prog W .any base t v := hval0
 have hW' := hW
 obtain ⟨p, q, hA0, hV, rfl, hfz, hnd⟩ := hW
 have hA : DataW.TrodAll enc Tryz.prog W 0 (fun _ => true) true Tryz.f3.params.toList args.toList ds p := hA0
 rw [Tryz.params3] at hA hval
 obtain ⟨v0, vs0, d0, ds0, p0, q0, hargs, rfl, rfl, h0, r0⟩ := trodAll_cons hA
 obtain ⟨v1, vs1, d1, ds1, p1, q1, rfl, rfl, rfl, h1, r1⟩ := trodAll_cons r0
 obtain ⟨v2, vs2, d2, ds2, p2, q2, rfl, rfl, rfl, h2, r2⟩ := trodAll_cons r1
 obtain ⟨rfl, rfl, rfl⟩ := trodAll_nil r2
 obtain rfl : args = #[v0, v1, v2] := by cases args; simp_all
 obtain ⟨rfl, rfl⟩ := trodVars_none hV
 have k0 := h0
 have lt0 : ∀ x ∈ p0, x.block < W.heap.size := by obtain ⟨m, hm⟩ := k0; exact DataW.trod_lt m _ _ _ hm
 obtain ⟨x0, w0, g0⟩ := arg_ty (P := Tryz.prog) (t := (.sl 49 (.pr .str (.pr (.int .i64) .un)))) (T := 22) (tt_ok _ _ (by kernel_rfl)) (hval 0 22 v0 rfl rfl) h0
 have k1 := h1
 have lt1 : ∀ x ∈ p1, x.block < W.heap.size := by obtain ⟨m, hm⟩ := k1; exact DataW.trod_lt m _ _ _ hm
 obtain ⟨x1, w1, g1⟩ := arg_ty (P := Tryz.prog) (t := (.sl 52 (.pr (.int .i64) (.pr .str (.pr (.int .i64) (.pr (.int .i64) (.pr (.int .i64) (.pr .bool (.pr (.sl 3 (.int .i64)) .un))))))))) (T := 23) (tt_ok _ _ (by kernel_rfl)) (hval 1 23 v1 rfl rfl) h1
 have k2 := h2
 have lt2 : ∀ x ∈ p2, x.block < W.heap.size := by obtain ⟨m, hm⟩ := k2; exact DataW.trod_lt m _ _ _ hm
 obtain ⟨x2, w2, g2⟩ := arg_ty (P := Tryz.prog) (t := (.int .i64)) (T := 3) (tt_ok _ _ (by kernel_rfl)) (hval 2 3 v2 rfl rfl) h2
 clear hA0 hval0
 have hF : F_laws_FnExactFirstRow x0 x1 x2 = some true := pure_FnExactFirstRow (wl_TableS w0) (wl_NodeS w1) (wl_Int w2)
 have hR : Ret Tryz.prog 3 49 ([dt false false (.sl 49 (.pr .str (.pr (.int .i64) .un))) x0, dt false false (.sl 52 (.pr (.int .i64) (.pr .str (.pr (.int .i64) (.pr (.int .i64) (.pr (.int .i64) (.pr .bool (.pr (.sl 3 (.int .i64)) .un)))))))) x1, dt false false (.int .i64) x2].map .d) [] (.d (bv true)) [] := law_ret (callL_ok ft_ok hF) (by kernel_rfl) (by kernel_rfl) rfl rfl rfl rfl
 refine (law_calls (vals := [v0, v1, v2]) (gl_tab (tab_of hL)) hR rfl (fun i X hX v hv => ?_)).mono fun e W' ⟨he, bel⟩ => ?_
 ·match i, hX, hv with
  | 0, rfl, rfl => exact g0
  | 1, rfl, rfl => exact g1
  | 2, rfl, rfl => exact g2
 subst he
 exact ⟨_, rfl, _, _, _, [], _, [], hW', trodAll_mk1 (shut_bool Tryz.underlying4 _), (trodAll_cons_mk (Below.trod laidOut (by kernel_rfl) (of_decide_eq_true (by kernel_rfl)) k0 bel lt0) (trodAll_cons_mk (Below.trod laidOut (by kernel_rfl) (of_decide_eq_true (by kernel_rfl)) k1 bel lt1) (trodAll_cons_mk (Below.trod laidOut (by kernel_rfl) (of_decide_eq_true (by kernel_rfl)) k2 bel lt2) trodAll_mk0))), rfl, bel.frame _, fun h => by cases h⟩
theorem over : Rows.fnExactFirstRowRow.holds Tryz.pinned (OpenSpec.ofChange Rows.fnExactFirstRowSpec) :=
 OpenClaim.holds_of_wide 3 Tryz.f3 rfl rfl rfl rfl rfl rfl rfl ⟨rfl, rfl, rfl, rfl, rfl⟩ rfl rfl rfl rfl rfl named Tryz.func3 mf.facts
  (of_decide_eq_true (by kernel_rfl)) (by unfold Func.isWrapper; first | (rw [if_pos (by decide +kernel)]; kernel_rfl) | (rw [if_neg (by decide +kernel)]; exact ⟨rfl, rfl⟩))
  (fun os started H enc _ => lifted os started H enc)
theorem proved : Rows.FnExactFirstRowSaid := over
theorem card : Rows.FnExactFirstRowCardSaid :=
 Claim7.holds_tied_plain_at .later [] [.data, .data, .data] true (true, "0cd330a35dbe82648bbf96d12afdaf32d95b42987630ac2085220a7eb009adbc") false
  proved (fun _ h => by cases h) (by kernel_rfl) (fun _ h => by cases h) fnExactFirstRow_row_tie rfl ⟨rfl, rfl⟩ (by kernel_rfl) rfl
  (fun f fn hf hfn => by
   obtain rfl : f = 3 := Option.some.inj (named.symm.trans hf) |>.symm
   obtain rfl : fn = Tryz.f3 := (Option.some.inj (Tryz.func3.symm.trans hfn)).symm
   exact ⟨by kernel_rfl, fun j t ht => by
    rw [Tryz.params3] at ht
    have hm : t ∈ [22, 23, 3] := by simpa using Array.mem_of_getElem? ht
    have hall : ([22, 23, 3].all fun u => !Tryz.prog.wantsStandIn u) = true := by kernel_rfl
    exact (show Tryz.prog.wantsStandIn t = false by simpa using List.all_eq_true.1 hall t hm)⟩)
  (by kernel_rfl)
#print axioms card
end Go.Proofs.YtlebkomgiibknaaGreatDoor.fnExactFirstRow
namespace Go.Proofs.YtlebkomgiibknaaGreatDoor
theorem fnExactFirstRow_holds : Rows.FnExactFirstRowCardSaid := fnExactFirstRow.card
end Go.Proofs.YtlebkomgiibknaaGreatDoor
