/- The row of the statement, out of the plain law and the printed text. -/
import Derived.Test.YtnlgigmgogndcaaGreatRows
import Derived.Test.YtnlgigmgogndcaaGreatPaA
import Derived.WalkKit
import Derived.ProofKit
import Derived.OpenShut
import Derived.ShutString
import Derived.ChangeOld
import Derived.Below
import Derived.SizedLaws
import Derived.Test.YtnlgigmgogndcaaGreatNa
import Derived.Test.YtnlgigmgogndcaaGreatMa
set_option linter.all false
namespace Go.Proofs.YtnlgigmgogndcaaGreat.fnExactDiffersAsBag
open Go.ChangeShapes Go.WideShapes Go.ChangeAt Go.RowKit Go.Proofs.YtnlgigmgogndcaaGreatT Go.Proofs.YtnlgigmgogndcaaGreatX
open Go.ChangeMaps (open_string shut_string)
set_option linter.all false
theorem own : ownKnob Tryz.prog.godebug = none := by kernel_rfl
theorem laidOut : laidOutB Tryz.prog = true := by kernel_rfl
set_option maxRecDepth 100000 in
theorem lifted (os : Os) (started : os.Started) (H : Type) (enc : TypeId × Value → H) :
    ReturnsInHanded {} Tryz.checked os 3 .any (Rows.fnExactDiffersAsBagSpec.pre6 enc Tryz.prog Tryz.f3 Rows.fnExactDiffersAsBagRow.domain false) (Rows.fnExactDiffersAsBagSpec.post enc Tryz.prog Tryz.f3 false true false false) := by
  refine returnsInHanded_of_change_sized (C := Tryz.checked) own started (by kernel_rfl) Tryz.func3
    (ChangeSpec.witness6 (enc := enc) (C := Tryz.checked) false ⟨#[], #[.slice none 0 0, .slice none 0 0, .slice none 0 0, .int .i64 0], []⟩ 8 (by kernel_rfl) (by kernel_rfl) (by kernel_rfl) (by kernel_rfl)) ?_
  intro W base args ds gs before hval0 hW hcnd hsz0 _
  have hval : ∀ (j : Nat) t v, Tryz.f3.params[j]? = some t → args[j]? = some v → Value.okWide Tryz.prog W .any base t v := hval0
  have hW' := hW
  obtain ⟨p, q, hA0, hV, rfl, hfz, hnd⟩ := hW
  have hA : DataW.TrodAll enc Tryz.prog W 0 (fun _ => true) true Tryz.f3.params.toList args.toList ds p := hA0
  rw [Tryz.params3] at hA hval
  obtain ⟨v0, vs0, d0, ds0, p0, q0, hargs, rfl, rfl, h0, r0⟩ := trodAll_cons hA
  obtain ⟨v1, vs1, d1, ds1, p1, q1, rfl, rfl, rfl, h1, r1⟩ := trodAll_cons r0
  obtain ⟨v2, vs2, d2, ds2, p2, q2, rfl, rfl, rfl, h2, r2⟩ := trodAll_cons r1
  obtain ⟨v3, vs3, d3, ds3, p3, q3, rfl, rfl, rfl, h3, r3⟩ := trodAll_cons r2
  obtain ⟨rfl, rfl, rfl⟩ := trodAll_nil r3
  obtain rfl : args = #[v0, v1, v2, v3] := by cases args; simp_all
  obtain ⟨rfl, rfl⟩ := trodVars_none hV
  have k0 := h0
  have lt0 : ∀ x ∈ p0, x.block < W.heap.size := by obtain ⟨m, hm⟩ := k0; exact DataW.trod_lt m _ _ _ hm
  obtain ⟨x0, w0, g0⟩ := arg_ty (P := Tryz.prog) (t := (.sl 36 (.pr .str (.pr (.int .i64) .un)))) (T := 22) (tt_ok _ _ (by kernel_rfl)) (hval 0 22 v0 rfl rfl) h0
  have k1 := h1
  have lt1 : ∀ x ∈ p1, x.block < W.heap.size := by obtain ⟨m, hm⟩ := k1; exact DataW.trod_lt m _ _ _ hm
  obtain ⟨x1, w1, g1⟩ := arg_ty (P := Tryz.prog) (t := (.sl 40 (.pr (.int .i64) (.pr .str (.pr (.int .i64) (.pr (.int .i64) (.pr (.int .i64) (.pr .bool (.pr (.sl 3 (.int .i64)) .un))))))))) (T := 23) (tt_ok _ _ (by kernel_rfl)) (hval 1 23 v1 rfl rfl) h1
  have k2 := h2
  have lt2 : ∀ x ∈ p2, x.block < W.heap.size := by obtain ⟨m, hm⟩ := k2; exact DataW.trod_lt m _ _ _ hm
  obtain ⟨x2, w2, g2⟩ := arg_ty (P := Tryz.prog) (t := (.sl 40 (.pr (.int .i64) (.pr .str (.pr (.int .i64) (.pr (.int .i64) (.pr (.int .i64) (.pr .bool (.pr (.sl 3 (.int .i64)) .un))))))))) (T := 23) (tt_ok _ _ (by kernel_rfl)) (hval 2 23 v2 rfl rfl) h2
  have k3 := h3
  have lt3 : ∀ x ∈ p3, x.block < W.heap.size := by obtain ⟨m, hm⟩ := k3; exact DataW.trod_lt m _ _ _ hm
  obtain ⟨x3, w3, g3⟩ := arg_ty (P := Tryz.prog) (t := (.int .i64)) (T := 3) (tt_ok _ _ (by kernel_rfl)) (hval 3 3 v3 rfl rfl) h3
  clear hA0 hval0
  have hF : F_laws_FnExactDiffersAsBag x0 x1 x2 x3 = some true := pure_FnExactDiffersAsBag (wl_TableS w0) (wl_NodeS w1) (wl_NodeS w2) (wl_Int w3)
  have hR : Ret Tryz.prog 3 67 ([dt false false (.sl 36 (.pr .str (.pr (.int .i64) .un))) x0, dt false false (.sl 40 (.pr (.int .i64) (.pr .str (.pr (.int .i64) (.pr (.int .i64) (.pr (.int .i64) (.pr .bool (.pr (.sl 3 (.int .i64)) .un)))))))) x1, dt false false (.sl 40 (.pr (.int .i64) (.pr .str (.pr (.int .i64) (.pr (.int .i64) (.pr (.int .i64) (.pr .bool (.pr (.sl 3 (.int .i64)) .un)))))))) x2, dt false false (.int .i64) x3].map .d) [] (.d (bv true)) [] := law_ret (callL_ok ft_ok hF) (by kernel_rfl) (by kernel_rfl) rfl rfl rfl rfl
  refine (law_calls (vals := [v0, v1, v2, v3]) hR rfl (fun i X hX v hv => ?_)).mono fun e W' ⟨he, bel⟩ => ?_
  · match i, hX, hv with
    | 0, rfl, rfl => exact g0
    | 1, rfl, rfl => exact g1
    | 2, rfl, rfl => exact g2
    | 3, rfl, rfl => exact g3
  subst he
  exact ⟨_, rfl, _, _, _, [], _, [], hW', trodAll_mk1 (shut_bool Tryz.underlying4 _), (trodAll_cons_mk (Below.trod laidOut (by kernel_rfl) (of_decide_eq_true (by kernel_rfl)) k0 bel lt0) (trodAll_cons_mk (Below.trod laidOut (by kernel_rfl) (of_decide_eq_true (by kernel_rfl)) k1 bel lt1) (trodAll_cons_mk (Below.trod laidOut (by kernel_rfl) (of_decide_eq_true (by kernel_rfl)) k2 bel lt2) (trodAll_cons_mk (Below.trod laidOut (by kernel_rfl) (of_decide_eq_true (by kernel_rfl)) k3 bel lt3) trodAll_mk0)))), rfl, bel.frame _, fun h => by cases h⟩
theorem over : Rows.fnExactDiffersAsBagRow.holds Tryz.pinned (OpenSpec.ofChange Rows.fnExactDiffersAsBagSpec) :=
  OpenClaim.holds_of_wide 3 Tryz.f3 rfl rfl rfl rfl rfl rfl rfl ⟨rfl, rfl, rfl, rfl, rfl⟩ rfl rfl rfl rfl rfl named Tryz.func3 mf.facts
    (of_decide_eq_true (by kernel_rfl)) (by unfold Func.isWrapper; first | (rw [if_pos (by decide +kernel)]; kernel_rfl) | (rw [if_neg (by decide +kernel)]; exact ⟨rfl, rfl⟩))
    (fun os started H enc _ => lifted os started H enc)
theorem proved : Rows.FnExactDiffersAsBagSaid := over
#print axioms proved
end Go.Proofs.YtnlgigmgogndcaaGreat.fnExactDiffersAsBag
namespace Go.Proofs.YtnlgigmgogndcaaGreat
theorem fnExactDiffersAsBag_holds : Rows.FnExactDiffersAsBagSaid := fnExactDiffersAsBag.proved
end Go.Proofs.YtnlgigmgogndcaaGreat
