/- The row of the statement, out of the plain law and the printed text. -/
import Derived.Test.YtficimgbanaafaaGreatRows
import Derived.Test.YtficimgbanaafaaGreatPceB
import Derived.WalkKit
import Derived.ProofKit
import Derived.OpenShut
import Derived.ShutString
import Derived.ChangeOld
import Derived.Below
import Derived.SizedLaws
import Derived.Test.YtficimgbanaafaaGreatNce
import Derived.Test.YtficimgbanaafaaGreatMce
set_option linter.all false
namespace Go.Proofs.YtficimgbanaafaaGreat.fnCertified
open Go.ChangeShapes Go.WideShapes Go.ChangeAt Go.RowKit Go.Proofs.YtficimgbanaafaaGreatT Go.Proofs.YtficimgbanaafaaGreatX
open Go.ChangeMaps (open_string shut_string)
set_option linter.all false
theorem own : ownKnob Tryz.prog.godebug = none := by kernel_rfl
theorem laidOut : laidOutB Tryz.prog = true := by kernel_rfl
set_option maxRecDepth 100000 in
theorem lifted (os : Os) (started : os.Started) (H : Type) (enc : TypeId × Value → H) :
  ReturnsInHanded {} Tryz.checked os 5 .any (Rows.fnCertifiedSpec.pre6 enc Tryz.prog Tryz.f5 Rows.fnCertifiedRow.domain false) (Rows.fnCertifiedSpec.post enc Tryz.prog Tryz.f5 false true false false) := by
 refine returnsInHanded_of_change_sized (C := Tryz.checked) own started (by kernel_rfl) Tryz.func5
  (ChangeSpec.witness6 (enc := enc) (C := Tryz.checked) false ⟨#[], #[.slice none 0 0], []⟩ 8 (by kernel_rfl) (by kernel_rfl) (by kernel_rfl) (by kernel_rfl)) ?_
 intro W base args ds gs before hval0 hW hcnd hsz0 _
 have hval : ∀ (j : Nat) t v, Tryz.f5.params[j]? = some t → args[j]? = some v → Value.okWide Tryz.prog W .any base t v := hval0
 have hW' := hW
 obtain ⟨p, q, hA0, hV, rfl, hfz, hnd⟩ := hW
 have hA : DataW.TrodAll enc Tryz.prog W 0 (fun _ => true) true Tryz.f5.params.toList args.toList ds p := hA0
 rw [Tryz.params5] at hA hval
 obtain ⟨v0, vs0, d0, ds0, p0, q0, hargs, rfl, rfl, h0, r0⟩ := trodAll_cons hA
 obtain ⟨rfl, rfl, rfl⟩ := trodAll_nil r0
 obtain rfl : args = #[v0] := by cases args; simp_all
 obtain ⟨rfl, rfl⟩ := trodVars_none hV
 have k0 := h0
 have lt0 : ∀ x ∈ p0, x.block < W.heap.size := by obtain ⟨m, hm⟩ := k0; exact DataW.trod_lt m _ _ _ hm
 obtain ⟨x0, w0, g0⟩ := arg_ty (P := Tryz.prog) (t := (.sl 5 (.int .u8))) (T := 22) (tt_ok _ _ (by kernel_rfl)) (hval 0 22 v0 rfl rfl) h0
 clear hA0 hval0
 have hF : F_27 x0 = some true := pure_FnCertified (wl_ByteT w0)
 have hR : Ret Tryz.prog 5 79 ([dt false false (.sl 5 (.int .u8)) x0].map .d) [] (.d (bv true)) [] := law_ret (callL_ok ft_ok hF) (by kernel_rfl) (by kernel_rfl) rfl rfl rfl rfl
 refine (law_calls (vals := [v0]) (gl_none (by kernel_rfl)) hR rfl (fun i X hX v hv => ?_)).mono fun e W' ⟨he, bel⟩ => ?_
 ·match i, hX, hv with
  | 0, rfl, rfl => exact g0
 subst he
 exact ⟨_, rfl, _, _, _, [], _, [], hW', trodAll_mk1 (shut_bool Tryz.underlying4 _), (trodAll_cons_mk (Below.trod laidOut (by kernel_rfl) (of_decide_eq_true (by kernel_rfl)) k0 bel lt0) trodAll_mk0), rfl, bel.frame _, fun h => by cases h⟩
theorem over : Rows.fnCertifiedRow.holds Tryz.pinned (OpenSpec.ofChange Rows.fnCertifiedSpec) :=
 OpenClaim.holds_of_wide 5 Tryz.f5 rfl rfl rfl rfl rfl rfl rfl ⟨rfl, rfl, rfl, rfl, rfl⟩ rfl rfl rfl rfl rfl named Tryz.func5 mf.facts
  (of_decide_eq_true (by kernel_rfl)) (by unfold Func.isWrapper; first | (rw [if_pos (by decide +kernel)]; kernel_rfl) | (rw [if_neg (by decide +kernel)]; exact ⟨rfl, rfl⟩))
  (fun os started H enc _ => lifted os started H enc)
theorem proved : Rows.FnCertifiedSaid := over
#print axioms proved
end Go.Proofs.YtficimgbanaafaaGreat.fnCertified
namespace Go.Proofs.YtficimgbanaafaaGreat
theorem fnCertified_holds : Rows.FnCertifiedSaid := fnCertified.proved
end Go.Proofs.YtficimgbanaafaaGreat
