/- The row of FnExactCountRows, out of the walks and the plain law. -/
import Derived.Test.YtdclbbkkcngjnaaTrE
import Derived.Test.YtdclbbkkcngjnaaPCountRows
import Derived.Test.YtdclbbkkcngjnaaRows
import Derived.WalkKit
import Derived.ProofKit
import Derived.OpenShut
import Derived.ShutString
import Derived.ChangeOld
import Derived.Below
import Derived.SizedLaws
namespace Go.Proofs.Ytdclbbkkcngjnaa.fnExactCountRows
open Go.ChangeShapes Go.WideShapes Go.ChangeAt Go.RowKit Go.Proofs.YtdclbbkkcngjnaaT
open Go.ChangeMaps (open_string shut_string)
set_option linter.unusedVariables false
theorem own : ownKnob Try.prog.godebug = none := by kernel_rfl
theorem laidOut : laidOutB Try.prog = true := by kernel_rfl
def w3 (x : Int) : Prop := (Lit.int .i64 x).wf = true
def w22 (xs : List Int) : Prop := xs.length ≤ maxLen ∧ ∀ x, x ∈ xs → w3 x
def w52 (xs : List (List Int)) : Prop := xs.length ≤ maxLen ∧ ∀ x, x ∈ xs → w22 x
def w29 (xs : List (List (List Int))) : Prop := xs.length ≤ maxLen ∧ ∀ x, x ∈ xs → w52 x
theorem d3 : Rds Try.prog 3 (Go.Proofs.YtdclbbkkcngjnaaX.c3 false) w3 := rds_int Try.underlying3
theorem d22 : Rds Try.prog 22 (Go.Proofs.YtdclbbkkcngjnaaX.c22 false) w22 := rds_slice Try.underlying22 rfl (by kernel_rfl) d3
theorem d52 : Rds Try.prog 52 (Go.Proofs.YtdclbbkkcngjnaaX.c52 false) w52 := rds_slice Try.underlying52 rfl (by kernel_rfl) d22
theorem d29 : Rds Try.prog 29 (fun xs : List (List (List Int)) => [.sl false 52 (xs.map (Go.Proofs.YtdclbbkkcngjnaaX.c52 false))]) w29 := rds_slice Try.underlying29 rfl (by kernel_rfl) d52
set_option maxRecDepth 100000 in
theorem lifted (os : Os) (started : os.Started) (H : Type) (enc : TypeId × Value → H) :
    ReturnsInHanded {} Try.checked os 5 .any (Rows.fnExactCountRowsSpec.pre6 enc Try.prog Try.f5 Rows.fnExactCountRowsRow.domain false) (Rows.fnExactCountRowsSpec.post enc Try.prog Try.f5 false true false false) := by
  refine returnsInHanded_of_change_sized (C := Try.checked) own started (by kernel_rfl) Try.func5
    (ChangeSpec.witness6 (enc := enc) (C := Try.checked) false ⟨#[], #[.slice none 0 0], []⟩ 8 (by kernel_rfl) (by kernel_rfl) (by kernel_rfl) (by kernel_rfl)) ?_
  intro W base args ds gs before hval0 hW hcnd hsz0 _
  have hval : ∀ (j : Nat) t v, Try.f5.params[j]? = some t → args[j]? = some v → Value.okWide Try.prog W .any base t v := hval0
  have hW' := hW
  obtain ⟨p, q, hA0, hV, rfl, hfz, hnd⟩ := hW
  have hA : DataW.TrodAll enc Try.prog W 0 (fun _ => true) true Try.f5.params.toList args.toList ds p := hA0
  rw [Try.params5] at hA hval
  obtain ⟨v0, vs0, d0, ds0, p0, q0, hargs, rfl, rfl, h0, r0⟩ := trodAll_cons hA
  obtain ⟨rfl, rfl, rfl⟩ := trodAll_nil r0
  obtain rfl : args = #[v0] := by cases args; simp_all
  obtain ⟨rfl, rfl⟩ := trodVars_none hV
  obtain ⟨a0, len0, cap0, rfl⟩ := okWide_slice Try.underlying29 (hval 0 29 v0 rfl rfl)
  have k0 := h0
  have lt0 : ∀ x ∈ p0, x.block < W.heap.size := by obtain ⟨m, hm⟩ := k0; exact DataW.trod_lt m _ _ _ hm
  obtain ⟨x0, w0, g0⟩ := arg_slice d29 h0
  clear hA0 hval0 hsz0
  obtain ⟨kf, hF⟩ := Go.Proofs.YtdclbbkkcngjnaaX.pure5 x0 ⟨w0.1, fun x hx => ⟨(w0.2 x hx).1, fun y hy => ((w0.2 x hx).2 y hy).1⟩⟩
  refine (law_calls (vals := [.slice a0 len0 cap0]) (Xs := [.one (.sl false 52 (x0.map (Go.Proofs.YtdclbbkkcngjnaaX.c52 false)))]) (Go.Proofs.YtdclbbkkcngjnaaX.r5 kf x0 true hF) rfl (fun i X hX v hv => ?_)).mono fun e W' ⟨he, bel⟩ => ?_
  · match i, hX, hv with
    | 0, rfl, rfl => exact g0
  subst he
  exact ⟨_, rfl, _, _, _, [], _, [], hW', trodAll_mk1 (shut_bool Try.underlying4 _), (trodAll_cons_mk (Below.trod laidOut (by kernel_rfl) (of_decide_eq_true (by kernel_rfl)) k0 bel lt0) trodAll_mk0), rfl, bel.frame _, fun h => by cases h⟩
theorem over : Rows.fnExactCountRowsRow.holds Try.pinned (OpenSpec.ofChange Rows.fnExactCountRowsSpec) :=
  OpenClaim.holds_of_wide 5 Try.f5 rfl rfl rfl rfl rfl rfl rfl ⟨rfl, rfl, rfl, rfl, rfl⟩ rfl rfl rfl rfl rfl (by kernel_rfl) Try.func5 (by kernel_rfl)
    (of_decide_eq_true (by kernel_rfl)) (by unfold Func.isWrapper; first | (rw [if_pos (by decide +kernel)]; kernel_rfl) | (rw [if_neg (by decide +kernel)]; exact ⟨rfl, rfl⟩))
    (fun os started H enc _ => lifted os started H enc)
theorem proved : Rows.FnExactCountRowsSaid := over
#print axioms proved
end Go.Proofs.Ytdclbbkkcngjnaa.fnExactCountRows
namespace Go.Proofs.Ytdclbbkkcngjnaa
/-- The row, under a short name, for the claim. -/
theorem fnExactCountRows_holds : Rows.FnExactCountRowsSaid := fnExactCountRows.proved
end Go.Proofs.Ytdclbbkkcngjnaa
