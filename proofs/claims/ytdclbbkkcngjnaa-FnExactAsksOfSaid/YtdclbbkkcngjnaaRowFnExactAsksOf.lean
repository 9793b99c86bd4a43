/- The row of FnExactAsksOf, out of the walks and the plain law. -/
import Derived.Test.YtdclbbkkcngjnaaTrE
import Derived.Test.YtdclbbkkcngjnaaPAsksOf
import Derived.Test.YtdclbbkkcngjnaaRows
import Derived.WalkKit
import Derived.ProofKit
import Derived.OpenShut
import Derived.ShutString
import Derived.ChangeOld
import Derived.Below
import Derived.SizedLaws
namespace Go.Proofs.Ytdclbbkkcngjnaa.fnExactAsksOf
open Go.ChangeShapes Go.WideShapes Go.ChangeAt Go.RowKit Go.Proofs.YtdclbbkkcngjnaaT Go.Proofs.YtdclbbkkcngjnaaX
open Go.ChangeMaps (open_string shut_string)
set_option linter.all false
theorem own : ownKnob Try.prog.godebug = none := by kernel_rfl
theorem laidOut : laidOutB Try.prog = true := by kernel_rfl
theorem d3 : Rds Try.prog 3 (fun x : Int => [.v (.int .i64 x)]) wInt := rds_int Try.underlying3
theorem d9 : Rds Try.prog 9 (fun x : ByteArray => [.v (.string x)]) wByteArray := rds_string Try.underlying9
theorem d4 : Rds Try.prog 4 (fun x : Bool => [.v (.bool x)]) wBool := rds_bool Try.underlying4
theorem d22 : Rds Try.prog 22 (fun x : (List Int) => [.sl false 3 (x.map (c3 false))]) wLInt := rds_slice Try.underlying22 rfl (by kernel_rfl) d3
theorem d92 : Rds Try.prog 92 (fun x : S92 => [.v (.int .i64 x.f0), .v (.string x.f1), .v (.int .i64 x.f2), .v (.int .i64 x.f3), .v (.int .i64 x.f4), .v (.bool x.f5), .sl false 3 (x.f6.map (c3 false))]) wS92 := rds_struct (fun x => ⟨x.1, x.2.1, x.2.2.1, x.2.2.2.1, x.2.2.2.2.1, x.2.2.2.2.2.1, x.2.2.2.2.2.2⟩) Try.underlying92 (.cons d3 (by kernel_rfl) (.cons d9 (by kernel_rfl) (.cons d3 (by kernel_rfl) (.cons d3 (by kernel_rfl) (.cons d3 (by kernel_rfl) (.cons d4 (by kernel_rfl) (.one d22 (by kernel_rfl)))))))) (fun _ => rfl) (fun _ h => h)
theorem d56 : Rds Try.prog 56 (fun x : (List S92) => [.sl false 92 (x.map (c92 false))]) wLS92 := rds_slice Try.underlying56 rfl (by kernel_rfl) d92
theorem d98 : Rds Try.prog 98 (fun x : S98 => [.v (.int .i64 x.f0), .v (.int .i64 x.f1)]) wS98 := rds_struct (fun x => ⟨x.1, x.2⟩) Try.underlying98 (.cons d3 (by kernel_rfl) (.one d3 (by kernel_rfl))) (fun _ => rfl) (fun _ h => h)
theorem d57 : Rds Try.prog 57 (fun x : (List S98) => [.sl false 98 (x.map (c98 false))]) wLS98 := rds_slice Try.underlying57 rfl (by kernel_rfl) d98
theorem d59 : Rds Try.prog 59 (fun x : S59 => [.v (.int .i64 x.f0), .sl false 92 (x.f1.map (c92 false)), .sl false 92 (x.f2.map (c92 false)), .sl false 98 (x.f3.map (c98 false))]) wS59 := rds_struct (fun x => ⟨x.1, x.2.1, x.2.2.1, x.2.2.2⟩) Try.underlying59 (.cons d3 (by kernel_rfl) (.cons d56 (by kernel_rfl) (.cons d56 (by kernel_rfl) (.one d57 (by kernel_rfl))))) (fun _ => rfl) (fun _ h => h)
theorem d35 : Rds Try.prog 35 (fun x : (List S59) => [.sl false 59 (x.map (c59 false))]) wLS59 := rds_slice Try.underlying35 rfl (by kernel_rfl) d59
set_option maxRecDepth 100000 in
theorem lifted (os : Os) (started : os.Started) (H : Type) (enc : TypeId × Value → H) :
    ReturnsInHanded {} Try.checked os 6 .any (Rows.fnExactAsksOfSpec.pre6 enc Try.prog Try.f6 Rows.fnExactAsksOfRow.domain false) (Rows.fnExactAsksOfSpec.post enc Try.prog Try.f6 false true false false) := by
  refine returnsInHanded_of_change_sized (C := Try.checked) own started (by kernel_rfl) Try.func6
    (ChangeSpec.witness6 (enc := enc) (C := Try.checked) false ⟨#[], #[.slice none 0 0], []⟩ 8 (by kernel_rfl) (by kernel_rfl) (by kernel_rfl) (by kernel_rfl)) ?_
  intro W base args ds gs before hval0 hW hcnd hsz0 _
  have hval : ∀ (j : Nat) t v, Try.f6.params[j]? = some t → args[j]? = some v → Value.okWide Try.prog W .any base t v := hval0
  have hW' := hW
  obtain ⟨p, q, hA0, hV, rfl, hfz, hnd⟩ := hW
  have hA : DataW.TrodAll enc Try.prog W 0 (fun _ => true) true Try.f6.params.toList args.toList ds p := hA0
  rw [Try.params6] at hA hval
  obtain ⟨v0, vs0, d0, ds0, p0, q0, hargs, rfl, rfl, h0, r0⟩ := trodAll_cons hA
  obtain ⟨rfl, rfl, rfl⟩ := trodAll_nil r0
  obtain rfl : args = #[v0] := by cases args; simp_all
  obtain ⟨rfl, rfl⟩ := trodVars_none hV
  obtain ⟨a0, len0, cap0, rfl⟩ := okWide_slice Try.underlying35 (hval 0 35 v0 rfl rfl)
  have k0 := h0
  have lt0 : ∀ x ∈ p0, x.block < W.heap.size := by obtain ⟨m, hm⟩ := k0; exact DataW.trod_lt m _ _ _ hm
  obtain ⟨x0, w0, g0⟩ := arg_slice d35 h0
  clear hA0 hval0
  obtain ⟨kf, hF⟩ := pure6 x0 w0
  refine (law_calls (vals := [.slice a0 len0 cap0]) (Xs := [(.one (.sl false 59 (x0.map (c59 false))))]) (r6 kf x0 true hF) rfl (fun i X hX v hv => ?_)).mono fun e W' ⟨he, bel⟩ => ?_
  · match i, hX, hv with
    | 0, rfl, rfl => exact g0
  subst he
  exact ⟨_, rfl, _, _, _, [], _, [], hW', trodAll_mk1 (shut_bool Try.underlying4 _), (trodAll_cons_mk (Below.trod laidOut (by kernel_rfl) (of_decide_eq_true (by kernel_rfl)) k0 bel lt0) trodAll_mk0), rfl, bel.frame _, fun h => by cases h⟩
theorem over : Rows.fnExactAsksOfRow.holds Try.pinned (OpenSpec.ofChange Rows.fnExactAsksOfSpec) :=
  OpenClaim.holds_of_wide 6 Try.f6 rfl rfl rfl rfl rfl rfl rfl ⟨rfl, rfl, rfl, rfl, rfl⟩ rfl rfl rfl rfl rfl (by kernel_rfl) Try.func6 (by kernel_rfl)
    (of_decide_eq_true (by kernel_rfl)) (by unfold Func.isWrapper; first | (rw [if_pos (by decide +kernel)]; kernel_rfl) | (rw [if_neg (by decide +kernel)]; exact ⟨rfl, rfl⟩))
    (fun os started H enc _ => lifted os started H enc)
theorem proved : Rows.FnExactAsksOfSaid := over
#print axioms proved
end Go.Proofs.Ytdclbbkkcngjnaa.fnExactAsksOf
namespace Go.Proofs.Ytdclbbkkcngjnaa
/-- The row, under a short name, for the claim. -/
theorem fnExactAsksOf_holds : Rows.FnExactAsksOfSaid := fnExactAsksOf.proved
end Go.Proofs.Ytdclbbkkcngjnaa
