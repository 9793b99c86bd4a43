/- The row of FnExactStoreFrom, out of the walks and the plain law. -/
import Derived.Test.YtdclbbkkcngjnaaTrE
import Derived.Test.YtdclbbkkcngjnaaPStoreFrom
import Derived.Test.YtdclbbkkcngjnaaRows
import Derived.WalkKit
import Derived.ProofKit
import Derived.OpenShut
import Derived.ShutString
import Derived.ChangeOld
import Derived.Below
import Derived.SizedLaws
namespace Go.Proofs.Ytdclbbkkcngjnaa.fnExactStoreFrom
open Go.ChangeShapes Go.WideShapes Go.ChangeAt Go.RowKit Go.Proofs.YtdclbbkkcngjnaaT Go.Proofs.YtdclbbkkcngjnaaX
open Go.ChangeMaps (open_string shut_string)
set_option linter.all false
theorem own : ownKnob Try.prog.godebug = none := by kernel_rfl
theorem laidOut : laidOutB Try.prog = true := by kernel_rfl
theorem d9 : Rds Try.prog 9 (fun x : ByteArray => [.v (.string x)]) wByteArray := rds_string Try.underlying9
theorem d3 : Rds Try.prog 3 (fun x : Int => [.v (.int .i64 x)]) wInt := rds_int Try.underlying3
theorem d69 : Rds Try.prog 69 (fun x : S69 => [.v (.string x.f0), .v (.int .i64 x.f1)]) wS69 := rds_struct (fun x => ⟨x.1, x.2⟩) Try.underlying69 (.cons d9 (by kernel_rfl) (.one d3 (by kernel_rfl))) (fun _ => rfl) (fun _ h => h)
theorem d42 : Rds Try.prog 42 (fun x : (List S69) => [.sl false 69 (x.map (c69 false))]) wLS69 := rds_slice Try.underlying42 rfl (by kernel_rfl) d69
set_option maxRecDepth 100000 in
theorem lifted (os : Os) (started : os.Started) (H : Type) (enc : TypeId × Value → H) :
    ReturnsInHanded {} Try.checked os 7 .any (Rows.fnExactStoreFromSpec.pre6 enc Try.prog Try.f7 Rows.fnExactStoreFromRow.domain false) (Rows.fnExactStoreFromSpec.post enc Try.prog Try.f7 false true false false) := by
  refine returnsInHanded_of_change_sized (C := Try.checked) own started (by kernel_rfl) Try.func7
    (ChangeSpec.witness6 (enc := enc) (C := Try.checked) false ⟨#[], #[.slice none 0 0, .int .i64 0], []⟩ 8 (by kernel_rfl) (by kernel_rfl) (by kernel_rfl) (by kernel_rfl)) ?_
  intro W base args ds gs before hval0 hW hcnd hsz0 _
  have hval : ∀ (j : Nat) t v, Try.f7.params[j]? = some t → args[j]? = some v → Value.okWide Try.prog W .any base t v := hval0
  have hW' := hW
  obtain ⟨p, q, hA0, hV, rfl, hfz, hnd⟩ := hW
  have hA : DataW.TrodAll enc Try.prog W 0 (fun _ => true) true Try.f7.params.toList args.toList ds p := hA0
  rw [Try.params7] at hA hval
  obtain ⟨v0, vs0, d0, ds0, p0, q0, hargs, rfl, rfl, h0, r0⟩ := trodAll_cons hA
  obtain ⟨v1, vs1, d1, ds1, p1, q1, rfl, rfl, rfl, h1, r1⟩ := trodAll_cons r0
  obtain ⟨rfl, rfl, rfl⟩ := trodAll_nil r1
  obtain rfl : args = #[v0, v1] := by cases args; simp_all
  obtain ⟨rfl, rfl⟩ := trodVars_none hV
  obtain ⟨a0, len0, cap0, rfl⟩ := okWide_slice Try.underlying42 (hval 0 42 v0 rfl rfl)
  have k0 := h0
  have lt0 : ∀ x ∈ p0, x.block < W.heap.size := by obtain ⟨m, hm⟩ := k0; exact DataW.trod_lt m _ _ _ hm
  obtain ⟨x0, w0, g0⟩ := arg_slice d42 h0
  have k1 := h1
  have lt1 : ∀ x ∈ p1, x.block < W.heap.size := by obtain ⟨m, hm⟩ := k1; exact DataW.trod_lt m _ _ _ hm
  obtain ⟨x1, w1, g1⟩ := arg_int Try.underlying3 (hval 1 3 v1 rfl rfl) h1
  clear hA0 hval0
  obtain ⟨kf, hF⟩ := pure7 x0 x1 w0 w1
  refine (law_calls (vals := [.slice a0 len0 cap0, v1]) (Xs := [(.one (.sl false 69 (x0.map (c69 false)))), (iv x1)]) (r7 kf x0 x1 true hF) rfl (fun i X hX v hv => ?_)).mono fun e W' ⟨he, bel⟩ => ?_
  · match i, hX, hv with
    | 0, rfl, rfl => exact g0
    | 1, rfl, rfl => exact g1
  subst he
  exact ⟨_, rfl, _, _, _, [], _, [], hW', trodAll_mk1 (shut_bool Try.underlying4 _), (trodAll_cons_mk (Below.trod laidOut (by kernel_rfl) (of_decide_eq_true (by kernel_rfl)) k0 bel lt0) (trodAll_cons_mk (Below.trod laidOut (by kernel_rfl) (of_decide_eq_true (by kernel_rfl)) k1 bel lt1) trodAll_mk0)), rfl, bel.frame _, fun h => by cases h⟩
theorem over : Rows.fnExactStoreFromRow.holds Try.pinned (OpenSpec.ofChange Rows.fnExactStoreFromSpec) :=
  OpenClaim.holds_of_wide 7 Try.f7 rfl rfl rfl rfl rfl rfl rfl ⟨rfl, rfl, rfl, rfl, rfl⟩ rfl rfl rfl rfl rfl (by kernel_rfl) Try.func7 (by kernel_rfl)
    (of_decide_eq_true (by kernel_rfl)) (by unfold Func.isWrapper; first | (rw [if_pos (by decide +kernel)]; kernel_rfl) | (rw [if_neg (by decide +kernel)]; exact ⟨rfl, rfl⟩))
    (fun os started H enc _ => lifted os started H enc)
theorem proved : Rows.FnExactStoreFromSaid := over
#print axioms proved
end Go.Proofs.Ytdclbbkkcngjnaa.fnExactStoreFrom
namespace Go.Proofs.Ytdclbbkkcngjnaa
/-- The row, under a short name, for the claim. -/
theorem fnExactStoreFrom_holds : Rows.FnExactStoreFromSaid := fnExactStoreFrom.proved
end Go.Proofs.Ytdclbbkkcngjnaa
