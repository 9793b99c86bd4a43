/- Printed: for each function that FnExactAsksOf reaches, a plain function and the walk that it is what the program's function answers. -/
import Derived.Test.YtdclbbkkcngjnaaTrD
import Derived.Test.YtdclbbkkcngjnaaProg
namespace Go.Proofs.YtdclbbkkcngjnaaX
open Go Go.Proofs Go.Proofs.YtdclbbkkcngjnaaT
set_option maxRecDepth 10000
set_option linter.all false
structure S92 where
  f0 : Int
  f1 : ByteArray
  f2 : Int
  f3 : Int
  f4 : Int
  f5 : Bool
  f6 : (List Int)
structure S98 where
  f0 : Int
  f1 : Int
structure S59 where
  f0 : Int
  f1 : (List S92)
  f2 : (List S92)
  f3 : (List S98)
def c3 (o : Bool) (x : Int) : List C := [.v (.int .i64 x)]
def c93 (o : Bool) (x : S92) : List C := [.v (.int .i64 x.f0), .v (.string x.f1), .v (.int .i64 x.f2), .v (.int .i64 x.f3), .v (.int .i64 x.f4), .v (.bool x.f5), .sl o 3 (x.f6.map (c3 o))]
def c96 (o : Bool) (x : S98) : List C := [.v (.int .i64 x.f0), .v (.int .i64 x.f1)]
def c63 (o : Bool) (x : S59) : List C := [.v (.int .i64 x.f0), .sl o 93 (x.f1.map (c93 o)), .sl o 93 (x.f2.map (c93 o)), .sl o 96 (x.f3.map (c96 o))]
def c92 (o : Bool) (x : S92) : List C := [.v (.int .i64 x.f0), .v (.string x.f1), .v (.int .i64 x.f2), .v (.int .i64 x.f3), .v (.int .i64 x.f4), .v (.bool x.f5), .sl o 3 (x.f6.map (c3 o))]
def c98 (o : Bool) (x : S98) : List C := [.v (.int .i64 x.f0), .v (.int .i64 x.f1)]
def c59 (o : Bool) (x : S59) : List C := [.v (.int .i64 x.f0), .sl o 92 (x.f1.map (c92 o)), .sl o 92 (x.f2.map (c92 o)), .sl o 98 (x.f3.map (c98 o))]
theorem sh3 : ∀ o x, (c3 o x).map shC = c3 false x := fun o x => by simp [c3, shC_sl, shC_v, List.map_map]
theorem sh93 : ∀ o x, (c93 o x).map shC = c93 false x := fun o x => by simp [c93, shC_sl, shC_v, List.map_map, Function.comp_def, sh3]
theorem sh96 : ∀ o x, (c96 o x).map shC = c96 false x := fun o x => by simp [c96, shC_sl, shC_v, List.map_map]
theorem sh63 : ∀ o x, (c63 o x).map shC = c63 false x := fun o x => by simp [c63, shC_sl, shC_v, List.map_map, Function.comp_def, sh93, Function.comp_def, sh93, Function.comp_def, sh96]
theorem e35 : elemT Try.prog 35 59 = true := by kernel_rfl
theorem rw59 : rowT Try.prog 59 = true := by kernel_rfl
theorem ln59 : ∀ o x, (c59 o x).length = szOf Try.prog 59 := fun _ _ => (show szOf Try.prog 59 = 4 by kernel_rfl).symm ▸ rfl
theorem fd59_1 : fldAt Try.prog 59 1 1 = true := by kernel_rfl
theorem fl56 : flatT Try.prog 56 = true := by kernel_rfl
theorem fd59_2 : fldAt Try.prog 59 2 2 = true := by kernel_rfl
theorem fd59_3 : fldAt Try.prog 59 3 3 = true := by kernel_rfl
theorem fl57 : flatT Try.prog 57 = true := by kernel_rfl
theorem e56 : elemT Try.prog 56 92 = true := by kernel_rfl
theorem rw92 : rowT Try.prog 92 = true := by kernel_rfl
theorem ln92 : ∀ o x, (c92 o x).length = szOf Try.prog 92 := fun _ _ => (show szOf Try.prog 92 = 7 by kernel_rfl).symm ▸ rfl
theorem fd92_1 : fldAt Try.prog 92 1 1 = true := by kernel_rfl
theorem fl9 : flatT Try.prog 9 = true := by kernel_rfl
theorem fd92_6 : fldAt Try.prog 92 6 6 = true := by kernel_rfl
theorem fl22 : flatT Try.prog 22 = true := by kernel_rfl
theorem e38 : elemT Try.prog 38 63 = true := by kernel_rfl
theorem fd63_0 : fldAt Try.prog 63 0 0 = true := by kernel_rfl
theorem fl3 : flatT Try.prog 3 = true := by kernel_rfl
theorem z63 : ∀ o, zeroOk Try.prog 63 (c63 o ⟨0, [], [], []⟩) := fun o => ⟨.agg #[.int .i64 0, .slice none 0 0, .slice none 0 0, .slice none 0 0], by kernel_rfl, fun w Z => (rl_c (rc_v rfl) (rl_c rc_n (rl_c rc_n (rl_c rc_n rl_n))))⟩
theorem sz63 : szOf Try.prog 63 = 4 := by kernel_rfl
theorem so63 : (Try.prog.info? 63).isSome = true := by kernel_rfl
theorem fd59_0 : fldAt Try.prog 59 0 0 = true := by kernel_rfl
theorem sz3 : szOf Try.prog 3 = 1 := by kernel_rfl
theorem so3 : (Try.prog.info? 3).isSome = true := by kernel_rfl
theorem fd63_1 : fldAt Try.prog 63 1 1 = true := by kernel_rfl
theorem sz60 : szOf Try.prog 60 = 1 := by kernel_rfl
theorem so60 : (Try.prog.info? 60).isSome = true := by kernel_rfl
theorem fd63_2 : fldAt Try.prog 63 2 2 = true := by kernel_rfl
theorem fd63_3 : fldAt Try.prog 63 3 3 = true := by kernel_rfl
theorem sz61 : szOf Try.prog 61 = 1 := by kernel_rfl
theorem so61 : (Try.prog.info? 61).isSome = true := by kernel_rfl
theorem rw63 : rowT Try.prog 63 = true := by kernel_rfl
theorem e60 : elemT Try.prog 60 93 = true := by kernel_rfl
theorem z93 : ∀ o, zeroOk Try.prog 93 (c93 o ⟨0, ByteArray.empty, 0, 0, 0, false, []⟩) := fun o => ⟨.agg #[.int .i64 0, .string ByteArray.empty, .int .i64 0, .int .i64 0, .int .i64 0, .bool false, .slice none 0 0], by kernel_rfl, fun w Z => (rl_c (rc_v rfl) (rl_c (rc_v rfl) (rl_c (rc_v rfl) (rl_c (rc_v rfl) (rl_c (rc_v rfl) (rl_c (rc_v rfl) (rl_c rc_n rl_n)))))))⟩
theorem sz93 : szOf Try.prog 93 = 7 := by kernel_rfl
theorem so93 : (Try.prog.info? 93).isSome = true := by kernel_rfl
theorem fd92_0 : fldAt Try.prog 92 0 0 = true := by kernel_rfl
theorem fd93_0 : fldAt Try.prog 93 0 0 = true := by kernel_rfl
theorem fd93_1 : fldAt Try.prog 93 1 1 = true := by kernel_rfl
theorem sz9 : szOf Try.prog 9 = 1 := by kernel_rfl
theorem so9 : (Try.prog.info? 9).isSome = true := by kernel_rfl
theorem fd92_2 : fldAt Try.prog 92 2 2 = true := by kernel_rfl
theorem fd93_2 : fldAt Try.prog 93 2 2 = true := by kernel_rfl
theorem fd92_3 : fldAt Try.prog 92 3 3 = true := by kernel_rfl
theorem fd93_3 : fldAt Try.prog 93 3 3 = true := by kernel_rfl
theorem fd92_4 : fldAt Try.prog 92 4 4 = true := by kernel_rfl
theorem fd93_4 : fldAt Try.prog 93 4 4 = true := by kernel_rfl
theorem fd92_5 : fldAt Try.prog 92 5 5 = true := by kernel_rfl
theorem fl4 : flatT Try.prog 4 = true := by kernel_rfl
theorem fd93_5 : fldAt Try.prog 93 5 5 = true := by kernel_rfl
theorem sz4 : szOf Try.prog 4 = 1 := by kernel_rfl
theorem so4 : (Try.prog.info? 4).isSome = true := by kernel_rfl
theorem fd93_6 : fldAt Try.prog 93 6 6 = true := by kernel_rfl
theorem sz22 : szOf Try.prog 22 = 1 := by kernel_rfl
theorem so22 : (Try.prog.info? 22).isSome = true := by kernel_rfl
theorem rw93 : rowT Try.prog 93 = true := by kernel_rfl
theorem e22 : elemT Try.prog 22 3 = true := by kernel_rfl
theorem z3 : ∀ o, zeroOk Try.prog 3 (c3 o 0) := fun o => ⟨.int .i64 0, by kernel_rfl, fun w Z => (rl_c (rc_v rfl) rl_n)⟩
theorem l3 : ∀ o x, (c3 o x).length = 1 := fun _ _ => rfl
theorem e61 : elemT Try.prog 61 96 = true := by kernel_rfl
theorem z96 : ∀ o, zeroOk Try.prog 96 (c96 o ⟨0, 0⟩) := fun o => ⟨.agg #[.int .i64 0, .int .i64 0], by kernel_rfl, fun w Z => (rl_c (rc_v rfl) (rl_c (rc_v rfl) rl_n))⟩
theorem e57 : elemT Try.prog 57 98 = true := by kernel_rfl
theorem rw98 : rowT Try.prog 98 = true := by kernel_rfl
theorem ln98 : ∀ o x, (c98 o x).length = szOf Try.prog 98 := fun _ _ => (show szOf Try.prog 98 = 2 by kernel_rfl).symm ▸ rfl
theorem sz96 : szOf Try.prog 96 = 2 := by kernel_rfl
theorem so96 : (Try.prog.info? 96).isSome = true := by kernel_rfl
theorem fd98_0 : fldAt Try.prog 98 0 0 = true := by kernel_rfl
theorem fd96_0 : fldAt Try.prog 96 0 0 = true := by kernel_rfl
theorem fd98_1 : fldAt Try.prog 98 1 1 = true := by kernel_rfl
theorem fd96_1 : fldAt Try.prog 96 1 1 = true := by kernel_rfl
theorem rw96 : rowT Try.prog 96 = true := by kernel_rfl
theorem ln63 : ∀ o x, (c63 o x).length = szOf Try.prog 63 := fun _ _ => (show szOf Try.prog 63 = 4 by kernel_rfl).symm ▸ rfl
theorem mixed : (Try.prog).follows .mixedOrders = true := by kernel_rfl
theorem fl60 : flatT Try.prog 60 = true := by kernel_rfl
theorem fl61 : flatT Try.prog 61 = true := by kernel_rfl
theorem ln93 : ∀ o x, (c93 o x).length = szOf Try.prog 93 := fun _ _ => (show szOf Try.prog 93 = 7 by kernel_rfl).symm ▸ rfl
theorem ln96 : ∀ o x, (c96 o x).length = szOf Try.prog 96 := fun _ _ => (show szOf Try.prog 96 = 2 by kernel_rfl).symm ▸ rfl
/- loop.example/g00844/laws.szIntS -/
def F53 (kf : Nat) (a0 : (List Int)) (a1 : Int) : Option Int :=
  (bif (decide ((IntKind.i64.wrap (a1 - (a0.length : Int))) < 0)) then
  some (-1)
  else some (IntKind.i64.wrap (a1 - (a0.length : Int))))
theorem r53 (kf : Nat) (a0 : (List Int)) (a1 : Int) (R : Int) (H : F53 kf a0 a1 = some R) : Ret Try.prog 53 12 [.d (.one (.sl false 3 (a0.map (c3 false)))), .d (iv a1)] [] (.d (iv R)) [] := by
  refine ret_of Try.func53 rfl rfl (by kernel_rfl) rfl ?_
  intro fr a' w' hn
  obtain ⟨w0, M, Z0, n, γ⟩ := fr
  simp only at hn
  subst hn
  revert a' w'
  show W _ _ _ _ _
  refine w_seq' ?_
  refine w_reg ?_
  refine seq_cons (lw_run rfl rfl (la_mvs (.inr rfl) rfl rfl rfl)) ?_
  refine w_end ?_
  refine w_nx ?_
  refine w_seq' ?_
  refine w_reg ?_
  refine seq_cons (lw_run rfl rfl (la_mvs (.inl rfl) rfl rfl rfl)) ?_
  refine seq_cons (lw_run rfl rfl (r_mvr (.inl rfl) rfl rfl rfl rfl)) ?_
  refine seq_cons (lw_run rfl rfl (la_len rfl rfl rfl Try.underlying22 rfl)) ?_
  refine seq_cons (lw_run rfl rfl (la_bin rfl rfl rfl rfl rfl rfl)) ?_
  refine seq_cons (lw_run rfl rfl (la_mvs (.inr rfl) rfl rfl rfl)) ?_
  refine w_end ?_
  refine w_nx ?_
  refine w_seq' ?_
  refine w_seq' ?_
  refine w_reg ?_
  refine seq_cons (lw_run rfl rfl (la_mvs (.inl rfl) rfl rfl rfl)) ?_
  refine seq_cons (lw_run rfl rfl (la_bin rfl rfl rfl rfl rfl rfl)) ?_
  refine w_end ?_
  refine w_nx ?_
  refine w_cond rfl (fun hb1 => ?_) (fun hb1 => ?_)
  · replace H := bif_t H hb1
    refine w_seq' ?_
    refine w_reg ?_
    refine seq_cons (lw_run rfl rfl (la_mvs (.inr rfl) rfl rfl rfl)) ?_
    refine w_end ?_
    refine w_nx ?_
    cases H
    exact w_ret (fun a w h => fin_one h rfl (.tmp rfl rfl) trivial)
  · replace H := bif_f H hb1
    refine w_skip ?_
    refine w_nx ?_
    refine w_seq' ?_
    refine w_reg ?_
    refine seq_cons (lw_run rfl rfl (la_mvs (.inl rfl) rfl rfl rfl)) ?_
    refine seq_cons (lw_run rfl rfl (la_mvs (.inr rfl) rfl rfl rfl)) ?_
    refine w_end ?_
    refine w_nx ?_
    cases H
    exact w_ret (fun a w h => fin_one h rfl (.tmp rfl rfl) trivial)
/- loop.example/g00844/laws.szNode -/
def F63 (kf : Nat) (a0 : S92) (a1 : Int) : Option Int :=
  (bif (decide ((IntKind.i64.wrap (a1 - (a0.f1.size : Int))) < 0)) then
  some (-1)
  else (F53 kf a0.f6 (IntKind.i64.wrap (a1 - (a0.f1.size : Int)))).bind (fun y2 => (bif (decide (y2 < 0)) then
  some (-1)
  else some y2)))
theorem r63 (kf : Nat) (a0 : S92) (a1 : Int) (R : Int) (H : F63 kf a0 a1 = some R) : Ret Try.prog 63 19 [.d (.agg (c92 false a0)), .d (iv a1)] [] (.d (iv R)) [] := by
  refine ret_of Try.func63 rfl rfl (by kernel_rfl) rfl ?_
  intro fr a' w' hn
  obtain ⟨w0, M, Z0, n, γ⟩ := fr
  simp only at hn
  subst hn
  revert a' w'
  show W _ _ _ _ _
  refine w_seq' ?_
  refine w_reg ?_
  refine seq_cons (lw_run rfl rfl (la_box rfl rfl rfl rfl)) ?_
  refine seq_cons (lw_run rfl rfl (la_mvs (.inr rfl) rfl rfl rfl)) ?_
  refine w_end ?_
  refine w_nx ?_
  refine w_seq' ?_
  refine w_reg ?_
  refine seq_cons (lw_run rfl rfl (la_mvs (.inl rfl) rfl rfl rfl)) ?_
  refine seq_cons (lw_run rfl rfl (la_fbx rfl rfl rfl fd92_1 rfl rfl)) ?_
  refine seq_cons (lw_run rfl rfl (la_ldf rfl rfl rfl fl9 rfl rfl rfl)) ?_
  refine seq_cons (lw_run rfl rfl (la_lens rfl rfl rfl Try.underlying9 rfl)) ?_
  refine seq_cons (lw_run rfl rfl (la_bin rfl rfl rfl rfl rfl rfl)) ?_
  refine seq_cons (lw_run rfl rfl (la_mvs (.inr rfl) rfl rfl rfl)) ?_
  refine w_end ?_
  refine w_nx ?_
  refine w_seq' ?_
  refine w_seq' ?_
  refine w_reg ?_
  refine seq_cons (lw_run rfl rfl (la_mvs (.inl rfl) rfl rfl rfl)) ?_
  refine seq_cons (lw_run rfl rfl (la_bin rfl rfl rfl rfl rfl rfl)) ?_
  refine w_end ?_
  refine w_nx ?_
  refine w_cond rfl (fun hb1 => ?_) (fun hb1 => ?_)
  · replace H := bif_t H hb1
    refine w_seq' ?_
    refine w_reg ?_
    refine seq_cons (lw_run rfl rfl (la_mvs (.inr rfl) rfl rfl rfl)) ?_
    refine w_end ?_
    refine w_nx ?_
    cases H
    exact w_ret (fun a w h => fin_one h rfl (.tmp rfl rfl) trivial)
  · replace H := bif_f H hb1
    refine w_skip ?_
    refine w_nx ?_
    refine w_seq' ?_
    refine w_reg ?_
    refine seq_cons (lw_run rfl rfl (la_fbx rfl rfl rfl fd92_6 rfl rfl)) ?_
    refine seq_cons (lw_run rfl rfl (la_ldf rfl rfl rfl fl22 rfl rfl rfl)) ?_
    refine seq_cons (lw_run rfl rfl (la_mvs (.inl rfl) rfl rfl rfl)) ?_
    obtain ⟨y2, hy2, H⟩ := bnd H
    refine seq_cons (lw_run rfl rfl (la_call [] [] rfl rfl rfl rfl (r53 kf a0.f6 (IntKind.i64.wrap (a1 - (a0.f1.size : Int))) _ hy2) rfl rfl rfl rfl rfl rfl rfl (by simp) rfl (.inl rfl))) ?_
    refine seq_cons (lw_run rfl rfl (la_mvs (.inr rfl) rfl rfl rfl)) ?_
    refine w_end ?_
    refine w_nx ?_
    refine w_seq' ?_
    refine w_seq' ?_
    refine w_reg ?_
    refine seq_cons (lw_run rfl rfl (la_mvs (.inl rfl) rfl rfl rfl)) ?_
    refine seq_cons (lw_run rfl rfl (la_bin rfl rfl rfl rfl rfl rfl)) ?_
    refine w_end ?_
    refine w_nx ?_
    refine w_cond rfl (fun hb3 => ?_) (fun hb3 => ?_)
    · replace H := bif_t H hb3
      refine w_seq' ?_
      refine w_reg ?_
      refine seq_cons (lw_run rfl rfl (la_mvs (.inr rfl) rfl rfl rfl)) ?_
      refine w_end ?_
      refine w_nx ?_
      cases H
      exact w_ret (fun a w h => fin_one h rfl (.tmp rfl rfl) trivial)
    · replace H := bif_f H hb3
      refine w_skip ?_
      refine w_nx ?_
      refine w_seq' ?_
      refine w_reg ?_
      refine seq_cons (lw_run rfl rfl (la_mvs (.inl rfl) rfl rfl rfl)) ?_
      refine seq_cons (lw_run rfl rfl (la_mvs (.inr rfl) rfl rfl rfl)) ?_
      refine w_end ?_
      refine w_nx ?_
      cases H
      exact w_ret (fun a w h => fin_one h rfl (.tmp rfl rfl) trivial)
/- loop.example/g00844/laws.szNodeS -/
def F54_L0 (kf : Nat) (a0 : (List S92)) (a1 : Int) : Nat → Int → Int → Option (Ex Int (Int × Int))
  | 0, _, _ => none
  | k + 1, v2, v3 =>
  (bif (decide (v3 < (a0.length : Int))) then
  (ix a0 v3).bind (fun z5 => (F63 kf z5 v2).bind (fun y6 => (bif (decide (y6 < 0)) then
  some (.ret (-1))
  else (F54_L0 kf a0 a1 k) y6 (IntKind.i64.wrap (v3 + 1)))))
  else some (.go (v2, v3)))
def F54 (kf : Nat) (a0 : (List S92)) (a1 : Int) : Option Int :=
  (bif (decide ((IntKind.i64.wrap (a1 - (a0.length : Int))) < 0)) then
  some (-1)
  else (F54_L0 kf a0 a1 kf (IntKind.i64.wrap (a1 - (a0.length : Int))) 0).bind (fun o => match o with
  | .ret r => some r
  | .go (v2, v3) => some v2))
theorem r54 (kf : Nat) (a0 : (List S92)) (a1 : Int) (R : Int) (H : F54 kf a0 a1 = some R) : Ret Try.prog 54 27 [.d (.one (.sl false 92 (a0.map (c92 false)))), .d (iv a1)] [] (.d (iv R)) [] := by
  refine ret_of Try.func54 rfl rfl (by kernel_rfl) rfl ?_
  intro fr a' w' hn
  obtain ⟨w0, M, Z0, n, γ⟩ := fr
  simp only at hn
  subst hn
  revert a' w'
  show W _ _ _ _ _
  refine w_seq' ?_
  refine w_reg ?_
  refine seq_cons (lw_run rfl rfl (la_mvs (.inr rfl) rfl rfl rfl)) ?_
  refine w_end ?_
  refine w_nx ?_
  refine w_seq' ?_
  refine w_reg ?_
  refine seq_cons (lw_run rfl rfl (la_mvs (.inl rfl) rfl rfl rfl)) ?_
  refine seq_cons (lw_run rfl rfl (r_mvr (.inl rfl) rfl rfl rfl rfl)) ?_
  refine seq_cons (lw_run rfl rfl (la_len rfl rfl rfl Try.underlying56 rfl)) ?_
  refine seq_cons (lw_run rfl rfl (la_bin rfl rfl rfl rfl rfl rfl)) ?_
  refine seq_cons (lw_run rfl rfl (la_mvs (.inr rfl) rfl rfl rfl)) ?_
  refine w_end ?_
  refine w_nx ?_
  refine w_seq' ?_
  refine w_seq' ?_
  refine w_reg ?_
  refine seq_cons (lw_run rfl rfl (la_mvs (.inl rfl) rfl rfl rfl)) ?_
  refine seq_cons (lw_run rfl rfl (la_bin rfl rfl rfl rfl rfl rfl)) ?_
  refine w_end ?_
  refine w_nx ?_
  refine w_cond rfl (fun hb1 => ?_) (fun hb1 => ?_)
  · replace H := bif_t H hb1
    refine w_seq' ?_
    refine w_reg ?_
    refine seq_cons (lw_run rfl rfl (la_mvs (.inr rfl) rfl rfl rfl)) ?_
    refine w_end ?_
    refine w_nx ?_
    cases H
    exact w_ret (fun a w h => fin_one h rfl (.tmp rfl rfl) trivial)
  · replace H := bif_f H hb1
    refine w_skip ?_
    refine w_nx ?_
    refine w_seq' ?_
    refine w_seq' ?_
    refine w_reg ?_
    refine seq_cons (lw_run rfl rfl (la_mvs (.inr rfl) rfl rfl rfl)) ?_
    refine w_end ?_
    refine w_nx ?_
    refine w_block ?_
    obtain ⟨out0, HL, HC0⟩ := bnd H
    clear H
    refine w_weak (Γ' := (fun s : Int × Int => mk [(0, .d (.one (.sl false 92 (a0.map (c92 false))))), (1, .d (iv s.1)), (5, .d (iv s.2))]) ((IntKind.i64.wrap (a1 - (a0.length : Int))), 0)) (w_loop (σ := Int × Int) (fun s => mk [(0, .d (.one (.sl false 92 (a0.map (c92 false))))), (1, .d (iv s.1)), (5, .d (iv s.2))]) (fun k s => F54_L0 kf a0 a1 k s.1 s.2 = some out0) kf ((IntKind.i64.wrap (a1 - (a0.length : Int))), 0) HL ?_) (has_le ⟨rfl, rfl, rfl, trivial⟩)
    clear HL
    rintro k0 ⟨v2, v3⟩ H
    cases k0 with
    | zero => cases H
    | succ k0 =>
    try dsimp only at H ⊢
    refine w_seq' ?_
    refine w_seq' ?_
    refine w_reg ?_
    refine seq_cons (lw_run rfl rfl (la_mvs (.inl rfl) rfl rfl rfl)) ?_
    refine seq_cons (lw_run rfl rfl (r_mvr (.inl rfl) rfl rfl rfl rfl)) ?_
    refine seq_cons (lw_run rfl rfl (la_len rfl rfl rfl Try.underlying56 rfl)) ?_
    refine seq_cons (lw_run rfl rfl (la_bin rfl rfl rfl rfl rfl rfl)) ?_
    refine w_end ?_
    refine w_nx ?_
    refine w_cond rfl (fun hb4 => ?_) (fun hb4 => ?_)
    · replace H := bif_t H hb4
      refine w_skip ?_
      refine w_nx ?_
      refine w_seq' ?_
      refine w_block ?_
      refine w_seq' ?_
      refine w_reg ?_
      refine seq_cons (lw_run rfl rfl (r_mvr (.inl rfl) rfl rfl rfl rfl)) ?_
      refine seq_cons (lw_run rfl rfl (la_mvs (.inl rfl) rfl rfl rfl)) ?_
      obtain ⟨z5, hz5, H⟩ := bnd H
      refine seq_cons (lw_run rfl rfl (r_ix rfl rfl rfl e56 rfl rfl hz5 rfl)) ?_
      refine seq_cons (lw_run rfl rfl (r_lds rfl rfl rfl rw92 rfl (ln92 _ _) rfl)) ?_
      refine seq_cons (lw_run rfl rfl (la_mvs (.inl rfl) rfl rfl rfl)) ?_
      obtain ⟨y6, hy6, H⟩ := bnd H
      refine seq_cons (lw_run rfl rfl (la_call [] [] rfl rfl rfl rfl (r63 kf z5 v2 _ hy6) rfl rfl rfl rfl rfl rfl rfl (by simp) rfl (.inl rfl))) ?_
      refine seq_cons (lw_run rfl rfl (la_mvs (.inr rfl) rfl rfl rfl)) ?_
      refine w_end ?_
      refine w_nx ?_
      refine w_seq' ?_
      refine w_reg ?_
      refine seq_cons (lw_run rfl rfl (la_mvs (.inl rfl) rfl rfl rfl)) ?_
      refine seq_cons (lw_run rfl rfl (la_bin rfl rfl rfl rfl rfl rfl)) ?_
      refine w_end ?_
      refine w_nx ?_
      refine w_cond rfl (fun hb7 => ?_) (fun hb7 => ?_)
      · replace H := bif_t H hb7
        refine w_seq' ?_
        refine w_reg ?_
        refine seq_cons (lw_run rfl rfl (la_mvs (.inr rfl) rfl rfl rfl)) ?_
        refine w_end ?_
        refine w_nx ?_
        cases H
        try dsimp only at HC0
        cases HC0
        exact w_ret (fun a w h => fin_one h rfl (.tmp rfl rfl) trivial)
      · replace H := bif_f H hb7
        refine w_skip ?_
        refine q_nb ?_
        refine w_nx ?_
        refine w_reg ?_
        refine seq_cons (lw_run rfl rfl (la_mvs (.inl rfl) rfl rfl rfl)) ?_
        refine seq_cons (lw_run rfl rfl (la_bin rfl rfl rfl rfl rfl rfl)) ?_
        refine seq_cons (lw_run rfl rfl (la_mvs (.inr rfl) rfl rfl rfl)) ?_
        refine w_end ?_
        refine q_nt ?_
        exact fun a w h => ⟨k0, (y6, (IntKind.i64.wrap (v3 + 1))), Nat.lt_succ_self k0, H, h.weaken (has_le ⟨rfl, rfl, rfl, trivial⟩)⟩
    · replace H := bif_f H hb4
      refine w_exit ?_
      refine q_et ?_
      refine q_et ?_
      refine q_in ?_
      cases H
      have H := HC0
      clear HC0
      try dsimp only at H
      refine w_nx ?_
      refine w_seq' ?_
      refine w_reg ?_
      refine seq_cons (lw_run rfl rfl (la_mvs (.inl rfl) rfl rfl rfl)) ?_
      refine seq_cons (lw_run rfl rfl (la_mvs (.inr rfl) rfl rfl rfl)) ?_
      refine w_end ?_
      refine w_nx ?_
      cases H
      exact w_ret (fun a w h => fin_one h rfl (.tmp rfl rfl) trivial)
/- loop.example/g00844/laws.szStepS -/
def F55 (kf : Nat) (a0 : (List S98)) (a1 : Int) : Option Int :=
  (bif (decide ((IntKind.i64.wrap (a1 - (a0.length : Int))) < 0)) then
  some (-1)
  else some (IntKind.i64.wrap (a1 - (a0.length : Int))))
theorem r55 (kf : Nat) (a0 : (List S98)) (a1 : Int) (R : Int) (H : F55 kf a0 a1 = some R) : Ret Try.prog 55 12 [.d (.one (.sl false 98 (a0.map (c98 false)))), .d (iv a1)] [] (.d (iv R)) [] := by
  refine ret_of Try.func55 rfl rfl (by kernel_rfl) rfl ?_
  intro fr a' w' hn
  obtain ⟨w0, M, Z0, n, γ⟩ := fr
  simp only at hn
  subst hn
  revert a' w'
  show W _ _ _ _ _
  refine w_seq' ?_
  refine w_reg ?_
  refine seq_cons (lw_run rfl rfl (la_mvs (.inr rfl) rfl rfl rfl)) ?_
  refine w_end ?_
  refine w_nx ?_
  refine w_seq' ?_
  refine w_reg ?_
  refine seq_cons (lw_run rfl rfl (la_mvs (.inl rfl) rfl rfl rfl)) ?_
  refine seq_cons (lw_run rfl rfl (r_mvr (.inl rfl) rfl rfl rfl rfl)) ?_
  refine seq_cons (lw_run rfl rfl (la_len rfl rfl rfl Try.underlying57 rfl)) ?_
  refine seq_cons (lw_run rfl rfl (la_bin rfl rfl rfl rfl rfl rfl)) ?_
  refine seq_cons (lw_run rfl rfl (la_mvs (.inr rfl) rfl rfl rfl)) ?_
  refine w_end ?_
  refine w_nx ?_
  refine w_seq' ?_
  refine w_seq' ?_
  refine w_reg ?_
  refine seq_cons (lw_run rfl rfl (la_mvs (.inl rfl) rfl rfl rfl)) ?_
  refine seq_cons (lw_run rfl rfl (la_bin rfl rfl rfl rfl rfl rfl)) ?_
  refine w_end ?_
  refine w_nx ?_
  refine w_cond rfl (fun hb1 => ?_) (fun hb1 => ?_)
  · replace H := bif_t H hb1
    refine w_seq' ?_
    refine w_reg ?_
    refine seq_cons (lw_run rfl rfl (la_mvs (.inr rfl) rfl rfl rfl)) ?_
    refine w_end ?_
    refine w_nx ?_
    cases H
    exact w_ret (fun a w h => fin_one h rfl (.tmp rfl rfl) trivial)
  · replace H := bif_f H hb1
    refine w_skip ?_
    refine w_nx ?_
    refine w_seq' ?_
    refine w_reg ?_
    refine seq_cons (lw_run rfl rfl (la_mvs (.inl rfl) rfl rfl rfl)) ?_
    refine seq_cons (lw_run rfl rfl (la_mvs (.inr rfl) rfl rfl rfl)) ?_
    refine w_end ?_
    refine w_nx ?_
    cases H
    exact w_ret (fun a w h => fin_one h rfl (.tmp rfl rfl) trivial)
/- loop.example/g00844/laws.szOp -/
def F39 (kf : Nat) (a0 : S59) (a1 : Int) : Option Int :=
  (F54 kf a0.f1 a1).bind (fun y1 => (bif (decide (y1 < 0)) then
  some (-1)
  else (F54 kf a0.f2 y1).bind (fun y3 => (bif (decide (y3 < 0)) then
  some (-1)
  else (F55 kf a0.f3 y3).bind (fun y5 => (bif (decide (y5 < 0)) then
  some (-1)
  else some y5))))))
theorem r39 (kf : Nat) (a0 : S59) (a1 : Int) (R : Int) (H : F39 kf a0 a1 = some R) : Ret Try.prog 39 24 [.d (.agg (c59 false a0)), .d (iv a1)] [] (.d (iv R)) [] := by
  refine ret_of Try.func39 rfl rfl (by kernel_rfl) rfl ?_
  intro fr a' w' hn
  obtain ⟨w0, M, Z0, n, γ⟩ := fr
  simp only at hn
  subst hn
  revert a' w'
  show W _ _ _ _ _
  refine w_seq' ?_
  refine w_reg ?_
  refine seq_cons (lw_run rfl rfl (la_box rfl rfl rfl rfl)) ?_
  refine seq_cons (lw_run rfl rfl (la_mvs (.inr rfl) rfl rfl rfl)) ?_
  refine w_end ?_
  refine w_nx ?_
  refine w_seq' ?_
  refine w_reg ?_
  refine seq_cons (lw_run rfl rfl (la_fbx rfl rfl rfl fd59_1 rfl rfl)) ?_
  refine seq_cons (lw_run rfl rfl (la_ldf rfl rfl rfl fl56 rfl rfl rfl)) ?_
  refine seq_cons (lw_run rfl rfl (la_mvs (.inl rfl) rfl rfl rfl)) ?_
  obtain ⟨y1, hy1, H⟩ := bnd H
  refine seq_cons (lw_run rfl rfl (la_call [] [] rfl rfl rfl rfl (r54 kf a0.f1 a1 _ hy1) rfl rfl rfl rfl rfl rfl rfl (by simp) rfl (.inl rfl))) ?_
  refine seq_cons (lw_run rfl rfl (la_mvs (.inr rfl) rfl rfl rfl)) ?_
  refine w_end ?_
  refine w_nx ?_
  refine w_seq' ?_
  refine w_seq' ?_
  refine w_reg ?_
  refine seq_cons (lw_run rfl rfl (la_mvs (.inl rfl) rfl rfl rfl)) ?_
  refine seq_cons (lw_run rfl rfl (la_bin rfl rfl rfl rfl rfl rfl)) ?_
  refine w_end ?_
  refine w_nx ?_
  refine w_cond rfl (fun hb2 => ?_) (fun hb2 => ?_)
  · replace H := bif_t H hb2
    refine w_seq' ?_
    refine w_reg ?_
    refine seq_cons (lw_run rfl rfl (la_mvs (.inr rfl) rfl rfl rfl)) ?_
    refine w_end ?_
    refine w_nx ?_
    cases H
    exact w_ret (fun a w h => fin_one h rfl (.tmp rfl rfl) trivial)
  · replace H := bif_f H hb2
    refine w_skip ?_
    refine w_nx ?_
    refine w_seq' ?_
    refine w_reg ?_
    refine seq_cons (lw_run rfl rfl (la_fbx rfl rfl rfl fd59_2 rfl rfl)) ?_
    refine seq_cons (lw_run rfl rfl (la_ldf rfl rfl rfl fl56 rfl rfl rfl)) ?_
    refine seq_cons (lw_run rfl rfl (la_mvs (.inl rfl) rfl rfl rfl)) ?_
    obtain ⟨y3, hy3, H⟩ := bnd H
    refine seq_cons (lw_run rfl rfl (la_call [] [] rfl rfl rfl rfl (r54 kf a0.f2 y1 _ hy3) rfl rfl rfl rfl rfl rfl rfl (by simp) rfl (.inl rfl))) ?_
    refine seq_cons (lw_run rfl rfl (la_mvs (.inr rfl) rfl rfl rfl)) ?_
    refine w_end ?_
    refine w_nx ?_
    refine w_seq' ?_
    refine w_seq' ?_
    refine w_reg ?_
    refine seq_cons (lw_run rfl rfl (la_mvs (.inl rfl) rfl rfl rfl)) ?_
    refine seq_cons (lw_run rfl rfl (la_bin rfl rfl rfl rfl rfl rfl)) ?_
    refine w_end ?_
    refine w_nx ?_
    refine w_cond rfl (fun hb4 => ?_) (fun hb4 => ?_)
    · replace H := bif_t H hb4
      refine w_seq' ?_
      refine w_reg ?_
      refine seq_cons (lw_run rfl rfl (la_mvs (.inr rfl) rfl rfl rfl)) ?_
      refine w_end ?_
      refine w_nx ?_
      cases H
      exact w_ret (fun a w h => fin_one h rfl (.tmp rfl rfl) trivial)
    · replace H := bif_f H hb4
      refine w_skip ?_
      refine w_nx ?_
      refine w_seq' ?_
      refine w_reg ?_
      refine seq_cons (lw_run rfl rfl (la_fbx rfl rfl rfl fd59_3 rfl rfl)) ?_
      refine seq_cons (lw_run rfl rfl (la_ldf rfl rfl rfl fl57 rfl rfl rfl)) ?_
      refine seq_cons (lw_run rfl rfl (la_mvs (.inl rfl) rfl rfl rfl)) ?_
      obtain ⟨y5, hy5, H⟩ := bnd H
      refine seq_cons (lw_run rfl rfl (la_call [] [] rfl rfl rfl rfl (r55 kf a0.f3 y3 _ hy5) rfl rfl rfl rfl rfl rfl rfl (by simp) rfl (.inl rfl))) ?_
      refine seq_cons (lw_run rfl rfl (la_mvs (.inr rfl) rfl rfl rfl)) ?_
      refine w_end ?_
      refine w_nx ?_
      refine w_seq' ?_
      refine w_seq' ?_
      refine w_reg ?_
      refine seq_cons (lw_run rfl rfl (la_mvs (.inl rfl) rfl rfl rfl)) ?_
      refine seq_cons (lw_run rfl rfl (la_bin rfl rfl rfl rfl rfl rfl)) ?_
      refine w_end ?_
      refine w_nx ?_
      refine w_cond rfl (fun hb6 => ?_) (fun hb6 => ?_)
      · replace H := bif_t H hb6
        refine w_seq' ?_
        refine w_reg ?_
        refine seq_cons (lw_run rfl rfl (la_mvs (.inr rfl) rfl rfl rfl)) ?_
        refine w_end ?_
        refine w_nx ?_
        cases H
        exact w_ret (fun a w h => fin_one h rfl (.tmp rfl rfl) trivial)
      · replace H := bif_f H hb6
        refine w_skip ?_
        refine w_nx ?_
        refine w_seq' ?_
        refine w_reg ?_
        refine seq_cons (lw_run rfl rfl (la_mvs (.inl rfl) rfl rfl rfl)) ?_
        refine seq_cons (lw_run rfl rfl (la_mvs (.inr rfl) rfl rfl rfl)) ?_
        refine w_end ?_
        refine w_nx ?_
        cases H
        exact w_ret (fun a w h => fin_one h rfl (.tmp rfl rfl) trivial)
/- loop.example/g00844/laws.szOpS -/
def F21_L0 (kf : Nat) (a0 : (List S59)) (a1 : Int) : Nat → Int → Int → Option (Ex Int (Int × Int))
  | 0, _, _ => none
  | k + 1, v2, v3 =>
  (bif (decide (v3 < (a0.length : Int))) then
  (ix a0 v3).bind (fun z5 => (F39 kf z5 v2).bind (fun y6 => (bif (decide (y6 < 0)) then
  some (.ret (-1))
  else (F21_L0 kf a0 a1 k) y6 (IntKind.i64.wrap (v3 + 1)))))
  else some (.go (v2, v3)))
def F21 (kf : Nat) (a0 : (List S59)) (a1 : Int) : Option Int :=
  (bif (decide ((IntKind.i64.wrap (a1 - (a0.length : Int))) < 0)) then
  some (-1)
  else (F21_L0 kf a0 a1 kf (IntKind.i64.wrap (a1 - (a0.length : Int))) 0).bind (fun o => match o with
  | .ret r => some r
  | .go (v2, v3) => some v2))
theorem r21 (kf : Nat) (a0 : (List S59)) (a1 : Int) (R : Int) (H : F21 kf a0 a1 = some R) : Ret Try.prog 21 27 [.d (.one (.sl false 59 (a0.map (c59 false)))), .d (iv a1)] [] (.d (iv R)) [] := by
  refine ret_of Try.func21 rfl rfl (by kernel_rfl) rfl ?_
  intro fr a' w' hn
  obtain ⟨w0, M, Z0, n, γ⟩ := fr
  simp only at hn
  subst hn
  revert a' w'
  show W _ _ _ _ _
  refine w_seq' ?_
  refine w_reg ?_
  refine seq_cons (lw_run rfl rfl (la_mvs (.inr rfl) rfl rfl rfl)) ?_
  refine w_end ?_
  refine w_nx ?_
  refine w_seq' ?_
  refine w_reg ?_
  refine seq_cons (lw_run rfl rfl (la_mvs (.inl rfl) rfl rfl rfl)) ?_
  refine seq_cons (lw_run rfl rfl (r_mvr (.inl rfl) rfl rfl rfl rfl)) ?_
  refine seq_cons (lw_run rfl rfl (la_len rfl rfl rfl Try.underlying35 rfl)) ?_
  refine seq_cons (lw_run rfl rfl (la_bin rfl rfl rfl rfl rfl rfl)) ?_
  refine seq_cons (lw_run rfl rfl (la_mvs (.inr rfl) rfl rfl rfl)) ?_
  refine w_end ?_
  refine w_nx ?_
  refine w_seq' ?_
  refine w_seq' ?_
  refine w_reg ?_
  refine seq_cons (lw_run rfl rfl (la_mvs (.inl rfl) rfl rfl rfl)) ?_
  refine seq_cons (lw_run rfl rfl (la_bin rfl rfl rfl rfl rfl rfl)) ?_
  refine w_end ?_
  refine w_nx ?_
  refine w_cond rfl (fun hb1 => ?_) (fun hb1 => ?_)
  · replace H := bif_t H hb1
    refine w_seq' ?_
    refine w_reg ?_
    refine seq_cons (lw_run rfl rfl (la_mvs (.inr rfl) rfl rfl rfl)) ?_
    refine w_end ?_
    refine w_nx ?_
    cases H
    exact w_ret (fun a w h => fin_one h rfl (.tmp rfl rfl) trivial)
  · replace H := bif_f H hb1
    refine w_skip ?_
    refine w_nx ?_
    refine w_seq' ?_
    refine w_seq' ?_
    refine w_reg ?_
    refine seq_cons (lw_run rfl rfl (la_mvs (.inr rfl) rfl rfl rfl)) ?_
    refine w_end ?_
    refine w_nx ?_
    refine w_block ?_
    obtain ⟨out0, HL, HC0⟩ := bnd H
    clear H
    refine w_weak (Γ' := (fun s : Int × Int => mk [(0, .d (.one (.sl false 59 (a0.map (c59 false))))), (1, .d (iv s.1)), (5, .d (iv s.2))]) ((IntKind.i64.wrap (a1 - (a0.length : Int))), 0)) (w_loop (σ := Int × Int) (fun s => mk [(0, .d (.one (.sl false 59 (a0.map (c59 false))))), (1, .d (iv s.1)), (5, .d (iv s.2))]) (fun k s => F21_L0 kf a0 a1 k s.1 s.2 = some out0) kf ((IntKind.i64.wrap (a1 - (a0.length : Int))), 0) HL ?_) (has_le ⟨rfl, rfl, rfl, trivial⟩)
    clear HL
    rintro k0 ⟨v2, v3⟩ H
    cases k0 with
    | zero => cases H
    | succ k0 =>
    try dsimp only at H ⊢
    refine w_seq' ?_
    refine w_seq' ?_
    refine w_reg ?_
    refine seq_cons (lw_run rfl rfl (la_mvs (.inl rfl) rfl rfl rfl)) ?_
    refine seq_cons (lw_run rfl rfl (r_mvr (.inl rfl) rfl rfl rfl rfl)) ?_
    refine seq_cons (lw_run rfl rfl (la_len rfl rfl rfl Try.underlying35 rfl)) ?_
    refine seq_cons (lw_run rfl rfl (la_bin rfl rfl rfl rfl rfl rfl)) ?_
    refine w_end ?_
    refine w_nx ?_
    refine w_cond rfl (fun hb4 => ?_) (fun hb4 => ?_)
    · replace H := bif_t H hb4
      refine w_skip ?_
      refine w_nx ?_
      refine w_seq' ?_
      refine w_block ?_
      refine w_seq' ?_
      refine w_reg ?_
      refine seq_cons (lw_run rfl rfl (r_mvr (.inl rfl) rfl rfl rfl rfl)) ?_
      refine seq_cons (lw_run rfl rfl (la_mvs (.inl rfl) rfl rfl rfl)) ?_
      obtain ⟨z5, hz5, H⟩ := bnd H
      refine seq_cons (lw_run rfl rfl (r_ix rfl rfl rfl e35 rfl rfl hz5 rfl)) ?_
      refine seq_cons (lw_run rfl rfl (r_lds rfl rfl rfl rw59 rfl (ln59 _ _) rfl)) ?_
      refine seq_cons (lw_run rfl rfl (la_mvs (.inl rfl) rfl rfl rfl)) ?_
      obtain ⟨y6, hy6, H⟩ := bnd H
      refine seq_cons (lw_run rfl rfl (la_call [] [] rfl rfl rfl rfl (r39 kf z5 v2 _ hy6) rfl rfl rfl rfl rfl rfl rfl (by simp) rfl (.inl rfl))) ?_
      refine seq_cons (lw_run rfl rfl (la_mvs (.inr rfl) rfl rfl rfl)) ?_
      refine w_end ?_
      refine w_nx ?_
      refine w_seq' ?_
      refine w_reg ?_
      refine seq_cons (lw_run rfl rfl (la_mvs (.inl rfl) rfl rfl rfl)) ?_
      refine seq_cons (lw_run rfl rfl (la_bin rfl rfl rfl rfl rfl rfl)) ?_
      refine w_end ?_
      refine w_nx ?_
      refine w_cond rfl (fun hb7 => ?_) (fun hb7 => ?_)
      · replace H := bif_t H hb7
        refine w_seq' ?_
        refine w_reg ?_
        refine seq_cons (lw_run rfl rfl (la_mvs (.inr rfl) rfl rfl rfl)) ?_
        refine w_end ?_
        refine w_nx ?_
        cases H
        try dsimp only at HC0
        cases HC0
        exact w_ret (fun a w h => fin_one h rfl (.tmp rfl rfl) trivial)
      · replace H := bif_f H hb7
        refine w_skip ?_
        refine q_nb ?_
        refine w_nx ?_
        refine w_reg ?_
        refine seq_cons (lw_run rfl rfl (la_mvs (.inl rfl) rfl rfl rfl)) ?_
        refine seq_cons (lw_run rfl rfl (la_bin rfl rfl rfl rfl rfl rfl)) ?_
        refine seq_cons (lw_run rfl rfl (la_mvs (.inr rfl) rfl rfl rfl)) ?_
        refine w_end ?_
        refine q_nt ?_
        exact fun a w h => ⟨k0, (y6, (IntKind.i64.wrap (v3 + 1))), Nat.lt_succ_self k0, H, h.weaken (has_le ⟨rfl, rfl, rfl, trivial⟩)⟩
    · replace H := bif_f H hb4
      refine w_exit ?_
      refine q_et ?_
      refine q_et ?_
      refine q_in ?_
      cases H
      have H := HC0
      clear HC0
      try dsimp only at H
      refine w_nx ?_
      refine w_seq' ?_
      refine w_reg ?_
      refine seq_cons (lw_run rfl rfl (la_mvs (.inl rfl) rfl rfl rfl)) ?_
      refine seq_cons (lw_run rfl rfl (la_mvs (.inr rfl) rfl rfl rfl)) ?_
      refine w_end ?_
      refine w_nx ?_
      cases H
      exact w_ret (fun a w h => fin_one h rfl (.tmp rfl rfl) trivial)
/- loop.example/g00844/spec.AsksOf -/
def F22_J0 (kf : Nat) (a0 : (List S59)) (v1 : Int) (v2 : Int) (go : Int → Int → Option (Ex Int (Int × Int))) (v6 : Int) (v7 : Int) (v8 : Bool) : Option (Ex Int (Int × Int)) :=
  go v6 (IntKind.i64.wrap (v2 + 1))
def F22_L0 (kf : Nat) (a0 : (List S59)) : Nat → Int → Int → Option (Ex Int (Int × Int))
  | 0, _, _ => none
  | k + 1, v1, v2 =>
  (bif (decide (v2 < (a0.length : Int))) then
  (ix a0 v2).bind (fun z9 => (bif (z9.f0 == 0) then
  F22_J0 kf a0 v1 v2 (F22_L0 kf a0 k) (IntKind.i64.wrap (v1 + 1)) z9.f0 (z9.f0 == 0)
  else F22_J0 kf a0 v1 v2 (F22_L0 kf a0 k) v1 z9.f0 (z9.f0 == 0)))
  else some (.go (v1, v2)))
def F22 (kf : Nat) (a0 : (List S59)) : Option Int :=
  (F22_L0 kf a0 kf 0 0).bind (fun o => match o with
  | .ret r => some r
  | .go (v1, v2) => some v1)
theorem r22 (kf : Nat) (a0 : (List S59)) (R : Int) (H : F22 kf a0 = some R) : Ret Try.prog 22 20 [.d (.one (.sl false 63 (a0.map (c63 false))))] [] (.d (iv R)) [] := by
  refine ret_of Try.func22 rfl rfl (by kernel_rfl) rfl ?_
  intro fr a' w' hn
  obtain ⟨w0, M, Z0, n, γ⟩ := fr
  simp only at hn
  subst hn
  revert a' w'
  show W _ _ _ _ _
  refine w_seq' ?_
  refine w_reg ?_
  refine seq_cons (lw_run rfl rfl (la_mvs (.inr rfl) rfl rfl rfl)) ?_
  refine w_end ?_
  refine w_nx ?_
  refine w_seq' ?_
  refine w_reg ?_
  refine seq_cons (lw_run rfl rfl (la_mvs (.inr rfl) rfl rfl rfl)) ?_
  refine w_end ?_
  refine w_nx ?_
  refine w_seq' ?_
  refine w_seq' ?_
  refine w_reg ?_
  refine seq_cons (lw_run rfl rfl (la_mvs (.inr rfl) rfl rfl rfl)) ?_
  refine w_end ?_
  refine w_nx ?_
  refine w_block ?_
  obtain ⟨out0, HL, HC0⟩ := bnd H
  clear H
  refine w_weak (Γ' := (fun s : Int × Int => mk [(0, .d (.one (.sl false 63 (a0.map (c63 false))))), (2, .d (iv 0)), (3, .d (iv s.1)), (4, .d (iv s.2))]) (0, 0)) (w_loop (σ := Int × Int) (fun s => mk [(0, .d (.one (.sl false 63 (a0.map (c63 false))))), (2, .d (iv 0)), (3, .d (iv s.1)), (4, .d (iv s.2))]) (fun k s => F22_L0 kf a0 k s.1 s.2 = some out0) kf (0, 0) HL ?_) (has_le ⟨rfl, rfl, rfl, rfl, trivial⟩)
  clear HL
  rintro k0 ⟨v1, v2⟩ H
  cases k0 with
  | zero => cases H
  | succ k0 =>
  try dsimp only at H ⊢
  refine w_seq' ?_
  refine w_seq' ?_
  refine w_reg ?_
  refine seq_cons (lw_run rfl rfl (la_mvs (.inl rfl) rfl rfl rfl)) ?_
  refine seq_cons (lw_run rfl rfl (r_mvr (.inl rfl) rfl rfl rfl rfl)) ?_
  refine seq_cons (lw_run rfl rfl (la_len rfl rfl rfl Try.underlying38 rfl)) ?_
  refine seq_cons (lw_run rfl rfl (la_bin rfl rfl rfl rfl rfl rfl)) ?_
  refine w_end ?_
  refine w_nx ?_
  refine w_cond rfl (fun hb3 => ?_) (fun hb3 => ?_)
  · replace H := bif_t H hb3
    refine w_skip ?_
    refine w_nx ?_
    refine w_join (σ := Int × Int × Bool) (fun s => mk [(0, .d (.one (.sl false 63 (a0.map (c63 false))))), (2, .d (iv 0)), (3, .d (iv s.1)), (4, .d (iv v2)), (5, .d (iv v2)), (6, .d (.one (.sl false 63 (a0.map (c63 false))))), (7, .d (iv (a0.length : Int))), (8, .d (bv (decide (v2 < (a0.length : Int))))), (11, .d (.one (.sl false 63 (a0.map (c63 false))))), (12, .d (iv v2)), (15, .d (iv s.2.1)), (16, .d (bv s.2.2))]) (fun s => F22_J0 kf a0 v1 v2 (F22_L0 kf a0 k0) s.1 s.2.1 s.2.2 = some out0) ?_ ?_
    · refine w_block ?_
      refine w_seq' ?_
      refine w_reg ?_
      refine seq_cons (lw_run rfl rfl (r_mvr (.inl rfl) rfl rfl rfl rfl)) ?_
      refine seq_cons (lw_run rfl rfl (la_mvs (.inl rfl) rfl rfl rfl)) ?_
      obtain ⟨z9, hz9, H⟩ := bnd H
      refine seq_cons (lw_run rfl rfl (r_ix rfl rfl rfl e38 rfl rfl hz9 rfl)) ?_
      refine seq_cons (lw_run rfl rfl (r_fsp rfl rfl rfl fd63_0 rfl rfl)) ?_
      refine seq_cons (lw_run rfl rfl (r_ld rfl rfl rfl fl3 rfl rfl)) ?_
      refine seq_cons (lw_run rfl rfl (la_bin rfl rfl rfl rfl rfl rfl)) ?_
      refine w_end ?_
      refine w_nx ?_
      refine w_cond rfl (fun hb10 => ?_) (fun hb10 => ?_)
      · replace H := bif_t H hb10
        refine w_reg ?_
        refine seq_cons (lw_run rfl rfl (la_mvs (.inl rfl) rfl rfl rfl)) ?_
        refine seq_cons (lw_run rfl rfl (la_bin rfl rfl rfl rfl rfl rfl)) ?_
        refine seq_cons (lw_run rfl rfl (la_mvs (.inr rfl) rfl rfl rfl)) ?_
        refine w_end ?_
        refine q_nb ?_
        exact fun a w h => ⟨((IntKind.i64.wrap (v1 + 1)), z9.f0, (z9.f0 == 0)), H, h.weaken (has_le ⟨rfl, rfl, rfl, rfl, rfl, rfl, rfl, rfl, rfl, rfl, rfl, rfl, trivial⟩)⟩
      · replace H := bif_f H hb10
        refine w_skip ?_
        refine q_nb ?_
        exact fun a w h => ⟨(v1, z9.f0, (z9.f0 == 0)), H, h.weaken (has_le ⟨rfl, rfl, rfl, rfl, rfl, rfl, rfl, rfl, rfl, rfl, rfl, rfl, trivial⟩)⟩
    · rintro ⟨v6, v7, v8⟩ H
      try dsimp only at H ⊢
      unfold F22_J0 at H
      refine w_reg ?_
      refine seq_cons (lw_run rfl rfl (la_mvs (.inl rfl) rfl rfl rfl)) ?_
      refine seq_cons (lw_run rfl rfl (la_bin rfl rfl rfl rfl rfl rfl)) ?_
      refine seq_cons (lw_run rfl rfl (la_mvs (.inr rfl) rfl rfl rfl)) ?_
      refine w_end ?_
      refine q_nt ?_
      exact fun a w h => ⟨k0, (v6, (IntKind.i64.wrap (v2 + 1))), Nat.lt_succ_self k0, H, h.weaken (has_le ⟨rfl, rfl, rfl, rfl, trivial⟩)⟩
  · replace H := bif_f H hb3
    refine w_exit ?_
    refine q_et ?_
    refine q_et ?_
    refine q_in ?_
    cases H
    have H := HC0
    clear HC0
    try dsimp only at H
    refine w_nx ?_
    refine w_seq' ?_
    refine w_reg ?_
    refine seq_cons (lw_run rfl rfl (la_mvs (.inl rfl) rfl rfl rfl)) ?_
    refine seq_cons (lw_run rfl rfl (la_mvs (.inr rfl) rfl rfl rfl)) ?_
    refine w_end ?_
    refine w_nx ?_
    cases H
    exact w_ret (fun a w h => fin_one h rfl (.tmp rfl rfl) trivial)
/- loop.example/g00844/laws.toIntS -/
def F9_L0 (kf : Nat) (a0 : (List Int)) (z1 : (List Int)) : Nat → (List Int) → Int → Option (Ex (List Int) ((List Int) × Int))
  | 0, _, _ => none
  | k + 1, v2, v3 =>
  (bif (decide (v3 < (a0.length : Int))) then
  (ix a0 v3).bind (fun z5 => (stx v2 v3 z5).bind (fun z6 => (F9_L0 kf a0 z1 k) z6 (IntKind.i64.wrap (v3 + 1))))
  else some (.go (v2, v3)))
def F9 (kf : Nat) (a0 : (List Int)) : Option (List Int) :=
  (mkx (a0.length : Int) (0 : Int)).bind (fun z1 => (F9_L0 kf a0 z1 kf z1 0).bind (fun o => match o with
  | .ret r => some r
  | .go (v2, v3) => some v2))
theorem r9 (kf : Nat) (a0 : (List Int)) (R : (List Int)) (H : F9 kf a0 = some R) : Ret Try.prog 9 22 [.d (.one (.sl false 3 (a0.map (c3 false))))] [] (.d (.one (.sl true 3 (R.map (c3 true))))) [] := by
  refine ret_of Try.func9 rfl rfl (by kernel_rfl) rfl ?_
  intro fr a' w' hn
  obtain ⟨w0, M, Z0, n, γ⟩ := fr
  simp only at hn
  subst hn
  revert a' w'
  show W _ _ _ _ _
  refine w_seq' ?_
  refine w_reg ?_
  refine seq_cons (lw_run rfl rfl (r_nil true 3 (c3 true) (.inr rfl) rfl rfl)) ?_
  refine w_end ?_
  refine w_nx ?_
  refine w_seq' ?_
  refine w_reg ?_
  refine seq_cons (lw_run rfl rfl (r_mvr (.inl rfl) rfl rfl rfl rfl)) ?_
  refine seq_cons (lw_run rfl rfl (la_len rfl rfl rfl Try.underlying22 rfl)) ?_
  obtain ⟨z1, hz1, H⟩ := bnd H
  refine seq_cons (lw_run rfl rfl (r_mk rfl rfl rfl e22 (z3 true) rfl rfl rfl hz1)) ?_
  refine seq_cons (lw_run rfl rfl (la_mvo (.inr rfl) rfl rfl rfl rfl rfl)) ?_
  refine w_end ?_
  refine w_nx ?_
  refine w_seq' ?_
  refine w_seq' ?_
  refine w_reg ?_
  refine seq_cons (lw_run rfl rfl (la_mvs (.inr rfl) rfl rfl rfl)) ?_
  refine w_end ?_
  refine w_nx ?_
  refine w_block ?_
  obtain ⟨out0, HL, HC0⟩ := bnd H
  clear H
  refine w_weak (Γ' := (fun s : (List Int) × Int => mk [(0, .d (.one (.sl false 3 (a0.map (c3 false))))), (2, .d (.one (.sl true 3 (([]).map (c3 true))))), (3, .d (.one (.sl true 3 (s.1.map (c3 true))))), (4, .d (iv s.2))]) (z1, 0)) (w_loop (σ := (List Int) × Int) (fun s => mk [(0, .d (.one (.sl false 3 (a0.map (c3 false))))), (2, .d (.one (.sl true 3 (([]).map (c3 true))))), (3, .d (.one (.sl true 3 (s.1.map (c3 true))))), (4, .d (iv s.2))]) (fun k s => F9_L0 kf a0 z1 k s.1 s.2 = some out0) kf (z1, 0) HL ?_) (has_le ⟨rfl, rfl, rfl, rfl, trivial⟩)
  clear HL
  rintro k0 ⟨v2, v3⟩ H
  cases k0 with
  | zero => cases H
  | succ k0 =>
  try dsimp only at H ⊢
  refine w_seq' ?_
  refine w_seq' ?_
  refine w_reg ?_
  refine seq_cons (lw_run rfl rfl (la_mvs (.inl rfl) rfl rfl rfl)) ?_
  refine seq_cons (lw_run rfl rfl (r_mvr (.inl rfl) rfl rfl rfl rfl)) ?_
  refine seq_cons (lw_run rfl rfl (la_len rfl rfl rfl Try.underlying22 rfl)) ?_
  refine seq_cons (lw_run rfl rfl (la_bin rfl rfl rfl rfl rfl rfl)) ?_
  refine w_end ?_
  refine w_nx ?_
  refine w_cond rfl (fun hb4 => ?_) (fun hb4 => ?_)
  · replace H := bif_t H hb4
    refine w_skip ?_
    refine w_nx ?_
    refine w_seq' ?_
    refine w_block ?_
    refine w_reg ?_
    refine seq_cons (lw_run rfl rfl (la_eq (.inl rfl) rfl rfl rfl (.inl rfl) rfl)) ?_
    refine seq_cons (lw_run rfl rfl (la_mvs (.inl rfl) rfl rfl rfl)) ?_
    refine seq_cons (lw_run rfl rfl (r_mvr (.inl rfl) rfl rfl rfl rfl)) ?_
    refine seq_cons (lw_run rfl rfl (la_mvs (.inl rfl) rfl rfl rfl)) ?_
    obtain ⟨z5, hz5, H⟩ := bnd H
    refine seq_cons (lw_run rfl rfl (r_ix rfl rfl rfl e22 rfl rfl hz5 rfl)) ?_
    refine seq_cons (lw_run rfl rfl (r_ld rfl rfl rfl fl3 rfl rfl)) ?_
    obtain ⟨z6, hz6, H⟩ := bnd H
    refine seq_cons (lw_run rfl rfl (r_eixs rfl rfl rfl e22 rfl rfl hz6 rfl)) ?_
    refine seq_cons (lw_run rfl rfl (r_ste rfl rfl sz3 so3 rfl hz6 rfl (l3 _) rfl rfl rfl)) ?_
    refine w_end ?_
    refine q_nb ?_
    refine w_nx ?_
    refine w_reg ?_
    refine seq_cons (lw_run rfl rfl (la_mvs (.inl rfl) rfl rfl rfl)) ?_
    refine seq_cons (lw_run rfl rfl (la_bin rfl rfl rfl rfl rfl rfl)) ?_
    refine seq_cons (lw_run rfl rfl (la_mvs (.inr rfl) rfl rfl rfl)) ?_
    refine w_end ?_
    refine q_nt ?_
    exact fun a w h => ⟨k0, (z6, (IntKind.i64.wrap (v3 + 1))), Nat.lt_succ_self k0, H, h.weaken (has_le ⟨rfl, rfl, rfl, rfl, trivial⟩)⟩
  · replace H := bif_f H hb4
    refine w_exit ?_
    refine q_et ?_
    refine q_et ?_
    refine q_in ?_
    cases H
    have H := HC0
    clear HC0
    try dsimp only at H
    refine w_nx ?_
    refine w_seq' ?_
    refine w_reg ?_
    refine seq_cons (lw_run rfl rfl (la_mvo (.inl rfl) rfl rfl rfl rfl rfl)) ?_
    refine seq_cons (lw_run rfl rfl (la_mvo (.inr rfl) rfl rfl rfl rfl rfl)) ?_
    refine w_end ?_
    refine w_nx ?_
    cases H
    exact w_ret (fun a w h => fin_one h rfl (.tmp rfl rfl) trivial)
/- loop.example/g00844/laws.toNode -/
def F64 (kf : Nat) (a0 : S92) : Option S92 :=
  (F9 kf a0.f6).bind (fun y1 => some (⟨a0.f0, a0.f1, a0.f2, a0.f3, a0.f4, a0.f5, y1⟩ : S92))
theorem r64 (kf : Nat) (a0 : S92) (R : S92) (H : F64 kf a0 = some R) : Ret Try.prog 64 27 [.d (.agg (c92 false a0))] [] (.d (.agg (c93 true R))) [] := by
  refine ret_of Try.func64 rfl rfl (by kernel_rfl) rfl ?_
  intro fr a' w' hn
  obtain ⟨w0, M, Z0, n, γ⟩ := fr
  simp only at hn
  subst hn
  revert a' w'
  show W _ _ _ _ _
  refine w_seq' ?_
  refine w_reg ?_
  refine seq_cons (lw_run rfl rfl (la_box rfl rfl rfl rfl)) ?_
  refine seq_cons (lw_run rfl rfl (la_alloc rfl rfl rfl (cs := [.v (.int .i64 0), .v (.string ByteArray.empty), .v (.int .i64 0), .v (.int .i64 0), .v (.int .i64 0), .v (.bool false), .sl true 3 (([] : (List Int)).map (c3 true))]) (z93 true))) ?_
  refine w_end ?_
  refine w_nx ?_
  refine w_seq' ?_
  refine w_reg ?_
  refine seq_cons (lw_run rfl rfl (la_alloc rfl rfl rfl (cs := [.v (.int .i64 0), .v (.string ByteArray.empty), .v (.int .i64 0), .v (.int .i64 0), .v (.int .i64 0), .v (.bool false), .sl true 3 (([] : (List Int)).map (c3 true))]) (z93 true))) ?_
  refine w_end ?_
  refine w_nx ?_
  refine w_seq' ?_
  refine w_reg ?_
  refine seq_cons (lw_run rfl rfl (la_fbx rfl rfl rfl fd92_0 rfl rfl)) ?_
  refine seq_cons (lw_run rfl rfl (la_ldf rfl rfl rfl fl3 rfl rfl rfl)) ?_
  refine seq_cons (lw_run rfl rfl (la_fbx rfl rfl rfl fd93_0 rfl rfl)) ?_
  refine seq_cons (lw_run rfl rfl (la_stf rfl rfl sz3 so3 rfl rfl rfl rfl)) ?_
  refine w_end ?_
  refine w_nx ?_
  refine w_seq' ?_
  refine w_reg ?_
  refine seq_cons (lw_run rfl rfl (la_fbx rfl rfl rfl fd92_1 rfl rfl)) ?_
  refine seq_cons (lw_run rfl rfl (la_ldf rfl rfl rfl fl9 rfl rfl rfl)) ?_
  refine seq_cons (lw_run rfl rfl (la_fbx rfl rfl rfl fd93_1 rfl rfl)) ?_
  refine seq_cons (lw_run rfl rfl (la_stf rfl rfl sz9 so9 rfl rfl rfl rfl)) ?_
  refine w_end ?_
  refine w_nx ?_
  refine w_seq' ?_
  refine w_reg ?_
  refine seq_cons (lw_run rfl rfl (la_fbx rfl rfl rfl fd92_2 rfl rfl)) ?_
  refine seq_cons (lw_run rfl rfl (la_ldf rfl rfl rfl fl3 rfl rfl rfl)) ?_
  refine seq_cons (lw_run rfl rfl (la_fbx rfl rfl rfl fd93_2 rfl rfl)) ?_
  refine seq_cons (lw_run rfl rfl (la_stf rfl rfl sz3 so3 rfl rfl rfl rfl)) ?_
  refine w_end ?_
  refine w_nx ?_
  refine w_seq' ?_
  refine w_reg ?_
  refine seq_cons (lw_run rfl rfl (la_fbx rfl rfl rfl fd92_3 rfl rfl)) ?_
  refine seq_cons (lw_run rfl rfl (la_ldf rfl rfl rfl fl3 rfl rfl rfl)) ?_
  refine seq_cons (lw_run rfl rfl (la_fbx rfl rfl rfl fd93_3 rfl rfl)) ?_
  refine seq_cons (lw_run rfl rfl (la_stf rfl rfl sz3 so3 rfl rfl rfl rfl)) ?_
  refine w_end ?_
  refine w_nx ?_
  refine w_seq' ?_
  refine w_reg ?_
  refine seq_cons (lw_run rfl rfl (la_fbx rfl rfl rfl fd92_4 rfl rfl)) ?_
  refine seq_cons (lw_run rfl rfl (la_ldf rfl rfl rfl fl3 rfl rfl rfl)) ?_
  refine seq_cons (lw_run rfl rfl (la_fbx rfl rfl rfl fd93_4 rfl rfl)) ?_
  refine seq_cons (lw_run rfl rfl (la_stf rfl rfl sz3 so3 rfl rfl rfl rfl)) ?_
  refine w_end ?_
  refine w_nx ?_
  refine w_seq' ?_
  refine w_reg ?_
  refine seq_cons (lw_run rfl rfl (la_fbx rfl rfl rfl fd92_5 rfl rfl)) ?_
  refine seq_cons (lw_run rfl rfl (la_ldf rfl rfl rfl fl4 rfl rfl rfl)) ?_
  refine seq_cons (lw_run rfl rfl (la_fbx rfl rfl rfl fd93_5 rfl rfl)) ?_
  refine seq_cons (lw_run rfl rfl (la_stf rfl rfl sz4 so4 rfl rfl rfl rfl)) ?_
  refine w_end ?_
  refine w_nx ?_
  refine w_seq' ?_
  refine w_reg ?_
  refine seq_cons (lw_run rfl rfl (la_fbx rfl rfl rfl fd92_6 rfl rfl)) ?_
  refine seq_cons (lw_run rfl rfl (la_ldf rfl rfl rfl fl22 rfl rfl rfl)) ?_
  obtain ⟨y1, hy1, H⟩ := bnd H
  refine seq_cons (lw_run rfl rfl (la_call [] [] rfl rfl rfl rfl (r9 kf a0.f6 _ hy1) rfl rfl rfl rfl rfl rfl rfl (by simp) rfl (.inl rfl))) ?_
  refine seq_cons (lw_run rfl rfl (la_fbx rfl rfl rfl fd93_6 rfl rfl)) ?_
  refine seq_cons (lw_run rfl rfl (la_stf rfl rfl sz22 so22 rfl rfl rfl rfl)) ?_
  refine w_end ?_
  refine w_nx ?_
  refine w_seq' ?_
  refine w_reg ?_
  refine seq_cons (lw_run rfl rfl (la_ldbt rfl rfl rfl rw93 rfl (by rw [sz93]; rfl))) ?_
  refine seq_cons (lw_run rfl rfl (la_stb rfl rfl rfl sz93 so93 rfl rfl rfl (nodupB_ok rfl))) ?_
  refine w_end ?_
  refine w_nx ?_
  cases H
  exact w_ret (fun a w h => fin_one h rfl (.cell rfl rfl rw93 (by rw [sz93]; rfl)) trivial)
/- loop.example/g00844/laws.toNodeS -/
def F56_L0 (kf : Nat) (a0 : (List S92)) (z1 : (List S92)) : Nat → (List S92) → Int → Option (Ex (List S92) ((List S92) × Int))
  | 0, _, _ => none
  | k + 1, v2, v3 =>
  (bif (decide (v3 < (a0.length : Int))) then
  (ix a0 v3).bind (fun z5 => (F64 kf z5).bind (fun y6 => (stx v2 v3 y6).bind (fun z7 => (F56_L0 kf a0 z1 k) z7 (IntKind.i64.wrap (v3 + 1)))))
  else some (.go (v2, v3)))
def F56 (kf : Nat) (a0 : (List S92)) : Option (List S92) :=
  (mkx (a0.length : Int) (⟨0, ByteArray.empty, 0, 0, 0, false, []⟩ : S92)).bind (fun z1 => (F56_L0 kf a0 z1 kf z1 0).bind (fun o => match o with
  | .ret r => some r
  | .go (v2, v3) => some v2))
theorem r56 (kf : Nat) (a0 : (List S92)) (R : (List S92)) (H : F56 kf a0 = some R) : Ret Try.prog 56 23 [.d (.one (.sl false 92 (a0.map (c92 false))))] [] (.d (.one (.sl true 93 (R.map (c93 true))))) [] := by
  refine ret_of Try.func56 rfl rfl (by kernel_rfl) rfl ?_
  intro fr a' w' hn
  obtain ⟨w0, M, Z0, n, γ⟩ := fr
  simp only at hn
  subst hn
  revert a' w'
  show W _ _ _ _ _
  refine w_seq' ?_
  refine w_reg ?_
  refine seq_cons (lw_run rfl rfl (r_nil true 93 (c93 true) (.inr rfl) rfl rfl)) ?_
  refine w_end ?_
  refine w_nx ?_
  refine w_seq' ?_
  refine w_reg ?_
  refine seq_cons (lw_run rfl rfl (r_mvr (.inl rfl) rfl rfl rfl rfl)) ?_
  refine seq_cons (lw_run rfl rfl (la_len rfl rfl rfl Try.underlying56 rfl)) ?_
  obtain ⟨z1, hz1, H⟩ := bnd H
  refine seq_cons (lw_run rfl rfl (r_mk rfl rfl rfl e60 (z93 true) rfl rfl rfl hz1)) ?_
  refine seq_cons (lw_run rfl rfl (la_mvo (.inr rfl) rfl rfl rfl rfl rfl)) ?_
  refine w_end ?_
  refine w_nx ?_
  refine w_seq' ?_
  refine w_seq' ?_
  refine w_reg ?_
  refine seq_cons (lw_run rfl rfl (la_mvs (.inr rfl) rfl rfl rfl)) ?_
  refine w_end ?_
  refine w_nx ?_
  refine w_block ?_
  obtain ⟨out0, HL, HC0⟩ := bnd H
  clear H
  refine w_weak (Γ' := (fun s : (List S92) × Int => mk [(0, .d (.one (.sl false 92 (a0.map (c92 false))))), (2, .d (.one (.sl true 93 (([]).map (c93 true))))), (3, .d (.one (.sl true 93 (s.1.map (c93 true))))), (4, .d (iv s.2))]) (z1, 0)) (w_loop (σ := (List S92) × Int) (fun s => mk [(0, .d (.one (.sl false 92 (a0.map (c92 false))))), (2, .d (.one (.sl true 93 (([]).map (c93 true))))), (3, .d (.one (.sl true 93 (s.1.map (c93 true))))), (4, .d (iv s.2))]) (fun k s => F56_L0 kf a0 z1 k s.1 s.2 = some out0) kf (z1, 0) HL ?_) (has_le ⟨rfl, rfl, rfl, rfl, trivial⟩)
  clear HL
  rintro k0 ⟨v2, v3⟩ H
  cases k0 with
  | zero => cases H
  | succ k0 =>
  try dsimp only at H ⊢
  refine w_seq' ?_
  refine w_seq' ?_
  refine w_reg ?_
  refine seq_cons (lw_run rfl rfl (la_mvs (.inl rfl) rfl rfl rfl)) ?_
  refine seq_cons (lw_run rfl rfl (r_mvr (.inl rfl) rfl rfl rfl rfl)) ?_
  refine seq_cons (lw_run rfl rfl (la_len rfl rfl rfl Try.underlying56 rfl)) ?_
  refine seq_cons (lw_run rfl rfl (la_bin rfl rfl rfl rfl rfl rfl)) ?_
  refine w_end ?_
  refine w_nx ?_
  refine w_cond rfl (fun hb4 => ?_) (fun hb4 => ?_)
  · replace H := bif_t H hb4
    refine w_skip ?_
    refine w_nx ?_
    refine w_seq' ?_
    refine w_block ?_
    refine w_reg ?_
    refine seq_cons (lw_run rfl rfl (la_eq (.inl rfl) rfl rfl rfl (.inl rfl) rfl)) ?_
    refine seq_cons (lw_run rfl rfl (la_mvs (.inl rfl) rfl rfl rfl)) ?_
    refine seq_cons (lw_run rfl rfl (r_mvr (.inl rfl) rfl rfl rfl rfl)) ?_
    refine seq_cons (lw_run rfl rfl (la_mvs (.inl rfl) rfl rfl rfl)) ?_
    obtain ⟨z5, hz5, H⟩ := bnd H
    refine seq_cons (lw_run rfl rfl (r_ix rfl rfl rfl e56 rfl rfl hz5 rfl)) ?_
    refine seq_cons (lw_run rfl rfl (r_lds rfl rfl rfl rw92 rfl (ln92 _ _) rfl)) ?_
    obtain ⟨y6, hy6, H⟩ := bnd H
    refine seq_cons (lw_run rfl rfl (la_call [] [] rfl rfl rfl rfl (r64 kf z5 _ hy6) rfl rfl rfl rfl rfl rfl rfl (by simp) rfl (.inl rfl))) ?_
    obtain ⟨z7, hz7, H⟩ := bnd H
    refine seq_cons (lw_run rfl rfl (r_eixs rfl rfl rfl e60 rfl rfl hz7 rfl)) ?_
    refine seq_cons (lw_run rfl rfl (r_stes rfl rfl sz93 sz93 so93 rfl hz7 rfl rfl rfl rfl rfl)) ?_
    refine w_end ?_
    refine q_nb ?_
    refine w_nx ?_
    refine w_reg ?_
    refine seq_cons (lw_run rfl rfl (la_mvs (.inl rfl) rfl rfl rfl)) ?_
    refine seq_cons (lw_run rfl rfl (la_bin rfl rfl rfl rfl rfl rfl)) ?_
    refine seq_cons (lw_run rfl rfl (la_mvs (.inr rfl) rfl rfl rfl)) ?_
    refine w_end ?_
    refine q_nt ?_
    exact fun a w h => ⟨k0, (z7, (IntKind.i64.wrap (v3 + 1))), Nat.lt_succ_self k0, H, h.weaken (has_le ⟨rfl, rfl, rfl, rfl, trivial⟩)⟩
  · replace H := bif_f H hb4
    refine w_exit ?_
    refine q_et ?_
    refine q_et ?_
    refine q_in ?_
    cases H
    have H := HC0
    clear HC0
    try dsimp only at H
    refine w_nx ?_
    refine w_seq' ?_
    refine w_reg ?_
    refine seq_cons (lw_run rfl rfl (la_mvo (.inl rfl) rfl rfl rfl rfl rfl)) ?_
    refine seq_cons (lw_run rfl rfl (la_mvo (.inr rfl) rfl rfl rfl rfl rfl)) ?_
    refine w_end ?_
    refine w_nx ?_
    cases H
    exact w_ret (fun a w h => fin_one h rfl (.tmp rfl rfl) trivial)
/- loop.example/g00844/laws.toStep -/
def F65 (kf : Nat) (a0 : S98) : Option S98 :=
  some (⟨a0.f0, a0.f1⟩ : S98)
theorem r65 (kf : Nat) (a0 : S98) (R : S98) (H : F65 kf a0 = some R) : Ret Try.prog 65 11 [.d (.agg (c98 false a0))] [] (.d (.agg (c96 true R))) [] := by
  refine ret_of Try.func65 rfl rfl (by kernel_rfl) rfl ?_
  intro fr a' w' hn
  obtain ⟨w0, M, Z0, n, γ⟩ := fr
  simp only at hn
  subst hn
  revert a' w'
  show W _ _ _ _ _
  refine w_seq' ?_
  refine w_reg ?_
  refine seq_cons (lw_run rfl rfl (la_box rfl rfl rfl rfl)) ?_
  refine seq_cons (lw_run rfl rfl (la_alloc rfl rfl rfl (cs := [.v (.int .i64 0), .v (.int .i64 0)]) (z96 true))) ?_
  refine w_end ?_
  refine w_nx ?_
  refine w_seq' ?_
  refine w_reg ?_
  refine seq_cons (lw_run rfl rfl (la_alloc rfl rfl rfl (cs := [.v (.int .i64 0), .v (.int .i64 0)]) (z96 true))) ?_
  refine w_end ?_
  refine w_nx ?_
  refine w_seq' ?_
  refine w_reg ?_
  refine seq_cons (lw_run rfl rfl (la_fbx rfl rfl rfl fd98_0 rfl rfl)) ?_
  refine seq_cons (lw_run rfl rfl (la_ldf rfl rfl rfl fl3 rfl rfl rfl)) ?_
  refine seq_cons (lw_run rfl rfl (la_fbx rfl rfl rfl fd96_0 rfl rfl)) ?_
  refine seq_cons (lw_run rfl rfl (la_stf rfl rfl sz3 so3 rfl rfl rfl rfl)) ?_
  refine w_end ?_
  refine w_nx ?_
  refine w_seq' ?_
  refine w_reg ?_
  refine seq_cons (lw_run rfl rfl (la_fbx rfl rfl rfl fd98_1 rfl rfl)) ?_
  refine seq_cons (lw_run rfl rfl (la_ldf rfl rfl rfl fl3 rfl rfl rfl)) ?_
  refine seq_cons (lw_run rfl rfl (la_fbx rfl rfl rfl fd96_1 rfl rfl)) ?_
  refine seq_cons (lw_run rfl rfl (la_stf rfl rfl sz3 so3 rfl rfl rfl rfl)) ?_
  refine w_end ?_
  refine w_nx ?_
  refine w_seq' ?_
  refine w_reg ?_
  refine seq_cons (lw_run rfl rfl (la_ldb rfl rfl rfl rw96 rfl (by rw [sz96]; rfl) rfl)) ?_
  refine seq_cons (lw_run rfl rfl (la_stb rfl rfl rfl sz96 so96 rfl rfl rfl (nodupB_ok rfl))) ?_
  refine w_end ?_
  refine w_nx ?_
  cases H
  exact w_ret (fun a w h => fin_one h rfl (.cell rfl rfl rw96 (by rw [sz96]; rfl)) trivial)
/- loop.example/g00844/laws.toStepS -/
def F57_L0 (kf : Nat) (a0 : (List S98)) (z1 : (List S98)) : Nat → (List S98) → Int → Option (Ex (List S98) ((List S98) × Int))
  | 0, _, _ => none
  | k + 1, v2, v3 =>
  (bif (decide (v3 < (a0.length : Int))) then
  (ix a0 v3).bind (fun z5 => (F65 kf z5).bind (fun y6 => (stx v2 v3 y6).bind (fun z7 => (F57_L0 kf a0 z1 k) z7 (IntKind.i64.wrap (v3 + 1)))))
  else some (.go (v2, v3)))
def F57 (kf : Nat) (a0 : (List S98)) : Option (List S98) :=
  (mkx (a0.length : Int) (⟨0, 0⟩ : S98)).bind (fun z1 => (F57_L0 kf a0 z1 kf z1 0).bind (fun o => match o with
  | .ret r => some r
  | .go (v2, v3) => some v2))
theorem r57 (kf : Nat) (a0 : (List S98)) (R : (List S98)) (H : F57 kf a0 = some R) : Ret Try.prog 57 23 [.d (.one (.sl false 98 (a0.map (c98 false))))] [] (.d (.one (.sl true 96 (R.map (c96 true))))) [] := by
  refine ret_of Try.func57 rfl rfl (by kernel_rfl) rfl ?_
  intro fr a' w' hn
  obtain ⟨w0, M, Z0, n, γ⟩ := fr
  simp only at hn
  subst hn
  revert a' w'
  show W _ _ _ _ _
  refine w_seq' ?_
  refine w_reg ?_
  refine seq_cons (lw_run rfl rfl (r_nil true 96 (c96 true) (.inr rfl) rfl rfl)) ?_
  refine w_end ?_
  refine w_nx ?_
  refine w_seq' ?_
  refine w_reg ?_
  refine seq_cons (lw_run rfl rfl (r_mvr (.inl rfl) rfl rfl rfl rfl)) ?_
  refine seq_cons (lw_run rfl rfl (la_len rfl rfl rfl Try.underlying57 rfl)) ?_
  obtain ⟨z1, hz1, H⟩ := bnd H
  refine seq_cons (lw_run rfl rfl (r_mk rfl rfl rfl e61 (z96 true) rfl rfl rfl hz1)) ?_
  refine seq_cons (lw_run rfl rfl (la_mvo (.inr rfl) rfl rfl rfl rfl rfl)) ?_
  refine w_end ?_
  refine w_nx ?_
  refine w_seq' ?_
  refine w_seq' ?_
  refine w_reg ?_
  refine seq_cons (lw_run rfl rfl (la_mvs (.inr rfl) rfl rfl rfl)) ?_
  refine w_end ?_
  refine w_nx ?_
  refine w_block ?_
  obtain ⟨out0, HL, HC0⟩ := bnd H
  clear H
  refine w_weak (Γ' := (fun s : (List S98) × Int => mk [(0, .d (.one (.sl false 98 (a0.map (c98 false))))), (2, .d (.one (.sl true 96 (([]).map (c96 true))))), (3, .d (.one (.sl true 96 (s.1.map (c96 true))))), (4, .d (iv s.2))]) (z1, 0)) (w_loop (σ := (List S98) × Int) (fun s => mk [(0, .d (.one (.sl false 98 (a0.map (c98 false))))), (2, .d (.one (.sl true 96 (([]).map (c96 true))))), (3, .d (.one (.sl true 96 (s.1.map (c96 true))))), (4, .d (iv s.2))]) (fun k s => F57_L0 kf a0 z1 k s.1 s.2 = some out0) kf (z1, 0) HL ?_) (has_le ⟨rfl, rfl, rfl, rfl, trivial⟩)
  clear HL
  rintro k0 ⟨v2, v3⟩ H
  cases k0 with
  | zero => cases H
  | succ k0 =>
  try dsimp only at H ⊢
  refine w_seq' ?_
  refine w_seq' ?_
  refine w_reg ?_
  refine seq_cons (lw_run rfl rfl (la_mvs (.inl rfl) rfl rfl rfl)) ?_
  refine seq_cons (lw_run rfl rfl (r_mvr (.inl rfl) rfl rfl rfl rfl)) ?_
  refine seq_cons (lw_run rfl rfl (la_len rfl rfl rfl Try.underlying57 rfl)) ?_
  refine seq_cons (lw_run rfl rfl (la_bin rfl rfl rfl rfl rfl rfl)) ?_
  refine w_end ?_
  refine w_nx ?_
  refine w_cond rfl (fun hb4 => ?_) (fun hb4 => ?_)
  · replace H := bif_t H hb4
    refine w_skip ?_
    refine w_nx ?_
    refine w_seq' ?_
    refine w_block ?_
    refine w_reg ?_
    refine seq_cons (lw_run rfl rfl (la_eq (.inl rfl) rfl rfl rfl (.inl rfl) rfl)) ?_
    refine seq_cons (lw_run rfl rfl (la_mvs (.inl rfl) rfl rfl rfl)) ?_
    refine seq_cons (lw_run rfl rfl (r_mvr (.inl rfl) rfl rfl rfl rfl)) ?_
    refine seq_cons (lw_run rfl rfl (la_mvs (.inl rfl) rfl rfl rfl)) ?_
    obtain ⟨z5, hz5, H⟩ := bnd H
    refine seq_cons (lw_run rfl rfl (r_ix rfl rfl rfl e57 rfl rfl hz5 rfl)) ?_
    refine seq_cons (lw_run rfl rfl (r_lds rfl rfl rfl rw98 rfl (ln98 _ _) rfl)) ?_
    obtain ⟨y6, hy6, H⟩ := bnd H
    refine seq_cons (lw_run rfl rfl (la_call [] [] rfl rfl rfl rfl (r65 kf z5 _ hy6) rfl rfl rfl rfl rfl rfl rfl (by simp) rfl (.inl rfl))) ?_
    obtain ⟨z7, hz7, H⟩ := bnd H
    refine seq_cons (lw_run rfl rfl (r_eixs rfl rfl rfl e61 rfl rfl hz7 rfl)) ?_
    refine seq_cons (lw_run rfl rfl (r_stes rfl rfl sz96 sz96 so96 rfl hz7 rfl rfl rfl rfl rfl)) ?_
    refine w_end ?_
    refine q_nb ?_
    refine w_nx ?_
    refine w_reg ?_
    refine seq_cons (lw_run rfl rfl (la_mvs (.inl rfl) rfl rfl rfl)) ?_
    refine seq_cons (lw_run rfl rfl (la_bin rfl rfl rfl rfl rfl rfl)) ?_
    refine seq_cons (lw_run rfl rfl (la_mvs (.inr rfl) rfl rfl rfl)) ?_
    refine w_end ?_
    refine q_nt ?_
    exact fun a w h => ⟨k0, (z7, (IntKind.i64.wrap (v3 + 1))), Nat.lt_succ_self k0, H, h.weaken (has_le ⟨rfl, rfl, rfl, rfl, trivial⟩)⟩
  · replace H := bif_f H hb4
    refine w_exit ?_
    refine q_et ?_
    refine q_et ?_
    refine q_in ?_
    cases H
    have H := HC0
    clear HC0
    try dsimp only at H
    refine w_nx ?_
    refine w_seq' ?_
    refine w_reg ?_
    refine seq_cons (lw_run rfl rfl (la_mvo (.inl rfl) rfl rfl rfl rfl rfl)) ?_
    refine seq_cons (lw_run rfl rfl (la_mvo (.inr rfl) rfl rfl rfl rfl rfl)) ?_
    refine w_end ?_
    refine w_nx ?_
    cases H
    exact w_ret (fun a w h => fin_one h rfl (.tmp rfl rfl) trivial)
/- loop.example/g00844/laws.toOp -/
def F40 (kf : Nat) (a0 : S59) : Option S59 :=
  (F56 kf a0.f1).bind (fun y1 => (F56 kf a0.f2).bind (fun y2 => (F57 kf a0.f3).bind (fun y3 => some (⟨a0.f0, y1, y2, y3⟩ : S59))))
theorem r40 (kf : Nat) (a0 : S59) (R : S59) (H : F40 kf a0 = some R) : Ret Try.prog 40 20 [.d (.agg (c59 false a0))] [] (.d (.agg (c63 true R))) [] := by
  refine ret_of Try.func40 rfl rfl (by kernel_rfl) rfl ?_
  intro fr a' w' hn
  obtain ⟨w0, M, Z0, n, γ⟩ := fr
  simp only at hn
  subst hn
  revert a' w'
  show W _ _ _ _ _
  refine w_seq' ?_
  refine w_reg ?_
  refine seq_cons (lw_run rfl rfl (la_box rfl rfl rfl rfl)) ?_
  refine seq_cons (lw_run rfl rfl (la_alloc rfl rfl rfl (cs := [.v (.int .i64 0), .sl true 93 (([] : (List S92)).map (c93 true)), .sl true 93 (([] : (List S92)).map (c93 true)), .sl true 96 (([] : (List S98)).map (c96 true))]) (z63 true))) ?_
  refine w_end ?_
  refine w_nx ?_
  refine w_seq' ?_
  refine w_reg ?_
  refine seq_cons (lw_run rfl rfl (la_alloc rfl rfl rfl (cs := [.v (.int .i64 0), .sl true 93 (([] : (List S92)).map (c93 true)), .sl true 93 (([] : (List S92)).map (c93 true)), .sl true 96 (([] : (List S98)).map (c96 true))]) (z63 true))) ?_
  refine w_end ?_
  refine w_nx ?_
  refine w_seq' ?_
  refine w_reg ?_
  refine seq_cons (lw_run rfl rfl (la_fbx rfl rfl rfl fd59_0 rfl rfl)) ?_
  refine seq_cons (lw_run rfl rfl (la_ldf rfl rfl rfl fl3 rfl rfl rfl)) ?_
  refine seq_cons (lw_run rfl rfl (la_fbx rfl rfl rfl fd63_0 rfl rfl)) ?_
  refine seq_cons (lw_run rfl rfl (la_stf rfl rfl sz3 so3 rfl rfl rfl rfl)) ?_
  refine w_end ?_
  refine w_nx ?_
  refine w_seq' ?_
  refine w_reg ?_
  refine seq_cons (lw_run rfl rfl (la_fbx rfl rfl rfl fd59_1 rfl rfl)) ?_
  refine seq_cons (lw_run rfl rfl (la_ldf rfl rfl rfl fl56 rfl rfl rfl)) ?_
  obtain ⟨y1, hy1, H⟩ := bnd H
  refine seq_cons (lw_run rfl rfl (la_call [] [] rfl rfl rfl rfl (r56 kf a0.f1 _ hy1) rfl rfl rfl rfl rfl rfl rfl (by simp) rfl (.inl rfl))) ?_
  refine seq_cons (lw_run rfl rfl (la_fbx rfl rfl rfl fd63_1 rfl rfl)) ?_
  refine seq_cons (lw_run rfl rfl (la_stf rfl rfl sz60 so60 rfl rfl rfl rfl)) ?_
  refine w_end ?_
  refine w_nx ?_
  refine w_seq' ?_
  refine w_reg ?_
  refine seq_cons (lw_run rfl rfl (la_fbx rfl rfl rfl fd59_2 rfl rfl)) ?_
  refine seq_cons (lw_run rfl rfl (la_ldf rfl rfl rfl fl56 rfl rfl rfl)) ?_
  obtain ⟨y2, hy2, H⟩ := bnd H
  refine seq_cons (lw_run rfl rfl (la_call [] [] rfl rfl rfl rfl (r56 kf a0.f2 _ hy2) rfl rfl rfl rfl rfl rfl rfl (by simp) rfl (.inl rfl))) ?_
  refine seq_cons (lw_run rfl rfl (la_fbx rfl rfl rfl fd63_2 rfl rfl)) ?_
  refine seq_cons (lw_run rfl rfl (la_stf rfl rfl sz60 so60 rfl rfl rfl rfl)) ?_
  refine w_end ?_
  refine w_nx ?_
  refine w_seq' ?_
  refine w_reg ?_
  refine seq_cons (lw_run rfl rfl (la_fbx rfl rfl rfl fd59_3 rfl rfl)) ?_
  refine seq_cons (lw_run rfl rfl (la_ldf rfl rfl rfl fl57 rfl rfl rfl)) ?_
  obtain ⟨y3, hy3, H⟩ := bnd H
  refine seq_cons (lw_run rfl rfl (la_call [] [] rfl rfl rfl rfl (r57 kf a0.f3 _ hy3) rfl rfl rfl rfl rfl rfl rfl (by simp) rfl (.inl rfl))) ?_
  refine seq_cons (lw_run rfl rfl (la_fbx rfl rfl rfl fd63_3 rfl rfl)) ?_
  refine seq_cons (lw_run rfl rfl (la_stf rfl rfl sz61 so61 rfl rfl rfl rfl)) ?_
  refine w_end ?_
  refine w_nx ?_
  refine w_seq' ?_
  refine w_reg ?_
  refine seq_cons (lw_run rfl rfl (la_ldbt rfl rfl rfl rw63 rfl (by rw [sz63]; rfl))) ?_
  refine seq_cons (lw_run rfl rfl (la_stb rfl rfl rfl sz63 so63 rfl rfl rfl (nodupB_ok rfl))) ?_
  refine w_end ?_
  refine w_nx ?_
  cases H
  exact w_ret (fun a w h => fin_one h rfl (.cell rfl rfl rw63 (by rw [sz63]; rfl)) trivial)
/- loop.example/g00844/laws.toOpS -/
def F23_L0 (kf : Nat) (a0 : (List S59)) (z1 : (List S59)) : Nat → (List S59) → Int → Option (Ex (List S59) ((List S59) × Int))
  | 0, _, _ => none
  | k + 1, v2, v3 =>
  (bif (decide (v3 < (a0.length : Int))) then
  (ix a0 v3).bind (fun z5 => (F40 kf z5).bind (fun y6 => (stx v2 v3 y6).bind (fun z7 => (F23_L0 kf a0 z1 k) z7 (IntKind.i64.wrap (v3 + 1)))))
  else some (.go (v2, v3)))
def F23 (kf : Nat) (a0 : (List S59)) : Option (List S59) :=
  (mkx (a0.length : Int) (⟨0, [], [], []⟩ : S59)).bind (fun z1 => (F23_L0 kf a0 z1 kf z1 0).bind (fun o => match o with
  | .ret r => some r
  | .go (v2, v3) => some v2))
theorem r23 (kf : Nat) (a0 : (List S59)) (R : (List S59)) (H : F23 kf a0 = some R) : Ret Try.prog 23 23 [.d (.one (.sl false 59 (a0.map (c59 false))))] [] (.d (.one (.sl true 63 (R.map (c63 true))))) [] := by
  refine ret_of Try.func23 rfl rfl (by kernel_rfl) rfl ?_
  intro fr a' w' hn
  obtain ⟨w0, M, Z0, n, γ⟩ := fr
  simp only at hn
  subst hn
  revert a' w'
  show W _ _ _ _ _
  refine w_seq' ?_
  refine w_reg ?_
  refine seq_cons (lw_run rfl rfl (r_nil true 63 (c63 true) (.inr rfl) rfl rfl)) ?_
  refine w_end ?_
  refine w_nx ?_
  refine w_seq' ?_
  refine w_reg ?_
  refine seq_cons (lw_run rfl rfl (r_mvr (.inl rfl) rfl rfl rfl rfl)) ?_
  refine seq_cons (lw_run rfl rfl (la_len rfl rfl rfl Try.underlying35 rfl)) ?_
  obtain ⟨z1, hz1, H⟩ := bnd H
  refine seq_cons (lw_run rfl rfl (r_mk rfl rfl rfl e38 (z63 true) rfl rfl rfl hz1)) ?_
  refine seq_cons (lw_run rfl rfl (la_mvo (.inr rfl) rfl rfl rfl rfl rfl)) ?_
  refine w_end ?_
  refine w_nx ?_
  refine w_seq' ?_
  refine w_seq' ?_
  refine w_reg ?_
  refine seq_cons (lw_run rfl rfl (la_mvs (.inr rfl) rfl rfl rfl)) ?_
  refine w_end ?_
  refine w_nx ?_
  refine w_block ?_
  obtain ⟨out0, HL, HC0⟩ := bnd H
  clear H
  refine w_weak (Γ' := (fun s : (List S59) × Int => mk [(0, .d (.one (.sl false 59 (a0.map (c59 false))))), (2, .d (.one (.sl true 63 (([]).map (c63 true))))), (3, .d (.one (.sl true 63 (s.1.map (c63 true))))), (4, .d (iv s.2))]) (z1, 0)) (w_loop (σ := (List S59) × Int) (fun s => mk [(0, .d (.one (.sl false 59 (a0.map (c59 false))))), (2, .d (.one (.sl true 63 (([]).map (c63 true))))), (3, .d (.one (.sl true 63 (s.1.map (c63 true))))), (4, .d (iv s.2))]) (fun k s => F23_L0 kf a0 z1 k s.1 s.2 = some out0) kf (z1, 0) HL ?_) (has_le ⟨rfl, rfl, rfl, rfl, trivial⟩)
  clear HL
  rintro k0 ⟨v2, v3⟩ H
  cases k0 with
  | zero => cases H
  | succ k0 =>
  try dsimp only at H ⊢
  refine w_seq' ?_
  refine w_seq' ?_
  refine w_reg ?_
  refine seq_cons (lw_run rfl rfl (la_mvs (.inl rfl) rfl rfl rfl)) ?_
  refine seq_cons (lw_run rfl rfl (r_mvr (.inl rfl) rfl rfl rfl rfl)) ?_
  refine seq_cons (lw_run rfl rfl (la_len rfl rfl rfl Try.underlying35 rfl)) ?_
  refine seq_cons (lw_run rfl rfl (la_bin rfl rfl rfl rfl rfl rfl)) ?_
  refine w_end ?_
  refine w_nx ?_
  refine w_cond rfl (fun hb4 => ?_) (fun hb4 => ?_)
  · replace H := bif_t H hb4
    refine w_skip ?_
    refine w_nx ?_
    refine w_seq' ?_
    refine w_block ?_
    refine w_reg ?_
    refine seq_cons (lw_run rfl rfl (la_eq (.inl rfl) rfl rfl rfl (.inl rfl) rfl)) ?_
    refine seq_cons (lw_run rfl rfl (la_mvs (.inl rfl) rfl rfl rfl)) ?_
    refine seq_cons (lw_run rfl rfl (r_mvr (.inl rfl) rfl rfl rfl rfl)) ?_
    refine seq_cons (lw_run rfl rfl (la_mvs (.inl rfl) rfl rfl rfl)) ?_
    obtain ⟨z5, hz5, H⟩ := bnd H
    refine seq_cons (lw_run rfl rfl (r_ix rfl rfl rfl e35 rfl rfl hz5 rfl)) ?_
    refine seq_cons (lw_run rfl rfl (r_lds rfl rfl rfl rw59 rfl (ln59 _ _) rfl)) ?_
    obtain ⟨y6, hy6, H⟩ := bnd H
    refine seq_cons (lw_run rfl rfl (la_call [] [] rfl rfl rfl rfl (r40 kf z5 _ hy6) rfl rfl rfl rfl rfl rfl rfl (by simp) rfl (.inl rfl))) ?_
    obtain ⟨z7, hz7, H⟩ := bnd H
    refine seq_cons (lw_run rfl rfl (r_eixs rfl rfl rfl e38 rfl rfl hz7 rfl)) ?_
    refine seq_cons (lw_run rfl rfl (r_stes rfl rfl sz63 sz63 so63 rfl hz7 rfl rfl rfl rfl rfl)) ?_
    refine w_end ?_
    refine q_nb ?_
    refine w_nx ?_
    refine w_reg ?_
    refine seq_cons (lw_run rfl rfl (la_mvs (.inl rfl) rfl rfl rfl)) ?_
    refine seq_cons (lw_run rfl rfl (la_bin rfl rfl rfl rfl rfl rfl)) ?_
    refine seq_cons (lw_run rfl rfl (la_mvs (.inr rfl) rfl rfl rfl)) ?_
    refine w_end ?_
    refine q_nt ?_
    exact fun a w h => ⟨k0, (z7, (IntKind.i64.wrap (v3 + 1))), Nat.lt_succ_self k0, H, h.weaken (has_le ⟨rfl, rfl, rfl, rfl, trivial⟩)⟩
  · replace H := bif_f H hb4
    refine w_exit ?_
    refine q_et ?_
    refine q_et ?_
    refine q_in ?_
    cases H
    have H := HC0
    clear HC0
    try dsimp only at H
    refine w_nx ?_
    refine w_seq' ?_
    refine w_reg ?_
    refine seq_cons (lw_run rfl rfl (la_mvo (.inl rfl) rfl rfl rfl rfl rfl)) ?_
    refine seq_cons (lw_run rfl rfl (la_mvo (.inr rfl) rfl rfl rfl rfl rfl)) ?_
    refine w_end ?_
    refine w_nx ?_
    cases H
    exact w_ret (fun a w h => fin_one h rfl (.tmp rfl rfl) trivial)
/- loop.example/g00844/impl.flag -/
def F41 (kf : Nat) (a0 : Bool) : Option Int :=
  (bif a0 then
  some 1
  else some 0)
theorem r41 (kf : Nat) (a0 : Bool) (R : Int) (H : F41 kf a0 = some R) : Ret Try.prog 41 4 [.d (bv a0)] [] (.d (iv R)) [] := by
  refine ret_of Try.func41 rfl rfl (by kernel_rfl) rfl ?_
  intro fr a' w' hn
  obtain ⟨w0, M, Z0, n, γ⟩ := fr
  simp only at hn
  subst hn
  revert a' w'
  show W _ _ _ _ _
  refine w_seq' ?_
  refine w_reg ?_
  refine seq_cons (lw_run rfl rfl (la_mvs (.inr rfl) rfl rfl rfl)) ?_
  refine w_end ?_
  refine w_nx ?_
  refine w_seq' ?_
  refine w_seq' ?_
  refine w_reg ?_
  refine seq_cons (lw_run rfl rfl (la_mvs (.inl rfl) rfl rfl rfl)) ?_
  refine w_end ?_
  refine w_nx ?_
  refine w_cond rfl (fun hb1 => ?_) (fun hb1 => ?_)
  · replace H := bif_t H hb1
    refine w_seq' ?_
    refine w_reg ?_
    refine seq_cons (lw_run rfl rfl (la_mvs (.inr rfl) rfl rfl rfl)) ?_
    refine w_end ?_
    refine w_nx ?_
    cases H
    exact w_ret (fun a w h => fin_one h rfl (.tmp rfl rfl) trivial)
  · replace H := bif_f H hb1
    refine w_skip ?_
    refine w_nx ?_
    refine w_seq' ?_
    refine w_reg ?_
    refine seq_cons (lw_run rfl rfl (la_mvs (.inr rfl) rfl rfl rfl)) ?_
    refine w_end ?_
    refine w_nx ?_
    cases H
    exact w_ret (fun a w h => fin_one h rfl (.tmp rfl rfl) trivial)
/- loop.example/g00844/impl.AsksOf -/
def F24_L0 (kf : Nat) (a0 : (List S59)) : Nat → Int → Int → Option (Ex Int (Int × Int))
  | 0, _, _ => none
  | k + 1, v1, v2 =>
  (bif (decide (v2 < (a0.length : Int))) then
  (ix a0 v2).bind (fun z4 => (F41 kf (z4.f0 == 0)).bind (fun y5 => (F24_L0 kf a0 k) (IntKind.i64.wrap (v1 + y5)) (IntKind.i64.wrap (v2 + 1))))
  else some (.go (v1, v2)))
def F24 (kf : Nat) (a0 : (List S59)) : Option Int :=
  (F24_L0 kf a0 kf 0 0).bind (fun o => match o with
  | .ret r => some r
  | .go (v1, v2) => some v1)
theorem r24 (kf : Nat) (a0 : (List S59)) (R : Int) (H : F24 kf a0 = some R) : Ret Try.prog 24 20 [.d (.one (.sl false 63 (a0.map (c63 false))))] [] (.d (iv R)) [] := by
  refine ret_of Try.func24 rfl rfl (by kernel_rfl) rfl ?_
  intro fr a' w' hn
  obtain ⟨w0, M, Z0, n, γ⟩ := fr
  simp only at hn
  subst hn
  revert a' w'
  show W _ _ _ _ _
  refine w_seq' ?_
  refine w_reg ?_
  refine seq_cons (lw_run rfl rfl (la_mvs (.inr rfl) rfl rfl rfl)) ?_
  refine w_end ?_
  refine w_nx ?_
  refine w_seq' ?_
  refine w_reg ?_
  refine seq_cons (lw_run rfl rfl (la_mvs (.inr rfl) rfl rfl rfl)) ?_
  refine w_end ?_
  refine w_nx ?_
  refine w_seq' ?_
  refine w_seq' ?_
  refine w_reg ?_
  refine seq_cons (lw_run rfl rfl (r_mvr (.inl rfl) rfl rfl rfl rfl)) ?_
  refine seq_cons (lw_run rfl rfl (la_len rfl rfl rfl Try.underlying38 rfl)) ?_
  refine seq_cons (lw_run rfl rfl (la_mvs (.inl rfl) rfl rfl rfl)) ?_
  refine w_end ?_
  refine w_nx ?_
  refine w_block ?_
  obtain ⟨out0, HL, HC0⟩ := bnd H
  clear H
  refine w_weak (Γ' := (fun s : Int × Int => mk [(2, .d (iv 0)), (6, .d (.one (.sl false 63 (a0.map (c63 false))))), (7, .d (iv (a0.length : Int))), (3, .d (iv s.1)), (8, .d (iv s.2))]) (0, 0)) (w_loop (σ := Int × Int) (fun s => mk [(2, .d (iv 0)), (6, .d (.one (.sl false 63 (a0.map (c63 false))))), (7, .d (iv (a0.length : Int))), (3, .d (iv s.1)), (8, .d (iv s.2))]) (fun k s => F24_L0 kf a0 k s.1 s.2 = some out0) kf (0, 0) HL ?_) (has_le ⟨rfl, rfl, rfl, rfl, rfl, trivial⟩)
  clear HL
  rintro k0 ⟨v1, v2⟩ H
  cases k0 with
  | zero => cases H
  | succ k0 =>
  try dsimp only at H ⊢
  refine w_seq' ?_
  refine w_reg ?_
  refine seq_cons (lw_run rfl rfl (la_bin rfl rfl rfl rfl rfl rfl)) ?_
  refine w_end ?_
  refine w_nx ?_
  refine w_seq' ?_
  refine w_cond rfl (fun hb3 => ?_) (fun hb3 => ?_)
  · replace H := bif_t H hb3
    refine w_skip ?_
    refine w_nx ?_
    refine w_seq' ?_
    refine w_block ?_
    refine w_seq' ?_
    refine w_reg ?_
    obtain ⟨z4, hz4, H⟩ := bnd H
    refine seq_cons (lw_run rfl rfl (r_ix rfl rfl rfl e38 rfl rfl hz4 rfl)) ?_
    refine seq_cons (lw_run rfl rfl (r_lds rfl rfl rfl rw63 rfl (ln63 _ _) rfl)) ?_
    refine seq_cons (lw_run rfl rfl (la_alloc rfl rfl rfl (cs := [.v (.int .i64 0), .sl true 93 (([] : (List S92)).map (c93 true)), .sl true 93 (([] : (List S92)).map (c93 true)), .sl true 96 (([] : (List S98)).map (c96 true))]) (z63 true))) ?_
    refine seq_cons (lw_run rfl rfl (la_stb rfl rfl rfl sz63 so63 rfl rfl rfl (nodupB_ok rfl))) ?_
    refine w_end ?_
    refine w_nx ?_
    refine w_reg ?_
    refine seq_cons (lw_run rfl rfl (la_mvs (.inl rfl) rfl rfl rfl)) ?_
    refine seq_cons (lw_run rfl rfl (la_fbx rfl rfl rfl fd63_0 rfl rfl)) ?_
    refine seq_cons (lw_run rfl rfl (la_ldf rfl rfl rfl fl3 rfl rfl rfl)) ?_
    refine seq_cons (lw_run rfl rfl (la_bin rfl rfl rfl rfl rfl rfl)) ?_
    obtain ⟨y5, hy5, H⟩ := bnd H
    refine seq_cons (lw_run rfl rfl (la_call [] [] rfl rfl rfl rfl (r41 kf (z4.f0 == 0) _ hy5) rfl rfl rfl rfl rfl rfl rfl (by simp) rfl (.inl rfl))) ?_
    refine seq_cons (lw_run rfl rfl (la_bin rfl rfl rfl rfl rfl rfl)) ?_
    refine seq_cons (lw_run rfl rfl (la_mvs (.inr rfl) rfl rfl rfl)) ?_
    refine w_end ?_
    refine q_nb ?_
    refine w_nx ?_
    refine w_reg ?_
    refine seq_cons (lw_run rfl rfl (la_bin rfl rfl rfl rfl rfl rfl)) ?_
    refine seq_cons (lw_run rfl rfl (la_mvs (.inl rfl) rfl rfl rfl)) ?_
    refine w_end ?_
    refine q_nt ?_
    exact fun a w h => ⟨k0, ((IntKind.i64.wrap (v1 + y5)), (IntKind.i64.wrap (v2 + 1))), Nat.lt_succ_self k0, H, h.weaken (has_le ⟨rfl, rfl, rfl, rfl, rfl, trivial⟩)⟩
  · replace H := bif_f H hb3
    refine w_exit ?_
    refine q_et ?_
    refine q_et ?_
    refine q_in ?_
    cases H
    have H := HC0
    clear HC0
    try dsimp only at H
    refine w_nx ?_
    refine w_seq' ?_
    refine w_reg ?_
    refine seq_cons (lw_run rfl rfl (la_mvs (.inl rfl) rfl rfl rfl)) ?_
    refine seq_cons (lw_run rfl rfl (la_mvs (.inr rfl) rfl rfl rfl)) ?_
    refine w_end ?_
    refine w_nx ?_
    cases H
    exact w_ret (fun a w h => fin_one h rfl (.tmp rfl rfl) trivial)
/- loop.example/g00844/laws.eqIntS -/
def F11_L0 (kf : Nat) (a0 : (List Int)) (a1 : (List Int)) : Nat → Int → Option (Ex Bool Int)
  | 0, _ => none
  | k + 1, v2 =>
  (bif (decide (v2 < (a0.length : Int))) then
  (ix a0 v2).bind (fun z4 => (ix a1 v2).bind (fun z5 => (bif (z4 != z5) then
  some (.ret false)
  else (F11_L0 kf a0 a1 k) (IntKind.i64.wrap (v2 + 1)))))
  else some (.go v2))
def F11 (kf : Nat) (a0 : (List Int)) (a1 : (List Int)) : Option Bool :=
  (bif ((a0.length : Int) != (a1.length : Int)) then
  some false
  else (F11_L0 kf a0 a1 kf 0).bind (fun o => match o with
  | .ret r => some r
  | .go v2 => some true))
theorem r11 (kf : Nat) (a0 : (List Int)) (a1 : (List Int)) (R : Bool) (H : F11 kf a0 a1 = some R) : Ret Try.prog 11 26 [.d (.one (.sl false 3 (a0.map (c3 false)))), .d (.one (.sl false 3 (a1.map (c3 false))))] [] (.d (bv R)) [] := by
  refine ret_of Try.func11 rfl rfl (by kernel_rfl) rfl ?_
  intro fr a' w' hn
  obtain ⟨w0, M, Z0, n, γ⟩ := fr
  simp only at hn
  subst hn
  revert a' w'
  show W _ _ _ _ _
  refine w_seq' ?_
  refine w_reg ?_
  refine seq_cons (lw_run rfl rfl (la_mvs (.inr rfl) rfl rfl rfl)) ?_
  refine w_end ?_
  refine w_nx ?_
  refine w_seq' ?_
  refine w_seq' ?_
  refine w_reg ?_
  refine seq_cons (lw_run rfl rfl (r_mvr (.inl rfl) rfl rfl rfl rfl)) ?_
  refine seq_cons (lw_run rfl rfl (la_len rfl rfl rfl Try.underlying22 rfl)) ?_
  refine seq_cons (lw_run rfl rfl (r_mvr (.inl rfl) rfl rfl rfl rfl)) ?_
  refine seq_cons (lw_run rfl rfl (la_len rfl rfl rfl Try.underlying22 rfl)) ?_
  refine seq_cons (lw_run rfl rfl (la_bin rfl rfl rfl rfl rfl rfl)) ?_
  refine w_end ?_
  refine w_nx ?_
  refine w_cond rfl (fun hb1 => ?_) (fun hb1 => ?_)
  · replace H := bif_t H hb1
    refine w_seq' ?_
    refine w_reg ?_
    refine seq_cons (lw_run rfl rfl (la_mvs (.inr rfl) rfl rfl rfl)) ?_
    refine w_end ?_
    refine w_nx ?_
    cases H
    exact w_ret (fun a w h => fin_one h rfl (.tmp rfl rfl) trivial)
  · replace H := bif_f H hb1
    refine w_skip ?_
    refine w_nx ?_
    refine w_seq' ?_
    refine w_seq' ?_
    refine w_reg ?_
    refine seq_cons (lw_run rfl rfl (la_mvs (.inr rfl) rfl rfl rfl)) ?_
    refine w_end ?_
    refine w_nx ?_
    refine w_block ?_
    obtain ⟨out0, HL, HC0⟩ := bnd H
    clear H
    refine w_weak (Γ' := (fun s : Int => mk [(0, .d (.one (.sl false 3 (a0.map (c3 false))))), (1, .d (.one (.sl false 3 (a1.map (c3 false))))), (5, .d (iv s))]) 0) (w_loop (σ := Int) (fun s => mk [(0, .d (.one (.sl false 3 (a0.map (c3 false))))), (1, .d (.one (.sl false 3 (a1.map (c3 false))))), (5, .d (iv s))]) (fun k s => F11_L0 kf a0 a1 k s = some out0) kf 0 HL ?_) (has_le ⟨rfl, rfl, rfl, trivial⟩)
    clear HL
    rintro k0 v2 H
    cases k0 with
    | zero => cases H
    | succ k0 =>
    try dsimp only at H ⊢
    refine w_seq' ?_
    refine w_seq' ?_
    refine w_reg ?_
    refine seq_cons (lw_run rfl rfl (la_mvs (.inl rfl) rfl rfl rfl)) ?_
    refine seq_cons (lw_run rfl rfl (r_mvr (.inl rfl) rfl rfl rfl rfl)) ?_
    refine seq_cons (lw_run rfl rfl (la_len rfl rfl rfl Try.underlying22 rfl)) ?_
    refine seq_cons (lw_run rfl rfl (la_bin rfl rfl rfl rfl rfl rfl)) ?_
    refine w_end ?_
    refine w_nx ?_
    refine w_cond rfl (fun hb3 => ?_) (fun hb3 => ?_)
    · replace H := bif_t H hb3
      refine w_skip ?_
      refine w_nx ?_
      refine w_seq' ?_
      refine w_block ?_
      refine w_seq' ?_
      obtain ⟨z4, hz4, H⟩ := bnd H
      obtain ⟨z5, hz5, H⟩ := bnd H
      refine w_drawn [⟨[(0, .d (.one (.sl false 3 (a0.map (c3 false)))))], _, []⟩, ⟨[(5, .d (iv v2))], _, []⟩, ⟨[(17, .d (.one (.sl false 3 (a0.map (c3 false))))), (18, .d (iv v2))], _, [0, 1]⟩, ⟨[(19, .sp none (c3 false z4))], _, [0, 1, 2]⟩, ⟨[(1, .d (.one (.sl false 3 (a1.map (c3 false)))))], _, []⟩, ⟨[(5, .d (iv v2))], _, []⟩, ⟨[(21, .d (.one (.sl false 3 (a1.map (c3 false))))), (22, .d (iv v2))], _, [4, 5]⟩, ⟨[(23, .sp none (c3 false z5))], _, [4, 5, 6]⟩, ⟨[(20, .d (iv z4)), (24, .d (iv z5))], _, [0, 1, 2, 3, 4, 5, 6, 7]⟩] [(0, .d (.one (.sl false 3 (a0.map (c3 false))))), (1, .d (.one (.sl false 3 (a1.map (c3 false))))), (5, .d (iv v2)), (11, .d (iv v2)), (12, .d (.one (.sl false 3 (a0.map (c3 false))))), (13, .d (iv (a0.length : Int))), (14, .d (bv (decide (v2 < (a0.length : Int))))), (17, .d (.one (.sl false 3 (a0.map (c3 false))))), (18, .d (iv v2)), (20, .d (iv z4)), (21, .d (.one (.sl false 3 (a1.map (c3 false))))), (22, .d (iv v2)), (24, .d (iv z5)), (25, .d (bv (z4 != z5)))] mixed ⟨lw_run rfl rfl (r_mvr (.inl rfl) rfl rfl rfl rfl), lw_run rfl rfl (la_mvs (.inl rfl) rfl rfl rfl), lw_run rfl rfl (r_ix rfl rfl rfl e22 rfl rfl hz4 rfl), lw_run rfl rfl (r_ld rfl rfl rfl fl3 rfl rfl), lw_run rfl rfl (r_mvr (.inl rfl) rfl rfl rfl rfl), lw_run rfl rfl (la_mvs (.inl rfl) rfl rfl rfl), lw_run rfl rfl (r_ix rfl rfl rfl e22 rfl rfl hz5 rfl), lw_run rfl rfl (r_ld rfl rfl rfl fl3 rfl rfl), lw_run rfl rfl (la_bin rfl rfl rfl rfl rfl rfl), trivial⟩ ⟨⟨.inl ⟨rfl, rfl⟩, trivial⟩, ⟨.inl ⟨rfl, rfl⟩, trivial⟩, ⟨.inr ⟨0, _, rfl, rfl, rfl, rfl⟩, .inr ⟨1, _, rfl, rfl, rfl, rfl⟩, trivial⟩, ⟨.inr ⟨2, _, rfl, rfl, rfl, rfl⟩, trivial⟩, ⟨.inl ⟨rfl, rfl⟩, trivial⟩, ⟨.inl ⟨rfl, rfl⟩, trivial⟩, ⟨.inr ⟨4, _, rfl, rfl, rfl, rfl⟩, .inr ⟨5, _, rfl, rfl, rfl, rfl⟩, trivial⟩, ⟨.inr ⟨6, _, rfl, rfl, rfl, rfl⟩, trivial⟩, ⟨.inr ⟨3, _, rfl, rfl, rfl, rfl⟩, .inr ⟨7, _, rfl, rfl, rfl, rfl⟩, trivial⟩, trivial⟩ rfl rfl ⟨.inl ⟨rfl, rfl⟩, .inl ⟨rfl, rfl⟩, .inl ⟨rfl, rfl⟩, .inl ⟨rfl, rfl⟩, .inl ⟨rfl, rfl⟩, .inl ⟨rfl, rfl⟩, .inl ⟨rfl, rfl⟩, .inr ⟨0, _, rfl, rfl, rfl⟩, .inr ⟨1, _, rfl, rfl, rfl⟩, .inr ⟨3, _, rfl, rfl, rfl⟩, .inr ⟨4, _, rfl, rfl, rfl⟩, .inr ⟨5, _, rfl, rfl, rfl⟩, .inr ⟨7, _, rfl, rfl, rfl⟩, .inr ⟨8, _, rfl, rfl, rfl⟩, trivial⟩ ?_
      refine w_nx ?_
      refine w_cond rfl (fun hb6 => ?_) (fun hb6 => ?_)
      · replace H := bif_t H hb6
        refine w_seq' ?_
        refine w_reg ?_
        refine seq_cons (lw_run rfl rfl (la_mvs (.inr rfl) rfl rfl rfl)) ?_
        refine w_end ?_
        refine w_nx ?_
        cases H
        try dsimp only at HC0
        cases HC0
        exact w_ret (fun a w h => fin_one h rfl (.tmp rfl rfl) trivial)
      · replace H := bif_f H hb6
        refine w_skip ?_
        refine q_nb ?_
        refine w_nx ?_
        refine w_reg ?_
        refine seq_cons (lw_run rfl rfl (la_mvs (.inl rfl) rfl rfl rfl)) ?_
        refine seq_cons (lw_run rfl rfl (la_bin rfl rfl rfl rfl rfl rfl)) ?_
        refine seq_cons (lw_run rfl rfl (la_mvs (.inr rfl) rfl rfl rfl)) ?_
        refine w_end ?_
        refine q_nt ?_
        exact fun a w h => ⟨k0, (IntKind.i64.wrap (v2 + 1)), Nat.lt_succ_self k0, H, h.weaken (has_le ⟨rfl, rfl, rfl, trivial⟩)⟩
    · replace H := bif_f H hb3
      refine w_exit ?_
      refine q_et ?_
      refine q_et ?_
      refine q_in ?_
      cases H
      have H := HC0
      clear HC0
      try dsimp only at H
      refine w_nx ?_
      refine w_seq' ?_
      refine w_reg ?_
      refine seq_cons (lw_run rfl rfl (la_mvs (.inr rfl) rfl rfl rfl)) ?_
      refine w_end ?_
      refine w_nx ?_
      cases H
      exact w_ret (fun a w h => fin_one h rfl (.tmp rfl rfl) trivial)
/- loop.example/g00844/laws.eqNode -/
def F66 (kf : Nat) (a0 : S92) (a1 : S92) : Option Bool :=
  (bif (a0.f0 != a1.f0) then
  some false
  else (bif (!(a0.f1.toList == a1.f1.toList)) then
  some false
  else (bif (a0.f2 != a1.f2) then
  some false
  else (bif (a0.f3 != a1.f3) then
  some false
  else (bif (a0.f4 != a1.f4) then
  some false
  else (bif (a0.f5 != a1.f5) then
  some false
  else (F11 kf a0.f6 a1.f6).bind (fun y7 => (bif (!y7) then
  some false
  else some true))))))))
theorem r66 (kf : Nat) (a0 : S92) (a1 : S92) (R : Bool) (H : F66 kf a0 a1 = some R) : Ret Try.prog 66 41 [.d (.agg (c93 false a0)), .d (.agg (c93 false a1))] [] (.d (bv R)) [] := by
  refine ret_of Try.func66 rfl rfl (by kernel_rfl) rfl ?_
  intro fr a' w' hn
  obtain ⟨w0, M, Z0, n, γ⟩ := fr
  simp only at hn
  subst hn
  revert a' w'
  show W _ _ _ _ _
  refine w_seq' ?_
  refine w_reg ?_
  refine seq_cons (lw_run rfl rfl (la_box rfl rfl rfl rfl)) ?_
  refine seq_cons (lw_run rfl rfl (la_box rfl rfl rfl rfl)) ?_
  refine seq_cons (lw_run rfl rfl (la_mvs (.inr rfl) rfl rfl rfl)) ?_
  refine w_end ?_
  refine w_nx ?_
  refine w_seq' ?_
  refine w_seq' ?_
  refine w_reg ?_
  refine seq_cons (lw_run rfl rfl (la_fbx rfl rfl rfl fd93_0 rfl rfl)) ?_
  refine seq_cons (lw_run rfl rfl (la_ldf rfl rfl rfl fl3 rfl rfl rfl)) ?_
  refine seq_cons (lw_run rfl rfl (la_fbx rfl rfl rfl fd93_0 rfl rfl)) ?_
  refine seq_cons (lw_run rfl rfl (la_ldf rfl rfl rfl fl3 rfl rfl rfl)) ?_
  refine seq_cons (lw_run rfl rfl (la_bin rfl rfl rfl rfl rfl rfl)) ?_
  refine w_end ?_
  refine w_nx ?_
  refine w_cond rfl (fun hb1 => ?_) (fun hb1 => ?_)
  · replace H := bif_t H hb1
    refine w_seq' ?_
    refine w_reg ?_
    refine seq_cons (lw_run rfl rfl (la_mvs (.inr rfl) rfl rfl rfl)) ?_
    refine w_end ?_
    refine w_nx ?_
    cases H
    exact w_ret (fun a w h => fin_one h rfl (.tmp rfl rfl) trivial)
  · replace H := bif_f H hb1
    refine w_skip ?_
    refine w_nx ?_
    refine w_seq' ?_
    refine w_seq' ?_
    refine w_reg ?_
    refine seq_cons (lw_run rfl rfl (la_fbx rfl rfl rfl fd93_1 rfl rfl)) ?_
    refine seq_cons (lw_run rfl rfl (la_ldf rfl rfl rfl fl9 rfl rfl rfl)) ?_
    refine seq_cons (lw_run rfl rfl (la_fbx rfl rfl rfl fd93_1 rfl rfl)) ?_
    refine seq_cons (lw_run rfl rfl (la_ldf rfl rfl rfl fl9 rfl rfl rfl)) ?_
    refine seq_cons (lw_run rfl rfl (la_bin rfl rfl rfl rfl rfl rfl)) ?_
    refine w_end ?_
    refine w_nx ?_
    refine w_cond rfl (fun hb2 => ?_) (fun hb2 => ?_)
    · replace H := bif_t H hb2
      refine w_seq' ?_
      refine w_reg ?_
      refine seq_cons (lw_run rfl rfl (la_mvs (.inr rfl) rfl rfl rfl)) ?_
      refine w_end ?_
      refine w_nx ?_
      cases H
      exact w_ret (fun a w h => fin_one h rfl (.tmp rfl rfl) trivial)
    · replace H := bif_f H hb2
      refine w_skip ?_
      refine w_nx ?_
      refine w_seq' ?_
      refine w_seq' ?_
      refine w_reg ?_
      refine seq_cons (lw_run rfl rfl (la_fbx rfl rfl rfl fd93_2 rfl rfl)) ?_
      refine seq_cons (lw_run rfl rfl (la_ldf rfl rfl rfl fl3 rfl rfl rfl)) ?_
      refine seq_cons (lw_run rfl rfl (la_fbx rfl rfl rfl fd93_2 rfl rfl)) ?_
      refine seq_cons (lw_run rfl rfl (la_ldf rfl rfl rfl fl3 rfl rfl rfl)) ?_
      refine seq_cons (lw_run rfl rfl (la_bin rfl rfl rfl rfl rfl rfl)) ?_
      refine w_end ?_
      refine w_nx ?_
      refine w_cond rfl (fun hb3 => ?_) (fun hb3 => ?_)
      · replace H := bif_t H hb3
        refine w_seq' ?_
        refine w_reg ?_
        refine seq_cons (lw_run rfl rfl (la_mvs (.inr rfl) rfl rfl rfl)) ?_
        refine w_end ?_
        refine w_nx ?_
        cases H
        exact w_ret (fun a w h => fin_one h rfl (.tmp rfl rfl) trivial)
      · replace H := bif_f H hb3
        refine w_skip ?_
        refine w_nx ?_
        refine w_seq' ?_
        refine w_seq' ?_
        refine w_reg ?_
        refine seq_cons (lw_run rfl rfl (la_fbx rfl rfl rfl fd93_3 rfl rfl)) ?_
        refine seq_cons (lw_run rfl rfl (la_ldf rfl rfl rfl fl3 rfl rfl rfl)) ?_
        refine seq_cons (lw_run rfl rfl (la_fbx rfl rfl rfl fd93_3 rfl rfl)) ?_
        refine seq_cons (lw_run rfl rfl (la_ldf rfl rfl rfl fl3 rfl rfl rfl)) ?_
        refine seq_cons (lw_run rfl rfl (la_bin rfl rfl rfl rfl rfl rfl)) ?_
        refine w_end ?_
        refine w_nx ?_
        refine w_cond rfl (fun hb4 => ?_) (fun hb4 => ?_)
        · replace H := bif_t H hb4
          refine w_seq' ?_
          refine w_reg ?_
          refine seq_cons (lw_run rfl rfl (la_mvs (.inr rfl) rfl rfl rfl)) ?_
          refine w_end ?_
          refine w_nx ?_
          cases H
          exact w_ret (fun a w h => fin_one h rfl (.tmp rfl rfl) trivial)
        · replace H := bif_f H hb4
          refine w_skip ?_
          refine w_nx ?_
          refine w_seq' ?_
          refine w_seq' ?_
          refine w_reg ?_
          refine seq_cons (lw_run rfl rfl (la_fbx rfl rfl rfl fd93_4 rfl rfl)) ?_
          refine seq_cons (lw_run rfl rfl (la_ldf rfl rfl rfl fl3 rfl rfl rfl)) ?_
          refine seq_cons (lw_run rfl rfl (la_fbx rfl rfl rfl fd93_4 rfl rfl)) ?_
          refine seq_cons (lw_run rfl rfl (la_ldf rfl rfl rfl fl3 rfl rfl rfl)) ?_
          refine seq_cons (lw_run rfl rfl (la_bin rfl rfl rfl rfl rfl rfl)) ?_
          refine w_end ?_
          refine w_nx ?_
          refine w_cond rfl (fun hb5 => ?_) (fun hb5 => ?_)
          · replace H := bif_t H hb5
            refine w_seq' ?_
            refine w_reg ?_
            refine seq_cons (lw_run rfl rfl (la_mvs (.inr rfl) rfl rfl rfl)) ?_
            refine w_end ?_
            refine w_nx ?_
            cases H
            exact w_ret (fun a w h => fin_one h rfl (.tmp rfl rfl) trivial)
          · replace H := bif_f H hb5
            refine w_skip ?_
            refine w_nx ?_
            refine w_seq' ?_
            refine w_seq' ?_
            refine w_reg ?_
            refine seq_cons (lw_run rfl rfl (la_fbx rfl rfl rfl fd93_5 rfl rfl)) ?_
            refine seq_cons (lw_run rfl rfl (la_ldf rfl rfl rfl fl4 rfl rfl rfl)) ?_
            refine seq_cons (lw_run rfl rfl (la_fbx rfl rfl rfl fd93_5 rfl rfl)) ?_
            refine seq_cons (lw_run rfl rfl (la_ldf rfl rfl rfl fl4 rfl rfl rfl)) ?_
            refine seq_cons (lw_run rfl rfl (r_neb rfl rfl rfl Try.underlying4 rfl rfl)) ?_
            refine w_end ?_
            refine w_nx ?_
            refine w_cond rfl (fun hb6 => ?_) (fun hb6 => ?_)
            · replace H := bif_t H hb6
              refine w_seq' ?_
              refine w_reg ?_
              refine seq_cons (lw_run rfl rfl (la_mvs (.inr rfl) rfl rfl rfl)) ?_
              refine w_end ?_
              refine w_nx ?_
              cases H
              exact w_ret (fun a w h => fin_one h rfl (.tmp rfl rfl) trivial)
            · replace H := bif_f H hb6
              refine w_skip ?_
              refine w_nx ?_
              refine w_seq' ?_
              refine w_seq' ?_
              refine w_reg ?_
              refine seq_cons (lw_run rfl rfl (la_fbx rfl rfl rfl fd93_6 rfl rfl)) ?_
              refine seq_cons (lw_run rfl rfl (la_ldf rfl rfl rfl fl22 rfl rfl rfl)) ?_
              refine seq_cons (lw_run rfl rfl (la_fbx rfl rfl rfl fd93_6 rfl rfl)) ?_
              refine seq_cons (lw_run rfl rfl (la_ldf rfl rfl rfl fl22 rfl rfl rfl)) ?_
              obtain ⟨y7, hy7, H⟩ := bnd H
              refine seq_cons (lw_run rfl rfl (la_call [] [] rfl rfl rfl rfl (r11 kf a0.f6 a1.f6 _ hy7) rfl rfl rfl rfl rfl rfl rfl (by simp) rfl (.inl rfl))) ?_
              refine seq_cons (lw_run rfl rfl (la_not rfl rfl rfl rfl)) ?_
              refine w_end ?_
              refine w_nx ?_
              refine w_cond rfl (fun hb8 => ?_) (fun hb8 => ?_)
              · replace H := bif_t H hb8
                refine w_seq' ?_
                refine w_reg ?_
                refine seq_cons (lw_run rfl rfl (la_mvs (.inr rfl) rfl rfl rfl)) ?_
                refine w_end ?_
                refine w_nx ?_
                cases H
                exact w_ret (fun a w h => fin_one h rfl (.tmp rfl rfl) trivial)
              · replace H := bif_f H hb8
                refine w_skip ?_
                refine w_nx ?_
                refine w_seq' ?_
                refine w_reg ?_
                refine seq_cons (lw_run rfl rfl (la_mvs (.inr rfl) rfl rfl rfl)) ?_
                refine w_end ?_
                refine w_nx ?_
                cases H
                exact w_ret (fun a w h => fin_one h rfl (.tmp rfl rfl) trivial)
/- loop.example/g00844/laws.eqNodeS -/
def F58_L0 (kf : Nat) (a0 : (List S92)) (a1 : (List S92)) : Nat → Int → Option (Ex Bool Int)
  | 0, _ => none
  | k + 1, v2 =>
  (bif (decide (v2 < (a0.length : Int))) then
  (ix a0 v2).bind (fun z4 => (ix a1 v2).bind (fun z5 => (F66 kf z4 z5).bind (fun y6 => (bif (!y6) then
  some (.ret false)
  else (F58_L0 kf a0 a1 k) (IntKind.i64.wrap (v2 + 1))))))
  else some (.go v2))
def F58 (kf : Nat) (a0 : (List S92)) (a1 : (List S92)) : Option Bool :=
  (bif ((a0.length : Int) != (a1.length : Int)) then
  some false
  else (F58_L0 kf a0 a1 kf 0).bind (fun o => match o with
  | .ret r => some r
  | .go v2 => some true))
theorem r58 (kf : Nat) (a0 : (List S92)) (a1 : (List S92)) (R : Bool) (H : F58 kf a0 a1 = some R) : Ret Try.prog 58 27 [.d (.one (.sl false 93 (a0.map (c93 false)))), .d (.one (.sl false 93 (a1.map (c93 false))))] [] (.d (bv R)) [] := by
  refine ret_of Try.func58 rfl rfl (by kernel_rfl) rfl ?_
  intro fr a' w' hn
  obtain ⟨w0, M, Z0, n, γ⟩ := fr
  simp only at hn
  subst hn
  revert a' w'
  show W _ _ _ _ _
  refine w_seq' ?_
  refine w_reg ?_
  refine seq_cons (lw_run rfl rfl (la_mvs (.inr rfl) rfl rfl rfl)) ?_
  refine w_end ?_
  refine w_nx ?_
  refine w_seq' ?_
  refine w_seq' ?_
  refine w_reg ?_
  refine seq_cons (lw_run rfl rfl (r_mvr (.inl rfl) rfl rfl rfl rfl)) ?_
  refine seq_cons (lw_run rfl rfl (la_len rfl rfl rfl Try.underlying60 rfl)) ?_
  refine seq_cons (lw_run rfl rfl (r_mvr (.inl rfl) rfl rfl rfl rfl)) ?_
  refine seq_cons (lw_run rfl rfl (la_len rfl rfl rfl Try.underlying60 rfl)) ?_
  refine seq_cons (lw_run rfl rfl (la_bin rfl rfl rfl rfl rfl rfl)) ?_
  refine w_end ?_
  refine w_nx ?_
  refine w_cond rfl (fun hb1 => ?_) (fun hb1 => ?_)
  · replace H := bif_t H hb1
    refine w_seq' ?_
    refine w_reg ?_
    refine seq_cons (lw_run rfl rfl (la_mvs (.inr rfl) rfl rfl rfl)) ?_
    refine w_end ?_
    refine w_nx ?_
    cases H
    exact w_ret (fun a w h => fin_one h rfl (.tmp rfl rfl) trivial)
  · replace H := bif_f H hb1
    refine w_skip ?_
    refine w_nx ?_
    refine w_seq' ?_
    refine w_seq' ?_
    refine w_reg ?_
    refine seq_cons (lw_run rfl rfl (la_mvs (.inr rfl) rfl rfl rfl)) ?_
    refine w_end ?_
    refine w_nx ?_
    refine w_block ?_
    obtain ⟨out0, HL, HC0⟩ := bnd H
    clear H
    refine w_weak (Γ' := (fun s : Int => mk [(0, .d (.one (.sl false 93 (a0.map (c93 false))))), (1, .d (.one (.sl false 93 (a1.map (c93 false))))), (5, .d (iv s))]) 0) (w_loop (σ := Int) (fun s => mk [(0, .d (.one (.sl false 93 (a0.map (c93 false))))), (1, .d (.one (.sl false 93 (a1.map (c93 false))))), (5, .d (iv s))]) (fun k s => F58_L0 kf a0 a1 k s = some out0) kf 0 HL ?_) (has_le ⟨rfl, rfl, rfl, trivial⟩)
    clear HL
    rintro k0 v2 H
    cases k0 with
    | zero => cases H
    | succ k0 =>
    try dsimp only at H ⊢
    refine w_seq' ?_
    refine w_seq' ?_
    refine w_reg ?_
    refine seq_cons (lw_run rfl rfl (la_mvs (.inl rfl) rfl rfl rfl)) ?_
    refine seq_cons (lw_run rfl rfl (r_mvr (.inl rfl) rfl rfl rfl rfl)) ?_
    refine seq_cons (lw_run rfl rfl (la_len rfl rfl rfl Try.underlying60 rfl)) ?_
    refine seq_cons (lw_run rfl rfl (la_bin rfl rfl rfl rfl rfl rfl)) ?_
    refine w_end ?_
    refine w_nx ?_
    refine w_cond rfl (fun hb3 => ?_) (fun hb3 => ?_)
    · replace H := bif_t H hb3
      refine w_skip ?_
      refine w_nx ?_
      refine w_seq' ?_
      refine w_block ?_
      refine w_seq' ?_
      obtain ⟨z4, hz4, H⟩ := bnd H
      obtain ⟨z5, hz5, H⟩ := bnd H
      obtain ⟨y6, hy6, H⟩ := bnd H
      refine w_drawn [⟨[(0, .d (.one (.sl false 93 (a0.map (c93 false)))))], _, []⟩, ⟨[(5, .d (iv v2))], _, []⟩, ⟨[(17, .d (.one (.sl false 93 (a0.map (c93 false))))), (18, .d (iv v2))], _, [0, 1]⟩, ⟨[(19, .sp none (c93 false z4))], _, [0, 1, 2]⟩, ⟨[(1, .d (.one (.sl false 93 (a1.map (c93 false)))))], _, []⟩, ⟨[(5, .d (iv v2))], _, []⟩, ⟨[(21, .d (.one (.sl false 93 (a1.map (c93 false))))), (22, .d (iv v2))], _, [4, 5]⟩, ⟨[(23, .sp none (c93 false z5))], _, [4, 5, 6]⟩, ⟨[(20, .d (.agg (c93 false z4))), (24, .d (.agg (c93 false z5)))], _, [0, 1, 2, 3, 4, 5, 6, 7]⟩, ⟨[(25, .d (bv y6))], _, [0, 1, 2, 3, 4, 5, 6, 7, 8]⟩] [(0, .d (.one (.sl false 93 (a0.map (c93 false))))), (1, .d (.one (.sl false 93 (a1.map (c93 false))))), (5, .d (iv v2)), (11, .d (iv v2)), (12, .d (.one (.sl false 93 (a0.map (c93 false))))), (13, .d (iv (a0.length : Int))), (14, .d (bv (decide (v2 < (a0.length : Int))))), (17, .d (.one (.sl false 93 (a0.map (c93 false))))), (18, .d (iv v2)), (20, .d (.agg (c93 false z4))), (21, .d (.one (.sl false 93 (a1.map (c93 false))))), (22, .d (iv v2)), (24, .d (.agg (c93 false z5))), (25, .d (bv y6)), (26, .d (bv (!y6)))] mixed ⟨lw_run rfl rfl (r_mvr (.inl rfl) rfl rfl rfl rfl), lw_run rfl rfl (la_mvs (.inl rfl) rfl rfl rfl), lw_run rfl rfl (r_ix rfl rfl rfl e60 rfl rfl hz4 rfl), lw_run rfl rfl (r_lds rfl rfl rfl rw93 rfl (ln93 _ _) rfl), lw_run rfl rfl (r_mvr (.inl rfl) rfl rfl rfl rfl), lw_run rfl rfl (la_mvs (.inl rfl) rfl rfl rfl), lw_run rfl rfl (r_ix rfl rfl rfl e60 rfl rfl hz5 rfl), lw_run rfl rfl (r_lds rfl rfl rfl rw93 rfl (ln93 _ _) rfl), lw_run rfl rfl (la_call [] [] rfl rfl rfl rfl (r66 kf z4 z5 _ hy6) rfl rfl rfl rfl rfl rfl rfl (by simp) rfl (.inl rfl)), lw_run rfl rfl (la_not rfl rfl rfl rfl), trivial⟩ ⟨⟨.inl ⟨rfl, rfl⟩, trivial⟩, ⟨.inl ⟨rfl, rfl⟩, trivial⟩, ⟨.inr ⟨0, _, rfl, rfl, rfl, rfl⟩, .inr ⟨1, _, rfl, rfl, rfl, rfl⟩, trivial⟩, ⟨.inr ⟨2, _, rfl, rfl, rfl, rfl⟩, trivial⟩, ⟨.inl ⟨rfl, rfl⟩, trivial⟩, ⟨.inl ⟨rfl, rfl⟩, trivial⟩, ⟨.inr ⟨4, _, rfl, rfl, rfl, rfl⟩, .inr ⟨5, _, rfl, rfl, rfl, rfl⟩, trivial⟩, ⟨.inr ⟨6, _, rfl, rfl, rfl, rfl⟩, trivial⟩, ⟨.inr ⟨3, _, rfl, rfl, rfl, rfl⟩, .inr ⟨7, _, rfl, rfl, rfl, rfl⟩, trivial⟩, ⟨.inr ⟨8, _, rfl, rfl, rfl, rfl⟩, trivial⟩, trivial⟩ rfl rfl ⟨.inl ⟨rfl, rfl⟩, .inl ⟨rfl, rfl⟩, .inl ⟨rfl, rfl⟩, .inl ⟨rfl, rfl⟩, .inl ⟨rfl, rfl⟩, .inl ⟨rfl, rfl⟩, .inl ⟨rfl, rfl⟩, .inr ⟨0, _, rfl, rfl, rfl⟩, .inr ⟨1, _, rfl, rfl, rfl⟩, .inr ⟨3, _, rfl, rfl, rfl⟩, .inr ⟨4, _, rfl, rfl, rfl⟩, .inr ⟨5, _, rfl, rfl, rfl⟩, .inr ⟨7, _, rfl, rfl, rfl⟩, .inr ⟨8, _, rfl, rfl, rfl⟩, .inr ⟨9, _, rfl, rfl, rfl⟩, trivial⟩ ?_
      refine w_nx ?_
      refine w_cond rfl (fun hb7 => ?_) (fun hb7 => ?_)
      · replace H := bif_t H hb7
        refine w_seq' ?_
        refine w_reg ?_
        refine seq_cons (lw_run rfl rfl (la_mvs (.inr rfl) rfl rfl rfl)) ?_
        refine w_end ?_
        refine w_nx ?_
        cases H
        try dsimp only at HC0
        cases HC0
        exact w_ret (fun a w h => fin_one h rfl (.tmp rfl rfl) trivial)
      · replace H := bif_f H hb7
        refine w_skip ?_
        refine q_nb ?_
        refine w_nx ?_
        refine w_reg ?_
        refine seq_cons (lw_run rfl rfl (la_mvs (.inl rfl) rfl rfl rfl)) ?_
        refine seq_cons (lw_run rfl rfl (la_bin rfl rfl rfl rfl rfl rfl)) ?_
        refine seq_cons (lw_run rfl rfl (la_mvs (.inr rfl) rfl rfl rfl)) ?_
        refine w_end ?_
        refine q_nt ?_
        exact fun a w h => ⟨k0, (IntKind.i64.wrap (v2 + 1)), Nat.lt_succ_self k0, H, h.weaken (has_le ⟨rfl, rfl, rfl, trivial⟩)⟩
    · replace H := bif_f H hb3
      refine w_exit ?_
      refine q_et ?_
      refine q_et ?_
      refine q_in ?_
      cases H
      have H := HC0
      clear HC0
      try dsimp only at H
      refine w_nx ?_
      refine w_seq' ?_
      refine w_reg ?_
      refine seq_cons (lw_run rfl rfl (la_mvs (.inr rfl) rfl rfl rfl)) ?_
      refine w_end ?_
      refine w_nx ?_
      cases H
      exact w_ret (fun a w h => fin_one h rfl (.tmp rfl rfl) trivial)
/- loop.example/g00844/laws.eqStep -/
def F67 (kf : Nat) (a0 : S98) (a1 : S98) : Option Bool :=
  (bif (a0.f0 != a1.f0) then
  some false
  else (bif (a0.f1 != a1.f1) then
  some false
  else some true))
theorem r67 (kf : Nat) (a0 : S98) (a1 : S98) (R : Bool) (H : F67 kf a0 a1 = some R) : Ret Try.prog 67 15 [.d (.agg (c96 false a0)), .d (.agg (c96 false a1))] [] (.d (bv R)) [] := by
  refine ret_of Try.func67 rfl rfl (by kernel_rfl) rfl ?_
  intro fr a' w' hn
  obtain ⟨w0, M, Z0, n, γ⟩ := fr
  simp only at hn
  subst hn
  revert a' w'
  show W _ _ _ _ _
  refine w_seq' ?_
  refine w_reg ?_
  refine seq_cons (lw_run rfl rfl (la_box rfl rfl rfl rfl)) ?_
  refine seq_cons (lw_run rfl rfl (la_box rfl rfl rfl rfl)) ?_
  refine seq_cons (lw_run rfl rfl (la_mvs (.inr rfl) rfl rfl rfl)) ?_
  refine w_end ?_
  refine w_nx ?_
  refine w_seq' ?_
  refine w_seq' ?_
  refine w_reg ?_
  refine seq_cons (lw_run rfl rfl (la_fbx rfl rfl rfl fd96_0 rfl rfl)) ?_
  refine seq_cons (lw_run rfl rfl (la_ldf rfl rfl rfl fl3 rfl rfl rfl)) ?_
  refine seq_cons (lw_run rfl rfl (la_fbx rfl rfl rfl fd96_0 rfl rfl)) ?_
  refine seq_cons (lw_run rfl rfl (la_ldf rfl rfl rfl fl3 rfl rfl rfl)) ?_
  refine seq_cons (lw_run rfl rfl (la_bin rfl rfl rfl rfl rfl rfl)) ?_
  refine w_end ?_
  refine w_nx ?_
  refine w_cond rfl (fun hb1 => ?_) (fun hb1 => ?_)
  · replace H := bif_t H hb1
    refine w_seq' ?_
    refine w_reg ?_
    refine seq_cons (lw_run rfl rfl (la_mvs (.inr rfl) rfl rfl rfl)) ?_
    refine w_end ?_
    refine w_nx ?_
    cases H
    exact w_ret (fun a w h => fin_one h rfl (.tmp rfl rfl) trivial)
  · replace H := bif_f H hb1
    refine w_skip ?_
    refine w_nx ?_
    refine w_seq' ?_
    refine w_seq' ?_
    refine w_reg ?_
    refine seq_cons (lw_run rfl rfl (la_fbx rfl rfl rfl fd96_1 rfl rfl)) ?_
    refine seq_cons (lw_run rfl rfl (la_ldf rfl rfl rfl fl3 rfl rfl rfl)) ?_
    refine seq_cons (lw_run rfl rfl (la_fbx rfl rfl rfl fd96_1 rfl rfl)) ?_
    refine seq_cons (lw_run rfl rfl (la_ldf rfl rfl rfl fl3 rfl rfl rfl)) ?_
    refine seq_cons (lw_run rfl rfl (la_bin rfl rfl rfl rfl rfl rfl)) ?_
    refine w_end ?_
    refine w_nx ?_
    refine w_cond rfl (fun hb2 => ?_) (fun hb2 => ?_)
    · replace H := bif_t H hb2
      refine w_seq' ?_
      refine w_reg ?_
      refine seq_cons (lw_run rfl rfl (la_mvs (.inr rfl) rfl rfl rfl)) ?_
      refine w_end ?_
      refine w_nx ?_
      cases H
      exact w_ret (fun a w h => fin_one h rfl (.tmp rfl rfl) trivial)
    · replace H := bif_f H hb2
      refine w_skip ?_
      refine w_nx ?_
      refine w_seq' ?_
      refine w_reg ?_
      refine seq_cons (lw_run rfl rfl (la_mvs (.inr rfl) rfl rfl rfl)) ?_
      refine w_end ?_
      refine w_nx ?_
      cases H
      exact w_ret (fun a w h => fin_one h rfl (.tmp rfl rfl) trivial)
/- loop.example/g00844/laws.eqStepS -/
def F59_L0 (kf : Nat) (a0 : (List S98)) (a1 : (List S98)) : Nat → Int → Option (Ex Bool Int)
  | 0, _ => none
  | k + 1, v2 =>
  (bif (decide (v2 < (a0.length : Int))) then
  (ix a0 v2).bind (fun z4 => (ix a1 v2).bind (fun z5 => (F67 kf z4 z5).bind (fun y6 => (bif (!y6) then
  some (.ret false)
  else (F59_L0 kf a0 a1 k) (IntKind.i64.wrap (v2 + 1))))))
  else some (.go v2))
def F59 (kf : Nat) (a0 : (List S98)) (a1 : (List S98)) : Option Bool :=
  (bif ((a0.length : Int) != (a1.length : Int)) then
  some false
  else (F59_L0 kf a0 a1 kf 0).bind (fun o => match o with
  | .ret r => some r
  | .go v2 => some true))
theorem r59 (kf : Nat) (a0 : (List S98)) (a1 : (List S98)) (R : Bool) (H : F59 kf a0 a1 = some R) : Ret Try.prog 59 27 [.d (.one (.sl false 96 (a0.map (c96 false)))), .d (.one (.sl false 96 (a1.map (c96 false))))] [] (.d (bv R)) [] := by
  refine ret_of Try.func59 rfl rfl (by kernel_rfl) rfl ?_
  intro fr a' w' hn
  obtain ⟨w0, M, Z0, n, γ⟩ := fr
  simp only at hn
  subst hn
  revert a' w'
  show W _ _ _ _ _
  refine w_seq' ?_
  refine w_reg ?_
  refine seq_cons (lw_run rfl rfl (la_mvs (.inr rfl) rfl rfl rfl)) ?_
  refine w_end ?_
  refine w_nx ?_
  refine w_seq' ?_
  refine w_seq' ?_
  refine w_reg ?_
  refine seq_cons (lw_run rfl rfl (r_mvr (.inl rfl) rfl rfl rfl rfl)) ?_
  refine seq_cons (lw_run rfl rfl (la_len rfl rfl rfl Try.underlying61 rfl)) ?_
  refine seq_cons (lw_run rfl rfl (r_mvr (.inl rfl) rfl rfl rfl rfl)) ?_
  refine seq_cons (lw_run rfl rfl (la_len rfl rfl rfl Try.underlying61 rfl)) ?_
  refine seq_cons (lw_run rfl rfl (la_bin rfl rfl rfl rfl rfl rfl)) ?_
  refine w_end ?_
  refine w_nx ?_
  refine w_cond rfl (fun hb1 => ?_) (fun hb1 => ?_)
  · replace H := bif_t H hb1
    refine w_seq' ?_
    refine w_reg ?_
    refine seq_cons (lw_run rfl rfl (la_mvs (.inr rfl) rfl rfl rfl)) ?_
    refine w_end ?_
    refine w_nx ?_
    cases H
    exact w_ret (fun a w h => fin_one h rfl (.tmp rfl rfl) trivial)
  · replace H := bif_f H hb1
    refine w_skip ?_
    refine w_nx ?_
    refine w_seq' ?_
    refine w_seq' ?_
    refine w_reg ?_
    refine seq_cons (lw_run rfl rfl (la_mvs (.inr rfl) rfl rfl rfl)) ?_
    refine w_end ?_
    refine w_nx ?_
    refine w_block ?_
    obtain ⟨out0, HL, HC0⟩ := bnd H
    clear H
    refine w_weak (Γ' := (fun s : Int => mk [(0, .d (.one (.sl false 96 (a0.map (c96 false))))), (1, .d (.one (.sl false 96 (a1.map (c96 false))))), (5, .d (iv s))]) 0) (w_loop (σ := Int) (fun s => mk [(0, .d (.one (.sl false 96 (a0.map (c96 false))))), (1, .d (.one (.sl false 96 (a1.map (c96 false))))), (5, .d (iv s))]) (fun k s => F59_L0 kf a0 a1 k s = some out0) kf 0 HL ?_) (has_le ⟨rfl, rfl, rfl, trivial⟩)
    clear HL
    rintro k0 v2 H
    cases k0 with
    | zero => cases H
    | succ k0 =>
    try dsimp only at H ⊢
    refine w_seq' ?_
    refine w_seq' ?_
    refine w_reg ?_
    refine seq_cons (lw_run rfl rfl (la_mvs (.inl rfl) rfl rfl rfl)) ?_
    refine seq_cons (lw_run rfl rfl (r_mvr (.inl rfl) rfl rfl rfl rfl)) ?_
    refine seq_cons (lw_run rfl rfl (la_len rfl rfl rfl Try.underlying61 rfl)) ?_
    refine seq_cons (lw_run rfl rfl (la_bin rfl rfl rfl rfl rfl rfl)) ?_
    refine w_end ?_
    refine w_nx ?_
    refine w_cond rfl (fun hb3 => ?_) (fun hb3 => ?_)
    · replace H := bif_t H hb3
      refine w_skip ?_
      refine w_nx ?_
      refine w_seq' ?_
      refine w_block ?_
      refine w_seq' ?_
      obtain ⟨z4, hz4, H⟩ := bnd H
      obtain ⟨z5, hz5, H⟩ := bnd H
      obtain ⟨y6, hy6, H⟩ := bnd H
      refine w_drawn [⟨[(0, .d (.one (.sl false 96 (a0.map (c96 false)))))], _, []⟩, ⟨[(5, .d (iv v2))], _, []⟩, ⟨[(17, .d (.one (.sl false 96 (a0.map (c96 false))))), (18, .d (iv v2))], _, [0, 1]⟩, ⟨[(19, .sp none (c96 false z4))], _, [0, 1, 2]⟩, ⟨[(1, .d (.one (.sl false 96 (a1.map (c96 false)))))], _, []⟩, ⟨[(5, .d (iv v2))], _, []⟩, ⟨[(21, .d (.one (.sl false 96 (a1.map (c96 false))))), (22, .d (iv v2))], _, [4, 5]⟩, ⟨[(23, .sp none (c96 false z5))], _, [4, 5, 6]⟩, ⟨[(20, .d (.agg (c96 false z4))), (24, .d (.agg (c96 false z5)))], _, [0, 1, 2, 3, 4, 5, 6, 7]⟩, ⟨[(25, .d (bv y6))], _, [0, 1, 2, 3, 4, 5, 6, 7, 8]⟩] [(0, .d (.one (.sl false 96 (a0.map (c96 false))))), (1, .d (.one (.sl false 96 (a1.map (c96 false))))), (5, .d (iv v2)), (11, .d (iv v2)), (12, .d (.one (.sl false 96 (a0.map (c96 false))))), (13, .d (iv (a0.length : Int))), (14, .d (bv (decide (v2 < (a0.length : Int))))), (17, .d (.one (.sl false 96 (a0.map (c96 false))))), (18, .d (iv v2)), (20, .d (.agg (c96 false z4))), (21, .d (.one (.sl false 96 (a1.map (c96 false))))), (22, .d (iv v2)), (24, .d (.agg (c96 false z5))), (25, .d (bv y6)), (26, .d (bv (!y6)))] mixed ⟨lw_run rfl rfl (r_mvr (.inl rfl) rfl rfl rfl rfl), lw_run rfl rfl (la_mvs (.inl rfl) rfl rfl rfl), lw_run rfl rfl (r_ix rfl rfl rfl e61 rfl rfl hz4 rfl), lw_run rfl rfl (r_lds rfl rfl rfl rw96 rfl (ln96 _ _) rfl), lw_run rfl rfl (r_mvr (.inl rfl) rfl rfl rfl rfl), lw_run rfl rfl (la_mvs (.inl rfl) rfl rfl rfl), lw_run rfl rfl (r_ix rfl rfl rfl e61 rfl rfl hz5 rfl), lw_run rfl rfl (r_lds rfl rfl rfl rw96 rfl (ln96 _ _) rfl), lw_run rfl rfl (la_call [] [] rfl rfl rfl rfl (r67 kf z4 z5 _ hy6) rfl rfl rfl rfl rfl rfl rfl (by simp) rfl (.inl rfl)), lw_run rfl rfl (la_not rfl rfl rfl rfl), trivial⟩ ⟨⟨.inl ⟨rfl, rfl⟩, trivial⟩, ⟨.inl ⟨rfl, rfl⟩, trivial⟩, ⟨.inr ⟨0, _, rfl, rfl, rfl, rfl⟩, .inr ⟨1, _, rfl, rfl, rfl, rfl⟩, trivial⟩, ⟨.inr ⟨2, _, rfl, rfl, rfl, rfl⟩, trivial⟩, ⟨.inl ⟨rfl, rfl⟩, trivial⟩, ⟨.inl ⟨rfl, rfl⟩, trivial⟩, ⟨.inr ⟨4, _, rfl, rfl, rfl, rfl⟩, .inr ⟨5, _, rfl, rfl, rfl, rfl⟩, trivial⟩, ⟨.inr ⟨6, _, rfl, rfl, rfl, rfl⟩, trivial⟩, ⟨.inr ⟨3, _, rfl, rfl, rfl, rfl⟩, .inr ⟨7, _, rfl, rfl, rfl, rfl⟩, trivial⟩, ⟨.inr ⟨8, _, rfl, rfl, rfl, rfl⟩, trivial⟩, trivial⟩ rfl rfl ⟨.inl ⟨rfl, rfl⟩, .inl ⟨rfl, rfl⟩, .inl ⟨rfl, rfl⟩, .inl ⟨rfl, rfl⟩, .inl ⟨rfl, rfl⟩, .inl ⟨rfl, rfl⟩, .inl ⟨rfl, rfl⟩, .inr ⟨0, _, rfl, rfl, rfl⟩, .inr ⟨1, _, rfl, rfl, rfl⟩, .inr ⟨3, _, rfl, rfl, rfl⟩, .inr ⟨4, _, rfl, rfl, rfl⟩, .inr ⟨5, _, rfl, rfl, rfl⟩, .inr ⟨7, _, rfl, rfl, rfl⟩, .inr ⟨8, _, rfl, rfl, rfl⟩, .inr ⟨9, _, rfl, rfl, rfl⟩, trivial⟩ ?_
      refine w_nx ?_
      refine w_cond rfl (fun hb7 => ?_) (fun hb7 => ?_)
      · replace H := bif_t H hb7
        refine w_seq' ?_
        refine w_reg ?_
        refine seq_cons (lw_run rfl rfl (la_mvs (.inr rfl) rfl rfl rfl)) ?_
        refine w_end ?_
        refine w_nx ?_
        cases H
        try dsimp only at HC0
        cases HC0
        exact w_ret (fun a w h => fin_one h rfl (.tmp rfl rfl) trivial)
      · replace H := bif_f H hb7
        refine w_skip ?_
        refine q_nb ?_
        refine w_nx ?_
        refine w_reg ?_
        refine seq_cons (lw_run rfl rfl (la_mvs (.inl rfl) rfl rfl rfl)) ?_
        refine seq_cons (lw_run rfl rfl (la_bin rfl rfl rfl rfl rfl rfl)) ?_
        refine seq_cons (lw_run rfl rfl (la_mvs (.inr rfl) rfl rfl rfl)) ?_
        refine w_end ?_
        refine q_nt ?_
        exact fun a w h => ⟨k0, (IntKind.i64.wrap (v2 + 1)), Nat.lt_succ_self k0, H, h.weaken (has_le ⟨rfl, rfl, rfl, trivial⟩)⟩
    · replace H := bif_f H hb3
      refine w_exit ?_
      refine q_et ?_
      refine q_et ?_
      refine q_in ?_
      cases H
      have H := HC0
      clear HC0
      try dsimp only at H
      refine w_nx ?_
      refine w_seq' ?_
      refine w_reg ?_
      refine seq_cons (lw_run rfl rfl (la_mvs (.inr rfl) rfl rfl rfl)) ?_
      refine w_end ?_
      refine w_nx ?_
      cases H
      exact w_ret (fun a w h => fin_one h rfl (.tmp rfl rfl) trivial)
/- loop.example/g00844/laws.eqOp -/
def F42 (kf : Nat) (a0 : S59) (a1 : S59) : Option Bool :=
  (bif (a0.f0 != a1.f0) then
  some false
  else (F58 kf a0.f1 a1.f1).bind (fun y2 => (bif (!y2) then
  some false
  else (F58 kf a0.f2 a1.f2).bind (fun y4 => (bif (!y4) then
  some false
  else (F59 kf a0.f3 a1.f3).bind (fun y6 => (bif (!y6) then
  some false
  else some true)))))))
theorem r42 (kf : Nat) (a0 : S59) (a1 : S59) (R : Bool) (H : F42 kf a0 a1 = some R) : Ret Try.prog 42 28 [.d (.agg (c63 false a0)), .d (.agg (c63 false a1))] [] (.d (bv R)) [] := by
  refine ret_of Try.func42 rfl rfl (by kernel_rfl) rfl ?_
  intro fr a' w' hn
  obtain ⟨w0, M, Z0, n, γ⟩ := fr
  simp only at hn
  subst hn
  revert a' w'
  show W _ _ _ _ _
  refine w_seq' ?_
  refine w_reg ?_
  refine seq_cons (lw_run rfl rfl (la_box rfl rfl rfl rfl)) ?_
  refine seq_cons (lw_run rfl rfl (la_box rfl rfl rfl rfl)) ?_
  refine seq_cons (lw_run rfl rfl (la_mvs (.inr rfl) rfl rfl rfl)) ?_
  refine w_end ?_
  refine w_nx ?_
  refine w_seq' ?_
  refine w_seq' ?_
  refine w_reg ?_
  refine seq_cons (lw_run rfl rfl (la_fbx rfl rfl rfl fd63_0 rfl rfl)) ?_
  refine seq_cons (lw_run rfl rfl (la_ldf rfl rfl rfl fl3 rfl rfl rfl)) ?_
  refine seq_cons (lw_run rfl rfl (la_fbx rfl rfl rfl fd63_0 rfl rfl)) ?_
  refine seq_cons (lw_run rfl rfl (la_ldf rfl rfl rfl fl3 rfl rfl rfl)) ?_
  refine seq_cons (lw_run rfl rfl (la_bin rfl rfl rfl rfl rfl rfl)) ?_
  refine w_end ?_
  refine w_nx ?_
  refine w_cond rfl (fun hb1 => ?_) (fun hb1 => ?_)
  · replace H := bif_t H hb1
    refine w_seq' ?_
    refine w_reg ?_
    refine seq_cons (lw_run rfl rfl (la_mvs (.inr rfl) rfl rfl rfl)) ?_
    refine w_end ?_
    refine w_nx ?_
    cases H
    exact w_ret (fun a w h => fin_one h rfl (.tmp rfl rfl) trivial)
  · replace H := bif_f H hb1
    refine w_skip ?_
    refine w_nx ?_
    refine w_seq' ?_
    refine w_seq' ?_
    refine w_reg ?_
    refine seq_cons (lw_run rfl rfl (la_fbx rfl rfl rfl fd63_1 rfl rfl)) ?_
    refine seq_cons (lw_run rfl rfl (la_ldf rfl rfl rfl fl60 rfl rfl rfl)) ?_
    refine seq_cons (lw_run rfl rfl (la_fbx rfl rfl rfl fd63_1 rfl rfl)) ?_
    refine seq_cons (lw_run rfl rfl (la_ldf rfl rfl rfl fl60 rfl rfl rfl)) ?_
    obtain ⟨y2, hy2, H⟩ := bnd H
    refine seq_cons (lw_run rfl rfl (la_call [] [] rfl rfl rfl rfl (r58 kf a0.f1 a1.f1 _ hy2) rfl rfl rfl rfl rfl rfl rfl (by simp) rfl (.inl rfl))) ?_
    refine seq_cons (lw_run rfl rfl (la_not rfl rfl rfl rfl)) ?_
    refine w_end ?_
    refine w_nx ?_
    refine w_cond rfl (fun hb3 => ?_) (fun hb3 => ?_)
    · replace H := bif_t H hb3
      refine w_seq' ?_
      refine w_reg ?_
      refine seq_cons (lw_run rfl rfl (la_mvs (.inr rfl) rfl rfl rfl)) ?_
      refine w_end ?_
      refine w_nx ?_
      cases H
      exact w_ret (fun a w h => fin_one h rfl (.tmp rfl rfl) trivial)
    · replace H := bif_f H hb3
      refine w_skip ?_
      refine w_nx ?_
      refine w_seq' ?_
      refine w_seq' ?_
      refine w_reg ?_
      refine seq_cons (lw_run rfl rfl (la_fbx rfl rfl rfl fd63_2 rfl rfl)) ?_
      refine seq_cons (lw_run rfl rfl (la_ldf rfl rfl rfl fl60 rfl rfl rfl)) ?_
      refine seq_cons (lw_run rfl rfl (la_fbx rfl rfl rfl fd63_2 rfl rfl)) ?_
      refine seq_cons (lw_run rfl rfl (la_ldf rfl rfl rfl fl60 rfl rfl rfl)) ?_
      obtain ⟨y4, hy4, H⟩ := bnd H
      refine seq_cons (lw_run rfl rfl (la_call [] [] rfl rfl rfl rfl (r58 kf a0.f2 a1.f2 _ hy4) rfl rfl rfl rfl rfl rfl rfl (by simp) rfl (.inl rfl))) ?_
      refine seq_cons (lw_run rfl rfl (la_not rfl rfl rfl rfl)) ?_
      refine w_end ?_
      refine w_nx ?_
      refine w_cond rfl (fun hb5 => ?_) (fun hb5 => ?_)
      · replace H := bif_t H hb5
        refine w_seq' ?_
        refine w_reg ?_
        refine seq_cons (lw_run rfl rfl (la_mvs (.inr rfl) rfl rfl rfl)) ?_
        refine w_end ?_
        refine w_nx ?_
        cases H
        exact w_ret (fun a w h => fin_one h rfl (.tmp rfl rfl) trivial)
      · replace H := bif_f H hb5
        refine w_skip ?_
        refine w_nx ?_
        refine w_seq' ?_
        refine w_seq' ?_
        refine w_reg ?_
        refine seq_cons (lw_run rfl rfl (la_fbx rfl rfl rfl fd63_3 rfl rfl)) ?_
        refine seq_cons (lw_run rfl rfl (la_ldf rfl rfl rfl fl61 rfl rfl rfl)) ?_
        refine seq_cons (lw_run rfl rfl (la_fbx rfl rfl rfl fd63_3 rfl rfl)) ?_
        refine seq_cons (lw_run rfl rfl (la_ldf rfl rfl rfl fl61 rfl rfl rfl)) ?_
        obtain ⟨y6, hy6, H⟩ := bnd H
        refine seq_cons (lw_run rfl rfl (la_call [] [] rfl rfl rfl rfl (r59 kf a0.f3 a1.f3 _ hy6) rfl rfl rfl rfl rfl rfl rfl (by simp) rfl (.inl rfl))) ?_
        refine seq_cons (lw_run rfl rfl (la_not rfl rfl rfl rfl)) ?_
        refine w_end ?_
        refine w_nx ?_
        refine w_cond rfl (fun hb7 => ?_) (fun hb7 => ?_)
        · replace H := bif_t H hb7
          refine w_seq' ?_
          refine w_reg ?_
          refine seq_cons (lw_run rfl rfl (la_mvs (.inr rfl) rfl rfl rfl)) ?_
          refine w_end ?_
          refine w_nx ?_
          cases H
          exact w_ret (fun a w h => fin_one h rfl (.tmp rfl rfl) trivial)
        · replace H := bif_f H hb7
          refine w_skip ?_
          refine w_nx ?_
          refine w_seq' ?_
          refine w_reg ?_
          refine seq_cons (lw_run rfl rfl (la_mvs (.inr rfl) rfl rfl rfl)) ?_
          refine w_end ?_
          refine w_nx ?_
          cases H
          exact w_ret (fun a w h => fin_one h rfl (.tmp rfl rfl) trivial)
/- loop.example/g00844/laws.eqOpS -/
def F25_L0 (kf : Nat) (a0 : (List S59)) (a1 : (List S59)) : Nat → Int → Option (Ex Bool Int)
  | 0, _ => none
  | k + 1, v2 =>
  (bif (decide (v2 < (a0.length : Int))) then
  (ix a0 v2).bind (fun z4 => (ix a1 v2).bind (fun z5 => (F42 kf z4 z5).bind (fun y6 => (bif (!y6) then
  some (.ret false)
  else (F25_L0 kf a0 a1 k) (IntKind.i64.wrap (v2 + 1))))))
  else some (.go v2))
def F25 (kf : Nat) (a0 : (List S59)) (a1 : (List S59)) : Option Bool :=
  (bif ((a0.length : Int) != (a1.length : Int)) then
  some false
  else (F25_L0 kf a0 a1 kf 0).bind (fun o => match o with
  | .ret r => some r
  | .go v2 => some true))
theorem r25 (kf : Nat) (a0 : (List S59)) (a1 : (List S59)) (R : Bool) (H : F25 kf a0 a1 = some R) : Ret Try.prog 25 27 [.d (.one (.sl false 63 (a0.map (c63 false)))), .d (.one (.sl false 63 (a1.map (c63 false))))] [] (.d (bv R)) [] := by
  refine ret_of Try.func25 rfl rfl (by kernel_rfl) rfl ?_
  intro fr a' w' hn
  obtain ⟨w0, M, Z0, n, γ⟩ := fr
  simp only at hn
  subst hn
  revert a' w'
  show W _ _ _ _ _
  refine w_seq' ?_
  refine w_reg ?_
  refine seq_cons (lw_run rfl rfl (la_mvs (.inr rfl) rfl rfl rfl)) ?_
  refine w_end ?_
  refine w_nx ?_
  refine w_seq' ?_
  refine w_seq' ?_
  refine w_reg ?_
  refine seq_cons (lw_run rfl rfl (r_mvr (.inl rfl) rfl rfl rfl rfl)) ?_
  refine seq_cons (lw_run rfl rfl (la_len rfl rfl rfl Try.underlying38 rfl)) ?_
  refine seq_cons (lw_run rfl rfl (r_mvr (.inl rfl) rfl rfl rfl rfl)) ?_
  refine seq_cons (lw_run rfl rfl (la_len rfl rfl rfl Try.underlying38 rfl)) ?_
  refine seq_cons (lw_run rfl rfl (la_bin rfl rfl rfl rfl rfl rfl)) ?_
  refine w_end ?_
  refine w_nx ?_
  refine w_cond rfl (fun hb1 => ?_) (fun hb1 => ?_)
  · replace H := bif_t H hb1
    refine w_seq' ?_
    refine w_reg ?_
    refine seq_cons (lw_run rfl rfl (la_mvs (.inr rfl) rfl rfl rfl)) ?_
    refine w_end ?_
    refine w_nx ?_
    cases H
    exact w_ret (fun a w h => fin_one h rfl (.tmp rfl rfl) trivial)
  · replace H := bif_f H hb1
    refine w_skip ?_
    refine w_nx ?_
    refine w_seq' ?_
    refine w_seq' ?_
    refine w_reg ?_
    refine seq_cons (lw_run rfl rfl (la_mvs (.inr rfl) rfl rfl rfl)) ?_
    refine w_end ?_
    refine w_nx ?_
    refine w_block ?_
    obtain ⟨out0, HL, HC0⟩ := bnd H
    clear H
    refine w_weak (Γ' := (fun s : Int => mk [(0, .d (.one (.sl false 63 (a0.map (c63 false))))), (1, .d (.one (.sl false 63 (a1.map (c63 false))))), (5, .d (iv s))]) 0) (w_loop (σ := Int) (fun s => mk [(0, .d (.one (.sl false 63 (a0.map (c63 false))))), (1, .d (.one (.sl false 63 (a1.map (c63 false))))), (5, .d (iv s))]) (fun k s => F25_L0 kf a0 a1 k s = some out0) kf 0 HL ?_) (has_le ⟨rfl, rfl, rfl, trivial⟩)
    clear HL
    rintro k0 v2 H
    cases k0 with
    | zero => cases H
    | succ k0 =>
    try dsimp only at H ⊢
    refine w_seq' ?_
    refine w_seq' ?_
    refine w_reg ?_
    refine seq_cons (lw_run rfl rfl (la_mvs (.inl rfl) rfl rfl rfl)) ?_
    refine seq_cons (lw_run rfl rfl (r_mvr (.inl rfl) rfl rfl rfl rfl)) ?_
    refine seq_cons (lw_run rfl rfl (la_len rfl rfl rfl Try.underlying38 rfl)) ?_
    refine seq_cons (lw_run rfl rfl (la_bin rfl rfl rfl rfl rfl rfl)) ?_
    refine w_end ?_
    refine w_nx ?_
    refine w_cond rfl (fun hb3 => ?_) (fun hb3 => ?_)
    · replace H := bif_t H hb3
      refine w_skip ?_
      refine w_nx ?_
      refine w_seq' ?_
      refine w_block ?_
      refine w_seq' ?_
      obtain ⟨z4, hz4, H⟩ := bnd H
      obtain ⟨z5, hz5, H⟩ := bnd H
      obtain ⟨y6, hy6, H⟩ := bnd H
      refine w_drawn [⟨[(0, .d (.one (.sl false 63 (a0.map (c63 false)))))], _, []⟩, ⟨[(5, .d (iv v2))], _, []⟩, ⟨[(17, .d (.one (.sl false 63 (a0.map (c63 false))))), (18, .d (iv v2))], _, [0, 1]⟩, ⟨[(19, .sp none (c63 false z4))], _, [0, 1, 2]⟩, ⟨[(1, .d (.one (.sl false 63 (a1.map (c63 false)))))], _, []⟩, ⟨[(5, .d (iv v2))], _, []⟩, ⟨[(21, .d (.one (.sl false 63 (a1.map (c63 false))))), (22, .d (iv v2))], _, [4, 5]⟩, ⟨[(23, .sp none (c63 false z5))], _, [4, 5, 6]⟩, ⟨[(20, .d (.agg (c63 false z4))), (24, .d (.agg (c63 false z5)))], _, [0, 1, 2, 3, 4, 5, 6, 7]⟩, ⟨[(25, .d (bv y6))], _, [0, 1, 2, 3, 4, 5, 6, 7, 8]⟩] [(0, .d (.one (.sl false 63 (a0.map (c63 false))))), (1, .d (.one (.sl false 63 (a1.map (c63 false))))), (5, .d (iv v2)), (11, .d (iv v2)), (12, .d (.one (.sl false 63 (a0.map (c63 false))))), (13, .d (iv (a0.length : Int))), (14, .d (bv (decide (v2 < (a0.length : Int))))), (17, .d (.one (.sl false 63 (a0.map (c63 false))))), (18, .d (iv v2)), (20, .d (.agg (c63 false z4))), (21, .d (.one (.sl false 63 (a1.map (c63 false))))), (22, .d (iv v2)), (24, .d (.agg (c63 false z5))), (25, .d (bv y6)), (26, .d (bv (!y6)))] mixed ⟨lw_run rfl rfl (r_mvr (.inl rfl) rfl rfl rfl rfl), lw_run rfl rfl (la_mvs (.inl rfl) rfl rfl rfl), lw_run rfl rfl (r_ix rfl rfl rfl e38 rfl rfl hz4 rfl), lw_run rfl rfl (r_lds rfl rfl rfl rw63 rfl (ln63 _ _) rfl), lw_run rfl rfl (r_mvr (.inl rfl) rfl rfl rfl rfl), lw_run rfl rfl (la_mvs (.inl rfl) rfl rfl rfl), lw_run rfl rfl (r_ix rfl rfl rfl e38 rfl rfl hz5 rfl), lw_run rfl rfl (r_lds rfl rfl rfl rw63 rfl (ln63 _ _) rfl), lw_run rfl rfl (la_call [] [] rfl rfl rfl rfl (r42 kf z4 z5 _ hy6) rfl rfl rfl rfl rfl rfl rfl (by simp) rfl (.inl rfl)), lw_run rfl rfl (la_not rfl rfl rfl rfl), trivial⟩ ⟨⟨.inl ⟨rfl, rfl⟩, trivial⟩, ⟨.inl ⟨rfl, rfl⟩, trivial⟩, ⟨.inr ⟨0, _, rfl, rfl, rfl, rfl⟩, .inr ⟨1, _, rfl, rfl, rfl, rfl⟩, trivial⟩, ⟨.inr ⟨2, _, rfl, rfl, rfl, rfl⟩, trivial⟩, ⟨.inl ⟨rfl, rfl⟩, trivial⟩, ⟨.inl ⟨rfl, rfl⟩, trivial⟩, ⟨.inr ⟨4, _, rfl, rfl, rfl, rfl⟩, .inr ⟨5, _, rfl, rfl, rfl, rfl⟩, trivial⟩, ⟨.inr ⟨6, _, rfl, rfl, rfl, rfl⟩, trivial⟩, ⟨.inr ⟨3, _, rfl, rfl, rfl, rfl⟩, .inr ⟨7, _, rfl, rfl, rfl, rfl⟩, trivial⟩, ⟨.inr ⟨8, _, rfl, rfl, rfl, rfl⟩, trivial⟩, trivial⟩ rfl rfl ⟨.inl ⟨rfl, rfl⟩, .inl ⟨rfl, rfl⟩, .inl ⟨rfl, rfl⟩, .inl ⟨rfl, rfl⟩, .inl ⟨rfl, rfl⟩, .inl ⟨rfl, rfl⟩, .inl ⟨rfl, rfl⟩, .inr ⟨0, _, rfl, rfl, rfl⟩, .inr ⟨1, _, rfl, rfl, rfl⟩, .inr ⟨3, _, rfl, rfl, rfl⟩, .inr ⟨4, _, rfl, rfl, rfl⟩, .inr ⟨5, _, rfl, rfl, rfl⟩, .inr ⟨7, _, rfl, rfl, rfl⟩, .inr ⟨8, _, rfl, rfl, rfl⟩, .inr ⟨9, _, rfl, rfl, rfl⟩, trivial⟩ ?_
      refine w_nx ?_
      refine w_cond rfl (fun hb7 => ?_) (fun hb7 => ?_)
      · replace H := bif_t H hb7
        refine w_seq' ?_
        refine w_reg ?_
        refine seq_cons (lw_run rfl rfl (la_mvs (.inr rfl) rfl rfl rfl)) ?_
        refine w_end ?_
        refine w_nx ?_
        cases H
        try dsimp only at HC0
        cases HC0
        exact w_ret (fun a w h => fin_one h rfl (.tmp rfl rfl) trivial)
      · replace H := bif_f H hb7
        refine w_skip ?_
        refine q_nb ?_
        refine w_nx ?_
        refine w_reg ?_
        refine seq_cons (lw_run rfl rfl (la_mvs (.inl rfl) rfl rfl rfl)) ?_
        refine seq_cons (lw_run rfl rfl (la_bin rfl rfl rfl rfl rfl rfl)) ?_
        refine seq_cons (lw_run rfl rfl (la_mvs (.inr rfl) rfl rfl rfl)) ?_
        refine w_end ?_
        refine q_nt ?_
        exact fun a w h => ⟨k0, (IntKind.i64.wrap (v2 + 1)), Nat.lt_succ_self k0, H, h.weaken (has_le ⟨rfl, rfl, rfl, trivial⟩)⟩
    · replace H := bif_f H hb3
      refine w_exit ?_
      refine q_et ?_
      refine q_et ?_
      refine q_in ?_
      cases H
      have H := HC0
      clear HC0
      try dsimp only at H
      refine w_nx ?_
      refine w_seq' ?_
      refine w_reg ?_
      refine seq_cons (lw_run rfl rfl (la_mvs (.inr rfl) rfl rfl rfl)) ?_
      refine w_end ?_
      refine w_nx ?_
      cases H
      exact w_ret (fun a w h => fin_one h rfl (.tmp rfl rfl) trivial)
/- loop.example/g00844/laws.FnExactAsksOf -/
def F6 (kf : Nat) (a0 : (List S59)) : Option Bool :=
  (F21 kf a0 1048576).bind (fun y1 => (bif (decide (y1 < 0)) then
  some true
  else (F23 kf a0).bind (fun y3 => (F22 kf y3).bind (fun y4 => (F23 kf a0).bind (fun y5 => (F24 kf y5).bind (fun y6 => (bif (y6 != y4) then
  some false
  else (F23 kf a0).bind (fun y8 => (F25 kf y5 y8).bind (fun y9 => (bif (!y9) then
  some false
  else some true))))))))))
theorem r6 (kf : Nat) (a0 : (List S59)) (R : Bool) (H : F6 kf a0 = some R) : Ret Try.prog 6 27 [.d (.one (.sl false 59 (a0.map (c59 false))))] [] (.d (bv R)) [] := by
  refine ret_of Try.func6 rfl rfl (by kernel_rfl) rfl ?_
  intro fr a' w' hn
  obtain ⟨w0, M, Z0, n, γ⟩ := fr
  simp only at hn
  subst hn
  revert a' w'
  show W _ _ _ _ _
  refine w_seq' ?_
  refine w_reg ?_
  refine seq_cons (lw_run rfl rfl (la_mvs (.inr rfl) rfl rfl rfl)) ?_
  refine w_end ?_
  refine w_nx ?_
  refine w_seq' ?_
  refine w_reg ?_
  refine seq_cons (lw_run rfl rfl (la_mvs (.inr rfl) rfl rfl rfl)) ?_
  refine w_end ?_
  refine w_nx ?_
  refine w_seq' ?_
  refine w_reg ?_
  refine seq_cons (lw_run rfl rfl (r_mvr (.inl rfl) rfl rfl rfl rfl)) ?_
  refine seq_cons (lw_run rfl rfl (la_mvs (.inl rfl) rfl rfl rfl)) ?_
  obtain ⟨y1, hy1, H⟩ := bnd H
  refine seq_cons (lw_run rfl rfl (la_call [] [] rfl rfl rfl rfl (r21 kf a0 1048576 _ hy1) rfl rfl rfl rfl rfl rfl rfl (by simp) rfl (.inl rfl))) ?_
  refine seq_cons (lw_run rfl rfl (la_mvs (.inr rfl) rfl rfl rfl)) ?_
  refine w_end ?_
  refine w_nx ?_
  refine w_seq' ?_
  refine w_seq' ?_
  refine w_reg ?_
  refine seq_cons (lw_run rfl rfl (la_mvs (.inl rfl) rfl rfl rfl)) ?_
  refine seq_cons (lw_run rfl rfl (la_bin rfl rfl rfl rfl rfl rfl)) ?_
  refine w_end ?_
  refine w_nx ?_
  refine w_cond rfl (fun hb2 => ?_) (fun hb2 => ?_)
  · replace H := bif_t H hb2
    refine w_seq' ?_
    refine w_reg ?_
    refine seq_cons (lw_run rfl rfl (la_mvs (.inr rfl) rfl rfl rfl)) ?_
    refine w_end ?_
    refine w_nx ?_
    cases H
    exact w_ret (fun a w h => fin_one h rfl (.tmp rfl rfl) trivial)
  · replace H := bif_f H hb2
    refine w_skip ?_
    refine w_nx ?_
    refine w_seq' ?_
    refine w_reg ?_
    refine seq_cons (lw_run rfl rfl (r_mvr (.inl rfl) rfl rfl rfl rfl)) ?_
    obtain ⟨y3, hy3, H⟩ := bnd H
    refine seq_cons (lw_run rfl rfl (la_call [] [] rfl rfl rfl rfl (r23 kf a0 _ hy3) rfl rfl rfl rfl rfl rfl rfl (by simp) rfl (.inl rfl))) ?_
    obtain ⟨y4, hy4, H⟩ := bnd H
    refine seq_cons (lw_run rfl rfl (la_call [] [13] rfl rfl rfl rfl (r22 kf y3 _ hy4) rfl (by simp only [List.map, shD, shC_sl, List.map_map, Function.comp_def, sh63]) rfl rfl rfl rfl rfl (by simp) rfl (.inr ⟨clean_v _, by simp⟩))) ?_
    refine seq_cons (lw_run rfl rfl (la_mvs (.inr rfl) rfl rfl rfl)) ?_
    refine w_end ?_
    refine w_nx ?_
    refine w_seq' ?_
    refine w_reg ?_
    refine seq_cons (lw_run rfl rfl (r_mvr (.inl rfl) rfl rfl rfl rfl)) ?_
    obtain ⟨y5, hy5, H⟩ := bnd H
    refine seq_cons (lw_run rfl rfl (la_call [] [] rfl rfl rfl rfl (r23 kf a0 _ hy5) rfl rfl rfl rfl rfl rfl rfl (by simp) rfl (.inl rfl))) ?_
    refine seq_cons (lw_run rfl rfl (la_mvo (.inr rfl) rfl rfl rfl rfl rfl)) ?_
    refine w_end ?_
    refine w_nx ?_
    refine w_seq' ?_
    refine w_reg ?_
    refine seq_cons (lw_run rfl rfl (la_eq (.inl rfl) rfl rfl rfl (.inl rfl) rfl)) ?_
    obtain ⟨y6, hy6, H⟩ := bnd H
    refine seq_cons (lw_run rfl rfl (la_call [] [5] rfl rfl rfl rfl (r24 kf y5 _ hy6) rfl (by simp only [List.map, shD, shC_sl, List.map_map, Function.comp_def, sh63]) rfl rfl rfl rfl rfl (by simp) rfl (.inr ⟨clean_v _, by simp⟩))) ?_
    refine seq_cons (lw_run rfl rfl (la_mvs (.inr rfl) rfl rfl rfl)) ?_
    refine w_end ?_
    refine w_nx ?_
    refine w_seq' ?_
    refine w_seq' ?_
    refine w_reg ?_
    refine seq_cons (lw_run rfl rfl (la_mvs (.inl rfl) rfl rfl rfl)) ?_
    refine seq_cons (lw_run rfl rfl (la_mvs (.inl rfl) rfl rfl rfl)) ?_
    refine seq_cons (lw_run rfl rfl (la_bin rfl rfl rfl rfl rfl rfl)) ?_
    refine w_end ?_
    refine w_nx ?_
    refine w_cond rfl (fun hb7 => ?_) (fun hb7 => ?_)
    · replace H := bif_t H hb7
      refine w_seq' ?_
      refine w_reg ?_
      refine seq_cons (lw_run rfl rfl (la_mvs (.inr rfl) rfl rfl rfl)) ?_
      refine w_end ?_
      refine w_nx ?_
      cases H
      exact w_ret (fun a w h => fin_one h rfl (.tmp rfl rfl) trivial)
    · replace H := bif_f H hb7
      refine w_skip ?_
      refine w_nx ?_
      refine w_seq' ?_
      refine w_seq' ?_
      refine w_reg ?_
      refine seq_cons (lw_run rfl rfl (la_eq (.inl rfl) rfl rfl rfl (.inl rfl) rfl)) ?_
      refine seq_cons (lw_run rfl rfl (r_mvr (.inl rfl) rfl rfl rfl rfl)) ?_
      obtain ⟨y8, hy8, H⟩ := bnd H
      refine seq_cons (lw_run rfl rfl (la_call [] [] rfl rfl rfl rfl (r23 kf a0 _ hy8) rfl rfl rfl rfl rfl rfl rfl (by simp) rfl (.inl rfl))) ?_
      obtain ⟨y9, hy9, H⟩ := bnd H
      refine seq_cons (lw_run rfl rfl (la_call [] [5, 24] rfl rfl rfl rfl (r25 kf y5 y8 _ hy9) rfl (by simp only [List.map, shD, shC_sl, List.map_map, Function.comp_def, sh63, sh63]) rfl rfl rfl rfl rfl (by simp) rfl (.inr ⟨clean_v _, by simp⟩))) ?_
      refine seq_cons (lw_run rfl rfl (la_not rfl rfl rfl rfl)) ?_
      refine w_end ?_
      refine w_nx ?_
      refine w_cond rfl (fun hb10 => ?_) (fun hb10 => ?_)
      · replace H := bif_t H hb10
        refine w_seq' ?_
        refine w_reg ?_
        refine seq_cons (lw_run rfl rfl (la_mvs (.inr rfl) rfl rfl rfl)) ?_
        refine w_end ?_
        refine w_nx ?_
        cases H
        exact w_ret (fun a w h => fin_one h rfl (.tmp rfl rfl) trivial)
      · replace H := bif_f H hb10
        refine w_skip ?_
        refine w_nx ?_
        refine w_seq' ?_
        refine w_reg ?_
        refine seq_cons (lw_run rfl rfl (la_mvs (.inr rfl) rfl rfl rfl)) ?_
        refine w_end ?_
        refine w_nx ?_
        cases H
        exact w_ret (fun a w h => fin_one h rfl (.tmp rfl rfl) trivial)
end Go.Proofs.YtdclbbkkcngjnaaX
