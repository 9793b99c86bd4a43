/- Printed: for each function that FnExactCountRows reaches, a plain function and the walk that it is what the program's function answers. -/
import Derived.Test.YtdclbbkkcngjnaaTrD
import Derived.Test.YtdclbbkkcngjnaaProg
namespace Go.Proofs.YtdclbbkkcngjnaaX
open Go Go.Proofs Go.Proofs.YtdclbbkkcngjnaaT
set_option maxRecDepth 10000
set_option linter.all false
def c3 (o : Bool) (x : Int) : List C := [.v (.int .i64 x)]
def c22 (o : Bool) (x : (List Int)) : List C := [.sl o 3 (x.map (c3 o))]
def c52 (o : Bool) (x : (List (List Int))) : List C := [.sl o 22 (x.map (c22 o))]
theorem sh3 : ∀ o x, (c3 o x).map shC = c3 false x := fun o x => by simp [c3, shC_sl, shC_v, List.map_map]
theorem sh22 : ∀ o x, (c22 o x).map shC = c22 false x := fun o x => by simp [c22, shC_sl, shC_v, List.map_map, Function.comp_def, sh3]
theorem sh52 : ∀ o x, (c52 o x).map shC = c52 false x := fun o x => by simp [c52, shC_sl, shC_v, List.map_map, Function.comp_def, sh22]
theorem e29 : elemT Try.prog 29 52 = true := by kernel_rfl
theorem fl52 : flatT Try.prog 52 = true := by kernel_rfl
theorem e52 : elemT Try.prog 52 22 = true := by kernel_rfl
theorem fl22 : flatT Try.prog 22 = true := by kernel_rfl
theorem z52 : ∀ o, zeroOk Try.prog 52 (c52 o []) := fun o => ⟨.slice none 0 0, by kernel_rfl, fun w Z => (rl_c rc_n rl_n)⟩
theorem sz52 : szOf Try.prog 52 = 1 := by kernel_rfl
theorem so52 : (Try.prog.info? 52).isSome = true := by kernel_rfl
theorem l52 : ∀ o x, (c52 o x).length = 1 := fun _ _ => rfl
theorem z22 : ∀ o, zeroOk Try.prog 22 (c22 o []) := fun o => ⟨.slice none 0 0, by kernel_rfl, fun w Z => (rl_c rc_n rl_n)⟩
theorem sz22 : szOf Try.prog 22 = 1 := by kernel_rfl
theorem so22 : (Try.prog.info? 22).isSome = true := by kernel_rfl
theorem l22 : ∀ o x, (c22 o x).length = 1 := fun _ _ => rfl
theorem e22 : elemT Try.prog 22 3 = true := by kernel_rfl
theorem z3 : ∀ o, zeroOk Try.prog 3 (c3 o 0) := fun o => ⟨.int .i64 0, by kernel_rfl, fun w Z => (rl_c (rc_v rfl) rl_n)⟩
theorem fl3 : flatT Try.prog 3 = true := by kernel_rfl
theorem sz3 : szOf Try.prog 3 = 1 := by kernel_rfl
theorem so3 : (Try.prog.info? 3).isSome = true := by kernel_rfl
theorem l3 : ∀ o x, (c3 o x).length = 1 := fun _ _ => rfl
theorem mixed : (Try.prog).follows .mixedOrders = true := by kernel_rfl
/- loop.example/g00844/laws.szIntS -/
def F53 (kf : Nat) (a0 : (List Int)) (a1 : Int) : Option Int :=
  (bif (decide ((IntKind.i64.wrap (a1 - (a0.length : Int))) < 0)) then
  some (-1)
  else some (IntKind.i64.wrap (a1 - (a0.length : Int))))
theorem r53 (kf : Nat) (a0 : (List Int)) (a1 : Int) (R : Int) (H : F53 kf a0 a1 = some R) : Ret Try.prog 53 12 [.d (.one (.sl false 3 (a0.map (c3 false)))), .d (iv a1)] [] (.d (iv R)) [] := by
  refine ret_of Try.func53 rfl rfl (by kernel_rfl) rfl ?_
  intro fr a' w' hn
  obtain ⟨w0, M, Z0, n, γ⟩ := fr
  simp only at hn
  subst hn
  revert a' w'
  show W _ _ _ _ _
  refine w_seq' ?_
  refine w_reg ?_
  refine seq_cons (lw_run rfl rfl (la_mvs (.inr rfl) rfl rfl rfl)) ?_
  refine w_end ?_
  refine w_nx ?_
  refine w_seq' ?_
  refine w_reg ?_
  refine seq_cons (lw_run rfl rfl (la_mvs (.inl rfl) rfl rfl rfl)) ?_
  refine seq_cons (lw_run rfl rfl (r_mvr (.inl rfl) rfl rfl rfl rfl)) ?_
  refine seq_cons (lw_run rfl rfl (la_len rfl rfl rfl Try.underlying22 rfl)) ?_
  refine seq_cons (lw_run rfl rfl (la_bin rfl rfl rfl rfl rfl rfl)) ?_
  refine seq_cons (lw_run rfl rfl (la_mvs (.inr rfl) rfl rfl rfl)) ?_
  refine w_end ?_
  refine w_nx ?_
  refine w_seq' ?_
  refine w_seq' ?_
  refine w_reg ?_
  refine seq_cons (lw_run rfl rfl (la_mvs (.inl rfl) rfl rfl rfl)) ?_
  refine seq_cons (lw_run rfl rfl (la_bin rfl rfl rfl rfl rfl rfl)) ?_
  refine w_end ?_
  refine w_nx ?_
  refine w_cond rfl (fun hb => ?_) (fun hb => ?_)
  · replace H := bif_t H hb
    refine w_seq' ?_
    refine w_reg ?_
    refine seq_cons (lw_run rfl rfl (la_mvs (.inr rfl) rfl rfl rfl)) ?_
    refine w_end ?_
    refine w_nx ?_
    cases H
    exact w_ret (fun a w h => fin_one h rfl (.tmp rfl rfl) trivial)
  · replace H := bif_f H hb
    refine w_skip ?_
    refine w_nx ?_
    refine w_seq' ?_
    refine w_reg ?_
    refine seq_cons (lw_run rfl rfl (la_mvs (.inl rfl) rfl rfl rfl)) ?_
    refine seq_cons (lw_run rfl rfl (la_mvs (.inr rfl) rfl rfl rfl)) ?_
    refine w_end ?_
    refine w_nx ?_
    cases H
    exact w_ret (fun a w h => fin_one h rfl (.tmp rfl rfl) trivial)
/- loop.example/g00844/laws.szIntSS -/
def F36_L0 (kf : Nat) (a0 : (List (List Int))) (a1 : Int) : Nat → Int → Int → Option (Ex Int (Int × Int))
  | 0, _, _ => none
  | k + 1, v1, v2 =>
  (bif (decide (v2 < (a0.length : Int))) then
  (ix a0 v2).bind (fun z3 => (F53 kf z3 v1).bind (fun y4 => (bif (decide (y4 < 0)) then
  some (.ret (-1))
  else F36_L0 kf a0 a1 k y4 (IntKind.i64.wrap (v2 + 1)))))
  else some (.go (v1, v2)))
def F36 (kf : Nat) (a0 : (List (List Int))) (a1 : Int) : Option Int :=
  (bif (decide ((IntKind.i64.wrap (a1 - (a0.length : Int))) < 0)) then
  some (-1)
  else (F36_L0 kf a0 a1 kf (IntKind.i64.wrap (a1 - (a0.length : Int))) 0).bind (fun o => match o with
  | .ret r => some r
  | .go (v1, v2) => some v1))
theorem r36 (kf : Nat) (a0 : (List (List Int))) (a1 : Int) (R : Int) (H : F36 kf a0 a1 = some R) : Ret Try.prog 36 27 [.d (.one (.sl false 22 (a0.map (c22 false)))), .d (iv a1)] [] (.d (iv R)) [] := by
  refine ret_of Try.func36 rfl rfl (by kernel_rfl) rfl ?_
  intro fr a' w' hn
  obtain ⟨w0, M, Z0, n, γ⟩ := fr
  simp only at hn
  subst hn
  revert a' w'
  show W _ _ _ _ _
  refine w_seq' ?_
  refine w_reg ?_
  refine seq_cons (lw_run rfl rfl (la_mvs (.inr rfl) rfl rfl rfl)) ?_
  refine w_end ?_
  refine w_nx ?_
  refine w_seq' ?_
  refine w_reg ?_
  refine seq_cons (lw_run rfl rfl (la_mvs (.inl rfl) rfl rfl rfl)) ?_
  refine seq_cons (lw_run rfl rfl (r_mvr (.inl rfl) rfl rfl rfl rfl)) ?_
  refine seq_cons (lw_run rfl rfl (la_len rfl rfl rfl Try.underlying52 rfl)) ?_
  refine seq_cons (lw_run rfl rfl (la_bin rfl rfl rfl rfl rfl rfl)) ?_
  refine seq_cons (lw_run rfl rfl (la_mvs (.inr rfl) rfl rfl rfl)) ?_
  refine w_end ?_
  refine w_nx ?_
  refine w_seq' ?_
  refine w_seq' ?_
  refine w_reg ?_
  refine seq_cons (lw_run rfl rfl (la_mvs (.inl rfl) rfl rfl rfl)) ?_
  refine seq_cons (lw_run rfl rfl (la_bin rfl rfl rfl rfl rfl rfl)) ?_
  refine w_end ?_
  refine w_nx ?_
  refine w_cond rfl (fun hb => ?_) (fun hb => ?_)
  · replace H := bif_t H hb
    refine w_seq' ?_
    refine w_reg ?_
    refine seq_cons (lw_run rfl rfl (la_mvs (.inr rfl) rfl rfl rfl)) ?_
    refine w_end ?_
    refine w_nx ?_
    cases H
    exact w_ret (fun a w h => fin_one h rfl (.tmp rfl rfl) trivial)
  · replace H := bif_f H hb
    refine w_skip ?_
    refine w_nx ?_
    refine w_seq' ?_
    refine w_seq' ?_
    refine w_reg ?_
    refine seq_cons (lw_run rfl rfl (la_mvs (.inr rfl) rfl rfl rfl)) ?_
    refine w_end ?_
    refine w_nx ?_
    refine w_block ?_
    obtain ⟨out0, HL, HC0⟩ := bnd H
    clear H
    refine w_weak (Γ' := (fun s : Int × Int => mk [(0, .d (.one (.sl false 22 (a0.map (c22 false))))), (1, .d (iv s.1)), (5, .d (iv s.2))]) ((IntKind.i64.wrap (a1 - (a0.length : Int))), 0)) (w_loop (σ := Int × Int) (fun s => mk [(0, .d (.one (.sl false 22 (a0.map (c22 false))))), (1, .d (iv s.1)), (5, .d (iv s.2))]) (fun k s => F36_L0 kf a0 a1 k s.1 s.2 = some out0) kf ((IntKind.i64.wrap (a1 - (a0.length : Int))), 0) HL ?_) (has_le ⟨rfl, rfl, rfl, trivial⟩)
    clear HL
    rintro k0 ⟨v1, v2⟩ H
    cases k0 with
    | zero => cases H
    | succ k0 =>
    try dsimp only at H ⊢
    refine w_seq' ?_
    refine w_seq' ?_
    refine w_reg ?_
    refine seq_cons (lw_run rfl rfl (la_mvs (.inl rfl) rfl rfl rfl)) ?_
    refine seq_cons (lw_run rfl rfl (r_mvr (.inl rfl) rfl rfl rfl rfl)) ?_
    refine seq_cons (lw_run rfl rfl (la_len rfl rfl rfl Try.underlying52 rfl)) ?_
    refine seq_cons (lw_run rfl rfl (la_bin rfl rfl rfl rfl rfl rfl)) ?_
    refine w_end ?_
    refine w_nx ?_
    refine w_cond rfl (fun hb => ?_) (fun hb => ?_)
    · replace H := bif_t H hb
      refine w_skip ?_
      refine w_nx ?_
      refine w_seq' ?_
      refine w_block ?_
      refine w_seq' ?_
      refine w_reg ?_
      refine seq_cons (lw_run rfl rfl (r_mvr (.inl rfl) rfl rfl rfl rfl)) ?_
      refine seq_cons (lw_run rfl rfl (la_mvs (.inl rfl) rfl rfl rfl)) ?_
      obtain ⟨z3, hz3, H⟩ := bnd H
      refine seq_cons (lw_run rfl rfl (r_ix rfl rfl rfl e52 rfl rfl hz3 rfl)) ?_
      refine seq_cons (lw_run rfl rfl (r_ld rfl rfl rfl fl22 rfl rfl)) ?_
      refine seq_cons (lw_run rfl rfl (la_mvs (.inl rfl) rfl rfl rfl)) ?_
      obtain ⟨y4, hy4, H⟩ := bnd H
      refine seq_cons (lw_run rfl rfl (la_call [] [] rfl rfl rfl rfl (r53 kf z3 v1 _ hy4) rfl rfl rfl rfl rfl rfl rfl (by simp) rfl (.inl rfl))) ?_
      refine seq_cons (lw_run rfl rfl (la_mvs (.inr rfl) rfl rfl rfl)) ?_
      refine w_end ?_
      refine w_nx ?_
      refine w_seq' ?_
      refine w_reg ?_
      refine seq_cons (lw_run rfl rfl (la_mvs (.inl rfl) rfl rfl rfl)) ?_
      refine seq_cons (lw_run rfl rfl (la_bin rfl rfl rfl rfl rfl rfl)) ?_
      refine w_end ?_
      refine w_nx ?_
      refine w_cond rfl (fun hb => ?_) (fun hb => ?_)
      · replace H := bif_t H hb
        refine w_seq' ?_
        refine w_reg ?_
        refine seq_cons (lw_run rfl rfl (la_mvs (.inr rfl) rfl rfl rfl)) ?_
        refine w_end ?_
        refine w_nx ?_
        cases H
        try dsimp only at HC0
        cases HC0
        exact w_ret (fun a w h => fin_one h rfl (.tmp rfl rfl) trivial)
      · replace H := bif_f H hb
        refine w_skip ?_
        refine q_nb ?_
        refine w_nx ?_
        refine w_reg ?_
        refine seq_cons (lw_run rfl rfl (la_mvs (.inl rfl) rfl rfl rfl)) ?_
        refine seq_cons (lw_run rfl rfl (la_bin rfl rfl rfl rfl rfl rfl)) ?_
        refine seq_cons (lw_run rfl rfl (la_mvs (.inr rfl) rfl rfl rfl)) ?_
        refine w_end ?_
        refine q_nt ?_
        exact fun a w h => ⟨k0, (y4, (IntKind.i64.wrap (v2 + 1))), Nat.lt_succ_self k0, H, h.weaken (has_le ⟨rfl, rfl, rfl, trivial⟩)⟩
    · replace H := bif_f H hb
      refine w_exit ?_
      refine q_et ?_
      refine q_et ?_
      refine q_in ?_
      cases H
      have H := HC0
      clear HC0
      try dsimp only at H
      refine w_nx ?_
      refine w_seq' ?_
      refine w_reg ?_
      refine seq_cons (lw_run rfl rfl (la_mvs (.inl rfl) rfl rfl rfl)) ?_
      refine seq_cons (lw_run rfl rfl (la_mvs (.inr rfl) rfl rfl rfl)) ?_
      refine w_end ?_
      refine w_nx ?_
      cases H
      exact w_ret (fun a w h => fin_one h rfl (.tmp rfl rfl) trivial)
/- loop.example/g00844/laws.szIntSSS -/
def F16_L0 (kf : Nat) (a0 : (List (List (List Int)))) (a1 : Int) : Nat → Int → Int → Option (Ex Int (Int × Int))
  | 0, _, _ => none
  | k + 1, v1, v2 =>
  (bif (decide (v2 < (a0.length : Int))) then
  (ix a0 v2).bind (fun z3 => (F36 kf z3 v1).bind (fun y4 => (bif (decide (y4 < 0)) then
  some (.ret (-1))
  else F16_L0 kf a0 a1 k y4 (IntKind.i64.wrap (v2 + 1)))))
  else some (.go (v1, v2)))
def F16 (kf : Nat) (a0 : (List (List (List Int)))) (a1 : Int) : Option Int :=
  (bif (decide ((IntKind.i64.wrap (a1 - (a0.length : Int))) < 0)) then
  some (-1)
  else (F16_L0 kf a0 a1 kf (IntKind.i64.wrap (a1 - (a0.length : Int))) 0).bind (fun o => match o with
  | .ret r => some r
  | .go (v1, v2) => some v1))
theorem r16 (kf : Nat) (a0 : (List (List (List Int)))) (a1 : Int) (R : Int) (H : F16 kf a0 a1 = some R) : Ret Try.prog 16 27 [.d (.one (.sl false 52 (a0.map (c52 false)))), .d (iv a1)] [] (.d (iv R)) [] := by
  refine ret_of Try.func16 rfl rfl (by kernel_rfl) rfl ?_
  intro fr a' w' hn
  obtain ⟨w0, M, Z0, n, γ⟩ := fr
  simp only at hn
  subst hn
  revert a' w'
  show W _ _ _ _ _
  refine w_seq' ?_
  refine w_reg ?_
  refine seq_cons (lw_run rfl rfl (la_mvs (.inr rfl) rfl rfl rfl)) ?_
  refine w_end ?_
  refine w_nx ?_
  refine w_seq' ?_
  refine w_reg ?_
  refine seq_cons (lw_run rfl rfl (la_mvs (.inl rfl) rfl rfl rfl)) ?_
  refine seq_cons (lw_run rfl rfl (r_mvr (.inl rfl) rfl rfl rfl rfl)) ?_
  refine seq_cons (lw_run rfl rfl (la_len rfl rfl rfl Try.underlying29 rfl)) ?_
  refine seq_cons (lw_run rfl rfl (la_bin rfl rfl rfl rfl rfl rfl)) ?_
  refine seq_cons (lw_run rfl rfl (la_mvs (.inr rfl) rfl rfl rfl)) ?_
  refine w_end ?_
  refine w_nx ?_
  refine w_seq' ?_
  refine w_seq' ?_
  refine w_reg ?_
  refine seq_cons (lw_run rfl rfl (la_mvs (.inl rfl) rfl rfl rfl)) ?_
  refine seq_cons (lw_run rfl rfl (la_bin rfl rfl rfl rfl rfl rfl)) ?_
  refine w_end ?_
  refine w_nx ?_
  refine w_cond rfl (fun hb => ?_) (fun hb => ?_)
  · replace H := bif_t H hb
    refine w_seq' ?_
    refine w_reg ?_
    refine seq_cons (lw_run rfl rfl (la_mvs (.inr rfl) rfl rfl rfl)) ?_
    refine w_end ?_
    refine w_nx ?_
    cases H
    exact w_ret (fun a w h => fin_one h rfl (.tmp rfl rfl) trivial)
  · replace H := bif_f H hb
    refine w_skip ?_
    refine w_nx ?_
    refine w_seq' ?_
    refine w_seq' ?_
    refine w_reg ?_
    refine seq_cons (lw_run rfl rfl (la_mvs (.inr rfl) rfl rfl rfl)) ?_
    refine w_end ?_
    refine w_nx ?_
    refine w_block ?_
    obtain ⟨out0, HL, HC0⟩ := bnd H
    clear H
    refine w_weak (Γ' := (fun s : Int × Int => mk [(0, .d (.one (.sl false 52 (a0.map (c52 false))))), (1, .d (iv s.1)), (5, .d (iv s.2))]) ((IntKind.i64.wrap (a1 - (a0.length : Int))), 0)) (w_loop (σ := Int × Int) (fun s => mk [(0, .d (.one (.sl false 52 (a0.map (c52 false))))), (1, .d (iv s.1)), (5, .d (iv s.2))]) (fun k s => F16_L0 kf a0 a1 k s.1 s.2 = some out0) kf ((IntKind.i64.wrap (a1 - (a0.length : Int))), 0) HL ?_) (has_le ⟨rfl, rfl, rfl, trivial⟩)
    clear HL
    rintro k0 ⟨v1, v2⟩ H
    cases k0 with
    | zero => cases H
    | succ k0 =>
    try dsimp only at H ⊢
    refine w_seq' ?_
    refine w_seq' ?_
    refine w_reg ?_
    refine seq_cons (lw_run rfl rfl (la_mvs (.inl rfl) rfl rfl rfl)) ?_
    refine seq_cons (lw_run rfl rfl (r_mvr (.inl rfl) rfl rfl rfl rfl)) ?_
    refine seq_cons (lw_run rfl rfl (la_len rfl rfl rfl Try.underlying29 rfl)) ?_
    refine seq_cons (lw_run rfl rfl (la_bin rfl rfl rfl rfl rfl rfl)) ?_
    refine w_end ?_
    refine w_nx ?_
    refine w_cond rfl (fun hb => ?_) (fun hb => ?_)
    · replace H := bif_t H hb
      refine w_skip ?_
      refine w_nx ?_
      refine w_seq' ?_
      refine w_block ?_
      refine w_seq' ?_
      refine w_reg ?_
      refine seq_cons (lw_run rfl rfl (r_mvr (.inl rfl) rfl rfl rfl rfl)) ?_
      refine seq_cons (lw_run rfl rfl (la_mvs (.inl rfl) rfl rfl rfl)) ?_
      obtain ⟨z3, hz3, H⟩ := bnd H
      refine seq_cons (lw_run rfl rfl (r_ix rfl rfl rfl e29 rfl rfl hz3 rfl)) ?_
      refine seq_cons (lw_run rfl rfl (r_ld rfl rfl rfl fl52 rfl rfl)) ?_
      refine seq_cons (lw_run rfl rfl (la_mvs (.inl rfl) rfl rfl rfl)) ?_
      obtain ⟨y4, hy4, H⟩ := bnd H
      refine seq_cons (lw_run rfl rfl (la_call [] [] rfl rfl rfl rfl (r36 kf z3 v1 _ hy4) rfl rfl rfl rfl rfl rfl rfl (by simp) rfl (.inl rfl))) ?_
      refine seq_cons (lw_run rfl rfl (la_mvs (.inr rfl) rfl rfl rfl)) ?_
      refine w_end ?_
      refine w_nx ?_
      refine w_seq' ?_
      refine w_reg ?_
      refine seq_cons (lw_run rfl rfl (la_mvs (.inl rfl) rfl rfl rfl)) ?_
      refine seq_cons (lw_run rfl rfl (la_bin rfl rfl rfl rfl rfl rfl)) ?_
      refine w_end ?_
      refine w_nx ?_
      refine w_cond rfl (fun hb => ?_) (fun hb => ?_)
      · replace H := bif_t H hb
        refine w_seq' ?_
        refine w_reg ?_
        refine seq_cons (lw_run rfl rfl (la_mvs (.inr rfl) rfl rfl rfl)) ?_
        refine w_end ?_
        refine w_nx ?_
        cases H
        try dsimp only at HC0
        cases HC0
        exact w_ret (fun a w h => fin_one h rfl (.tmp rfl rfl) trivial)
      · replace H := bif_f H hb
        refine w_skip ?_
        refine q_nb ?_
        refine w_nx ?_
        refine w_reg ?_
        refine seq_cons (lw_run rfl rfl (la_mvs (.inl rfl) rfl rfl rfl)) ?_
        refine seq_cons (lw_run rfl rfl (la_bin rfl rfl rfl rfl rfl rfl)) ?_
        refine seq_cons (lw_run rfl rfl (la_mvs (.inr rfl) rfl rfl rfl)) ?_
        refine w_end ?_
        refine q_nt ?_
        exact fun a w h => ⟨k0, (y4, (IntKind.i64.wrap (v2 + 1))), Nat.lt_succ_self k0, H, h.weaken (has_le ⟨rfl, rfl, rfl, trivial⟩)⟩
    · replace H := bif_f H hb
      refine w_exit ?_
      refine q_et ?_
      refine q_et ?_
      refine q_in ?_
      cases H
      have H := HC0
      clear HC0
      try dsimp only at H
      refine w_nx ?_
      refine w_seq' ?_
      refine w_reg ?_
      refine seq_cons (lw_run rfl rfl (la_mvs (.inl rfl) rfl rfl rfl)) ?_
      refine seq_cons (lw_run rfl rfl (la_mvs (.inr rfl) rfl rfl rfl)) ?_
      refine w_end ?_
      refine w_nx ?_
      cases H
      exact w_ret (fun a w h => fin_one h rfl (.tmp rfl rfl) trivial)
/- loop.example/g00844/spec.CountRows -/
def F17_L0 (kf : Nat) (a0 : (List (List (List Int)))) : Nat → Int → Int → Option (Ex Int (Int × Int))
  | 0, _, _ => none
  | k + 1, v1, v2 =>
  (bif (decide (v2 < (a0.length : Int))) then
  (ix a0 v2).bind (fun z3 => F17_L0 kf a0 k (IntKind.i64.wrap (v1 + (z3.length : Int))) (IntKind.i64.wrap (v2 + 1)))
  else some (.go (v1, v2)))
def F17 (kf : Nat) (a0 : (List (List (List Int)))) : Option Int :=
  (F17_L0 kf a0 kf 0 0).bind (fun o => match o with
  | .ret r => some r
  | .go (v1, v2) => some v1)
theorem r17 (kf : Nat) (a0 : (List (List (List Int)))) (R : Int) (H : F17 kf a0 = some R) : Ret Try.prog 17 19 [.d (.one (.sl false 52 (a0.map (c52 false))))] [] (.d (iv R)) [] := by
  refine ret_of Try.func17 rfl rfl (by kernel_rfl) rfl ?_
  intro fr a' w' hn
  obtain ⟨w0, M, Z0, n, γ⟩ := fr
  simp only at hn
  subst hn
  revert a' w'
  show W _ _ _ _ _
  refine w_seq' ?_
  refine w_reg ?_
  refine seq_cons (lw_run rfl rfl (la_mvs (.inr rfl) rfl rfl rfl)) ?_
  refine w_end ?_
  refine w_nx ?_
  refine w_seq' ?_
  refine w_reg ?_
  refine seq_cons (lw_run rfl rfl (la_mvs (.inr rfl) rfl rfl rfl)) ?_
  refine w_end ?_
  refine w_nx ?_
  refine w_seq' ?_
  refine w_seq' ?_
  refine w_reg ?_
  refine seq_cons (lw_run rfl rfl (la_mvs (.inr rfl) rfl rfl rfl)) ?_
  refine w_end ?_
  refine w_nx ?_
  refine w_block ?_
  obtain ⟨out0, HL, HC0⟩ := bnd H
  clear H
  refine w_weak (Γ' := (fun s : Int × Int => mk [(0, .d (.one (.sl false 52 (a0.map (c52 false))))), (2, .d (iv 0)), (3, .d (iv s.1)), (4, .d (iv s.2))]) (0, 0)) (w_loop (σ := Int × Int) (fun s => mk [(0, .d (.one (.sl false 52 (a0.map (c52 false))))), (2, .d (iv 0)), (3, .d (iv s.1)), (4, .d (iv s.2))]) (fun k s => F17_L0 kf a0 k s.1 s.2 = some out0) kf (0, 0) HL ?_) (has_le ⟨rfl, rfl, rfl, rfl, trivial⟩)
  clear HL
  rintro k0 ⟨v1, v2⟩ H
  cases k0 with
  | zero => cases H
  | succ k0 =>
  try dsimp only at H ⊢
  refine w_seq' ?_
  refine w_seq' ?_
  refine w_reg ?_
  refine seq_cons (lw_run rfl rfl (la_mvs (.inl rfl) rfl rfl rfl)) ?_
  refine seq_cons (lw_run rfl rfl (r_mvr (.inl rfl) rfl rfl rfl rfl)) ?_
  refine seq_cons (lw_run rfl rfl (la_len rfl rfl rfl Try.underlying29 rfl)) ?_
  refine seq_cons (lw_run rfl rfl (la_bin rfl rfl rfl rfl rfl rfl)) ?_
  refine w_end ?_
  refine w_nx ?_
  refine w_cond rfl (fun hb => ?_) (fun hb => ?_)
  · replace H := bif_t H hb
    refine w_skip ?_
    refine w_nx ?_
    refine w_seq' ?_
    refine w_block ?_
    refine w_reg ?_
    refine seq_cons (lw_run rfl rfl (la_mvs (.inl rfl) rfl rfl rfl)) ?_
    refine seq_cons (lw_run rfl rfl (r_mvr (.inl rfl) rfl rfl rfl rfl)) ?_
    refine seq_cons (lw_run rfl rfl (la_mvs (.inl rfl) rfl rfl rfl)) ?_
    obtain ⟨z3, hz3, H⟩ := bnd H
    refine seq_cons (lw_run rfl rfl (r_ix rfl rfl rfl e29 rfl rfl hz3 rfl)) ?_
    refine seq_cons (lw_run rfl rfl (r_ld rfl rfl rfl fl52 rfl rfl)) ?_
    refine seq_cons (lw_run rfl rfl (la_len rfl rfl rfl Try.underlying52 rfl)) ?_
    refine seq_cons (lw_run rfl rfl (la_bin rfl rfl rfl rfl rfl rfl)) ?_
    refine seq_cons (lw_run rfl rfl (la_mvs (.inr rfl) rfl rfl rfl)) ?_
    refine w_end ?_
    refine q_nb ?_
    refine w_nx ?_
    refine w_reg ?_
    refine seq_cons (lw_run rfl rfl (la_mvs (.inl rfl) rfl rfl rfl)) ?_
    refine seq_cons (lw_run rfl rfl (la_bin rfl rfl rfl rfl rfl rfl)) ?_
    refine seq_cons (lw_run rfl rfl (la_mvs (.inr rfl) rfl rfl rfl)) ?_
    refine w_end ?_
    refine q_nt ?_
    exact fun a w h => ⟨k0, ((IntKind.i64.wrap (v1 + (z3.length : Int))), (IntKind.i64.wrap (v2 + 1))), Nat.lt_succ_self k0, H, h.weaken (has_le ⟨rfl, rfl, rfl, rfl, trivial⟩)⟩
  · replace H := bif_f H hb
    refine w_exit ?_
    refine q_et ?_
    refine q_et ?_
    refine q_in ?_
    cases H
    have H := HC0
    clear HC0
    try dsimp only at H
    refine w_nx ?_
    refine w_seq' ?_
    refine w_reg ?_
    refine seq_cons (lw_run rfl rfl (la_mvs (.inl rfl) rfl rfl rfl)) ?_
    refine seq_cons (lw_run rfl rfl (la_mvs (.inr rfl) rfl rfl rfl)) ?_
    refine w_end ?_
    refine w_nx ?_
    cases H
    exact w_ret (fun a w h => fin_one h rfl (.tmp rfl rfl) trivial)
/- loop.example/g00844/laws.toIntS -/
def F9_L0 (kf : Nat) (a0 : (List Int)) (z1 : (List Int)) : Nat → (List Int) → Int → Option (Ex (List Int) ((List Int) × Int))
  | 0, _, _ => none
  | k + 1, v2, v3 =>
  (bif (decide (v3 < (a0.length : Int))) then
  (ix a0 v3).bind (fun z4 => (stx v2 v3 z4).bind (fun z5 => F9_L0 kf a0 z1 k z5 (IntKind.i64.wrap (v3 + 1))))
  else some (.go (v2, v3)))
def F9 (kf : Nat) (a0 : (List Int)) : Option (List Int) :=
  (mkx (a0.length : Int) (0 : Int)).bind (fun z1 => (F9_L0 kf a0 z1 kf z1 0).bind (fun o => match o with
  | .ret r => some r
  | .go (v2, v3) => some v2))
theorem r9 (kf : Nat) (a0 : (List Int)) (R : (List Int)) (H : F9 kf a0 = some R) : Ret Try.prog 9 22 [.d (.one (.sl false 3 (a0.map (c3 false))))] [] (.d (.one (.sl true 3 (R.map (c3 true))))) [] := by
  refine ret_of Try.func9 rfl rfl (by kernel_rfl) rfl ?_
  intro fr a' w' hn
  obtain ⟨w0, M, Z0, n, γ⟩ := fr
  simp only at hn
  subst hn
  revert a' w'
  show W _ _ _ _ _
  refine w_seq' ?_
  refine w_reg ?_
  refine seq_cons (lw_run rfl rfl (r_nil true 3 (c3 true) (.inr rfl) rfl rfl)) ?_
  refine w_end ?_
  refine w_nx ?_
  refine w_seq' ?_
  refine w_reg ?_
  refine seq_cons (lw_run rfl rfl (r_mvr (.inl rfl) rfl rfl rfl rfl)) ?_
  refine seq_cons (lw_run rfl rfl (la_len rfl rfl rfl Try.underlying22 rfl)) ?_
  obtain ⟨z1, hz1, H⟩ := bnd H
  refine seq_cons (lw_run rfl rfl (r_mk rfl rfl rfl e22 (z3 true) rfl rfl rfl hz1)) ?_
  refine seq_cons (lw_run rfl rfl (la_mvo (.inr rfl) rfl rfl rfl rfl rfl)) ?_
  refine w_end ?_
  refine w_nx ?_
  refine w_seq' ?_
  refine w_seq' ?_
  refine w_reg ?_
  refine seq_cons (lw_run rfl rfl (la_mvs (.inr rfl) rfl rfl rfl)) ?_
  refine w_end ?_
  refine w_nx ?_
  refine w_block ?_
  obtain ⟨out0, HL, HC0⟩ := bnd H
  clear H
  refine w_weak (Γ' := (fun s : (List Int) × Int => mk [(0, .d (.one (.sl false 3 (a0.map (c3 false))))), (2, .d (.one (.sl true 3 (([]).map (c3 true))))), (3, .d (.one (.sl true 3 (s.1.map (c3 true))))), (4, .d (iv s.2))]) (z1, 0)) (w_loop (σ := (List Int) × Int) (fun s => mk [(0, .d (.one (.sl false 3 (a0.map (c3 false))))), (2, .d (.one (.sl true 3 (([]).map (c3 true))))), (3, .d (.one (.sl true 3 (s.1.map (c3 true))))), (4, .d (iv s.2))]) (fun k s => F9_L0 kf a0 z1 k s.1 s.2 = some out0) kf (z1, 0) HL ?_) (has_le ⟨rfl, rfl, rfl, rfl, trivial⟩)
  clear HL
  rintro k0 ⟨v2, v3⟩ H
  cases k0 with
  | zero => cases H
  | succ k0 =>
  try dsimp only at H ⊢
  refine w_seq' ?_
  refine w_seq' ?_
  refine w_reg ?_
  refine seq_cons (lw_run rfl rfl (la_mvs (.inl rfl) rfl rfl rfl)) ?_
  refine seq_cons (lw_run rfl rfl (r_mvr (.inl rfl) rfl rfl rfl rfl)) ?_
  refine seq_cons (lw_run rfl rfl (la_len rfl rfl rfl Try.underlying22 rfl)) ?_
  refine seq_cons (lw_run rfl rfl (la_bin rfl rfl rfl rfl rfl rfl)) ?_
  refine w_end ?_
  refine w_nx ?_
  refine w_cond rfl (fun hb => ?_) (fun hb => ?_)
  · replace H := bif_t H hb
    refine w_skip ?_
    refine w_nx ?_
    refine w_seq' ?_
    refine w_block ?_
    refine w_reg ?_
    refine seq_cons (lw_run rfl rfl (la_eq (.inl rfl) rfl rfl rfl (.inl rfl) rfl)) ?_
    refine seq_cons (lw_run rfl rfl (la_mvs (.inl rfl) rfl rfl rfl)) ?_
    refine seq_cons (lw_run rfl rfl (r_mvr (.inl rfl) rfl rfl rfl rfl)) ?_
    refine seq_cons (lw_run rfl rfl (la_mvs (.inl rfl) rfl rfl rfl)) ?_
    obtain ⟨z4, hz4, H⟩ := bnd H
    refine seq_cons (lw_run rfl rfl (r_ix rfl rfl rfl e22 rfl rfl hz4 rfl)) ?_
    refine seq_cons (lw_run rfl rfl (r_ld rfl rfl rfl fl3 rfl rfl)) ?_
    obtain ⟨z5, hz5, H⟩ := bnd H
    refine seq_cons (lw_run rfl rfl (r_eixs rfl rfl rfl e22 rfl rfl hz5 rfl)) ?_
    refine seq_cons (lw_run rfl rfl (r_ste rfl rfl sz3 so3 rfl hz5 rfl (l3 _) rfl rfl rfl)) ?_
    refine w_end ?_
    refine q_nb ?_
    refine w_nx ?_
    refine w_reg ?_
    refine seq_cons (lw_run rfl rfl (la_mvs (.inl rfl) rfl rfl rfl)) ?_
    refine seq_cons (lw_run rfl rfl (la_bin rfl rfl rfl rfl rfl rfl)) ?_
    refine seq_cons (lw_run rfl rfl (la_mvs (.inr rfl) rfl rfl rfl)) ?_
    refine w_end ?_
    refine q_nt ?_
    exact fun a w h => ⟨k0, (z5, (IntKind.i64.wrap (v3 + 1))), Nat.lt_succ_self k0, H, h.weaken (has_le ⟨rfl, rfl, rfl, rfl, trivial⟩)⟩
  · replace H := bif_f H hb
    refine w_exit ?_
    refine q_et ?_
    refine q_et ?_
    refine q_in ?_
    cases H
    have H := HC0
    clear HC0
    try dsimp only at H
    refine w_nx ?_
    refine w_seq' ?_
    refine w_reg ?_
    refine seq_cons (lw_run rfl rfl (la_mvo (.inl rfl) rfl rfl rfl rfl rfl)) ?_
    refine seq_cons (lw_run rfl rfl (la_mvo (.inr rfl) rfl rfl rfl rfl rfl)) ?_
    refine w_end ?_
    refine w_nx ?_
    cases H
    exact w_ret (fun a w h => fin_one h rfl (.tmp rfl rfl) trivial)
/- loop.example/g00844/laws.toIntSS -/
def F37_L0 (kf : Nat) (a0 : (List (List Int))) (z1 : (List (List Int))) : Nat → (List (List Int)) → Int → Option (Ex (List (List Int)) ((List (List Int)) × Int))
  | 0, _, _ => none
  | k + 1, v2, v3 =>
  (bif (decide (v3 < (a0.length : Int))) then
  (ix a0 v3).bind (fun z4 => (F9 kf z4).bind (fun y5 => (stx v2 v3 y5).bind (fun z6 => F37_L0 kf a0 z1 k z6 (IntKind.i64.wrap (v3 + 1)))))
  else some (.go (v2, v3)))
def F37 (kf : Nat) (a0 : (List (List Int))) : Option (List (List Int)) :=
  (mkx (a0.length : Int) ([] : (List Int))).bind (fun z1 => (F37_L0 kf a0 z1 kf z1 0).bind (fun o => match o with
  | .ret r => some r
  | .go (v2, v3) => some v2))
theorem r37 (kf : Nat) (a0 : (List (List Int))) (R : (List (List Int))) (H : F37 kf a0 = some R) : Ret Try.prog 37 23 [.d (.one (.sl false 22 (a0.map (c22 false))))] [] (.d (.one (.sl true 22 (R.map (c22 true))))) [] := by
  refine ret_of Try.func37 rfl rfl (by kernel_rfl) rfl ?_
  intro fr a' w' hn
  obtain ⟨w0, M, Z0, n, γ⟩ := fr
  simp only at hn
  subst hn
  revert a' w'
  show W _ _ _ _ _
  refine w_seq' ?_
  refine w_reg ?_
  refine seq_cons (lw_run rfl rfl (r_nil true 22 (c22 true) (.inr rfl) rfl rfl)) ?_
  refine w_end ?_
  refine w_nx ?_
  refine w_seq' ?_
  refine w_reg ?_
  refine seq_cons (lw_run rfl rfl (r_mvr (.inl rfl) rfl rfl rfl rfl)) ?_
  refine seq_cons (lw_run rfl rfl (la_len rfl rfl rfl Try.underlying52 rfl)) ?_
  obtain ⟨z1, hz1, H⟩ := bnd H
  refine seq_cons (lw_run rfl rfl (r_mk rfl rfl rfl e52 (z22 true) rfl rfl rfl hz1)) ?_
  refine seq_cons (lw_run rfl rfl (la_mvo (.inr rfl) rfl rfl rfl rfl rfl)) ?_
  refine w_end ?_
  refine w_nx ?_
  refine w_seq' ?_
  refine w_seq' ?_
  refine w_reg ?_
  refine seq_cons (lw_run rfl rfl (la_mvs (.inr rfl) rfl rfl rfl)) ?_
  refine w_end ?_
  refine w_nx ?_
  refine w_block ?_
  obtain ⟨out0, HL, HC0⟩ := bnd H
  clear H
  refine w_weak (Γ' := (fun s : (List (List Int)) × Int => mk [(0, .d (.one (.sl false 22 (a0.map (c22 false))))), (2, .d (.one (.sl true 22 (([]).map (c22 true))))), (3, .d (.one (.sl true 22 (s.1.map (c22 true))))), (4, .d (iv s.2))]) (z1, 0)) (w_loop (σ := (List (List Int)) × Int) (fun s => mk [(0, .d (.one (.sl false 22 (a0.map (c22 false))))), (2, .d (.one (.sl true 22 (([]).map (c22 true))))), (3, .d (.one (.sl true 22 (s.1.map (c22 true))))), (4, .d (iv s.2))]) (fun k s => F37_L0 kf a0 z1 k s.1 s.2 = some out0) kf (z1, 0) HL ?_) (has_le ⟨rfl, rfl, rfl, rfl, trivial⟩)
  clear HL
  rintro k0 ⟨v2, v3⟩ H
  cases k0 with
  | zero => cases H
  | succ k0 =>
  try dsimp only at H ⊢
  refine w_seq' ?_
  refine w_seq' ?_
  refine w_reg ?_
  refine seq_cons (lw_run rfl rfl (la_mvs (.inl rfl) rfl rfl rfl)) ?_
  refine seq_cons (lw_run rfl rfl (r_mvr (.inl rfl) rfl rfl rfl rfl)) ?_
  refine seq_cons (lw_run rfl rfl (la_len rfl rfl rfl Try.underlying52 rfl)) ?_
  refine seq_cons (lw_run rfl rfl (la_bin rfl rfl rfl rfl rfl rfl)) ?_
  refine w_end ?_
  refine w_nx ?_
  refine w_cond rfl (fun hb => ?_) (fun hb => ?_)
  · replace H := bif_t H hb
    refine w_skip ?_
    refine w_nx ?_
    refine w_seq' ?_
    refine w_block ?_
    refine w_reg ?_
    refine seq_cons (lw_run rfl rfl (la_eq (.inl rfl) rfl rfl rfl (.inl rfl) rfl)) ?_
    refine seq_cons (lw_run rfl rfl (la_mvs (.inl rfl) rfl rfl rfl)) ?_
    refine seq_cons (lw_run rfl rfl (r_mvr (.inl rfl) rfl rfl rfl rfl)) ?_
    refine seq_cons (lw_run rfl rfl (la_mvs (.inl rfl) rfl rfl rfl)) ?_
    obtain ⟨z4, hz4, H⟩ := bnd H
    refine seq_cons (lw_run rfl rfl (r_ix rfl rfl rfl e52 rfl rfl hz4 rfl)) ?_
    refine seq_cons (lw_run rfl rfl (r_ld rfl rfl rfl fl22 rfl rfl)) ?_
    obtain ⟨y5, hy5, H⟩ := bnd H
    refine seq_cons (lw_run rfl rfl (la_call [] [] rfl rfl rfl rfl (r9 kf z4 _ hy5) rfl rfl rfl rfl rfl rfl rfl (by simp) rfl (.inl rfl))) ?_
    obtain ⟨z6, hz6, H⟩ := bnd H
    refine seq_cons (lw_run rfl rfl (r_eixs rfl rfl rfl e52 rfl rfl hz6 rfl)) ?_
    refine seq_cons (lw_run rfl rfl (r_ste rfl rfl sz22 so22 rfl hz6 rfl (l22 _) rfl rfl rfl)) ?_
    refine w_end ?_
    refine q_nb ?_
    refine w_nx ?_
    refine w_reg ?_
    refine seq_cons (lw_run rfl rfl (la_mvs (.inl rfl) rfl rfl rfl)) ?_
    refine seq_cons (lw_run rfl rfl (la_bin rfl rfl rfl rfl rfl rfl)) ?_
    refine seq_cons (lw_run rfl rfl (la_mvs (.inr rfl) rfl rfl rfl)) ?_
    refine w_end ?_
    refine q_nt ?_
    exact fun a w h => ⟨k0, (z6, (IntKind.i64.wrap (v3 + 1))), Nat.lt_succ_self k0, H, h.weaken (has_le ⟨rfl, rfl, rfl, rfl, trivial⟩)⟩
  · replace H := bif_f H hb
    refine w_exit ?_
    refine q_et ?_
    refine q_et ?_
    refine q_in ?_
    cases H
    have H := HC0
    clear HC0
    try dsimp only at H
    refine w_nx ?_
    refine w_seq' ?_
    refine w_reg ?_
    refine seq_cons (lw_run rfl rfl (la_mvo (.inl rfl) rfl rfl rfl rfl rfl)) ?_
    refine seq_cons (lw_run rfl rfl (la_mvo (.inr rfl) rfl rfl rfl rfl rfl)) ?_
    refine w_end ?_
    refine w_nx ?_
    cases H
    exact w_ret (fun a w h => fin_one h rfl (.tmp rfl rfl) trivial)
/- loop.example/g00844/laws.toIntSSS -/
def F18_L0 (kf : Nat) (a0 : (List (List (List Int)))) (z1 : (List (List (List Int)))) : Nat → (List (List (List Int))) → Int → Option (Ex (List (List (List Int))) ((List (List (List Int))) × Int))
  | 0, _, _ => none
  | k + 1, v2, v3 =>
  (bif (decide (v3 < (a0.length : Int))) then
  (ix a0 v3).bind (fun z4 => (F37 kf z4).bind (fun y5 => (stx v2 v3 y5).bind (fun z6 => F18_L0 kf a0 z1 k z6 (IntKind.i64.wrap (v3 + 1)))))
  else some (.go (v2, v3)))
def F18 (kf : Nat) (a0 : (List (List (List Int)))) : Option (List (List (List Int))) :=
  (mkx (a0.length : Int) ([] : (List (List Int)))).bind (fun z1 => (F18_L0 kf a0 z1 kf z1 0).bind (fun o => match o with
  | .ret r => some r
  | .go (v2, v3) => some v2))
theorem r18 (kf : Nat) (a0 : (List (List (List Int)))) (R : (List (List (List Int)))) (H : F18 kf a0 = some R) : Ret Try.prog 18 23 [.d (.one (.sl false 52 (a0.map (c52 false))))] [] (.d (.one (.sl true 52 (R.map (c52 true))))) [] := by
  refine ret_of Try.func18 rfl rfl (by kernel_rfl) rfl ?_
  intro fr a' w' hn
  obtain ⟨w0, M, Z0, n, γ⟩ := fr
  simp only at hn
  subst hn
  revert a' w'
  show W _ _ _ _ _
  refine w_seq' ?_
  refine w_reg ?_
  refine seq_cons (lw_run rfl rfl (r_nil true 52 (c52 true) (.inr rfl) rfl rfl)) ?_
  refine w_end ?_
  refine w_nx ?_
  refine w_seq' ?_
  refine w_reg ?_
  refine seq_cons (lw_run rfl rfl (r_mvr (.inl rfl) rfl rfl rfl rfl)) ?_
  refine seq_cons (lw_run rfl rfl (la_len rfl rfl rfl Try.underlying29 rfl)) ?_
  obtain ⟨z1, hz1, H⟩ := bnd H
  refine seq_cons (lw_run rfl rfl (r_mk rfl rfl rfl e29 (z52 true) rfl rfl rfl hz1)) ?_
  refine seq_cons (lw_run rfl rfl (la_mvo (.inr rfl) rfl rfl rfl rfl rfl)) ?_
  refine w_end ?_
  refine w_nx ?_
  refine w_seq' ?_
  refine w_seq' ?_
  refine w_reg ?_
  refine seq_cons (lw_run rfl rfl (la_mvs (.inr rfl) rfl rfl rfl)) ?_
  refine w_end ?_
  refine w_nx ?_
  refine w_block ?_
  obtain ⟨out0, HL, HC0⟩ := bnd H
  clear H
  refine w_weak (Γ' := (fun s : (List (List (List Int))) × Int => mk [(0, .d (.one (.sl false 52 (a0.map (c52 false))))), (2, .d (.one (.sl true 52 (([]).map (c52 true))))), (3, .d (.one (.sl true 52 (s.1.map (c52 true))))), (4, .d (iv s.2))]) (z1, 0)) (w_loop (σ := (List (List (List Int))) × Int) (fun s => mk [(0, .d (.one (.sl false 52 (a0.map (c52 false))))), (2, .d (.one (.sl true 52 (([]).map (c52 true))))), (3, .d (.one (.sl true 52 (s.1.map (c52 true))))), (4, .d (iv s.2))]) (fun k s => F18_L0 kf a0 z1 k s.1 s.2 = some out0) kf (z1, 0) HL ?_) (has_le ⟨rfl, rfl, rfl, rfl, trivial⟩)
  clear HL
  rintro k0 ⟨v2, v3⟩ H
  cases k0 with
  | zero => cases H
  | succ k0 =>
  try dsimp only at H ⊢
  refine w_seq' ?_
  refine w_seq' ?_
  refine w_reg ?_
  refine seq_cons (lw_run rfl rfl (la_mvs (.inl rfl) rfl rfl rfl)) ?_
  refine seq_cons (lw_run rfl rfl (r_mvr (.inl rfl) rfl rfl rfl rfl)) ?_
  refine seq_cons (lw_run rfl rfl (la_len rfl rfl rfl Try.underlying29 rfl)) ?_
  refine seq_cons (lw_run rfl rfl (la_bin rfl rfl rfl rfl rfl rfl)) ?_
  refine w_end ?_
  refine w_nx ?_
  refine w_cond rfl (fun hb => ?_) (fun hb => ?_)
  · replace H := bif_t H hb
    refine w_skip ?_
    refine w_nx ?_
    refine w_seq' ?_
    refine w_block ?_
    refine w_reg ?_
    refine seq_cons (lw_run rfl rfl (la_eq (.inl rfl) rfl rfl rfl (.inl rfl) rfl)) ?_
    refine seq_cons (lw_run rfl rfl (la_mvs (.inl rfl) rfl rfl rfl)) ?_
    refine seq_cons (lw_run rfl rfl (r_mvr (.inl rfl) rfl rfl rfl rfl)) ?_
    refine seq_cons (lw_run rfl rfl (la_mvs (.inl rfl) rfl rfl rfl)) ?_
    obtain ⟨z4, hz4, H⟩ := bnd H
    refine seq_cons (lw_run rfl rfl (r_ix rfl rfl rfl e29 rfl rfl hz4 rfl)) ?_
    refine seq_cons (lw_run rfl rfl (r_ld rfl rfl rfl fl52 rfl rfl)) ?_
    obtain ⟨y5, hy5, H⟩ := bnd H
    refine seq_cons (lw_run rfl rfl (la_call [] [] rfl rfl rfl rfl (r37 kf z4 _ hy5) rfl rfl rfl rfl rfl rfl rfl (by simp) rfl (.inl rfl))) ?_
    obtain ⟨z6, hz6, H⟩ := bnd H
    refine seq_cons (lw_run rfl rfl (r_eixs rfl rfl rfl e29 rfl rfl hz6 rfl)) ?_
    refine seq_cons (lw_run rfl rfl (r_ste rfl rfl sz52 so52 rfl hz6 rfl (l52 _) rfl rfl rfl)) ?_
    refine w_end ?_
    refine q_nb ?_
    refine w_nx ?_
    refine w_reg ?_
    refine seq_cons (lw_run rfl rfl (la_mvs (.inl rfl) rfl rfl rfl)) ?_
    refine seq_cons (lw_run rfl rfl (la_bin rfl rfl rfl rfl rfl rfl)) ?_
    refine seq_cons (lw_run rfl rfl (la_mvs (.inr rfl) rfl rfl rfl)) ?_
    refine w_end ?_
    refine q_nt ?_
    exact fun a w h => ⟨k0, (z6, (IntKind.i64.wrap (v3 + 1))), Nat.lt_succ_self k0, H, h.weaken (has_le ⟨rfl, rfl, rfl, rfl, trivial⟩)⟩
  · replace H := bif_f H hb
    refine w_exit ?_
    refine q_et ?_
    refine q_et ?_
    refine q_in ?_
    cases H
    have H := HC0
    clear HC0
    try dsimp only at H
    refine w_nx ?_
    refine w_seq' ?_
    refine w_reg ?_
    refine seq_cons (lw_run rfl rfl (la_mvo (.inl rfl) rfl rfl rfl rfl rfl)) ?_
    refine seq_cons (lw_run rfl rfl (la_mvo (.inr rfl) rfl rfl rfl rfl rfl)) ?_
    refine w_end ?_
    refine w_nx ?_
    cases H
    exact w_ret (fun a w h => fin_one h rfl (.tmp rfl rfl) trivial)
/- loop.example/g00844/impl.CountRows -/
def F19_L0 (kf : Nat) (a0 : (List (List (List Int)))) : Nat → Int → Int → Option (Ex Int (Int × Int))
  | 0, _, _ => none
  | k + 1, v1, v2 =>
  (bif (decide (v2 < (a0.length : Int))) then
  (ix a0 v2).bind (fun z3 => F19_L0 kf a0 k (IntKind.i64.wrap (v1 + (z3.length : Int))) (IntKind.i64.wrap (v2 + 1)))
  else some (.go (v1, v2)))
def F19 (kf : Nat) (a0 : (List (List (List Int)))) : Option Int :=
  (F19_L0 kf a0 kf 0 0).bind (fun o => match o with
  | .ret r => some r
  | .go (v1, v2) => some v1)
theorem r19 (kf : Nat) (a0 : (List (List (List Int)))) (R : Int) (H : F19 kf a0 = some R) : Ret Try.prog 19 18 [.d (.one (.sl false 52 (a0.map (c52 false))))] [] (.d (iv R)) [] := by
  refine ret_of Try.func19 rfl rfl (by kernel_rfl) rfl ?_
  intro fr a' w' hn
  obtain ⟨w0, M, Z0, n, γ⟩ := fr
  simp only at hn
  subst hn
  revert a' w'
  show W _ _ _ _ _
  refine w_seq' ?_
  refine w_reg ?_
  refine seq_cons (lw_run rfl rfl (la_mvs (.inr rfl) rfl rfl rfl)) ?_
  refine w_end ?_
  refine w_nx ?_
  refine w_seq' ?_
  refine w_reg ?_
  refine seq_cons (lw_run rfl rfl (la_mvs (.inr rfl) rfl rfl rfl)) ?_
  refine w_end ?_
  refine w_nx ?_
  refine w_seq' ?_
  refine w_seq' ?_
  refine w_reg ?_
  refine seq_cons (lw_run rfl rfl (r_mvr (.inl rfl) rfl rfl rfl rfl)) ?_
  refine seq_cons (lw_run rfl rfl (la_len rfl rfl rfl Try.underlying29 rfl)) ?_
  refine seq_cons (lw_run rfl rfl (la_mvs (.inl rfl) rfl rfl rfl)) ?_
  refine w_end ?_
  refine w_nx ?_
  refine w_block ?_
  obtain ⟨out0, HL, HC0⟩ := bnd H
  clear H
  refine w_weak (Γ' := (fun s : Int × Int => mk [(2, .d (iv 0)), (6, .d (.one (.sl false 52 (a0.map (c52 false))))), (7, .d (iv (a0.length : Int))), (3, .d (iv s.1)), (8, .d (iv s.2))]) (0, 0)) (w_loop (σ := Int × Int) (fun s => mk [(2, .d (iv 0)), (6, .d (.one (.sl false 52 (a0.map (c52 false))))), (7, .d (iv (a0.length : Int))), (3, .d (iv s.1)), (8, .d (iv s.2))]) (fun k s => F19_L0 kf a0 k s.1 s.2 = some out0) kf (0, 0) HL ?_) (has_le ⟨rfl, rfl, rfl, rfl, rfl, trivial⟩)
  clear HL
  rintro k0 ⟨v1, v2⟩ H
  cases k0 with
  | zero => cases H
  | succ k0 =>
  try dsimp only at H ⊢
  refine w_seq' ?_
  refine w_reg ?_
  refine seq_cons (lw_run rfl rfl (la_bin rfl rfl rfl rfl rfl rfl)) ?_
  refine w_end ?_
  refine w_nx ?_
  refine w_seq' ?_
  refine w_cond rfl (fun hb => ?_) (fun hb => ?_)
  · replace H := bif_t H hb
    refine w_skip ?_
    refine w_nx ?_
    refine w_seq' ?_
    refine w_block ?_
    refine w_seq' ?_
    refine w_reg ?_
    obtain ⟨z3, hz3, H⟩ := bnd H
    refine seq_cons (lw_run rfl rfl (r_ix rfl rfl rfl e29 rfl rfl hz3 rfl)) ?_
    refine seq_cons (lw_run rfl rfl (r_ld rfl rfl rfl fl52 rfl rfl)) ?_
    refine seq_cons (lw_run rfl rfl (r_mvr (.inr rfl) rfl rfl rfl rfl)) ?_
    refine w_end ?_
    refine w_nx ?_
    refine w_reg ?_
    refine seq_cons (lw_run rfl rfl (la_mvs (.inl rfl) rfl rfl rfl)) ?_
    refine seq_cons (lw_run rfl rfl (r_mvr (.inl rfl) rfl rfl rfl rfl)) ?_
    refine seq_cons (lw_run rfl rfl (la_len rfl rfl rfl Try.underlying52 rfl)) ?_
    refine seq_cons (lw_run rfl rfl (la_bin rfl rfl rfl rfl rfl rfl)) ?_
    refine seq_cons (lw_run rfl rfl (la_mvs (.inr rfl) rfl rfl rfl)) ?_
    refine w_end ?_
    refine q_nb ?_
    refine w_nx ?_
    refine w_reg ?_
    refine seq_cons (lw_run rfl rfl (la_bin rfl rfl rfl rfl rfl rfl)) ?_
    refine seq_cons (lw_run rfl rfl (la_mvs (.inl rfl) rfl rfl rfl)) ?_
    refine w_end ?_
    refine q_nt ?_
    exact fun a w h => ⟨k0, ((IntKind.i64.wrap (v1 + (z3.length : Int))), (IntKind.i64.wrap (v2 + 1))), Nat.lt_succ_self k0, H, h.weaken (has_le ⟨rfl, rfl, rfl, rfl, rfl, trivial⟩)⟩
  · replace H := bif_f H hb
    refine w_exit ?_
    refine q_et ?_
    refine q_et ?_
    refine q_in ?_
    cases H
    have H := HC0
    clear HC0
    try dsimp only at H
    refine w_nx ?_
    refine w_seq' ?_
    refine w_reg ?_
    refine seq_cons (lw_run rfl rfl (la_mvs (.inl rfl) rfl rfl rfl)) ?_
    refine seq_cons (lw_run rfl rfl (la_mvs (.inr rfl) rfl rfl rfl)) ?_
    refine w_end ?_
    refine w_nx ?_
    cases H
    exact w_ret (fun a w h => fin_one h rfl (.tmp rfl rfl) trivial)
/- loop.example/g00844/laws.eqIntS -/
def F11_L0 (kf : Nat) (a0 : (List Int)) (a1 : (List Int)) : Nat → Int → Option (Ex Bool Int)
  | 0, _ => none
  | k + 1, v1 =>
  (bif (decide (v1 < (a0.length : Int))) then
  (ix a0 v1).bind (fun z2 => (ix a1 v1).bind (fun z3 => (bif (z2 != z3) then
  some (.ret false)
  else F11_L0 kf a0 a1 k (IntKind.i64.wrap (v1 + 1)))))
  else some (.go v1))
def F11 (kf : Nat) (a0 : (List Int)) (a1 : (List Int)) : Option Bool :=
  (bif ((a0.length : Int) != (a1.length : Int)) then
  some false
  else (F11_L0 kf a0 a1 kf 0).bind (fun o => match o with
  | .ret r => some r
  | .go v1 => some true))
theorem r11 (kf : Nat) (a0 : (List Int)) (a1 : (List Int)) (R : Bool) (H : F11 kf a0 a1 = some R) : Ret Try.prog 11 26 [.d (.one (.sl false 3 (a0.map (c3 false)))), .d (.one (.sl false 3 (a1.map (c3 false))))] [] (.d (bv R)) [] := by
  refine ret_of Try.func11 rfl rfl (by kernel_rfl) rfl ?_
  intro fr a' w' hn
  obtain ⟨w0, M, Z0, n, γ⟩ := fr
  simp only at hn
  subst hn
  revert a' w'
  show W _ _ _ _ _
  refine w_seq' ?_
  refine w_reg ?_
  refine seq_cons (lw_run rfl rfl (la_mvs (.inr rfl) rfl rfl rfl)) ?_
  refine w_end ?_
  refine w_nx ?_
  refine w_seq' ?_
  refine w_seq' ?_
  refine w_reg ?_
  refine seq_cons (lw_run rfl rfl (r_mvr (.inl rfl) rfl rfl rfl rfl)) ?_
  refine seq_cons (lw_run rfl rfl (la_len rfl rfl rfl Try.underlying22 rfl)) ?_
  refine seq_cons (lw_run rfl rfl (r_mvr (.inl rfl) rfl rfl rfl rfl)) ?_
  refine seq_cons (lw_run rfl rfl (la_len rfl rfl rfl Try.underlying22 rfl)) ?_
  refine seq_cons (lw_run rfl rfl (la_bin rfl rfl rfl rfl rfl rfl)) ?_
  refine w_end ?_
  refine w_nx ?_
  refine w_cond rfl (fun hb => ?_) (fun hb => ?_)
  · replace H := bif_t H hb
    refine w_seq' ?_
    refine w_reg ?_
    refine seq_cons (lw_run rfl rfl (la_mvs (.inr rfl) rfl rfl rfl)) ?_
    refine w_end ?_
    refine w_nx ?_
    cases H
    exact w_ret (fun a w h => fin_one h rfl (.tmp rfl rfl) trivial)
  · replace H := bif_f H hb
    refine w_skip ?_
    refine w_nx ?_
    refine w_seq' ?_
    refine w_seq' ?_
    refine w_reg ?_
    refine seq_cons (lw_run rfl rfl (la_mvs (.inr rfl) rfl rfl rfl)) ?_
    refine w_end ?_
    refine w_nx ?_
    refine w_block ?_
    obtain ⟨out0, HL, HC0⟩ := bnd H
    clear H
    refine w_weak (Γ' := (fun s : Int => mk [(0, .d (.one (.sl false 3 (a0.map (c3 false))))), (1, .d (.one (.sl false 3 (a1.map (c3 false))))), (5, .d (iv s))]) 0) (w_loop (σ := Int) (fun s => mk [(0, .d (.one (.sl false 3 (a0.map (c3 false))))), (1, .d (.one (.sl false 3 (a1.map (c3 false))))), (5, .d (iv s))]) (fun k s => F11_L0 kf a0 a1 k s = some out0) kf 0 HL ?_) (has_le ⟨rfl, rfl, rfl, trivial⟩)
    clear HL
    rintro k0 v1 H
    cases k0 with
    | zero => cases H
    | succ k0 =>
    try dsimp only at H ⊢
    refine w_seq' ?_
    refine w_seq' ?_
    refine w_reg ?_
    refine seq_cons (lw_run rfl rfl (la_mvs (.inl rfl) rfl rfl rfl)) ?_
    refine seq_cons (lw_run rfl rfl (r_mvr (.inl rfl) rfl rfl rfl rfl)) ?_
    refine seq_cons (lw_run rfl rfl (la_len rfl rfl rfl Try.underlying22 rfl)) ?_
    refine seq_cons (lw_run rfl rfl (la_bin rfl rfl rfl rfl rfl rfl)) ?_
    refine w_end ?_
    refine w_nx ?_
    refine w_cond rfl (fun hb => ?_) (fun hb => ?_)
    · replace H := bif_t H hb
      refine w_skip ?_
      refine w_nx ?_
      refine w_seq' ?_
      refine w_block ?_
      refine w_seq' ?_
      obtain ⟨z2, hz2, H⟩ := bnd H
      obtain ⟨z3, hz3, H⟩ := bnd H
      refine w_drawn [⟨[(0, .d (.one (.sl false 3 (a0.map (c3 false)))))], _, []⟩, ⟨[(5, .d (iv v1))], _, []⟩, ⟨[(17, .d (.one (.sl false 3 (a0.map (c3 false))))), (18, .d (iv v1))], _, [0, 1]⟩, ⟨[(19, .sp none (c3 false z2))], _, [0, 1, 2]⟩, ⟨[(1, .d (.one (.sl false 3 (a1.map (c3 false)))))], _, []⟩, ⟨[(5, .d (iv v1))], _, []⟩, ⟨[(21, .d (.one (.sl false 3 (a1.map (c3 false))))), (22, .d (iv v1))], _, [4, 5]⟩, ⟨[(23, .sp none (c3 false z3))], _, [4, 5, 6]⟩, ⟨[(20, .d (iv z2)), (24, .d (iv z3))], _, [0, 1, 2, 3, 4, 5, 6, 7]⟩] [(0, .d (.one (.sl false 3 (a0.map (c3 false))))), (1, .d (.one (.sl false 3 (a1.map (c3 false))))), (5, .d (iv v1)), (11, .d (iv v1)), (12, .d (.one (.sl false 3 (a0.map (c3 false))))), (13, .d (iv (a0.length : Int))), (14, .d (bv (decide (v1 < (a0.length : Int))))), (17, .d (.one (.sl false 3 (a0.map (c3 false))))), (18, .d (iv v1)), (20, .d (iv z2)), (21, .d (.one (.sl false 3 (a1.map (c3 false))))), (22, .d (iv v1)), (24, .d (iv z3)), (25, .d (bv (z2 != z3)))] mixed ⟨lw_run rfl rfl (r_mvr (.inl rfl) rfl rfl rfl rfl), lw_run rfl rfl (la_mvs (.inl rfl) rfl rfl rfl), lw_run rfl rfl (r_ix rfl rfl rfl e22 rfl rfl hz2 rfl), lw_run rfl rfl (r_ld rfl rfl rfl fl3 rfl rfl), lw_run rfl rfl (r_mvr (.inl rfl) rfl rfl rfl rfl), lw_run rfl rfl (la_mvs (.inl rfl) rfl rfl rfl), lw_run rfl rfl (r_ix rfl rfl rfl e22 rfl rfl hz3 rfl), lw_run rfl rfl (r_ld rfl rfl rfl fl3 rfl rfl), lw_run rfl rfl (la_bin rfl rfl rfl rfl rfl rfl), trivial⟩ ⟨⟨.inl ⟨rfl, rfl⟩, trivial⟩, ⟨.inl ⟨rfl, rfl⟩, trivial⟩, ⟨.inr ⟨0, _, rfl, rfl, rfl, rfl⟩, .inr ⟨1, _, rfl, rfl, rfl, rfl⟩, trivial⟩, ⟨.inr ⟨2, _, rfl, rfl, rfl, rfl⟩, trivial⟩, ⟨.inl ⟨rfl, rfl⟩, trivial⟩, ⟨.inl ⟨rfl, rfl⟩, trivial⟩, ⟨.inr ⟨4, _, rfl, rfl, rfl, rfl⟩, .inr ⟨5, _, rfl, rfl, rfl, rfl⟩, trivial⟩, ⟨.inr ⟨6, _, rfl, rfl, rfl, rfl⟩, trivial⟩, ⟨.inr ⟨3, _, rfl, rfl, rfl, rfl⟩, .inr ⟨7, _, rfl, rfl, rfl, rfl⟩, trivial⟩, trivial⟩ rfl rfl ⟨.inl ⟨rfl, rfl⟩, .inl ⟨rfl, rfl⟩, .inl ⟨rfl, rfl⟩, .inl ⟨rfl, rfl⟩, .inl ⟨rfl, rfl⟩, .inl ⟨rfl, rfl⟩, .inl ⟨rfl, rfl⟩, .inr ⟨0, _, rfl, rfl, rfl⟩, .inr ⟨1, _, rfl, rfl, rfl⟩, .inr ⟨3, _, rfl, rfl, rfl⟩, .inr ⟨4, _, rfl, rfl, rfl⟩, .inr ⟨5, _, rfl, rfl, rfl⟩, .inr ⟨7, _, rfl, rfl, rfl⟩, .inr ⟨8, _, rfl, rfl, rfl⟩, trivial⟩ ?_
      refine w_nx ?_
      refine w_cond rfl (fun hb => ?_) (fun hb => ?_)
      · replace H := bif_t H hb
        refine w_seq' ?_
        refine w_reg ?_
        refine seq_cons (lw_run rfl rfl (la_mvs (.inr rfl) rfl rfl rfl)) ?_
        refine w_end ?_
        refine w_nx ?_
        cases H
        try dsimp only at HC0
        cases HC0
        exact w_ret (fun a w h => fin_one h rfl (.tmp rfl rfl) trivial)
      · replace H := bif_f H hb
        refine w_skip ?_
        refine q_nb ?_
        refine w_nx ?_
        refine w_reg ?_
        refine seq_cons (lw_run rfl rfl (la_mvs (.inl rfl) rfl rfl rfl)) ?_
        refine seq_cons (lw_run rfl rfl (la_bin rfl rfl rfl rfl rfl rfl)) ?_
        refine seq_cons (lw_run rfl rfl (la_mvs (.inr rfl) rfl rfl rfl)) ?_
        refine w_end ?_
        refine q_nt ?_
        exact fun a w h => ⟨k0, (IntKind.i64.wrap (v1 + 1)), Nat.lt_succ_self k0, H, h.weaken (has_le ⟨rfl, rfl, rfl, trivial⟩)⟩
    · replace H := bif_f H hb
      refine w_exit ?_
      refine q_et ?_
      refine q_et ?_
      refine q_in ?_
      cases H
      have H := HC0
      clear HC0
      try dsimp only at H
      refine w_nx ?_
      refine w_seq' ?_
      refine w_reg ?_
      refine seq_cons (lw_run rfl rfl (la_mvs (.inr rfl) rfl rfl rfl)) ?_
      refine w_end ?_
      refine w_nx ?_
      cases H
      exact w_ret (fun a w h => fin_one h rfl (.tmp rfl rfl) trivial)
/- loop.example/g00844/laws.eqIntSS -/
def F38_L0 (kf : Nat) (a0 : (List (List Int))) (a1 : (List (List Int))) : Nat → Int → Option (Ex Bool Int)
  | 0, _ => none
  | k + 1, v1 =>
  (bif (decide (v1 < (a0.length : Int))) then
  (ix a0 v1).bind (fun z2 => (ix a1 v1).bind (fun z3 => (F11 kf z2 z3).bind (fun y4 => (bif (!y4) then
  some (.ret false)
  else F38_L0 kf a0 a1 k (IntKind.i64.wrap (v1 + 1))))))
  else some (.go v1))
def F38 (kf : Nat) (a0 : (List (List Int))) (a1 : (List (List Int))) : Option Bool :=
  (bif ((a0.length : Int) != (a1.length : Int)) then
  some false
  else (F38_L0 kf a0 a1 kf 0).bind (fun o => match o with
  | .ret r => some r
  | .go v1 => some true))
theorem r38 (kf : Nat) (a0 : (List (List Int))) (a1 : (List (List Int))) (R : Bool) (H : F38 kf a0 a1 = some R) : Ret Try.prog 38 27 [.d (.one (.sl false 22 (a0.map (c22 false)))), .d (.one (.sl false 22 (a1.map (c22 false))))] [] (.d (bv R)) [] := by
  refine ret_of Try.func38 rfl rfl (by kernel_rfl) rfl ?_
  intro fr a' w' hn
  obtain ⟨w0, M, Z0, n, γ⟩ := fr
  simp only at hn
  subst hn
  revert a' w'
  show W _ _ _ _ _
  refine w_seq' ?_
  refine w_reg ?_
  refine seq_cons (lw_run rfl rfl (la_mvs (.inr rfl) rfl rfl rfl)) ?_
  refine w_end ?_
  refine w_nx ?_
  refine w_seq' ?_
  refine w_seq' ?_
  refine w_reg ?_
  refine seq_cons (lw_run rfl rfl (r_mvr (.inl rfl) rfl rfl rfl rfl)) ?_
  refine seq_cons (lw_run rfl rfl (la_len rfl rfl rfl Try.underlying52 rfl)) ?_
  refine seq_cons (lw_run rfl rfl (r_mvr (.inl rfl) rfl rfl rfl rfl)) ?_
  refine seq_cons (lw_run rfl rfl (la_len rfl rfl rfl Try.underlying52 rfl)) ?_
  refine seq_cons (lw_run rfl rfl (la_bin rfl rfl rfl rfl rfl rfl)) ?_
  refine w_end ?_
  refine w_nx ?_
  refine w_cond rfl (fun hb => ?_) (fun hb => ?_)
  · replace H := bif_t H hb
    refine w_seq' ?_
    refine w_reg ?_
    refine seq_cons (lw_run rfl rfl (la_mvs (.inr rfl) rfl rfl rfl)) ?_
    refine w_end ?_
    refine w_nx ?_
    cases H
    exact w_ret (fun a w h => fin_one h rfl (.tmp rfl rfl) trivial)
  · replace H := bif_f H hb
    refine w_skip ?_
    refine w_nx ?_
    refine w_seq' ?_
    refine w_seq' ?_
    refine w_reg ?_
    refine seq_cons (lw_run rfl rfl (la_mvs (.inr rfl) rfl rfl rfl)) ?_
    refine w_end ?_
    refine w_nx ?_
    refine w_block ?_
    obtain ⟨out0, HL, HC0⟩ := bnd H
    clear H
    refine w_weak (Γ' := (fun s : Int => mk [(0, .d (.one (.sl false 22 (a0.map (c22 false))))), (1, .d (.one (.sl false 22 (a1.map (c22 false))))), (5, .d (iv s))]) 0) (w_loop (σ := Int) (fun s => mk [(0, .d (.one (.sl false 22 (a0.map (c22 false))))), (1, .d (.one (.sl false 22 (a1.map (c22 false))))), (5, .d (iv s))]) (fun k s => F38_L0 kf a0 a1 k s = some out0) kf 0 HL ?_) (has_le ⟨rfl, rfl, rfl, trivial⟩)
    clear HL
    rintro k0 v1 H
    cases k0 with
    | zero => cases H
    | succ k0 =>
    try dsimp only at H ⊢
    refine w_seq' ?_
    refine w_seq' ?_
    refine w_reg ?_
    refine seq_cons (lw_run rfl rfl (la_mvs (.inl rfl) rfl rfl rfl)) ?_
    refine seq_cons (lw_run rfl rfl (r_mvr (.inl rfl) rfl rfl rfl rfl)) ?_
    refine seq_cons (lw_run rfl rfl (la_len rfl rfl rfl Try.underlying52 rfl)) ?_
    refine seq_cons (lw_run rfl rfl (la_bin rfl rfl rfl rfl rfl rfl)) ?_
    refine w_end ?_
    refine w_nx ?_
    refine w_cond rfl (fun hb => ?_) (fun hb => ?_)
    · replace H := bif_t H hb
      refine w_skip ?_
      refine w_nx ?_
      refine w_seq' ?_
      refine w_block ?_
      refine w_seq' ?_
      obtain ⟨z2, hz2, H⟩ := bnd H
      obtain ⟨z3, hz3, H⟩ := bnd H
      obtain ⟨y4, hy4, H⟩ := bnd H
      refine w_drawn [⟨[(0, .d (.one (.sl false 22 (a0.map (c22 false)))))], _, []⟩, ⟨[(5, .d (iv v1))], _, []⟩, ⟨[(17, .d (.one (.sl false 22 (a0.map (c22 false))))), (18, .d (iv v1))], _, [0, 1]⟩, ⟨[(19, .sp none (c22 false z2))], _, [0, 1, 2]⟩, ⟨[(1, .d (.one (.sl false 22 (a1.map (c22 false)))))], _, []⟩, ⟨[(5, .d (iv v1))], _, []⟩, ⟨[(21, .d (.one (.sl false 22 (a1.map (c22 false))))), (22, .d (iv v1))], _, [4, 5]⟩, ⟨[(23, .sp none (c22 false z3))], _, [4, 5, 6]⟩, ⟨[(20, .d (.one (.sl false 3 (z2.map (c3 false))))), (24, .d (.one (.sl false 3 (z3.map (c3 false)))))], _, [0, 1, 2, 3, 4, 5, 6, 7]⟩, ⟨[(25, .d (bv y4))], _, [0, 1, 2, 3, 4, 5, 6, 7, 8]⟩] [(0, .d (.one (.sl false 22 (a0.map (c22 false))))), (1, .d (.one (.sl false 22 (a1.map (c22 false))))), (5, .d (iv v1)), (11, .d (iv v1)), (12, .d (.one (.sl false 22 (a0.map (c22 false))))), (13, .d (iv (a0.length : Int))), (14, .d (bv (decide (v1 < (a0.length : Int))))), (17, .d (.one (.sl false 22 (a0.map (c22 false))))), (18, .d (iv v1)), (20, .d (.one (.sl false 3 (z2.map (c3 false))))), (21, .d (.one (.sl false 22 (a1.map (c22 false))))), (22, .d (iv v1)), (24, .d (.one (.sl false 3 (z3.map (c3 false))))), (25, .d (bv y4)), (26, .d (bv (!y4)))] mixed ⟨lw_run rfl rfl (r_mvr (.inl rfl) rfl rfl rfl rfl), lw_run rfl rfl (la_mvs (.inl rfl) rfl rfl rfl), lw_run rfl rfl (r_ix rfl rfl rfl e52 rfl rfl hz2 rfl), lw_run rfl rfl (r_ld rfl rfl rfl fl22 rfl rfl), lw_run rfl rfl (r_mvr (.inl rfl) rfl rfl rfl rfl), lw_run rfl rfl (la_mvs (.inl rfl) rfl rfl rfl), lw_run rfl rfl (r_ix rfl rfl rfl e52 rfl rfl hz3 rfl), lw_run rfl rfl (r_ld rfl rfl rfl fl22 rfl rfl), lw_run rfl rfl (la_call [] [] rfl rfl rfl rfl (r11 kf z2 z3 _ hy4) rfl rfl rfl rfl rfl rfl rfl (by simp) rfl (.inl rfl)), lw_run rfl rfl (la_not rfl rfl rfl rfl), trivial⟩ ⟨⟨.inl ⟨rfl, rfl⟩, trivial⟩, ⟨.inl ⟨rfl, rfl⟩, trivial⟩, ⟨.inr ⟨0, _, rfl, rfl, rfl, rfl⟩, .inr ⟨1, _, rfl, rfl, rfl, rfl⟩, trivial⟩, ⟨.inr ⟨2, _, rfl, rfl, rfl, rfl⟩, trivial⟩, ⟨.inl ⟨rfl, rfl⟩, trivial⟩, ⟨.inl ⟨rfl, rfl⟩, trivial⟩, ⟨.inr ⟨4, _, rfl, rfl, rfl, rfl⟩, .inr ⟨5, _, rfl, rfl, rfl, rfl⟩, trivial⟩, ⟨.inr ⟨6, _, rfl, rfl, rfl, rfl⟩, trivial⟩, ⟨.inr ⟨3, _, rfl, rfl, rfl, rfl⟩, .inr ⟨7, _, rfl, rfl, rfl, rfl⟩, trivial⟩, ⟨.inr ⟨8, _, rfl, rfl, rfl, rfl⟩, trivial⟩, trivial⟩ rfl rfl ⟨.inl ⟨rfl, rfl⟩, .inl ⟨rfl, rfl⟩, .inl ⟨rfl, rfl⟩, .inl ⟨rfl, rfl⟩, .inl ⟨rfl, rfl⟩, .inl ⟨rfl, rfl⟩, .inl ⟨rfl, rfl⟩, .inr ⟨0, _, rfl, rfl, rfl⟩, .inr ⟨1, _, rfl, rfl, rfl⟩, .inr ⟨3, _, rfl, rfl, rfl⟩, .inr ⟨4, _, rfl, rfl, rfl⟩, .inr ⟨5, _, rfl, rfl, rfl⟩, .inr ⟨7, _, rfl, rfl, rfl⟩, .inr ⟨8, _, rfl, rfl, rfl⟩, .inr ⟨9, _, rfl, rfl, rfl⟩, trivial⟩ ?_
      refine w_nx ?_
      refine w_cond rfl (fun hb => ?_) (fun hb => ?_)
      · replace H := bif_t H hb
        refine w_seq' ?_
        refine w_reg ?_
        refine seq_cons (lw_run rfl rfl (la_mvs (.inr rfl) rfl rfl rfl)) ?_
        refine w_end ?_
        refine w_nx ?_
        cases H
        try dsimp only at HC0
        cases HC0
        exact w_ret (fun a w h => fin_one h rfl (.tmp rfl rfl) trivial)
      · replace H := bif_f H hb
        refine w_skip ?_
        refine q_nb ?_
        refine w_nx ?_
        refine w_reg ?_
        refine seq_cons (lw_run rfl rfl (la_mvs (.inl rfl) rfl rfl rfl)) ?_
        refine seq_cons (lw_run rfl rfl (la_bin rfl rfl rfl rfl rfl rfl)) ?_
        refine seq_cons (lw_run rfl rfl (la_mvs (.inr rfl) rfl rfl rfl)) ?_
        refine w_end ?_
        refine q_nt ?_
        exact fun a w h => ⟨k0, (IntKind.i64.wrap (v1 + 1)), Nat.lt_succ_self k0, H, h.weaken (has_le ⟨rfl, rfl, rfl, trivial⟩)⟩
    · replace H := bif_f H hb
      refine w_exit ?_
      refine q_et ?_
      refine q_et ?_
      refine q_in ?_
      cases H
      have H := HC0
      clear HC0
      try dsimp only at H
      refine w_nx ?_
      refine w_seq' ?_
      refine w_reg ?_
      refine seq_cons (lw_run rfl rfl (la_mvs (.inr rfl) rfl rfl rfl)) ?_
      refine w_end ?_
      refine w_nx ?_
      cases H
      exact w_ret (fun a w h => fin_one h rfl (.tmp rfl rfl) trivial)
/- loop.example/g00844/laws.eqIntSSS -/
def F20_L0 (kf : Nat) (a0 : (List (List (List Int)))) (a1 : (List (List (List Int)))) : Nat → Int → Option (Ex Bool Int)
  | 0, _ => none
  | k + 1, v1 =>
  (bif (decide (v1 < (a0.length : Int))) then
  (ix a0 v1).bind (fun z2 => (ix a1 v1).bind (fun z3 => (F38 kf z2 z3).bind (fun y4 => (bif (!y4) then
  some (.ret false)
  else F20_L0 kf a0 a1 k (IntKind.i64.wrap (v1 + 1))))))
  else some (.go v1))
def F20 (kf : Nat) (a0 : (List (List (List Int)))) (a1 : (List (List (List Int)))) : Option Bool :=
  (bif ((a0.length : Int) != (a1.length : Int)) then
  some false
  else (F20_L0 kf a0 a1 kf 0).bind (fun o => match o with
  | .ret r => some r
  | .go v1 => some true))
theorem r20 (kf : Nat) (a0 : (List (List (List Int)))) (a1 : (List (List (List Int)))) (R : Bool) (H : F20 kf a0 a1 = some R) : Ret Try.prog 20 27 [.d (.one (.sl false 52 (a0.map (c52 false)))), .d (.one (.sl false 52 (a1.map (c52 false))))] [] (.d (bv R)) [] := by
  refine ret_of Try.func20 rfl rfl (by kernel_rfl) rfl ?_
  intro fr a' w' hn
  obtain ⟨w0, M, Z0, n, γ⟩ := fr
  simp only at hn
  subst hn
  revert a' w'
  show W _ _ _ _ _
  refine w_seq' ?_
  refine w_reg ?_
  refine seq_cons (lw_run rfl rfl (la_mvs (.inr rfl) rfl rfl rfl)) ?_
  refine w_end ?_
  refine w_nx ?_
  refine w_seq' ?_
  refine w_seq' ?_
  refine w_reg ?_
  refine seq_cons (lw_run rfl rfl (r_mvr (.inl rfl) rfl rfl rfl rfl)) ?_
  refine seq_cons (lw_run rfl rfl (la_len rfl rfl rfl Try.underlying29 rfl)) ?_
  refine seq_cons (lw_run rfl rfl (r_mvr (.inl rfl) rfl rfl rfl rfl)) ?_
  refine seq_cons (lw_run rfl rfl (la_len rfl rfl rfl Try.underlying29 rfl)) ?_
  refine seq_cons (lw_run rfl rfl (la_bin rfl rfl rfl rfl rfl rfl)) ?_
  refine w_end ?_
  refine w_nx ?_
  refine w_cond rfl (fun hb => ?_) (fun hb => ?_)
  · replace H := bif_t H hb
    refine w_seq' ?_
    refine w_reg ?_
    refine seq_cons (lw_run rfl rfl (la_mvs (.inr rfl) rfl rfl rfl)) ?_
    refine w_end ?_
    refine w_nx ?_
    cases H
    exact w_ret (fun a w h => fin_one h rfl (.tmp rfl rfl) trivial)
  · replace H := bif_f H hb
    refine w_skip ?_
    refine w_nx ?_
    refine w_seq' ?_
    refine w_seq' ?_
    refine w_reg ?_
    refine seq_cons (lw_run rfl rfl (la_mvs (.inr rfl) rfl rfl rfl)) ?_
    refine w_end ?_
    refine w_nx ?_
    refine w_block ?_
    obtain ⟨out0, HL, HC0⟩ := bnd H
    clear H
    refine w_weak (Γ' := (fun s : Int => mk [(0, .d (.one (.sl false 52 (a0.map (c52 false))))), (1, .d (.one (.sl false 52 (a1.map (c52 false))))), (5, .d (iv s))]) 0) (w_loop (σ := Int) (fun s => mk [(0, .d (.one (.sl false 52 (a0.map (c52 false))))), (1, .d (.one (.sl false 52 (a1.map (c52 false))))), (5, .d (iv s))]) (fun k s => F20_L0 kf a0 a1 k s = some out0) kf 0 HL ?_) (has_le ⟨rfl, rfl, rfl, trivial⟩)
    clear HL
    rintro k0 v1 H
    cases k0 with
    | zero => cases H
    | succ k0 =>
    try dsimp only at H ⊢
    refine w_seq' ?_
    refine w_seq' ?_
    refine w_reg ?_
    refine seq_cons (lw_run rfl rfl (la_mvs (.inl rfl) rfl rfl rfl)) ?_
    refine seq_cons (lw_run rfl rfl (r_mvr (.inl rfl) rfl rfl rfl rfl)) ?_
    refine seq_cons (lw_run rfl rfl (la_len rfl rfl rfl Try.underlying29 rfl)) ?_
    refine seq_cons (lw_run rfl rfl (la_bin rfl rfl rfl rfl rfl rfl)) ?_
    refine w_end ?_
    refine w_nx ?_
    refine w_cond rfl (fun hb => ?_) (fun hb => ?_)
    · replace H := bif_t H hb
      refine w_skip ?_
      refine w_nx ?_
      refine w_seq' ?_
      refine w_block ?_
      refine w_seq' ?_
      obtain ⟨z2, hz2, H⟩ := bnd H
      obtain ⟨z3, hz3, H⟩ := bnd H
      obtain ⟨y4, hy4, H⟩ := bnd H
      refine w_drawn [⟨[(0, .d (.one (.sl false 52 (a0.map (c52 false)))))], _, []⟩, ⟨[(5, .d (iv v1))], _, []⟩, ⟨[(17, .d (.one (.sl false 52 (a0.map (c52 false))))), (18, .d (iv v1))], _, [0, 1]⟩, ⟨[(19, .sp none (c52 false z2))], _, [0, 1, 2]⟩, ⟨[(1, .d (.one (.sl false 52 (a1.map (c52 false)))))], _, []⟩, ⟨[(5, .d (iv v1))], _, []⟩, ⟨[(21, .d (.one (.sl false 52 (a1.map (c52 false))))), (22, .d (iv v1))], _, [4, 5]⟩, ⟨[(23, .sp none (c52 false z3))], _, [4, 5, 6]⟩, ⟨[(20, .d (.one (.sl false 22 (z2.map (c22 false))))), (24, .d (.one (.sl false 22 (z3.map (c22 false)))))], _, [0, 1, 2, 3, 4, 5, 6, 7]⟩, ⟨[(25, .d (bv y4))], _, [0, 1, 2, 3, 4, 5, 6, 7, 8]⟩] [(0, .d (.one (.sl false 52 (a0.map (c52 false))))), (1, .d (.one (.sl false 52 (a1.map (c52 false))))), (5, .d (iv v1)), (11, .d (iv v1)), (12, .d (.one (.sl false 52 (a0.map (c52 false))))), (13, .d (iv (a0.length : Int))), (14, .d (bv (decide (v1 < (a0.length : Int))))), (17, .d (.one (.sl false 52 (a0.map (c52 false))))), (18, .d (iv v1)), (20, .d (.one (.sl false 22 (z2.map (c22 false))))), (21, .d (.one (.sl false 52 (a1.map (c52 false))))), (22, .d (iv v1)), (24, .d (.one (.sl false 22 (z3.map (c22 false))))), (25, .d (bv y4)), (26, .d (bv (!y4)))] mixed ⟨lw_run rfl rfl (r_mvr (.inl rfl) rfl rfl rfl rfl), lw_run rfl rfl (la_mvs (.inl rfl) rfl rfl rfl), lw_run rfl rfl (r_ix rfl rfl rfl e29 rfl rfl hz2 rfl), lw_run rfl rfl (r_ld rfl rfl rfl fl52 rfl rfl), lw_run rfl rfl (r_mvr (.inl rfl) rfl rfl rfl rfl), lw_run rfl rfl (la_mvs (.inl rfl) rfl rfl rfl), lw_run rfl rfl (r_ix rfl rfl rfl e29 rfl rfl hz3 rfl), lw_run rfl rfl (r_ld rfl rfl rfl fl52 rfl rfl), lw_run rfl rfl (la_call [] [] rfl rfl rfl rfl (r38 kf z2 z3 _ hy4) rfl rfl rfl rfl rfl rfl rfl (by simp) rfl (.inl rfl)), lw_run rfl rfl (la_not rfl rfl rfl rfl), trivial⟩ ⟨⟨.inl ⟨rfl, rfl⟩, trivial⟩, ⟨.inl ⟨rfl, rfl⟩, trivial⟩, ⟨.inr ⟨0, _, rfl, rfl, rfl, rfl⟩, .inr ⟨1, _, rfl, rfl, rfl, rfl⟩, trivial⟩, ⟨.inr ⟨2, _, rfl, rfl, rfl, rfl⟩, trivial⟩, ⟨.inl ⟨rfl, rfl⟩, trivial⟩, ⟨.inl ⟨rfl, rfl⟩, trivial⟩, ⟨.inr ⟨4, _, rfl, rfl, rfl, rfl⟩, .inr ⟨5, _, rfl, rfl, rfl, rfl⟩, trivial⟩, ⟨.inr ⟨6, _, rfl, rfl, rfl, rfl⟩, trivial⟩, ⟨.inr ⟨3, _, rfl, rfl, rfl, rfl⟩, .inr ⟨7, _, rfl, rfl, rfl, rfl⟩, trivial⟩, ⟨.inr ⟨8, _, rfl, rfl, rfl, rfl⟩, trivial⟩, trivial⟩ rfl rfl ⟨.inl ⟨rfl, rfl⟩, .inl ⟨rfl, rfl⟩, .inl ⟨rfl, rfl⟩, .inl ⟨rfl, rfl⟩, .inl ⟨rfl, rfl⟩, .inl ⟨rfl, rfl⟩, .inl ⟨rfl, rfl⟩, .inr ⟨0, _, rfl, rfl, rfl⟩, .inr ⟨1, _, rfl, rfl, rfl⟩, .inr ⟨3, _, rfl, rfl, rfl⟩, .inr ⟨4, _, rfl, rfl, rfl⟩, .inr ⟨5, _, rfl, rfl, rfl⟩, .inr ⟨7, _, rfl, rfl, rfl⟩, .inr ⟨8, _, rfl, rfl, rfl⟩, .inr ⟨9, _, rfl, rfl, rfl⟩, trivial⟩ ?_
      refine w_nx ?_
      refine w_cond rfl (fun hb => ?_) (fun hb => ?_)
      · replace H := bif_t H hb
        refine w_seq' ?_
        refine w_reg ?_
        refine seq_cons (lw_run rfl rfl (la_mvs (.inr rfl) rfl rfl rfl)) ?_
        refine w_end ?_
        refine w_nx ?_
        cases H
        try dsimp only at HC0
        cases HC0
        exact w_ret (fun a w h => fin_one h rfl (.tmp rfl rfl) trivial)
      · replace H := bif_f H hb
        refine w_skip ?_
        refine q_nb ?_
        refine w_nx ?_
        refine w_reg ?_
        refine seq_cons (lw_run rfl rfl (la_mvs (.inl rfl) rfl rfl rfl)) ?_
        refine seq_cons (lw_run rfl rfl (la_bin rfl rfl rfl rfl rfl rfl)) ?_
        refine seq_cons (lw_run rfl rfl (la_mvs (.inr rfl) rfl rfl rfl)) ?_
        refine w_end ?_
        refine q_nt ?_
        exact fun a w h => ⟨k0, (IntKind.i64.wrap (v1 + 1)), Nat.lt_succ_self k0, H, h.weaken (has_le ⟨rfl, rfl, rfl, trivial⟩)⟩
    · replace H := bif_f H hb
      refine w_exit ?_
      refine q_et ?_
      refine q_et ?_
      refine q_in ?_
      cases H
      have H := HC0
      clear HC0
      try dsimp only at H
      refine w_nx ?_
      refine w_seq' ?_
      refine w_reg ?_
      refine seq_cons (lw_run rfl rfl (la_mvs (.inr rfl) rfl rfl rfl)) ?_
      refine w_end ?_
      refine w_nx ?_
      cases H
      exact w_ret (fun a w h => fin_one h rfl (.tmp rfl rfl) trivial)
/- loop.example/g00844/laws.FnExactCountRows -/
def F5 (kf : Nat) (a0 : (List (List (List Int)))) : Option Bool :=
  (F16 kf a0 1048576).bind (fun y1 => (bif (decide (y1 < 0)) then
  some true
  else (F18 kf a0).bind (fun y2 => (F17 kf y2).bind (fun y3 => (F18 kf a0).bind (fun y4 => (F19 kf y4).bind (fun y5 => (bif (y5 != y3) then
  some false
  else (F18 kf a0).bind (fun y6 => (F20 kf y4 y6).bind (fun y7 => (bif (!y7) then
  some false
  else some true))))))))))
theorem r5 (kf : Nat) (a0 : (List (List (List Int)))) (R : Bool) (H : F5 kf a0 = some R) : Ret Try.prog 5 27 [.d (.one (.sl false 52 (a0.map (c52 false))))] [] (.d (bv R)) [] := by
  refine ret_of Try.func5 rfl rfl (by kernel_rfl) rfl ?_
  intro fr a' w' hn
  obtain ⟨w0, M, Z0, n, γ⟩ := fr
  simp only at hn
  subst hn
  revert a' w'
  show W _ _ _ _ _
  refine w_seq' ?_
  refine w_reg ?_
  refine seq_cons (lw_run rfl rfl (la_mvs (.inr rfl) rfl rfl rfl)) ?_
  refine w_end ?_
  refine w_nx ?_
  refine w_seq' ?_
  refine w_reg ?_
  refine seq_cons (lw_run rfl rfl (la_mvs (.inr rfl) rfl rfl rfl)) ?_
  refine w_end ?_
  refine w_nx ?_
  refine w_seq' ?_
  refine w_reg ?_
  refine seq_cons (lw_run rfl rfl (r_mvr (.inl rfl) rfl rfl rfl rfl)) ?_
  refine seq_cons (lw_run rfl rfl (la_mvs (.inl rfl) rfl rfl rfl)) ?_
  obtain ⟨y1, hy1, H⟩ := bnd H
  refine seq_cons (lw_run rfl rfl (la_call [] [] rfl rfl rfl rfl (r16 kf a0 1048576 _ hy1) rfl rfl rfl rfl rfl rfl rfl (by simp) rfl (.inl rfl))) ?_
  refine seq_cons (lw_run rfl rfl (la_mvs (.inr rfl) rfl rfl rfl)) ?_
  refine w_end ?_
  refine w_nx ?_
  refine w_seq' ?_
  refine w_seq' ?_
  refine w_reg ?_
  refine seq_cons (lw_run rfl rfl (la_mvs (.inl rfl) rfl rfl rfl)) ?_
  refine seq_cons (lw_run rfl rfl (la_bin rfl rfl rfl rfl rfl rfl)) ?_
  refine w_end ?_
  refine w_nx ?_
  refine w_cond rfl (fun hb => ?_) (fun hb => ?_)
  · replace H := bif_t H hb
    refine w_seq' ?_
    refine w_reg ?_
    refine seq_cons (lw_run rfl rfl (la_mvs (.inr rfl) rfl rfl rfl)) ?_
    refine w_end ?_
    refine w_nx ?_
    cases H
    exact w_ret (fun a w h => fin_one h rfl (.tmp rfl rfl) trivial)
  · replace H := bif_f H hb
    refine w_skip ?_
    refine w_nx ?_
    refine w_seq' ?_
    refine w_reg ?_
    refine seq_cons (lw_run rfl rfl (r_mvr (.inl rfl) rfl rfl rfl rfl)) ?_
    obtain ⟨y2, hy2, H⟩ := bnd H
    refine seq_cons (lw_run rfl rfl (la_call [] [] rfl rfl rfl rfl (r18 kf a0 _ hy2) rfl rfl rfl rfl rfl rfl rfl (by simp) rfl (.inl rfl))) ?_
    obtain ⟨y3, hy3, H⟩ := bnd H
    refine seq_cons (lw_run rfl rfl (la_call [] [13] rfl rfl rfl rfl (r17 kf y2 _ hy3) rfl (by simp only [List.map, shD, shC_sl, List.map_map, Function.comp_def, sh52]) rfl rfl rfl rfl rfl (by simp) rfl (.inr ⟨clean_v _, by simp⟩))) ?_
    refine seq_cons (lw_run rfl rfl (la_mvs (.inr rfl) rfl rfl rfl)) ?_
    refine w_end ?_
    refine w_nx ?_
    refine w_seq' ?_
    refine w_reg ?_
    refine seq_cons (lw_run rfl rfl (r_mvr (.inl rfl) rfl rfl rfl rfl)) ?_
    obtain ⟨y4, hy4, H⟩ := bnd H
    refine seq_cons (lw_run rfl rfl (la_call [] [] rfl rfl rfl rfl (r18 kf a0 _ hy4) rfl rfl rfl rfl rfl rfl rfl (by simp) rfl (.inl rfl))) ?_
    refine seq_cons (lw_run rfl rfl (la_mvo (.inr rfl) rfl rfl rfl rfl rfl)) ?_
    refine w_end ?_
    refine w_nx ?_
    refine w_seq' ?_
    refine w_reg ?_
    refine seq_cons (lw_run rfl rfl (la_eq (.inl rfl) rfl rfl rfl (.inl rfl) rfl)) ?_
    obtain ⟨y5, hy5, H⟩ := bnd H
    refine seq_cons (lw_run rfl rfl (la_call [] [5] rfl rfl rfl rfl (r19 kf y4 _ hy5) rfl (by simp only [List.map, shD, shC_sl, List.map_map, Function.comp_def, sh52]) rfl rfl rfl rfl rfl (by simp) rfl (.inr ⟨clean_v _, by simp⟩))) ?_
    refine seq_cons (lw_run rfl rfl (la_mvs (.inr rfl) rfl rfl rfl)) ?_
    refine w_end ?_
    refine w_nx ?_
    refine w_seq' ?_
    refine w_seq' ?_
    refine w_reg ?_
    refine seq_cons (lw_run rfl rfl (la_mvs (.inl rfl) rfl rfl rfl)) ?_
    refine seq_cons (lw_run rfl rfl (la_mvs (.inl rfl) rfl rfl rfl)) ?_
    refine seq_cons (lw_run rfl rfl (la_bin rfl rfl rfl rfl rfl rfl)) ?_
    refine w_end ?_
    refine w_nx ?_
    refine w_cond rfl (fun hb => ?_) (fun hb => ?_)
    · replace H := bif_t H hb
      refine w_seq' ?_
      refine w_reg ?_
      refine seq_cons (lw_run rfl rfl (la_mvs (.inr rfl) rfl rfl rfl)) ?_
      refine w_end ?_
      refine w_nx ?_
      cases H
      exact w_ret (fun a w h => fin_one h rfl (.tmp rfl rfl) trivial)
    · replace H := bif_f H hb
      refine w_skip ?_
      refine w_nx ?_
      refine w_seq' ?_
      refine w_seq' ?_
      refine w_reg ?_
      refine seq_cons (lw_run rfl rfl (la_eq (.inl rfl) rfl rfl rfl (.inl rfl) rfl)) ?_
      refine seq_cons (lw_run rfl rfl (r_mvr (.inl rfl) rfl rfl rfl rfl)) ?_
      obtain ⟨y6, hy6, H⟩ := bnd H
      refine seq_cons (lw_run rfl rfl (la_call [] [] rfl rfl rfl rfl (r18 kf a0 _ hy6) rfl rfl rfl rfl rfl rfl rfl (by simp) rfl (.inl rfl))) ?_
      obtain ⟨y7, hy7, H⟩ := bnd H
      refine seq_cons (lw_run rfl rfl (la_call [] [5, 24] rfl rfl rfl rfl (r20 kf y4 y6 _ hy7) rfl (by simp only [List.map, shD, shC_sl, List.map_map, Function.comp_def, sh52, sh52]) rfl rfl rfl rfl rfl (by simp) rfl (.inr ⟨clean_v _, by simp⟩))) ?_
      refine seq_cons (lw_run rfl rfl (la_not rfl rfl rfl rfl)) ?_
      refine w_end ?_
      refine w_nx ?_
      refine w_cond rfl (fun hb => ?_) (fun hb => ?_)
      · replace H := bif_t H hb
        refine w_seq' ?_
        refine w_reg ?_
        refine seq_cons (lw_run rfl rfl (la_mvs (.inr rfl) rfl rfl rfl)) ?_
        refine w_end ?_
        refine w_nx ?_
        cases H
        exact w_ret (fun a w h => fin_one h rfl (.tmp rfl rfl) trivial)
      · replace H := bif_f H hb
        refine w_skip ?_
        refine w_nx ?_
        refine w_seq' ?_
        refine w_reg ?_
        refine seq_cons (lw_run rfl rfl (la_mvs (.inr rfl) rfl rfl rfl)) ?_
        refine w_end ?_
        refine w_nx ?_
        cases H
        exact w_ret (fun a w h => fin_one h rfl (.tmp rfl rfl) trivial)
end Go.Proofs.YtdclbbkkcngjnaaX
