/- Printed: for each function that FnExactStoreFrom reaches, a plain function and the walk that it is what the program's function answers. -/
import Derived.Test.YtdclbbkkcngjnaaTrD
import Derived.Test.YtdclbbkkcngjnaaProg
namespace Go.Proofs.YtdclbbkkcngjnaaX
open Go Go.Proofs Go.Proofs.YtdclbbkkcngjnaaT
set_option maxRecDepth 10000
set_option linter.all false
structure S69 where
  f0 : ByteArray
  f1 : Int
structure S77 where
  f0 : Int
def c69 (o : Bool) (x : S69) : List C := [.v (.string x.f0), .v (.int .i64 x.f1)]
def c73 (o : Bool) (x : S69) : List C := [.v (.string x.f0), .v (.int .i64 x.f1)]
def c3 (o : Bool) (x : Int) : List C := [.v (.int .i64 x)]
def c22 (o : Bool) (x : (List Int)) : List C := [.sl o 3 (x.map (c3 o))]
def c52 (o : Bool) (x : (List (List Int))) : List C := [.sl o 22 (x.map (c22 o))]
def c77 (o : Bool) (x : S77) : List C := [.v (.int .i64 x.f0)]
def c5 (o : Bool) (x : Int) : List C := [.v (.int .u8 x)]
theorem e42 : elemT Try.prog 42 69 = true := by kernel_rfl
theorem rw69 : rowT Try.prog 69 = true := by kernel_rfl
theorem ln69 : ∀ o x, (c69 o x).length = szOf Try.prog 69 := fun _ _ => (show szOf Try.prog 69 = 2 by kernel_rfl).symm ▸ rfl
theorem fd69_0 : fldAt Try.prog 69 0 0 = true := by kernel_rfl
theorem fl9 : flatT Try.prog 9 = true := by kernel_rfl
theorem e45 : elemT Try.prog 45 73 = true := by kernel_rfl
theorem z73 : ∀ o, zeroOk Try.prog 73 (c73 o ⟨ByteArray.empty, 0⟩) := fun o => ⟨.agg #[.string ByteArray.empty, .int .i64 0], by kernel_rfl, fun w Z => (rl_c (rc_v rfl) (rl_c (rc_v rfl) rl_n))⟩
theorem fd73_0 : fldAt Try.prog 73 0 0 = true := by kernel_rfl
theorem sz9 : szOf Try.prog 9 = 1 := by kernel_rfl
theorem so9 : (Try.prog.info? 9).isSome = true := by kernel_rfl
theorem fd69_1 : fldAt Try.prog 69 1 1 = true := by kernel_rfl
theorem fl3 : flatT Try.prog 3 = true := by kernel_rfl
theorem fd73_1 : fldAt Try.prog 73 1 1 = true := by kernel_rfl
theorem sz3 : szOf Try.prog 3 = 1 := by kernel_rfl
theorem so3 : (Try.prog.info? 3).isSome = true := by kernel_rfl
theorem rw73 : rowT Try.prog 73 = true := by kernel_rfl
theorem sz73 : szOf Try.prog 73 = 2 := by kernel_rfl
theorem so73 : (Try.prog.info? 73).isSome = true := by kernel_rfl
theorem mixed : (Try.prog).follows .mixedOrders = true := by kernel_rfl
theorem e29 : elemT Try.prog 29 52 = true := by kernel_rfl
theorem sz52 : szOf Try.prog 52 = 1 := by kernel_rfl
theorem z3 : ∀ o, zeroOk Try.prog 3 (c3 o 0) := fun o => ⟨.int .i64 0, by kernel_rfl, fun w Z => (rl_c (rc_v rfl) rl_n)⟩
theorem e52 : elemT Try.prog 52 22 = true := by kernel_rfl
theorem sz22 : szOf Try.prog 22 = 1 := by kernel_rfl
theorem e22 : elemT Try.prog 22 3 = true := by kernel_rfl
theorem sh73 : ∀ o x, (c73 o x).map shC = c73 false x := fun o x => by simp [c73, shC_sl, shC_v, List.map_map]
theorem cl3 : ∀ x, ClL Try.prog (c3 true x) := fun _ => (cl_c cl_v cl_n)
theorem cl22 : ∀ x, ClL Try.prog (c22 true x) := fun _ => (cl_c (cl_s cl3) cl_n)
theorem cl52 : ∀ x, ClL Try.prog (c52 true x) := fun _ => (cl_c (cl_s cl22) cl_n)
theorem ln73 : ∀ o x, (c73 o x).length = szOf Try.prog 73 := fun _ _ => (show szOf Try.prog 73 = 2 by kernel_rfl).symm ▸ rfl
theorem bt77 : structT Try.prog 77 [(0, 1)] = true := by kernel_rfl
theorem z77 : ∀ o, zeroOk Try.prog 77 (c77 o ⟨0⟩) := fun o => ⟨.agg #[.int .i64 0], by kernel_rfl, fun w Z => (rl_c (rc_v rfl) rl_n)⟩
theorem fd77_0 : fldAt Try.prog 77 0 0 = true := by kernel_rfl
theorem fl52 : flatT Try.prog 52 = true := by kernel_rfl
theorem fl22 : flatT Try.prog 22 = true := by kernel_rfl
theorem sh3 : ∀ o x, (c3 o x).map shC = c3 false x := fun o x => by simp [c3, shC_sl, shC_v, List.map_map]
theorem sh22 : ∀ o x, (c22 o x).map shC = c22 false x := fun o x => by simp [c22, shC_sl, shC_v, List.map_map, Function.comp_def, sh3]
theorem sh52 : ∀ o x, (c52 o x).map shC = c52 false x := fun o x => by simp [c52, shC_sl, shC_v, List.map_map, Function.comp_def, sh22]
theorem e89 : elemT Try.prog 89 5 = true := by kernel_rfl
theorem sz5 : szOf Try.prog 5 = 1 := by kernel_rfl
theorem l3 : ∀ o x, (c3 o x).length = 1 := fun _ _ => rfl
/- loop.example/g00844/laws.szTable -/
def F43 (kf : Nat) (a0 : S69) (a1 : Int) : Option Int :=
  (bif (decide ((IntKind.i64.wrap (a1 - (a0.f0.size : Int))) < 0)) then
  some (-1)
  else some (IntKind.i64.wrap (a1 - (a0.f0.size : Int))))
theorem r43 (kf : Nat) (a0 : S69) (a1 : Int) (R : Int) (H : F43 kf a0 a1 = some R) : Ret Try.prog 43 13 [.d (.agg (c69 false a0)), .d (iv a1)] [] (.d (iv R)) [] := by
  refine ret_of Try.func43 rfl rfl (by kernel_rfl) rfl ?_
  intro fr a' w' hn
  obtain ⟨w0, M, Z0, n, γ⟩ := fr
  simp only at hn
  subst hn
  revert a' w'
  show W _ _ _ _ _
  refine w_seq' ?_
  refine w_reg ?_
  refine seq_cons (lw_run rfl rfl (la_box rfl rfl rfl rfl)) ?_
  refine seq_cons (lw_run rfl rfl (la_mvs (.inr rfl) rfl rfl rfl)) ?_
  refine w_end ?_
  refine w_nx ?_
  refine w_seq' ?_
  refine w_reg ?_
  refine seq_cons (lw_run rfl rfl (la_mvs (.inl rfl) rfl rfl rfl)) ?_
  refine seq_cons (lw_run rfl rfl (la_fbx rfl rfl rfl fd69_0 rfl rfl)) ?_
  refine seq_cons (lw_run rfl rfl (la_ldf rfl rfl rfl fl9 rfl rfl rfl)) ?_
  refine seq_cons (lw_run rfl rfl (la_lens rfl rfl rfl Try.underlying9 rfl)) ?_
  refine seq_cons (lw_run rfl rfl (la_bin rfl rfl rfl rfl rfl rfl)) ?_
  refine seq_cons (lw_run rfl rfl (la_mvs (.inr rfl) rfl rfl rfl)) ?_
  refine w_end ?_
  refine w_nx ?_
  refine w_seq' ?_
  refine w_seq' ?_
  refine w_reg ?_
  refine seq_cons (lw_run rfl rfl (la_mvs (.inl rfl) rfl rfl rfl)) ?_
  refine seq_cons (lw_run rfl rfl (la_bin rfl rfl rfl rfl rfl rfl)) ?_
  refine w_end ?_
  refine w_nx ?_
  refine w_cond rfl (fun hb1 => ?_) (fun hb1 => ?_)
  · replace H := bif_t H hb1
    refine w_seq' ?_
    refine w_reg ?_
    refine seq_cons (lw_run rfl rfl (la_mvs (.inr rfl) rfl rfl rfl)) ?_
    refine w_end ?_
    refine w_nx ?_
    cases H
    exact w_ret (fun a w h => fin_one h rfl (.tmp rfl rfl) trivial)
  · replace H := bif_f H hb1
    refine w_skip ?_
    refine w_nx ?_
    refine w_seq' ?_
    refine w_reg ?_
    refine seq_cons (lw_run rfl rfl (la_mvs (.inl rfl) rfl rfl rfl)) ?_
    refine seq_cons (lw_run rfl rfl (la_mvs (.inr rfl) rfl rfl rfl)) ?_
    refine w_end ?_
    refine w_nx ?_
    cases H
    exact w_ret (fun a w h => fin_one h rfl (.tmp rfl rfl) trivial)
/- loop.example/g00844/laws.szTableS -/
def F26_L0 (kf : Nat) (a0 : (List S69)) (a1 : Int) : Nat → Int → Int → Option (Ex Int (Int × Int))
  | 0, _, _ => none
  | k + 1, v2, v3 =>
  (bif (decide (v3 < (a0.length : Int))) then
  (ix a0 v3).bind (fun z5 => (F43 kf z5 v2).bind (fun y6 => (bif (decide (y6 < 0)) then
  some (.ret (-1))
  else (F26_L0 kf a0 a1 k) y6 (IntKind.i64.wrap (v3 + 1)))))
  else some (.go (v2, v3)))
def F26 (kf : Nat) (a0 : (List S69)) (a1 : Int) : Option Int :=
  (bif (decide ((IntKind.i64.wrap (a1 - (a0.length : Int))) < 0)) then
  some (-1)
  else (F26_L0 kf a0 a1 kf (IntKind.i64.wrap (a1 - (a0.length : Int))) 0).bind (fun o => match o with
  | .ret r => some r
  | .go (v2, v3) => some v2))
theorem r26 (kf : Nat) (a0 : (List S69)) (a1 : Int) (R : Int) (H : F26 kf a0 a1 = some R) : Ret Try.prog 26 27 [.d (.one (.sl false 69 (a0.map (c69 false)))), .d (iv a1)] [] (.d (iv R)) [] := by
  refine ret_of Try.func26 rfl rfl (by kernel_rfl) rfl ?_
  intro fr a' w' hn
  obtain ⟨w0, M, Z0, n, γ⟩ := fr
  simp only at hn
  subst hn
  revert a' w'
  show W _ _ _ _ _
  refine w_seq' ?_
  refine w_reg ?_
  refine seq_cons (lw_run rfl rfl (la_mvs (.inr rfl) rfl rfl rfl)) ?_
  refine w_end ?_
  refine w_nx ?_
  refine w_seq' ?_
  refine w_reg ?_
  refine seq_cons (lw_run rfl rfl (la_mvs (.inl rfl) rfl rfl rfl)) ?_
  refine seq_cons (lw_run rfl rfl (r_mvr (.inl rfl) rfl rfl rfl rfl)) ?_
  refine seq_cons (lw_run rfl rfl (la_len rfl rfl rfl Try.underlying42 rfl)) ?_
  refine seq_cons (lw_run rfl rfl (la_bin rfl rfl rfl rfl rfl rfl)) ?_
  refine seq_cons (lw_run rfl rfl (la_mvs (.inr rfl) rfl rfl rfl)) ?_
  refine w_end ?_
  refine w_nx ?_
  refine w_seq' ?_
  refine w_seq' ?_
  refine w_reg ?_
  refine seq_cons (lw_run rfl rfl (la_mvs (.inl rfl) rfl rfl rfl)) ?_
  refine seq_cons (lw_run rfl rfl (la_bin rfl rfl rfl rfl rfl rfl)) ?_
  refine w_end ?_
  refine w_nx ?_
  refine w_cond rfl (fun hb1 => ?_) (fun hb1 => ?_)
  · replace H := bif_t H hb1
    refine w_seq' ?_
    refine w_reg ?_
    refine seq_cons (lw_run rfl rfl (la_mvs (.inr rfl) rfl rfl rfl)) ?_
    refine w_end ?_
    refine w_nx ?_
    cases H
    exact w_ret (fun a w h => fin_one h rfl (.tmp rfl rfl) trivial)
  · replace H := bif_f H hb1
    refine w_skip ?_
    refine w_nx ?_
    refine w_seq' ?_
    refine w_seq' ?_
    refine w_reg ?_
    refine seq_cons (lw_run rfl rfl (la_mvs (.inr rfl) rfl rfl rfl)) ?_
    refine w_end ?_
    refine w_nx ?_
    refine w_block ?_
    obtain ⟨out0, HL, HC0⟩ := bnd H
    clear H
    refine w_weak (Γ' := (fun s : Int × Int => mk [(0, .d (.one (.sl false 69 (a0.map (c69 false))))), (1, .d (iv s.1)), (5, .d (iv s.2))]) ((IntKind.i64.wrap (a1 - (a0.length : Int))), 0)) (w_loop (σ := Int × Int) (fun s => mk [(0, .d (.one (.sl false 69 (a0.map (c69 false))))), (1, .d (iv s.1)), (5, .d (iv s.2))]) (fun k s => F26_L0 kf a0 a1 k s.1 s.2 = some out0) kf ((IntKind.i64.wrap (a1 - (a0.length : Int))), 0) HL ?_) (has_le ⟨rfl, rfl, rfl, trivial⟩)
    clear HL
    rintro k0 ⟨v2, v3⟩ H
    cases k0 with
    | zero => cases H
    | succ k0 =>
    try dsimp only at H ⊢
    refine w_seq' ?_
    refine w_seq' ?_
    refine w_reg ?_
    refine seq_cons (lw_run rfl rfl (la_mvs (.inl rfl) rfl rfl rfl)) ?_
    refine seq_cons (lw_run rfl rfl (r_mvr (.inl rfl) rfl rfl rfl rfl)) ?_
    refine seq_cons (lw_run rfl rfl (la_len rfl rfl rfl Try.underlying42 rfl)) ?_
    refine seq_cons (lw_run rfl rfl (la_bin rfl rfl rfl rfl rfl rfl)) ?_
    refine w_end ?_
    refine w_nx ?_
    refine w_cond rfl (fun hb4 => ?_) (fun hb4 => ?_)
    · replace H := bif_t H hb4
      refine w_skip ?_
      refine w_nx ?_
      refine w_seq' ?_
      refine w_block ?_
      refine w_seq' ?_
      refine w_reg ?_
      refine seq_cons (lw_run rfl rfl (r_mvr (.inl rfl) rfl rfl rfl rfl)) ?_
      refine seq_cons (lw_run rfl rfl (la_mvs (.inl rfl) rfl rfl rfl)) ?_
      obtain ⟨z5, hz5, H⟩ := bnd H
      refine seq_cons (lw_run rfl rfl (r_ix rfl rfl rfl e42 rfl rfl hz5 rfl)) ?_
      refine seq_cons (lw_run rfl rfl (r_lds rfl rfl rfl rw69 rfl (ln69 _ _) rfl)) ?_
      refine seq_cons (lw_run rfl rfl (la_mvs (.inl rfl) rfl rfl rfl)) ?_
      obtain ⟨y6, hy6, H⟩ := bnd H
      refine seq_cons (lw_run rfl rfl (r_call0 [] rfl rfl rfl rfl (r43 kf z5 v2 _ hy6) rfl rfl rfl rfl rfl rfl (.inl rfl))) ?_
      refine seq_cons (lw_run rfl rfl (la_mvs (.inr rfl) rfl rfl rfl)) ?_
      refine w_end ?_
      refine w_nx ?_
      refine w_seq' ?_
      refine w_reg ?_
      refine seq_cons (lw_run rfl rfl (la_mvs (.inl rfl) rfl rfl rfl)) ?_
      refine seq_cons (lw_run rfl rfl (la_bin rfl rfl rfl rfl rfl rfl)) ?_
      refine w_end ?_
      refine w_nx ?_
      refine w_cond rfl (fun hb7 => ?_) (fun hb7 => ?_)
      · replace H := bif_t H hb7
        refine w_seq' ?_
        refine w_reg ?_
        refine seq_cons (lw_run rfl rfl (la_mvs (.inr rfl) rfl rfl rfl)) ?_
        refine w_end ?_
        refine w_nx ?_
        cases H
        try dsimp only at HC0
        cases HC0
        exact w_ret (fun a w h => fin_one h rfl (.tmp rfl rfl) trivial)
      · replace H := bif_f H hb7
        refine w_skip ?_
        refine q_nb ?_
        refine w_nx ?_
        refine w_reg ?_
        refine seq_cons (lw_run rfl rfl (la_mvs (.inl rfl) rfl rfl rfl)) ?_
        refine seq_cons (lw_run rfl rfl (la_bin rfl rfl rfl rfl rfl rfl)) ?_
        refine seq_cons (lw_run rfl rfl (la_mvs (.inr rfl) rfl rfl rfl)) ?_
        refine w_end ?_
        refine q_nt ?_
        exact fun a w h => ⟨k0, (y6, (IntKind.i64.wrap (v3 + 1))), Nat.lt_succ_self k0, H, h.weaken (has_le ⟨rfl, rfl, rfl, trivial⟩)⟩
    · replace H := bif_f H hb4
      refine w_exit ?_
      refine q_et ?_
      refine q_et ?_
      refine q_in ?_
      cases H
      have H := HC0
      clear HC0
      try dsimp only at H
      refine w_nx ?_
      refine w_seq' ?_
      refine w_reg ?_
      refine seq_cons (lw_run rfl rfl (la_mvs (.inl rfl) rfl rfl rfl)) ?_
      refine seq_cons (lw_run rfl rfl (la_mvs (.inr rfl) rfl rfl rfl)) ?_
      refine w_end ?_
      refine w_nx ?_
      cases H
      exact w_ret (fun a w h => fin_one h rfl (.tmp rfl rfl) trivial)
/- loop.example/g00844/laws.toTable -/
def F46 (kf : Nat) (a0 : S69) : Option S69 :=
  some (⟨a0.f0, a0.f1⟩ : S69)
theorem r46 (kf : Nat) (a0 : S69) (R : S69) (H : F46 kf a0 = some R) : Ret Try.prog 46 11 [.d (.agg (c69 false a0))] [] (.d (.agg (c73 true R))) [] := by
  refine ret_of Try.func46 rfl rfl (by kernel_rfl) rfl ?_
  intro fr a' w' hn
  obtain ⟨w0, M, Z0, n, γ⟩ := fr
  simp only at hn
  subst hn
  revert a' w'
  show W _ _ _ _ _
  refine w_seq' ?_
  refine w_reg ?_
  refine seq_cons (lw_run rfl rfl (la_box rfl rfl rfl rfl)) ?_
  refine seq_cons (lw_run rfl rfl (la_alloc rfl rfl rfl (cs := [.v (.string ByteArray.empty), .v (.int .i64 0)]) (z73 true))) ?_
  refine w_end ?_
  refine w_nx ?_
  refine w_seq' ?_
  refine w_reg ?_
  refine seq_cons (lw_run rfl rfl (la_alloc rfl rfl rfl (cs := [.v (.string ByteArray.empty), .v (.int .i64 0)]) (z73 true))) ?_
  refine w_end ?_
  refine w_nx ?_
  refine w_seq' ?_
  refine w_reg ?_
  refine seq_cons (lw_run rfl rfl (la_fbx rfl rfl rfl fd69_0 rfl rfl)) ?_
  refine seq_cons (lw_run rfl rfl (la_ldf rfl rfl rfl fl9 rfl rfl rfl)) ?_
  refine seq_cons (lw_run rfl rfl (la_fbx rfl rfl rfl fd73_0 rfl rfl)) ?_
  refine seq_cons (lw_run rfl rfl (la_stf rfl rfl sz9 so9 rfl rfl rfl rfl)) ?_
  refine w_end ?_
  refine w_nx ?_
  refine w_seq' ?_
  refine w_reg ?_
  refine seq_cons (lw_run rfl rfl (la_fbx rfl rfl rfl fd69_1 rfl rfl)) ?_
  refine seq_cons (lw_run rfl rfl (la_ldf rfl rfl rfl fl3 rfl rfl rfl)) ?_
  refine seq_cons (lw_run rfl rfl (la_fbx rfl rfl rfl fd73_1 rfl rfl)) ?_
  refine seq_cons (lw_run rfl rfl (la_stf rfl rfl sz3 so3 rfl rfl rfl rfl)) ?_
  refine w_end ?_
  refine w_nx ?_
  refine w_seq' ?_
  refine w_reg ?_
  refine seq_cons (lw_run rfl rfl (la_ldb rfl rfl rfl rw73 rfl (by rw [sz73]; rfl) rfl)) ?_
  refine seq_cons (lw_run rfl rfl (la_stb rfl rfl rfl sz73 so73 rfl rfl rfl (nodupB_ok rfl))) ?_
  refine w_end ?_
  refine w_nx ?_
  cases H
  exact w_ret (fun a w h => fin_one h rfl (.cell rfl rfl rw73 (by rw [sz73]; rfl)) trivial)
/- loop.example/g00844/laws.toTableS -/
def F28_L0 (kf : Nat) (a0 : (List S69)) (z1 : (List S69)) : Nat → (List S69) → Int → Option (Ex (List S69) ((List S69) × Int))
  | 0, _, _ => none
  | k + 1, v2, v3 =>
  (bif (decide (v3 < (a0.length : Int))) then
  (ix a0 v3).bind (fun z5 => (F46 kf z5).bind (fun y6 => (stx v2 v3 y6).bind (fun z7 => (F28_L0 kf a0 z1 k) z7 (IntKind.i64.wrap (v3 + 1)))))
  else some (.go (v2, v3)))
def F28 (kf : Nat) (a0 : (List S69)) : Option (List S69) :=
  (mkx (a0.length : Int) (⟨ByteArray.empty, 0⟩ : S69)).bind (fun z1 => (F28_L0 kf a0 z1 kf z1 0).bind (fun o => match o with
  | .ret r => some r
  | .go (v2, v3) => some v2))
theorem r28 (kf : Nat) (a0 : (List S69)) (R : (List S69)) (H : F28 kf a0 = some R) : Ret Try.prog 28 23 [.d (.one (.sl false 69 (a0.map (c69 false))))] [] (.d (.one (.sl true 73 (R.map (c73 true))))) [] := by
  refine ret_of Try.func28 rfl rfl (by kernel_rfl) rfl ?_
  intro fr a' w' hn
  obtain ⟨w0, M, Z0, n, γ⟩ := fr
  simp only at hn
  subst hn
  revert a' w'
  show W _ _ _ _ _
  refine w_seq' ?_
  refine w_reg ?_
  refine seq_cons (lw_run rfl rfl (r_nil true 73 (c73 true) (.inr rfl) rfl rfl)) ?_
  refine w_end ?_
  refine w_nx ?_
  refine w_seq' ?_
  refine w_reg ?_
  refine seq_cons (lw_run rfl rfl (r_mvr (.inl rfl) rfl rfl rfl rfl)) ?_
  refine seq_cons (lw_run rfl rfl (la_len rfl rfl rfl Try.underlying42 rfl)) ?_
  obtain ⟨z1, hz1, H⟩ := bnd H
  refine seq_cons (lw_run rfl rfl (r_mk rfl rfl rfl e45 (z73 true) rfl rfl rfl hz1)) ?_
  refine seq_cons (lw_run rfl rfl (la_mvo (.inr rfl) rfl rfl rfl rfl rfl)) ?_
  refine w_end ?_
  refine w_nx ?_
  refine w_seq' ?_
  refine w_seq' ?_
  refine w_reg ?_
  refine seq_cons (lw_run rfl rfl (la_mvs (.inr rfl) rfl rfl rfl)) ?_
  refine w_end ?_
  refine w_nx ?_
  refine w_block ?_
  obtain ⟨out0, HL, HC0⟩ := bnd H
  clear H
  refine w_weak (Γ' := (fun s : (List S69) × Int => mk [(0, .d (.one (.sl false 69 (a0.map (c69 false))))), (2, .d (.one (.sl true 73 (([]).map (c73 true))))), (3, .d (.one (.sl true 73 (s.1.map (c73 true))))), (4, .d (iv s.2))]) (z1, 0)) (w_loop (σ := (List S69) × Int) (fun s => mk [(0, .d (.one (.sl false 69 (a0.map (c69 false))))), (2, .d (.one (.sl true 73 (([]).map (c73 true))))), (3, .d (.one (.sl true 73 (s.1.map (c73 true))))), (4, .d (iv s.2))]) (fun k s => F28_L0 kf a0 z1 k s.1 s.2 = some out0) kf (z1, 0) HL ?_) (has_le ⟨rfl, rfl, rfl, rfl, trivial⟩)
  clear HL
  rintro k0 ⟨v2, v3⟩ H
  cases k0 with
  | zero => cases H
  | succ k0 =>
  try dsimp only at H ⊢
  refine w_seq' ?_
  refine w_seq' ?_
  refine w_reg ?_
  refine seq_cons (lw_run rfl rfl (la_mvs (.inl rfl) rfl rfl rfl)) ?_
  refine seq_cons (lw_run rfl rfl (r_mvr (.inl rfl) rfl rfl rfl rfl)) ?_
  refine seq_cons (lw_run rfl rfl (la_len rfl rfl rfl Try.underlying42 rfl)) ?_
  refine seq_cons (lw_run rfl rfl (la_bin rfl rfl rfl rfl rfl rfl)) ?_
  refine w_end ?_
  refine w_nx ?_
  refine w_cond rfl (fun hb4 => ?_) (fun hb4 => ?_)
  · replace H := bif_t H hb4
    refine w_skip ?_
    refine w_nx ?_
    refine w_seq' ?_
    refine w_block ?_
    refine w_reg ?_
    refine seq_cons (lw_run rfl rfl (la_eq (.inl rfl) rfl rfl rfl (.inl rfl) rfl)) ?_
    refine seq_cons (lw_run rfl rfl (la_mvs (.inl rfl) rfl rfl rfl)) ?_
    refine seq_cons (lw_run rfl rfl (r_mvr (.inl rfl) rfl rfl rfl rfl)) ?_
    refine seq_cons (lw_run rfl rfl (la_mvs (.inl rfl) rfl rfl rfl)) ?_
    obtain ⟨z5, hz5, H⟩ := bnd H
    refine seq_cons (lw_run rfl rfl (r_ix rfl rfl rfl e42 rfl rfl hz5 rfl)) ?_
    refine seq_cons (lw_run rfl rfl (r_lds rfl rfl rfl rw69 rfl (ln69 _ _) rfl)) ?_
    obtain ⟨y6, hy6, H⟩ := bnd H
    refine seq_cons (lw_run rfl rfl (r_call0 [] rfl rfl rfl rfl (r46 kf z5 _ hy6) rfl rfl rfl rfl rfl rfl (.inl rfl))) ?_
    obtain ⟨z7, hz7, H⟩ := bnd H
    refine seq_cons (lw_run rfl rfl (r_eixs rfl rfl rfl e45 rfl rfl hz7 rfl)) ?_
    refine seq_cons (lw_run rfl rfl (r_stes rfl rfl sz73 sz73 so73 rfl hz7 rfl rfl rfl rfl rfl)) ?_
    refine w_end ?_
    refine q_nb ?_
    refine w_nx ?_
    refine w_reg ?_
    refine seq_cons (lw_run rfl rfl (la_mvs (.inl rfl) rfl rfl rfl)) ?_
    refine seq_cons (lw_run rfl rfl (la_bin rfl rfl rfl rfl rfl rfl)) ?_
    refine seq_cons (lw_run rfl rfl (la_mvs (.inr rfl) rfl rfl rfl)) ?_
    refine w_end ?_
    refine q_nt ?_
    exact fun a w h => ⟨k0, (z7, (IntKind.i64.wrap (v3 + 1))), Nat.lt_succ_self k0, H, h.weaken (has_le ⟨rfl, rfl, rfl, rfl, trivial⟩)⟩
  · replace H := bif_f H hb4
    refine w_exit ?_
    refine q_et ?_
    refine q_et ?_
    refine q_in ?_
    cases H
    have H := HC0
    clear HC0
    try dsimp only at H
    refine w_nx ?_
    refine w_seq' ?_
    refine w_reg ?_
    refine seq_cons (lw_run rfl rfl (la_mvo (.inl rfl) rfl rfl rfl rfl rfl)) ?_
    refine seq_cons (lw_run rfl rfl (la_mvo (.inr rfl) rfl rfl rfl rfl rfl)) ?_
    refine w_end ?_
    refine w_nx ?_
    cases H
    exact w_ret (fun a w h => fin_one h rfl (.tmp rfl rfl) trivial)
/- loop.example/g00844/spec.l01In -/
def F34_J0 (kf : Nat) (a0 : Int) (a1 : Int) (a2 : Int) (v2 : Bool) : Option (Bool) :=
  some v2
def F34 (kf : Nat) (a0 : Int) (a1 : Int) (a2 : Int) : Option Bool :=
  (bif (decide (a1 ≤ a0)) then
  F34_J0 kf a0 a1 a2 (decide (a0 ≤ a2))
  else F34_J0 kf a0 a1 a2 false)
theorem r34 (kf : Nat) (a0 : Int) (a1 : Int) (a2 : Int) (R : Bool) (H : F34 kf a0 a1 a2 = some R) : Ret Try.prog 34 15 [.d (iv a0), .d (iv a1), .d (iv a2)] [] (.d (bv R)) [] := by
  refine ret_of Try.func34 rfl rfl (by kernel_rfl) rfl ?_
  intro fr a' w' hn
  obtain ⟨w0, M, Z0, n, γ⟩ := fr
  simp only at hn
  subst hn
  revert a' w'
  show W _ _ _ _ _
  refine w_seq' ?_
  refine w_reg ?_
  refine seq_cons (lw_run rfl rfl (la_mvs (.inr rfl) rfl rfl rfl)) ?_
  refine w_end ?_
  refine w_nx ?_
  refine w_join (σ := Bool) (fun s => mk [(6, .d (bv s))]) (fun s => F34_J0 kf a0 a1 a2 s = some R) ?_ ?_
  · refine w_reg ?_
    refine seq_cons (lw_run rfl rfl (la_mvs (.inl rfl) rfl rfl rfl)) ?_
    refine seq_cons (lw_run rfl rfl (la_mvs (.inl rfl) rfl rfl rfl)) ?_
    refine seq_cons (lw_run rfl rfl (la_bin rfl rfl rfl rfl rfl rfl)) ?_
    refine seq_cons (lw_run rfl rfl (la_mvs (.inl rfl) rfl rfl rfl)) ?_
    refine bcase (decide (a1 ≤ a0)) (fun hb3 => ?_) (fun hb3 => ?_)
    · replace H := bif_t H hb3
      refine seq_cons (lw_on rfl rfl rfl rfl rfl (by exact congrArg gb hb3) (la_mvs (.inl rfl) rfl rfl rfl)) ?_
      refine seq_cons (lw_on rfl rfl rfl rfl rfl (by exact congrArg gb hb3) (la_mvs (.inl rfl) rfl rfl rfl)) ?_
      refine seq_cons (lw_on rfl rfl rfl rfl rfl (by exact congrArg gb hb3) (la_bin rfl rfl rfl rfl rfl rfl)) ?_
      refine seq_cons (lw_run rfl rfl (r_pick (b := true) rfl rfl rfl (by exact congrArg gb hb3) rfl)) ?_
      refine seq_cons (lw_run rfl rfl (la_mvs (.inr rfl) rfl rfl rfl)) ?_
      refine w_end ?_
      exact fun a w h => ⟨(decide (a0 ≤ a2)), H, h.weaken (has_le ⟨rfl, trivial⟩)⟩
    · replace H := bif_f H hb3
      refine seq_cons (lw_off rfl rfl rfl rfl rfl (by exact congrArg gb hb3) rfl rfl rfl) ?_
      refine seq_cons (lw_off rfl rfl rfl rfl rfl (by exact congrArg gb hb3) rfl rfl rfl) ?_
      refine seq_cons (lw_off rfl rfl rfl rfl rfl (by exact congrArg gb hb3) rfl rfl rfl) ?_
      refine seq_cons (lw_run rfl rfl (r_pick (b := false) rfl rfl rfl (by exact congrArg gb hb3) rfl)) ?_
      refine seq_cons (lw_run rfl rfl (la_mvs (.inr rfl) rfl rfl rfl)) ?_
      refine w_end ?_
      exact fun a w h => ⟨false, H, h.weaken (has_le ⟨rfl, trivial⟩)⟩
  · rintro v2 H
    try dsimp only at H ⊢
    unfold F34_J0 at H
    cases H
    exact w_ret (fun a w h => fin_one h rfl (.tmp rfl rfl) trivial)
/- loop.example/g00844/spec.WordOk -/
def F60_J1 (kf : Nat) (a0 : ByteArray) (v4 : Bool) (v6 : Int) (go : Int → Option (Ex Bool Int)) (v18 : Int) (v19 : Bool) (v20 : Bool) (v21 : Bool) (v22 : Bool) (v23 : Bool) : Option (Ex Bool Int) :=
  (bif v23 then
  some (.ret false)
  else go (IntKind.i64.wrap (v6 + 1)))
def F60_L0 (kf : Nat) (a0 : ByteArray) (v4 : Bool) : Nat → Int → Option (Ex Bool Int)
  | 0, _ => none
  | k + 1, v6 =>
  (bif (decide (v6 < (a0.size : Int))) then
  (bix a0 v6).bind (fun z25 => (bif (decide (z25 < 97)) then
  (bix a0 v6).bind (fun z27 => (bif (decide (z27 < 48)) then
  F60_J1 kf a0 v4 v6 (F60_L0 kf a0 v4 k) z25 (decide (z25 < 97)) (decide (z25 < 97)) true true true
  else (bix a0 v6).bind (fun z29 => F60_J1 kf a0 v4 v6 (F60_L0 kf a0 v4 k) z25 (decide (z25 < 97)) (decide (z25 < 97)) true true (decide (z29 > 57)))))
  else (bix a0 v6).bind (fun z30 => (bif (decide (z30 > 122)) then
  (bix a0 v6).bind (fun z32 => (bif (decide (z32 < 48)) then
  F60_J1 kf a0 v4 v6 (F60_L0 kf a0 v4 k) z25 (decide (z25 < 97)) (decide (z25 < 97)) (decide (z30 > 122)) (decide (z30 > 122)) true
  else (bix a0 v6).bind (fun z34 => F60_J1 kf a0 v4 v6 (F60_L0 kf a0 v4 k) z25 (decide (z25 < 97)) (decide (z25 < 97)) (decide (z30 > 122)) (decide (z30 > 122)) (decide (z34 > 57)))))
  else F60_J1 kf a0 v4 v6 (F60_L0 kf a0 v4 k) z25 (decide (z25 < 97)) (decide (z25 < 97)) (decide (z30 > 122)) (decide (z30 > 122)) false))))
  else some (.go v6))
def F60_J0 (kf : Nat) (a0 : ByteArray) (v4 : Bool) : Option (Bool) :=
  (bif v4 then
  some false
  else (F60_L0 kf a0 v4 kf 0).bind (fun o => match o with
  | .ret r => some r
  | .go v6 => some true))
def F60 (kf : Nat) (a0 : ByteArray) : Option Bool :=
  (F34 kf (a0.size : Int) 1 12).bind (fun y35 => (bif (!y35) then
  F60_J0 kf a0 true
  else (bix a0 0).bind (fun z37 => F60_J0 kf a0 (decide (z37 < 97)))))
theorem r60 (kf : Nat) (a0 : ByteArray) (R : Bool) (H : F60 kf a0 = some R) : Ret Try.prog 60 41 [.d (sv a0)] [] (.d (bv R)) [] := by
  refine ret_of Try.func60 rfl rfl (by kernel_rfl) rfl ?_
  intro fr a' w' hn
  obtain ⟨w0, M, Z0, n, γ⟩ := fr
  simp only at hn
  subst hn
  revert a' w'
  show W _ _ _ _ _
  refine w_seq' ?_
  refine w_reg ?_
  refine seq_cons (lw_run rfl rfl (la_mvs (.inr rfl) rfl rfl rfl)) ?_
  refine w_end ?_
  refine w_nx ?_
  refine w_seq' ?_
  refine w_join (σ := Bool) (fun s => mk [(0, .d (sv a0)), (2, .d (bv false)), (12, .d (bv s))]) (fun s => F60_J0 kf a0 s = some R) ?_ ?_
  · refine w_reg ?_
    refine seq_cons (lw_run rfl rfl (la_mvs (.inl rfl) rfl rfl rfl)) ?_
    refine seq_cons (lw_run rfl rfl (la_lens rfl rfl rfl Try.underlying9 rfl)) ?_
    obtain ⟨y35, hy35, H⟩ := bnd H
    refine seq_cons (lw_run rfl rfl (r_call0 [] rfl rfl rfl rfl (r34 kf (a0.size : Int) 1 12 _ hy35) rfl rfl rfl rfl rfl rfl (.inl rfl))) ?_
    refine seq_cons (lw_run rfl rfl (la_not rfl rfl rfl rfl)) ?_
    refine seq_cons (lw_run rfl rfl (la_mvs (.inl rfl) rfl rfl rfl)) ?_
    refine bcase (!y35) (fun hb36 => ?_) (fun hb36 => ?_)
    · replace H := bif_t H hb36
      refine seq_cons (lw_off rfl rfl rfl rfl rfl (by exact congrArg gb hb36) rfl rfl rfl) ?_
      refine seq_cons (lw_off rfl rfl rfl rfl rfl (by exact congrArg gb hb36) rfl rfl rfl) ?_
      refine seq_cons (lw_off rfl rfl rfl rfl rfl (by exact congrArg gb hb36) rfl rfl rfl) ?_
      refine seq_cons (lw_run rfl rfl (r_pick (b := true) rfl rfl rfl (by exact congrArg gb hb36) rfl)) ?_
      refine w_end ?_
      exact fun a w h => ⟨true, H, h.weaken (has_le ⟨rfl, rfl, rfl, trivial⟩)⟩
    · replace H := bif_f H hb36
      refine seq_cons (lw_on rfl rfl rfl rfl rfl (by exact congrArg gb hb36) (la_mvs (.inl rfl) rfl rfl rfl)) ?_
      obtain ⟨z37, hz37, H⟩ := bnd H
      refine seq_cons (lw_on rfl rfl rfl rfl rfl (by exact congrArg gb hb36) (r_index rfl rfl rfl Try.underlying9 rfl rfl hz37)) ?_
      refine seq_cons (lw_on rfl rfl rfl rfl rfl (by exact congrArg gb hb36) (la_bin rfl rfl rfl rfl rfl rfl)) ?_
      refine seq_cons (lw_run rfl rfl (r_pick (b := false) rfl rfl rfl (by exact congrArg gb hb36) rfl)) ?_
      refine w_end ?_
      exact fun a w h => ⟨(decide (z37 < 97)), H, h.weaken (has_le ⟨rfl, rfl, rfl, trivial⟩)⟩
  · rintro v4 H
    try dsimp only at H ⊢
    unfold F60_J0 at H
    refine w_cond rfl (fun hb5 => ?_) (fun hb5 => ?_)
    · replace H := bif_t H hb5
      refine w_seq' ?_
      refine w_reg ?_
      refine seq_cons (lw_run rfl rfl (la_mvs (.inr rfl) rfl rfl rfl)) ?_
      refine w_end ?_
      refine w_nx ?_
      cases H
      exact w_ret (fun a w h => fin_one h rfl (.tmp rfl rfl) trivial)
    · replace H := bif_f H hb5
      refine w_skip ?_
      refine w_nx ?_
      refine w_seq' ?_
      refine w_seq' ?_
      refine w_reg ?_
      refine seq_cons (lw_run rfl rfl (la_mvs (.inr rfl) rfl rfl rfl)) ?_
      refine w_end ?_
      refine w_nx ?_
      refine w_block ?_
      obtain ⟨out0, HL, HC0⟩ := bnd H
      clear H
      refine w_weak (Γ' := (fun s : Int => mk [(0, .d (sv a0)), (3, .d (iv s))]) 0) (w_loop (σ := Int) (fun s => mk [(0, .d (sv a0)), (3, .d (iv s))]) (fun k s => F60_L0 kf a0 v4 k s = some out0) kf 0 HL ?_) (has_le ⟨rfl, rfl, trivial⟩)
      clear HL
      rintro k0 v6 H
      cases k0 with
      | zero => cases H
      | succ k0 =>
      try dsimp only at H ⊢
      refine w_seq' ?_
      refine w_seq' ?_
      refine w_reg ?_
      refine seq_cons (lw_run rfl rfl (la_mvs (.inl rfl) rfl rfl rfl)) ?_
      refine seq_cons (lw_run rfl rfl (la_mvs (.inl rfl) rfl rfl rfl)) ?_
      refine seq_cons (lw_run rfl rfl (la_lens rfl rfl rfl Try.underlying9 rfl)) ?_
      refine seq_cons (lw_run rfl rfl (la_bin rfl rfl rfl rfl rfl rfl)) ?_
      refine w_end ?_
      refine w_nx ?_
      refine w_cond rfl (fun hb7 => ?_) (fun hb7 => ?_)
      · replace H := bif_t H hb7
        refine w_skip ?_
        refine w_nx ?_
        refine w_seq' ?_
        refine w_block ?_
        refine w_join (σ := Int × Bool × Bool × Bool × Bool × Bool) (fun s => mk [(0, .d (sv a0)), (3, .d (iv v6)), (13, .d (iv v6)), (14, .d (sv a0)), (15, .d (iv (a0.size : Int))), (16, .d (bv (decide (v6 < (a0.size : Int))))), (19, .d (sv a0)), (20, .d (iv v6)), (21, .d (.one (.v (.int .u8 s.1)))), (22, .d (bv s.2.1)), (23, .d (bv s.2.2.1)), (28, .d (bv s.2.2.2.1)), (29, .d (bv s.2.2.2.2.1)), (40, .d (bv s.2.2.2.2.2))]) (fun s => F60_J1 kf a0 v4 v6 (F60_L0 kf a0 v4 k0) s.1 s.2.1 s.2.2.1 s.2.2.2.1 s.2.2.2.2.1 s.2.2.2.2.2 = some out0) ?_ ?_
        · refine w_reg ?_
          refine seq_cons (lw_run rfl rfl (la_mvs (.inl rfl) rfl rfl rfl)) ?_
          refine seq_cons (lw_run rfl rfl (la_mvs (.inl rfl) rfl rfl rfl)) ?_
          obtain ⟨z25, hz25, H⟩ := bnd H
          refine seq_cons (lw_run rfl rfl (r_index rfl rfl rfl Try.underlying9 rfl rfl hz25)) ?_
          refine seq_cons (lw_run rfl rfl (la_bin rfl rfl rfl rfl rfl rfl)) ?_
          refine seq_cons (lw_run rfl rfl (la_mvs (.inl rfl) rfl rfl rfl)) ?_
          refine bcase (decide (z25 < 97)) (fun hb26 => ?_) (fun hb26 => ?_)
          · replace H := bif_t H hb26
            refine seq_cons (lw_off rfl rfl rfl rfl rfl (by exact congrArg gb hb26) rfl rfl rfl) ?_
            refine seq_cons (lw_off rfl rfl rfl rfl rfl (by exact congrArg gb hb26) rfl rfl rfl) ?_
            refine seq_cons (lw_off rfl rfl rfl rfl rfl (by exact congrArg gb hb26) rfl rfl rfl) ?_
            refine seq_cons (lw_off rfl rfl rfl rfl rfl (by exact congrArg gb hb26) rfl rfl rfl) ?_
            refine seq_cons (lw_run rfl rfl (r_pick (b := true) rfl rfl rfl (by exact congrArg gb hb26) rfl)) ?_
            refine seq_cons (lw_run rfl rfl (la_mvs (.inl rfl) rfl rfl rfl)) ?_
            refine seq_cons (lw_on rfl rfl rfl rfl rfl rfl (la_mvs (.inl rfl) rfl rfl rfl)) ?_
            refine seq_cons (lw_on rfl rfl rfl rfl rfl rfl (la_mvs (.inl rfl) rfl rfl rfl)) ?_
            obtain ⟨z27, hz27, H⟩ := bnd H
            refine seq_cons (lw_on rfl rfl rfl rfl rfl rfl (r_index rfl rfl rfl Try.underlying9 rfl rfl hz27)) ?_
            refine seq_cons (lw_on rfl rfl rfl rfl rfl rfl (la_bin rfl rfl rfl rfl rfl rfl)) ?_
            refine seq_cons (lw_on rfl rfl rfl rfl rfl rfl (la_mvs (.inl rfl) rfl rfl rfl)) ?_
            refine bcase (decide (z27 < 48)) (fun hb28 => ?_) (fun hb28 => ?_)
            · replace H := bif_t H hb28
              refine seq_cons (lw_off rfl rfl rfl rfl rfl (by exact congrArg gb hb28) rfl rfl rfl) ?_
              refine seq_cons (lw_off rfl rfl rfl rfl rfl (by exact congrArg gb hb28) rfl rfl rfl) ?_
              refine seq_cons (lw_off rfl rfl rfl rfl rfl (by exact congrArg gb hb28) rfl rfl rfl) ?_
              refine seq_cons (lw_off rfl rfl rfl rfl rfl (by exact congrArg gb hb28) rfl rfl rfl) ?_
              refine seq_cons (lw_on rfl rfl rfl rfl rfl rfl (r_pick (b := true) rfl rfl rfl (by exact congrArg gb hb28) rfl)) ?_
              refine seq_cons (lw_run rfl rfl (r_pick (b := true) rfl rfl rfl rfl rfl)) ?_
              refine w_end ?_
              exact fun a w h => ⟨(z25, (decide (z25 < 97)), (decide (z25 < 97)), true, true, true), H, h.weaken (has_le ⟨rfl, rfl, rfl, rfl, rfl, rfl, rfl, rfl, rfl, rfl, rfl, rfl, rfl, rfl, trivial⟩)⟩
            · replace H := bif_f H hb28
              refine seq_cons (lw_on rfl rfl rfl rfl rfl (by exact congrArg gb hb28) (la_mvs (.inl rfl) rfl rfl rfl)) ?_
              refine seq_cons (lw_on rfl rfl rfl rfl rfl (by exact congrArg gb hb28) (la_mvs (.inl rfl) rfl rfl rfl)) ?_
              obtain ⟨z29, hz29, H⟩ := bnd H
              refine seq_cons (lw_on rfl rfl rfl rfl rfl (by exact congrArg gb hb28) (r_index rfl rfl rfl Try.underlying9 rfl rfl hz29)) ?_
              refine seq_cons (lw_on rfl rfl rfl rfl rfl (by exact congrArg gb hb28) (la_bin rfl rfl rfl rfl rfl rfl)) ?_
              refine seq_cons (lw_on rfl rfl rfl rfl rfl rfl (r_pick (b := false) rfl rfl rfl (by exact congrArg gb hb28) rfl)) ?_
              refine seq_cons (lw_run rfl rfl (r_pick (b := true) rfl rfl rfl rfl rfl)) ?_
              refine w_end ?_
              exact fun a w h => ⟨(z25, (decide (z25 < 97)), (decide (z25 < 97)), true, true, (decide (z29 > 57))), H, h.weaken (has_le ⟨rfl, rfl, rfl, rfl, rfl, rfl, rfl, rfl, rfl, rfl, rfl, rfl, rfl, rfl, trivial⟩)⟩
          · replace H := bif_f H hb26
            refine seq_cons (lw_on rfl rfl rfl rfl rfl (by exact congrArg gb hb26) (la_mvs (.inl rfl) rfl rfl rfl)) ?_
            refine seq_cons (lw_on rfl rfl rfl rfl rfl (by exact congrArg gb hb26) (la_mvs (.inl rfl) rfl rfl rfl)) ?_
            obtain ⟨z30, hz30, H⟩ := bnd H
            refine seq_cons (lw_on rfl rfl rfl rfl rfl (by exact congrArg gb hb26) (r_index rfl rfl rfl Try.underlying9 rfl rfl hz30)) ?_
            refine seq_cons (lw_on rfl rfl rfl rfl rfl (by exact congrArg gb hb26) (la_bin rfl rfl rfl rfl rfl rfl)) ?_
            refine seq_cons (lw_run rfl rfl (r_pick (b := false) rfl rfl rfl (by exact congrArg gb hb26) rfl)) ?_
            refine seq_cons (lw_run rfl rfl (la_mvs (.inl rfl) rfl rfl rfl)) ?_
            refine bcase (decide (z30 > 122)) (fun hb31 => ?_) (fun hb31 => ?_)
            · replace H := bif_t H hb31
              refine seq_cons (lw_on rfl rfl rfl rfl rfl (by exact congrArg gb hb31) (la_mvs (.inl rfl) rfl rfl rfl)) ?_
              refine seq_cons (lw_on rfl rfl rfl rfl rfl (by exact congrArg gb hb31) (la_mvs (.inl rfl) rfl rfl rfl)) ?_
              obtain ⟨z32, hz32, H⟩ := bnd H
              refine seq_cons (lw_on rfl rfl rfl rfl rfl (by exact congrArg gb hb31) (r_index rfl rfl rfl Try.underlying9 rfl rfl hz32)) ?_
              refine seq_cons (lw_on rfl rfl rfl rfl rfl (by exact congrArg gb hb31) (la_bin rfl rfl rfl rfl rfl rfl)) ?_
              refine seq_cons (lw_on rfl rfl rfl rfl rfl (by exact congrArg gb hb31) (la_mvs (.inl rfl) rfl rfl rfl)) ?_
              refine bcase (decide (z32 < 48)) (fun hb33 => ?_) (fun hb33 => ?_)
              · replace H := bif_t H hb33
                refine seq_cons (lw_off rfl rfl rfl rfl rfl (by exact congrArg gb hb33) rfl rfl rfl) ?_
                refine seq_cons (lw_off rfl rfl rfl rfl rfl (by exact congrArg gb hb33) rfl rfl rfl) ?_
                refine seq_cons (lw_off rfl rfl rfl rfl rfl (by exact congrArg gb hb33) rfl rfl rfl) ?_
                refine seq_cons (lw_off rfl rfl rfl rfl rfl (by exact congrArg gb hb33) rfl rfl rfl) ?_
                refine seq_cons (lw_on rfl rfl rfl rfl rfl (by exact congrArg gb hb31) (r_pick (b := true) rfl rfl rfl (by exact congrArg gb hb33) rfl)) ?_
                refine seq_cons (lw_run rfl rfl (r_pick (b := true) rfl rfl rfl (by exact congrArg gb hb31) rfl)) ?_
                refine w_end ?_
                exact fun a w h => ⟨(z25, (decide (z25 < 97)), (decide (z25 < 97)), (decide (z30 > 122)), (decide (z30 > 122)), true), H, h.weaken (has_le ⟨rfl, rfl, rfl, rfl, rfl, rfl, rfl, rfl, rfl, rfl, rfl, rfl, rfl, rfl, trivial⟩)⟩
              · replace H := bif_f H hb33
                refine seq_cons (lw_on rfl rfl rfl rfl rfl (by exact congrArg gb hb33) (la_mvs (.inl rfl) rfl rfl rfl)) ?_
                refine seq_cons (lw_on rfl rfl rfl rfl rfl (by exact congrArg gb hb33) (la_mvs (.inl rfl) rfl rfl rfl)) ?_
                obtain ⟨z34, hz34, H⟩ := bnd H
                refine seq_cons (lw_on rfl rfl rfl rfl rfl (by exact congrArg gb hb33) (r_index rfl rfl rfl Try.underlying9 rfl rfl hz34)) ?_
                refine seq_cons (lw_on rfl rfl rfl rfl rfl (by exact congrArg gb hb33) (la_bin rfl rfl rfl rfl rfl rfl)) ?_
                refine seq_cons (lw_on rfl rfl rfl rfl rfl (by exact congrArg gb hb31) (r_pick (b := false) rfl rfl rfl (by exact congrArg gb hb33) rfl)) ?_
                refine seq_cons (lw_run rfl rfl (r_pick (b := true) rfl rfl rfl (by exact congrArg gb hb31) rfl)) ?_
                refine w_end ?_
                exact fun a w h => ⟨(z25, (decide (z25 < 97)), (decide (z25 < 97)), (decide (z30 > 122)), (decide (z30 > 122)), (decide (z34 > 57))), H, h.weaken (has_le ⟨rfl, rfl, rfl, rfl, rfl, rfl, rfl, rfl, rfl, rfl, rfl, rfl, rfl, rfl, trivial⟩)⟩
            · replace H := bif_f H hb31
              refine seq_cons (lw_off rfl rfl rfl rfl rfl (by exact congrArg gb hb31) rfl rfl rfl) ?_
              refine seq_cons (lw_off rfl rfl rfl rfl rfl (by exact congrArg gb hb31) rfl rfl rfl) ?_
              refine seq_cons (lw_off rfl rfl rfl rfl rfl (by exact congrArg gb hb31) rfl rfl rfl) ?_
              refine seq_cons (lw_off rfl rfl rfl rfl rfl (by exact congrArg gb hb31) rfl rfl rfl) ?_
              refine seq_cons (lw_off rfl rfl rfl rfl rfl (by exact congrArg gb hb31) rfl rfl rfl) ?_
              refine seq_cons (lw_offu rfl rfl rfl rfl rfl rfl rfl rfl) ?_
              refine seq_cons (lw_offu rfl rfl rfl rfl rfl rfl rfl rfl) ?_
              refine seq_cons (lw_offu rfl rfl rfl rfl rfl rfl rfl rfl) ?_
              refine seq_cons (lw_offu rfl rfl rfl rfl rfl rfl rfl rfl) ?_
              refine seq_cons (lw_off rfl rfl rfl rfl rfl (by exact congrArg gb hb31) rfl rfl rfl) ?_
              refine seq_cons (lw_run rfl rfl (r_pick (b := false) rfl rfl rfl (by exact congrArg gb hb31) rfl)) ?_
              refine w_end ?_
              exact fun a w h => ⟨(z25, (decide (z25 < 97)), (decide (z25 < 97)), (decide (z30 > 122)), (decide (z30 > 122)), false), H, h.weaken (has_le ⟨rfl, rfl, rfl, rfl, rfl, rfl, rfl, rfl, rfl, rfl, rfl, rfl, rfl, rfl, trivial⟩)⟩
        · rintro ⟨v18, v19, v20, v21, v22, v23⟩ H
          try dsimp only at H ⊢
          unfold F60_J1 at H
          refine w_cond rfl (fun hb24 => ?_) (fun hb24 => ?_)
          · replace H := bif_t H hb24
            refine w_seq' ?_
            refine w_reg ?_
            refine seq_cons (lw_run rfl rfl (la_mvs (.inr rfl) rfl rfl rfl)) ?_
            refine w_end ?_
            refine w_nx ?_
            cases H
            try dsimp only at HC0
            cases HC0
            exact w_ret (fun a w h => fin_one h rfl (.tmp rfl rfl) trivial)
          · replace H := bif_f H hb24
            refine w_skip ?_
            refine q_nb ?_
            refine w_nx ?_
            refine w_reg ?_
            refine seq_cons (lw_run rfl rfl (la_mvs (.inl rfl) rfl rfl rfl)) ?_
            refine seq_cons (lw_run rfl rfl (la_bin rfl rfl rfl rfl rfl rfl)) ?_
            refine seq_cons (lw_run rfl rfl (la_mvs (.inr rfl) rfl rfl rfl)) ?_
            refine w_end ?_
            refine q_nt ?_
            exact fun a w h => ⟨k0, (IntKind.i64.wrap (v6 + 1)), Nat.lt_succ_self k0, H, h.weaken (has_le ⟨rfl, rfl, trivial⟩)⟩
      · replace H := bif_f H hb7
        refine w_exit ?_
        refine q_et ?_
        refine q_et ?_
        refine q_in ?_
        cases H
        have H := HC0
        clear HC0
        try dsimp only at H
        refine w_nx ?_
        refine w_seq' ?_
        refine w_reg ?_
        refine seq_cons (lw_run rfl rfl (la_mvs (.inr rfl) rfl rfl rfl)) ?_
        refine w_end ?_
        refine w_nx ?_
        cases H
        exact w_ret (fun a w h => fin_one h rfl (.tmp rfl rfl) trivial)
/- loop.example/g00844/spec.l01Less -/
def F61_J0 (kf : Nat) (a0 : ByteArray) (a1 : ByteArray) (v1 : Int) (go : Int → Option (Ex Bool Int)) (v3 : Bool) : Option (Ex Bool Int) :=
  (bif v3 then
  (bix a0 v1).bind (fun z5 => (bix a1 v1).bind (fun z6 => (bif (z5 != z6) then
  (bix a0 v1).bind (fun z8 => (bix a1 v1).bind (fun z9 => some (.ret (decide (z8 < z9)))))
  else go (IntKind.i64.wrap (v1 + 1)))))
  else some (.go v1))
def F61_L0 (kf : Nat) (a0 : ByteArray) (a1 : ByteArray) : Nat → Int → Option (Ex Bool Int)
  | 0, _ => none
  | k + 1, v1 =>
  (bif (decide (v1 < (a0.size : Int))) then
  F61_J0 kf a0 a1 v1 (F61_L0 kf a0 a1 k) (decide (v1 < (a1.size : Int)))
  else F61_J0 kf a0 a1 v1 (F61_L0 kf a0 a1 k) false)
def F61 (kf : Nat) (a0 : ByteArray) (a1 : ByteArray) : Option Bool :=
  (F61_L0 kf a0 a1 kf 0).bind (fun o => match o with
  | .ret r => some r
  | .go v1 => some (decide ((a0.size : Int) < (a1.size : Int))))
theorem r61 (kf : Nat) (a0 : ByteArray) (a1 : ByteArray) (R : Bool) (H : F61 kf a0 a1 = some R) : Ret Try.prog 61 37 [.d (sv a0), .d (sv a1)] [] (.d (bv R)) [] := by
  refine ret_of Try.func61 rfl rfl (by kernel_rfl) rfl ?_
  intro fr a' w' hn
  obtain ⟨w0, M, Z0, n, γ⟩ := fr
  simp only at hn
  subst hn
  revert a' w'
  show W _ _ _ _ _
  refine w_seq' ?_
  refine w_reg ?_
  refine seq_cons (lw_run rfl rfl (la_mvs (.inr rfl) rfl rfl rfl)) ?_
  refine w_end ?_
  refine w_nx ?_
  refine w_seq' ?_
  refine w_seq' ?_
  refine w_reg ?_
  refine seq_cons (lw_run rfl rfl (la_mvs (.inr rfl) rfl rfl rfl)) ?_
  refine w_end ?_
  refine w_nx ?_
  refine w_block ?_
  obtain ⟨out0, HL, HC0⟩ := bnd H
  clear H
  refine w_weak (Γ' := (fun s : Int => mk [(0, .d (sv a0)), (1, .d (sv a1)), (5, .d (iv s))]) 0) (w_loop (σ := Int) (fun s => mk [(0, .d (sv a0)), (1, .d (sv a1)), (5, .d (iv s))]) (fun k s => F61_L0 kf a0 a1 k s = some out0) kf 0 HL ?_) (has_le ⟨rfl, rfl, rfl, trivial⟩)
  clear HL
  rintro k0 v1 H
  cases k0 with
  | zero => cases H
  | succ k0 =>
  try dsimp only at H ⊢
  refine w_seq' ?_
  refine w_join (σ := Bool) (fun s => mk [(0, .d (sv a0)), (1, .d (sv a1)), (5, .d (iv v1)), (6, .d (iv v1)), (7, .d (sv a0)), (8, .d (iv (a0.size : Int))), (9, .d (bv (decide (v1 < (a0.size : Int))))), (10, .d (bv (decide (v1 < (a0.size : Int))))), (15, .d (bv s))]) (fun s => F61_J0 kf a0 a1 v1 (F61_L0 kf a0 a1 k0) s = some out0) ?_ ?_
  · refine w_reg ?_
    refine seq_cons (lw_run rfl rfl (la_mvs (.inl rfl) rfl rfl rfl)) ?_
    refine seq_cons (lw_run rfl rfl (la_mvs (.inl rfl) rfl rfl rfl)) ?_
    refine seq_cons (lw_run rfl rfl (la_lens rfl rfl rfl Try.underlying9 rfl)) ?_
    refine seq_cons (lw_run rfl rfl (la_bin rfl rfl rfl rfl rfl rfl)) ?_
    refine seq_cons (lw_run rfl rfl (la_mvs (.inl rfl) rfl rfl rfl)) ?_
    refine bcase (decide (v1 < (a0.size : Int))) (fun hb10 => ?_) (fun hb10 => ?_)
    · replace H := bif_t H hb10
      refine seq_cons (lw_on rfl rfl rfl rfl rfl (by exact congrArg gb hb10) (la_mvs (.inl rfl) rfl rfl rfl)) ?_
      refine seq_cons (lw_on rfl rfl rfl rfl rfl (by exact congrArg gb hb10) (la_mvs (.inl rfl) rfl rfl rfl)) ?_
      refine seq_cons (lw_on rfl rfl rfl rfl rfl (by exact congrArg gb hb10) (la_lens rfl rfl rfl Try.underlying9 rfl)) ?_
      refine seq_cons (lw_on rfl rfl rfl rfl rfl (by exact congrArg gb hb10) (la_bin rfl rfl rfl rfl rfl rfl)) ?_
      refine seq_cons (lw_run rfl rfl (r_pick (b := true) rfl rfl rfl (by exact congrArg gb hb10) rfl)) ?_
      refine w_end ?_
      exact fun a w h => ⟨(decide (v1 < (a1.size : Int))), H, h.weaken (has_le ⟨rfl, rfl, rfl, rfl, rfl, rfl, rfl, rfl, rfl, trivial⟩)⟩
    · replace H := bif_f H hb10
      refine seq_cons (lw_off rfl rfl rfl rfl rfl (by exact congrArg gb hb10) rfl rfl rfl) ?_
      refine seq_cons (lw_off rfl rfl rfl rfl rfl (by exact congrArg gb hb10) rfl rfl rfl) ?_
      refine seq_cons (lw_off rfl rfl rfl rfl rfl (by exact congrArg gb hb10) rfl rfl rfl) ?_
      refine seq_cons (lw_off rfl rfl rfl rfl rfl (by exact congrArg gb hb10) rfl rfl rfl) ?_
      refine seq_cons (lw_run rfl rfl (r_pick (b := false) rfl rfl rfl (by exact congrArg gb hb10) rfl)) ?_
      refine w_end ?_
      exact fun a w h => ⟨false, H, h.weaken (has_le ⟨rfl, rfl, rfl, rfl, rfl, rfl, rfl, rfl, rfl, trivial⟩)⟩
  · rintro v3 H
    try dsimp only at H ⊢
    unfold F61_J0 at H
    refine w_cond rfl (fun hb4 => ?_) (fun hb4 => ?_)
    · replace H := bif_t H hb4
      refine w_skip ?_
      refine w_nx ?_
      refine w_seq' ?_
      refine w_block ?_
      refine w_seq' ?_
      obtain ⟨z5, hz5, H⟩ := bnd H
      obtain ⟨z6, hz6, H⟩ := bnd H
      refine w_drawnq (⟨[(0, .d (sv a0), none)], _, []⟩ :: ⟨[(5, .d (iv v1), none)], _, []⟩ :: ⟨[(18, .d (sv a0), some 0), (19, .d (iv v1), some 1)], _, [0, 1]⟩ :: ⟨[(1, .d (sv a1), none)], _, []⟩ :: ⟨[(5, .d (iv v1), none)], _, []⟩ :: ⟨[(21, .d (sv a1), some 3), (22, .d (iv v1), some 4)], _, [3, 4]⟩ :: ⟨[(20, .d (.one (.v (.int .u8 z5))), some 2), (23, .d (.one (.v (.int .u8 z6))), some 5)], _, [0, 1, 2, 3, 4, 5]⟩ :: []) [(0, .d (sv a0), none), (1, .d (sv a1), none), (5, .d (iv v1), none), (6, .d (iv v1), none), (7, .d (sv a0), none), (8, .d (iv (a0.size : Int)), none), (9, .d (bv (decide (v1 < (a0.size : Int)))), none), (10, .d (bv (decide (v1 < (a0.size : Int)))), none), (15, .d (bv v3), none), (18, .d (sv a0), some 0), (19, .d (iv v1), some 1), (20, .d (.one (.v (.int .u8 z5))), some 2), (21, .d (sv a1), some 3), (22, .d (iv v1), some 4), (23, .d (.one (.v (.int .u8 z6))), some 5), (24, .d (bv (z5 != z6)), some 6)] mixed ⟨lw_run rfl rfl (la_mvs (.inl rfl) rfl rfl rfl), lw_run rfl rfl (la_mvs (.inl rfl) rfl rfl rfl), lw_run rfl rfl (r_index rfl rfl rfl Try.underlying9 rfl rfl hz5), lw_run rfl rfl (la_mvs (.inl rfl) rfl rfl rfl), lw_run rfl rfl (la_mvs (.inl rfl) rfl rfl rfl), lw_run rfl rfl (r_index rfl rfl rfl Try.underlying9 rfl rfl hz6), lw_run rfl rfl (la_bin rfl rfl rfl rfl rfl rfl), trivial⟩ ⟨⟨rfl, trivial⟩, ⟨rfl, trivial⟩, ⟨rfl, rfl, trivial⟩, ⟨rfl, trivial⟩, ⟨rfl, trivial⟩, ⟨rfl, rfl, trivial⟩, ⟨rfl, rfl, trivial⟩, trivial⟩ ⟨rfl, rfl, rfl, rfl, rfl, rfl, rfl, rfl, rfl, rfl, rfl, rfl, rfl, rfl, rfl, rfl, trivial⟩ (by kernel_rfl) ?_
      refine w_nx ?_
      refine w_cond rfl (fun hb7 => ?_) (fun hb7 => ?_)
      · replace H := bif_t H hb7
        refine w_seq' ?_
        obtain ⟨z8, hz8, H⟩ := bnd H
        obtain ⟨z9, hz9, H⟩ := bnd H
        refine w_drawnq (⟨[(0, .d (sv a0), none)], _, []⟩ :: ⟨[(5, .d (iv v1), none)], _, []⟩ :: ⟨[(25, .d (sv a0), some 0), (26, .d (iv v1), some 1)], _, [0, 1]⟩ :: ⟨[(1, .d (sv a1), none)], _, []⟩ :: ⟨[(5, .d (iv v1), none)], _, []⟩ :: ⟨[(28, .d (sv a1), some 3), (29, .d (iv v1), some 4)], _, [3, 4]⟩ :: ⟨[(27, .d (.one (.v (.int .u8 z8))), some 2), (30, .d (.one (.v (.int .u8 z9))), some 5)], _, [0, 1, 2, 3, 4, 5]⟩ :: ⟨[(31, .d (bv (decide (z8 < z9))), some 6)], _, [0, 1, 2, 3, 4, 5, 6]⟩ :: []) [(0, .d (sv a0), none), (1, .d (sv a1), none), (4, .d (bv (decide (z8 < z9))), some 7), (5, .d (iv v1), none), (6, .d (iv v1), none), (7, .d (sv a0), none), (8, .d (iv (a0.size : Int)), none), (9, .d (bv (decide (v1 < (a0.size : Int)))), none), (10, .d (bv (decide (v1 < (a0.size : Int)))), none), (15, .d (bv v3), none), (18, .d (sv a0), none), (19, .d (iv v1), none), (20, .d (.one (.v (.int .u8 z5))), none), (21, .d (sv a1), none), (22, .d (iv v1), none), (23, .d (.one (.v (.int .u8 z6))), none), (24, .d (bv (z5 != z6)), none), (25, .d (sv a0), some 0), (26, .d (iv v1), some 1), (27, .d (.one (.v (.int .u8 z8))), some 2), (28, .d (sv a1), some 3), (29, .d (iv v1), some 4), (30, .d (.one (.v (.int .u8 z9))), some 5), (31, .d (bv (decide (z8 < z9))), some 6)] mixed ⟨lw_run rfl rfl (la_mvs (.inl rfl) rfl rfl rfl), lw_run rfl rfl (la_mvs (.inl rfl) rfl rfl rfl), lw_run rfl rfl (r_index rfl rfl rfl Try.underlying9 rfl rfl hz8), lw_run rfl rfl (la_mvs (.inl rfl) rfl rfl rfl), lw_run rfl rfl (la_mvs (.inl rfl) rfl rfl rfl), lw_run rfl rfl (r_index rfl rfl rfl Try.underlying9 rfl rfl hz9), lw_run rfl rfl (la_bin rfl rfl rfl rfl rfl rfl), lw_run rfl rfl (la_mvs (.inr rfl) rfl rfl rfl), trivial⟩ ⟨⟨rfl, trivial⟩, ⟨rfl, trivial⟩, ⟨rfl, rfl, trivial⟩, ⟨rfl, trivial⟩, ⟨rfl, trivial⟩, ⟨rfl, rfl, trivial⟩, ⟨rfl, rfl, trivial⟩, ⟨rfl, trivial⟩, trivial⟩ ⟨rfl, rfl, rfl, rfl, rfl, rfl, rfl, rfl, rfl, rfl, rfl, rfl, rfl, rfl, rfl, rfl, rfl, rfl, rfl, rfl, rfl, rfl, rfl, rfl, trivial⟩ (by kernel_rfl) ?_
        refine w_nx ?_
        cases H
        try dsimp only at HC0
        cases HC0
        exact w_ret (fun a w h => fin_one h rfl (.tmp rfl rfl) trivial)
      · replace H := bif_f H hb7
        refine w_skip ?_
        refine q_nb ?_
        refine w_nx ?_
        refine w_reg ?_
        refine seq_cons (lw_run rfl rfl (la_mvs (.inl rfl) rfl rfl rfl)) ?_
        refine seq_cons (lw_run rfl rfl (la_bin rfl rfl rfl rfl rfl rfl)) ?_
        refine seq_cons (lw_run rfl rfl (la_mvs (.inr rfl) rfl rfl rfl)) ?_
        refine w_end ?_
        refine q_nt ?_
        exact fun a w h => ⟨k0, (IntKind.i64.wrap (v1 + 1)), Nat.lt_succ_self k0, H, h.weaken (has_le ⟨rfl, rfl, rfl, trivial⟩)⟩
    · replace H := bif_f H hb4
      refine w_exit ?_
      refine q_et ?_
      refine q_et ?_
      refine q_in ?_
      cases H
      have H := HC0
      clear HC0
      try dsimp only at H
      refine w_nx ?_
      refine w_seq' ?_
      refine w_reg ?_
      refine seq_cons (lw_run rfl rfl (la_mvs (.inl rfl) rfl rfl rfl)) ?_
      refine seq_cons (lw_run rfl rfl (la_lens rfl rfl rfl Try.underlying9 rfl)) ?_
      refine seq_cons (lw_run rfl rfl (la_mvs (.inl rfl) rfl rfl rfl)) ?_
      refine seq_cons (lw_run rfl rfl (la_lens rfl rfl rfl Try.underlying9 rfl)) ?_
      refine seq_cons (lw_run rfl rfl (la_bin rfl rfl rfl rfl rfl rfl)) ?_
      refine seq_cons (lw_run rfl rfl (la_mvs (.inr rfl) rfl rfl rfl)) ?_
      refine w_end ?_
      refine w_nx ?_
      cases H
      exact w_ret (fun a w h => fin_one h rfl (.tmp rfl rfl) trivial)
/- loop.example/g00844/spec.SchemaOk -/
def F44_J0 (kf : Nat) (a0 : (List S69)) (v2 : Int) (go : Int → Option (Ex Bool Int)) (v14 : ByteArray) (v15 : Bool) (v16 : Bool) (v17 : Bool) (v18 : Bool) (v19 : Bool) (v20 : Bool) : Option (Ex Bool Int) :=
  (bif v20 then
  some (.ret false)
  else go (IntKind.i64.wrap (v2 + 1)))
def F44_L0 (kf : Nat) (a0 : (List S69)) : Nat → Int → Option (Ex Bool Int)
  | 0, _ => none
  | k + 1, v2 =>
  (bif (decide (v2 < (a0.length : Int))) then
  (ix a0 v2).bind (fun z22 => (F60 kf z22.f0).bind (fun y23 => (bif (!y23) then
  F44_J0 kf a0 v2 (F44_L0 kf a0 k) z22.f0 y23 (!y23) (!y23) true true true
  else (ix a0 v2).bind (fun z25 => (F34 kf z25.f1 1 6).bind (fun y26 => (bif (!y26) then
  F44_J0 kf a0 v2 (F44_L0 kf a0 k) z22.f0 y23 (!y23) (!y23) (!y26) (!y26) true
  else (bif (decide (v2 > 0)) then
  (ix a0 (IntKind.i64.wrap (v2 - 1))).bind (fun z29 => (ix a0 v2).bind (fun z30 => (F61 kf z29.f0 z30.f0).bind (fun y31 => F44_J0 kf a0 v2 (F44_L0 kf a0 k) z22.f0 y23 (!y23) (!y23) (!y26) (!y26) (!y31))))
  else F44_J0 kf a0 v2 (F44_L0 kf a0 k) z22.f0 y23 (!y23) (!y23) (!y26) (!y26) false)))))))
  else some (.go v2))
def F44 (kf : Nat) (a0 : (List S69)) : Option Bool :=
  (bif (decide ((a0.length : Int) > 8)) then
  some false
  else (F44_L0 kf a0 kf 0).bind (fun o => match o with
  | .ret r => some r
  | .go v2 => some true))
theorem r44 (kf : Nat) (a0 : (List S69)) (R : Bool) (H : F44 kf a0 = some R) : Ret Try.prog 44 48 [.d (.one (.sl false 73 (a0.map (c73 false))))] [] (.d (bv R)) [] := by
  refine ret_of Try.func44 rfl rfl (by kernel_rfl) rfl ?_
  intro fr a' w' hn
  obtain ⟨w0, M, Z0, n, γ⟩ := fr
  simp only at hn
  subst hn
  revert a' w'
  show W _ _ _ _ _
  refine w_seq' ?_
  refine w_reg ?_
  refine seq_cons (lw_run rfl rfl (la_mvs (.inr rfl) rfl rfl rfl)) ?_
  refine w_end ?_
  refine w_nx ?_
  refine w_seq' ?_
  refine w_seq' ?_
  refine w_reg ?_
  refine seq_cons (lw_run rfl rfl (r_mvr (.inl rfl) rfl rfl rfl rfl)) ?_
  refine seq_cons (lw_run rfl rfl (la_len rfl rfl rfl Try.underlying45 rfl)) ?_
  refine seq_cons (lw_run rfl rfl (la_bin rfl rfl rfl rfl rfl rfl)) ?_
  refine w_end ?_
  refine w_nx ?_
  refine w_cond rfl (fun hb1 => ?_) (fun hb1 => ?_)
  · replace H := bif_t H hb1
    refine w_seq' ?_
    refine w_reg ?_
    refine seq_cons (lw_run rfl rfl (la_mvs (.inr rfl) rfl rfl rfl)) ?_
    refine w_end ?_
    refine w_nx ?_
    cases H
    exact w_ret (fun a w h => fin_one h rfl (.tmp rfl rfl) trivial)
  · replace H := bif_f H hb1
    refine w_skip ?_
    refine w_nx ?_
    refine w_seq' ?_
    refine w_seq' ?_
    refine w_reg ?_
    refine seq_cons (lw_run rfl rfl (la_mvs (.inr rfl) rfl rfl rfl)) ?_
    refine w_end ?_
    refine w_nx ?_
    refine w_block ?_
    obtain ⟨out0, HL, HC0⟩ := bnd H
    clear H
    refine w_weak (Γ' := (fun s : Int => mk [(0, .d (.one (.sl false 73 (a0.map (c73 false))))), (3, .d (iv s))]) 0) (w_loop (σ := Int) (fun s => mk [(0, .d (.one (.sl false 73 (a0.map (c73 false))))), (3, .d (iv s))]) (fun k s => F44_L0 kf a0 k s = some out0) kf 0 HL ?_) (has_le ⟨rfl, rfl, trivial⟩)
    clear HL
    rintro k0 v2 H
    cases k0 with
    | zero => cases H
    | succ k0 =>
    try dsimp only at H ⊢
    refine w_seq' ?_
    refine w_seq' ?_
    refine w_reg ?_
    refine seq_cons (lw_run rfl rfl (la_mvs (.inl rfl) rfl rfl rfl)) ?_
    refine seq_cons (lw_run rfl rfl (r_mvr (.inl rfl) rfl rfl rfl rfl)) ?_
    refine seq_cons (lw_run rfl rfl (la_len rfl rfl rfl Try.underlying45 rfl)) ?_
    refine seq_cons (lw_run rfl rfl (la_bin rfl rfl rfl rfl rfl rfl)) ?_
    refine w_end ?_
    refine w_nx ?_
    refine w_cond rfl (fun hb3 => ?_) (fun hb3 => ?_)
    · replace H := bif_t H hb3
      refine w_skip ?_
      refine w_nx ?_
      refine w_seq' ?_
      refine w_block ?_
      refine w_join (σ := ByteArray × Bool × Bool × Bool × Bool × Bool × Bool) (fun s => mk [(0, .d (.one (.sl false 73 (a0.map (c73 false))))), (3, .d (iv v2)), (7, .d (iv v2)), (8, .d (.one (.sl false 73 (a0.map (c73 false))))), (9, .d (iv (a0.length : Int))), (10, .d (bv (decide (v2 < (a0.length : Int))))), (13, .d (.one (.sl false 73 (a0.map (c73 false))))), (14, .d (iv v2)), (17, .d (sv s.1)), (18, .d (bv s.2.1)), (19, .d (bv s.2.2.1)), (20, .d (bv s.2.2.2.1)), (28, .d (bv s.2.2.2.2.1)), (29, .d (bv s.2.2.2.2.2.1)), (47, .d (bv s.2.2.2.2.2.2))]) (fun s => F44_J0 kf a0 v2 (F44_L0 kf a0 k0) s.1 s.2.1 s.2.2.1 s.2.2.2.1 s.2.2.2.2.1 s.2.2.2.2.2.1 s.2.2.2.2.2.2 = some out0) ?_ ?_
      · obtain ⟨z22, hz22, H⟩ := bnd H
        obtain ⟨y23, hy23, H⟩ := bnd H
        refine bcase (!y23) (fun hb24 => ?_) (fun hb24 => ?_)
        · replace H := bif_t H hb24
          refine w_drawnq (⟨[(0, .d (.one (.sl false 73 (a0.map (c73 false)))), none)], _, []⟩ :: ⟨[(3, .d (iv v2), none)], _, []⟩ :: ⟨[(13, .d (.one (.sl false 73 (a0.map (c73 false)))), some 0), (14, .d (iv v2), some 1)], _, [0, 1]⟩ :: ⟨[(15, .sp none (c73 false z22), some 2)], _, [0, 1, 2]⟩ :: ⟨[(16, .sp none ((c73 false z22).drop 0), some 3)], _, [0, 1, 2, 3]⟩ :: ⟨[(17, .d (sv z22.f0), some 4)], _, [0, 1, 2, 3, 4]⟩ :: ⟨[(18, .d (bv y23), some 5)], _, [0, 1, 2, 3, 4, 5]⟩ :: ⟨[(19, .d (bv (!y23)), some 6)], _, [0, 1, 2, 3, 4, 5, 6]⟩ :: ⟨[(20, .d (bv (!y23)), some 7)], _, [0, 1, 2, 3, 4, 5, 6, 7]⟩ :: ⟨[(20, .d (bv (!y23)), some 7)], _, [0, 1, 2, 3, 4, 5, 6, 7]⟩ :: ⟨[(20, .d (bv (!y23)), some 7)], _, [0, 1, 2, 3, 4, 5, 6, 7, 8, 9]⟩ :: ⟨[(20, .d (bv (!y23)), some 7)], _, [0, 1, 2, 3, 4, 5, 6, 7, 8, 9, 10]⟩ :: ⟨[(20, .d (bv (!y23)), some 7)], _, [0, 1, 2, 3, 4, 5, 6, 7, 8, 9, 10, 11]⟩ :: ⟨[(20, .d (bv (!y23)), some 7)], _, [0, 1, 2, 3, 4, 5, 6, 7, 8, 9, 10, 11, 12]⟩ :: ⟨[(20, .d (bv (!y23)), some 7)], _, [0, 1, 2, 3, 4, 5, 6, 7, 8, 9, 10, 11, 12, 13]⟩ :: ⟨[(20, .d (bv (!y23)), some 7), (27, .tup [], some 14)], _, [0, 1, 2, 3, 4, 5, 6, 7, 8, 9, 10, 11, 12, 13, 14]⟩ :: ⟨[(28, .d (bv true), some 15)], _, [0, 1, 2, 3, 4, 5, 6, 7, 8, 9, 10, 11, 12, 13, 14, 15]⟩ :: ⟨[(29, .d (bv true), some 16)], _, [0, 1, 2, 3, 4, 5, 6, 7, 8, 9, 10, 11, 12, 13, 14, 15, 16]⟩ :: ⟨[(29, .d (bv true), some 16)], _, [0, 1, 2, 3, 4, 5, 6, 7, 8, 9, 10, 11, 12, 13, 14, 15, 16, 17]⟩ :: ⟨[(29, .d (bv true), some 16)], _, [0, 1, 2, 3, 4, 5, 6, 7, 8, 9, 10, 11, 12, 13, 14, 15, 16, 17, 18]⟩ :: ⟨[(32, .tup [], some 19)], _, [0, 1, 2, 3, 4, 5, 6, 7, 8, 9, 10, 11, 12, 13, 14, 15, 16, 17, 18, 19]⟩ :: ⟨[(32, .tup [], some 19)], _, [0, 1, 2, 3, 4, 5, 6, 7, 8, 9, 10, 11, 12, 13, 14, 15, 16, 17, 18, 19]⟩ :: ⟨[(32, .tup [], some 19)], _, [0, 1, 2, 3, 4, 5, 6, 7, 8, 9, 10, 11, 12, 13, 14, 15, 16, 17, 18, 19, 21]⟩ :: ⟨[(32, .tup [], some 19)], _, [0, 1, 2, 3, 4, 5, 6, 7, 8, 9, 10, 11, 12, 13, 14, 15, 16, 17, 18, 19, 20, 21, 22]⟩ :: ⟨[(32, .tup [], some 19)], _, [0, 1, 2, 3, 4, 5, 6, 7, 8, 9, 10, 11, 12, 13, 14, 15, 16, 17, 18, 19, 20, 21, 22, 23]⟩ :: ⟨[(32, .tup [], some 19)], _, [0, 1, 2, 3, 4, 5, 6, 7, 8, 9, 10, 11, 12, 13, 14, 15, 16, 17, 18, 19, 20, 21, 22, 23, 24]⟩ :: ⟨[(32, .tup [], some 19)], _, [0, 1, 2, 3, 4, 5, 6, 7, 8, 9, 10, 11, 12, 13, 14, 15, 16, 17, 18, 19]⟩ :: ⟨[(32, .tup [], some 19)], _, [0, 1, 2, 3, 4, 5, 6, 7, 8, 9, 10, 11, 12, 13, 14, 15, 16, 17, 18, 19]⟩ :: ⟨[(32, .tup [], some 19)], _, [0, 1, 2, 3, 4, 5, 6, 7, 8, 9, 10, 11, 12, 13, 14, 15, 16, 17, 18, 19, 26, 27]⟩ :: ⟨[(32, .tup [], some 19)], _, [0, 1, 2, 3, 4, 5, 6, 7, 8, 9, 10, 11, 12, 13, 14, 15, 16, 17, 18, 19, 26, 27, 28]⟩ :: ⟨[(32, .tup [], some 19)], _, [0, 1, 2, 3, 4, 5, 6, 7, 8, 9, 10, 11, 12, 13, 14, 15, 16, 17, 18, 19, 26, 27, 28, 29]⟩ :: ⟨[(32, .tup [], some 19)], _, [0, 1, 2, 3, 4, 5, 6, 7, 8, 9, 10, 11, 12, 13, 14, 15, 16, 17, 18, 19, 20, 21, 22, 23, 24, 25, 26, 27, 28, 29, 30]⟩ :: ⟨[(32, .tup [], some 19)], _, [0, 1, 2, 3, 4, 5, 6, 7, 8, 9, 10, 11, 12, 13, 14, 15, 16, 17, 18, 19, 20, 21, 22, 23, 24, 25, 26, 27, 28, 29, 30, 31]⟩ :: ⟨[(29, .d (bv true), some 16)], _, [0, 1, 2, 3, 4, 5, 6, 7, 8, 9, 10, 11, 12, 13, 14, 15, 16, 17, 18, 19, 20, 21, 22, 23, 24, 25, 26, 27, 28, 29, 30, 31, 32]⟩ :: ⟨[(29, .d (bv true), some 16), (46, .tup [], some 33)], _, [0, 1, 2, 3, 4, 5, 6, 7, 8, 9, 10, 11, 12, 13, 14, 15, 16, 17, 18, 19, 20, 21, 22, 23, 24, 25, 26, 27, 28, 29, 30, 31, 32, 33]⟩ :: []) [(0, .d (.one (.sl false 73 (a0.map (c73 false)))), none), (3, .d (iv v2), none), (7, .d (iv v2), none), (8, .d (.one (.sl false 73 (a0.map (c73 false)))), none), (9, .d (iv (a0.length : Int)), none), (10, .d (bv (decide (v2 < (a0.length : Int)))), none), (13, .d (.one (.sl false 73 (a0.map (c73 false)))), some 0), (14, .d (iv v2), some 1), (17, .d (sv z22.f0), some 4), (18, .d (bv y23), some 5), (19, .d (bv (!y23)), some 6), (20, .d (bv (!y23)), some 7), (28, .d (bv true), some 15), (29, .d (bv true), some 16), (47, .d (bv true), some 34)] mixed ⟨lw_run rfl rfl (r_mvr (.inl rfl) rfl rfl rfl rfl), lw_run rfl rfl (la_mvs (.inl rfl) rfl rfl rfl), lw_run rfl rfl (r_ix rfl rfl rfl e45 rfl rfl hz22 rfl), lw_run rfl rfl (r_fsp rfl rfl rfl fd73_0 rfl rfl), lw_run rfl rfl (r_ld rfl rfl rfl fl9 rfl rfl), lw_run rfl rfl (r_call0 [] rfl rfl rfl rfl (r60 kf z22.f0 _ hy23) rfl rfl rfl rfl rfl rfl (.inl rfl)), lw_run rfl rfl (la_not rfl rfl rfl rfl), lw_run rfl rfl (la_mvs (.inl rfl) rfl rfl rfl), lw_off rfl rfl rfl rfl rfl (by exact congrArg gb hb24) rfl rfl rfl, lw_off rfl rfl rfl rfl rfl (by exact congrArg gb hb24) rfl rfl rfl, lw_off rfl rfl rfl rfl rfl (by exact congrArg gb hb24) rfl rfl rfl, lw_off rfl rfl rfl rfl rfl (by exact congrArg gb hb24) rfl rfl rfl, lw_off rfl rfl rfl rfl rfl (by exact congrArg gb hb24) rfl rfl rfl, lw_off rfl rfl rfl rfl rfl (by exact congrArg gb hb24) rfl rfl rfl, lw_off rfl rfl rfl rfl rfl (by exact congrArg gb hb24) rfl rfl rfl, lw_run rfl rfl (r_pick (b := true) rfl rfl rfl (by exact congrArg gb hb24) rfl), lw_run rfl rfl (la_mvs (.inl rfl) rfl rfl rfl), lw_off rfl rfl rfl rfl rfl rfl rfl rfl rfl, lw_off rfl rfl rfl rfl rfl rfl rfl rfl rfl, lw_off rfl rfl rfl rfl rfl rfl rfl rfl rfl, lw_offu rfl rfl rfl rfl rfl rfl rfl rfl, lw_offu rfl rfl rfl rfl rfl rfl rfl rfl, lw_offu rfl rfl rfl rfl rfl rfl rfl rfl, lw_offu rfl rfl rfl rfl rfl rfl rfl rfl, lw_offu rfl rfl rfl rfl rfl rfl rfl rfl, lw_offu rfl rfl rfl rfl rfl rfl rfl rfl, lw_offu rfl rfl rfl rfl rfl rfl rfl rfl, lw_offu rfl rfl rfl rfl rfl rfl rfl rfl, lw_offu rfl rfl rfl rfl rfl rfl rfl rfl, lw_offu rfl rfl rfl rfl rfl rfl rfl rfl, lw_offu rfl rfl rfl rfl rfl rfl rfl rfl, lw_offu rfl rfl rfl rfl rfl rfl rfl rfl, lw_offu rfl rfl rfl rfl rfl rfl rfl rfl, lw_off rfl rfl rfl rfl rfl rfl rfl rfl rfl, lw_run rfl rfl (r_pick (b := true) rfl rfl rfl rfl rfl), trivial⟩ ⟨⟨rfl, trivial⟩, ⟨rfl, trivial⟩, ⟨rfl, rfl, trivial⟩, ⟨rfl, trivial⟩, ⟨rfl, trivial⟩, ⟨rfl, trivial⟩, ⟨rfl, trivial⟩, ⟨rfl, trivial⟩, ⟨rfl, trivial⟩, ⟨rfl, trivial⟩, ⟨rfl, trivial⟩, ⟨rfl, trivial⟩, ⟨rfl, trivial⟩, ⟨rfl, trivial⟩, ⟨rfl, trivial⟩, ⟨rfl, rfl, trivial⟩, ⟨rfl, trivial⟩, ⟨rfl, trivial⟩, ⟨rfl, trivial⟩, ⟨rfl, trivial⟩, ⟨rfl, trivial⟩, ⟨rfl, trivial⟩, ⟨rfl, trivial⟩, ⟨rfl, trivial⟩, ⟨rfl, trivial⟩, ⟨rfl, trivial⟩, ⟨rfl, trivial⟩, ⟨rfl, trivial⟩, ⟨rfl, trivial⟩, ⟨rfl, trivial⟩, ⟨rfl, trivial⟩, ⟨rfl, trivial⟩, ⟨rfl, trivial⟩, ⟨rfl, trivial⟩, ⟨rfl, rfl, trivial⟩, trivial⟩ ⟨rfl, rfl, rfl, rfl, rfl, rfl, rfl, rfl, rfl, rfl, rfl, rfl, rfl, rfl, rfl, trivial⟩ (by kernel_rfl) ?_
          exact fun a w h => ⟨(z22.f0, y23, (!y23), (!y23), true, true, true), H, h.weaken (has_le ⟨rfl, rfl, rfl, rfl, rfl, rfl, rfl, rfl, rfl, rfl, rfl, rfl, rfl, rfl, rfl, trivial⟩)⟩
        · replace H := bif_f H hb24
          obtain ⟨z25, hz25, H⟩ := bnd H
          obtain ⟨y26, hy26, H⟩ := bnd H
          refine bcase (!y26) (fun hb27 => ?_) (fun hb27 => ?_)
          · replace H := bif_t H hb27
            refine w_drawnq (⟨[(0, .d (.one (.sl false 73 (a0.map (c73 false)))), none)], _, []⟩ :: ⟨[(3, .d (iv v2), none)], _, []⟩ :: ⟨[(13, .d (.one (.sl false 73 (a0.map (c73 false)))), some 0), (14, .d (iv v2), some 1)], _, [0, 1]⟩ :: ⟨[(15, .sp none (c73 false z22), some 2)], _, [0, 1, 2]⟩ :: ⟨[(16, .sp none ((c73 false z22).drop 0), some 3)], _, [0, 1, 2, 3]⟩ :: ⟨[(17, .d (sv z22.f0), some 4)], _, [0, 1, 2, 3, 4]⟩ :: ⟨[(18, .d (bv y23), some 5)], _, [0, 1, 2, 3, 4, 5]⟩ :: ⟨[(19, .d (bv (!y23)), some 6)], _, [0, 1, 2, 3, 4, 5, 6]⟩ :: ⟨[(0, .d (.one (.sl false 73 (a0.map (c73 false)))), none), (20, .d (bv (!y23)), some 7)], _, [0, 1, 2, 3, 4, 5, 6, 7]⟩ :: ⟨[(3, .d (iv v2), none), (20, .d (bv (!y23)), some 7)], _, [0, 1, 2, 3, 4, 5, 6, 7]⟩ :: ⟨[(21, .d (.one (.sl false 73 (a0.map (c73 false)))), some 8), (22, .d (iv v2), some 9), (20, .d (bv (!y23)), some 7)], _, [0, 1, 2, 3, 4, 5, 6, 7, 8, 9]⟩ :: ⟨[(23, .sp none (c73 false z25), some 10), (20, .d (bv (!y23)), some 7)], _, [0, 1, 2, 3, 4, 5, 6, 7, 8, 9, 10]⟩ :: ⟨[(24, .sp none ((c73 false z25).drop 1), some 11), (20, .d (bv (!y23)), some 7)], _, [0, 1, 2, 3, 4, 5, 6, 7, 8, 9, 10, 11]⟩ :: ⟨[(25, .d (iv z25.f1), some 12), (20, .d (bv (!y23)), some 7)], _, [0, 1, 2, 3, 4, 5, 6, 7, 8, 9, 10, 11, 12]⟩ :: ⟨[(26, .d (bv y26), some 13), (20, .d (bv (!y23)), some 7)], _, [0, 1, 2, 3, 4, 5, 6, 7, 8, 9, 10, 11, 12, 13]⟩ :: ⟨[(20, .d (bv (!y23)), some 7), (27, .d (bv (!y26)), some 14)], _, [0, 1, 2, 3, 4, 5, 6, 7, 8, 9, 10, 11, 12, 13, 14]⟩ :: ⟨[(28, .d (bv (!y26)), some 15)], _, [0, 1, 2, 3, 4, 5, 6, 7, 8, 9, 10, 11, 12, 13, 14, 15]⟩ :: ⟨[(29, .d (bv (!y26)), some 16)], _, [0, 1, 2, 3, 4, 5, 6, 7, 8, 9, 10, 11, 12, 13, 14, 15, 16]⟩ :: ⟨[(29, .d (bv (!y26)), some 16)], _, [0, 1, 2, 3, 4, 5, 6, 7, 8, 9, 10, 11, 12, 13, 14, 15, 16, 17]⟩ :: ⟨[(29, .d (bv (!y26)), some 16)], _, [0, 1, 2, 3, 4, 5, 6, 7, 8, 9, 10, 11, 12, 13, 14, 15, 16, 17, 18]⟩ :: ⟨[(32, .tup [], some 19)], _, [0, 1, 2, 3, 4, 5, 6, 7, 8, 9, 10, 11, 12, 13, 14, 15, 16, 17, 18, 19]⟩ :: ⟨[(32, .tup [], some 19)], _, [0, 1, 2, 3, 4, 5, 6, 7, 8, 9, 10, 11, 12, 13, 14, 15, 16, 17, 18, 19]⟩ :: ⟨[(32, .tup [], some 19)], _, [0, 1, 2, 3, 4, 5, 6, 7, 8, 9, 10, 11, 12, 13, 14, 15, 16, 17, 18, 19, 21]⟩ :: ⟨[(32, .tup [], some 19)], _, [0, 1, 2, 3, 4, 5, 6, 7, 8, 9, 10, 11, 12, 13, 14, 15, 16, 17, 18, 19, 20, 21, 22]⟩ :: ⟨[(32, .tup [], some 19)], _, [0, 1, 2, 3, 4, 5, 6, 7, 8, 9, 10, 11, 12, 13, 14, 15, 16, 17, 18, 19, 20, 21, 22, 23]⟩ :: ⟨[(32, .tup [], some 19)], _, [0, 1, 2, 3, 4, 5, 6, 7, 8, 9, 10, 11, 12, 13, 14, 15, 16, 17, 18, 19, 20, 21, 22, 23, 24]⟩ :: ⟨[(32, .tup [], some 19)], _, [0, 1, 2, 3, 4, 5, 6, 7, 8, 9, 10, 11, 12, 13, 14, 15, 16, 17, 18, 19]⟩ :: ⟨[(32, .tup [], some 19)], _, [0, 1, 2, 3, 4, 5, 6, 7, 8, 9, 10, 11, 12, 13, 14, 15, 16, 17, 18, 19]⟩ :: ⟨[(32, .tup [], some 19)], _, [0, 1, 2, 3, 4, 5, 6, 7, 8, 9, 10, 11, 12, 13, 14, 15, 16, 17, 18, 19, 26, 27]⟩ :: ⟨[(32, .tup [], some 19)], _, [0, 1, 2, 3, 4, 5, 6, 7, 8, 9, 10, 11, 12, 13, 14, 15, 16, 17, 18, 19, 26, 27, 28]⟩ :: ⟨[(32, .tup [], some 19)], _, [0, 1, 2, 3, 4, 5, 6, 7, 8, 9, 10, 11, 12, 13, 14, 15, 16, 17, 18, 19, 26, 27, 28, 29]⟩ :: ⟨[(32, .tup [], some 19)], _, [0, 1, 2, 3, 4, 5, 6, 7, 8, 9, 10, 11, 12, 13, 14, 15, 16, 17, 18, 19, 20, 21, 22, 23, 24, 25, 26, 27, 28, 29, 30]⟩ :: ⟨[(32, .tup [], some 19)], _, [0, 1, 2, 3, 4, 5, 6, 7, 8, 9, 10, 11, 12, 13, 14, 15, 16, 17, 18, 19, 20, 21, 22, 23, 24, 25, 26, 27, 28, 29, 30, 31]⟩ :: ⟨[(29, .d (bv (!y26)), some 16)], _, [0, 1, 2, 3, 4, 5, 6, 7, 8, 9, 10, 11, 12, 13, 14, 15, 16, 17, 18, 19, 20, 21, 22, 23, 24, 25, 26, 27, 28, 29, 30, 31, 32]⟩ :: ⟨[(29, .d (bv (!y26)), some 16), (46, .tup [], some 33)], _, [0, 1, 2, 3, 4, 5, 6, 7, 8, 9, 10, 11, 12, 13, 14, 15, 16, 17, 18, 19, 20, 21, 22, 23, 24, 25, 26, 27, 28, 29, 30, 31, 32, 33]⟩ :: []) [(0, .d (.one (.sl false 73 (a0.map (c73 false)))), none), (3, .d (iv v2), none), (7, .d (iv v2), none), (8, .d (.one (.sl false 73 (a0.map (c73 false)))), none), (9, .d (iv (a0.length : Int)), none), (10, .d (bv (decide (v2 < (a0.length : Int)))), none), (13, .d (.one (.sl false 73 (a0.map (c73 false)))), some 0), (14, .d (iv v2), some 1), (17, .d (sv z22.f0), some 4), (18, .d (bv y23), some 5), (19, .d (bv (!y23)), some 6), (20, .d (bv (!y23)), some 7), (21, .d (.one (.sl false 73 (a0.map (c73 false)))), some 8), (22, .d (iv v2), some 9), (25, .d (iv z25.f1), some 12), (26, .d (bv y26), some 13), (27, .d (bv (!y26)), some 14), (28, .d (bv (!y26)), some 15), (29, .d (bv (!y26)), some 16), (47, .d (bv true), some 34)] mixed ⟨lw_run rfl rfl (r_mvr (.inl rfl) rfl rfl rfl rfl), lw_run rfl rfl (la_mvs (.inl rfl) rfl rfl rfl), lw_run rfl rfl (r_ix rfl rfl rfl e45 rfl rfl hz22 rfl), lw_run rfl rfl (r_fsp rfl rfl rfl fd73_0 rfl rfl), lw_run rfl rfl (r_ld rfl rfl rfl fl9 rfl rfl), lw_run rfl rfl (r_call0 [] rfl rfl rfl rfl (r60 kf z22.f0 _ hy23) rfl rfl rfl rfl rfl rfl (.inl rfl)), lw_run rfl rfl (la_not rfl rfl rfl rfl), lw_run rfl rfl (la_mvs (.inl rfl) rfl rfl rfl), lw_on rfl rfl rfl rfl rfl (by exact congrArg gb hb24) (r_mvr (.inl rfl) rfl rfl rfl rfl), lw_on rfl rfl rfl rfl rfl (by exact congrArg gb hb24) (la_mvs (.inl rfl) rfl rfl rfl), lw_on rfl rfl rfl rfl rfl (by exact congrArg gb hb24) (r_ix rfl rfl rfl e45 rfl rfl hz25 rfl), lw_on rfl rfl rfl rfl rfl (by exact congrArg gb hb24) (r_fsp rfl rfl rfl fd73_1 rfl rfl), lw_on rfl rfl rfl rfl rfl (by exact congrArg gb hb24) (r_ld rfl rfl rfl fl3 rfl rfl), lw_on rfl rfl rfl rfl rfl (by exact congrArg gb hb24) (r_call0 [] rfl rfl rfl rfl (r34 kf z25.f1 1 6 _ hy26) rfl rfl rfl rfl rfl rfl (.inl rfl)), lw_on rfl rfl rfl rfl rfl (by exact congrArg gb hb24) (la_not rfl rfl rfl rfl), lw_run rfl rfl (r_pick (b := false) rfl rfl rfl (by exact congrArg gb hb24) rfl), lw_run rfl rfl (la_mvs (.inl rfl) rfl rfl rfl), lw_off rfl rfl rfl rfl rfl (by exact congrArg gb hb27) rfl rfl rfl, lw_off rfl rfl rfl rfl rfl (by exact congrArg gb hb27) rfl rfl rfl, lw_off rfl rfl rfl rfl rfl (by exact congrArg gb hb27) rfl rfl rfl, lw_offu rfl rfl rfl rfl rfl rfl rfl rfl, lw_offu rfl rfl rfl rfl rfl rfl rfl rfl, lw_offu rfl rfl rfl rfl rfl rfl rfl rfl, lw_offu rfl rfl rfl rfl rfl rfl rfl rfl, lw_offu rfl rfl rfl rfl rfl rfl rfl rfl, lw_offu rfl rfl rfl rfl rfl rfl rfl rfl, lw_offu rfl rfl rfl rfl rfl rfl rfl rfl, lw_offu rfl rfl rfl rfl rfl rfl rfl rfl, lw_offu rfl rfl rfl rfl rfl rfl rfl rfl, lw_offu rfl rfl rfl rfl rfl rfl rfl rfl, lw_offu rfl rfl rfl rfl rfl rfl rfl rfl, lw_offu rfl rfl rfl rfl rfl rfl rfl rfl, lw_offu rfl rfl rfl rfl rfl rfl rfl rfl, lw_off rfl rfl rfl rfl rfl (by exact congrArg gb hb27) rfl rfl rfl, lw_run rfl rfl (r_pick (b := true) rfl rfl rfl (by exact congrArg gb hb27) rfl), trivial⟩ ⟨⟨rfl, trivial⟩, ⟨rfl, trivial⟩, ⟨rfl, rfl, trivial⟩, ⟨rfl, trivial⟩, ⟨rfl, trivial⟩, ⟨rfl, trivial⟩, ⟨rfl, trivial⟩, ⟨rfl, trivial⟩, ⟨rfl, rfl, trivial⟩, ⟨rfl, rfl, trivial⟩, ⟨rfl, rfl, rfl, trivial⟩, ⟨rfl, rfl, trivial⟩, ⟨rfl, rfl, trivial⟩, ⟨rfl, rfl, trivial⟩, ⟨rfl, rfl, trivial⟩, ⟨rfl, rfl, trivial⟩, ⟨rfl, trivial⟩, ⟨rfl, trivial⟩, ⟨rfl, trivial⟩, ⟨rfl, trivial⟩, ⟨rfl, trivial⟩, ⟨rfl, trivial⟩, ⟨rfl, trivial⟩, ⟨rfl, trivial⟩, ⟨rfl, trivial⟩, ⟨rfl, trivial⟩, ⟨rfl, trivial⟩, ⟨rfl, trivial⟩, ⟨rfl, trivial⟩, ⟨rfl, trivial⟩, ⟨rfl, trivial⟩, ⟨rfl, trivial⟩, ⟨rfl, trivial⟩, ⟨rfl, trivial⟩, ⟨rfl, rfl, trivial⟩, trivial⟩ ⟨rfl, rfl, rfl, rfl, rfl, rfl, rfl, rfl, rfl, rfl, rfl, rfl, rfl, rfl, rfl, rfl, rfl, rfl, rfl, rfl, trivial⟩ (by kernel_rfl) ?_
            exact fun a w h => ⟨(z22.f0, y23, (!y23), (!y23), (!y26), (!y26), true), H, h.weaken (has_le ⟨rfl, rfl, rfl, rfl, rfl, rfl, rfl, rfl, rfl, rfl, rfl, rfl, rfl, rfl, rfl, trivial⟩)⟩
          · replace H := bif_f H hb27
            refine bcase (decide (v2 > 0)) (fun hb28 => ?_) (fun hb28 => ?_)
            · replace H := bif_t H hb28
              obtain ⟨z29, hz29, H⟩ := bnd H
              obtain ⟨z30, hz30, H⟩ := bnd H
              obtain ⟨y31, hy31, H⟩ := bnd H
              refine w_drawnq (⟨[(0, .d (.one (.sl false 73 (a0.map (c73 false)))), none)], _, []⟩ :: ⟨[(3, .d (iv v2), none)], _, []⟩ :: ⟨[(13, .d (.one (.sl false 73 (a0.map (c73 false)))), some 0), (14, .d (iv v2), some 1)], _, [0, 1]⟩ :: ⟨[(15, .sp none (c73 false z22), some 2)], _, [0, 1, 2]⟩ :: ⟨[(16, .sp none ((c73 false z22).drop 0), some 3)], _, [0, 1, 2, 3]⟩ :: ⟨[(17, .d (sv z22.f0), some 4)], _, [0, 1, 2, 3, 4]⟩ :: ⟨[(18, .d (bv y23), some 5)], _, [0, 1, 2, 3, 4, 5]⟩ :: ⟨[(19, .d (bv (!y23)), some 6)], _, [0, 1, 2, 3, 4, 5, 6]⟩ :: ⟨[(0, .d (.one (.sl false 73 (a0.map (c73 false)))), none), (20, .d (bv (!y23)), some 7)], _, [0, 1, 2, 3, 4, 5, 6, 7]⟩ :: ⟨[(3, .d (iv v2), none), (20, .d (bv (!y23)), some 7)], _, [0, 1, 2, 3, 4, 5, 6, 7]⟩ :: ⟨[(21, .d (.one (.sl false 73 (a0.map (c73 false)))), some 8), (22, .d (iv v2), some 9), (20, .d (bv (!y23)), some 7)], _, [0, 1, 2, 3, 4, 5, 6, 7, 8, 9]⟩ :: ⟨[(23, .sp none (c73 false z25), some 10), (20, .d (bv (!y23)), some 7)], _, [0, 1, 2, 3, 4, 5, 6, 7, 8, 9, 10]⟩ :: ⟨[(24, .sp none ((c73 false z25).drop 1), some 11), (20, .d (bv (!y23)), some 7)], _, [0, 1, 2, 3, 4, 5, 6, 7, 8, 9, 10, 11]⟩ :: ⟨[(25, .d (iv z25.f1), some 12), (20, .d (bv (!y23)), some 7)], _, [0, 1, 2, 3, 4, 5, 6, 7, 8, 9, 10, 11, 12]⟩ :: ⟨[(26, .d (bv y26), some 13), (20, .d (bv (!y23)), some 7)], _, [0, 1, 2, 3, 4, 5, 6, 7, 8, 9, 10, 11, 12, 13]⟩ :: ⟨[(20, .d (bv (!y23)), some 7), (27, .d (bv (!y26)), some 14)], _, [0, 1, 2, 3, 4, 5, 6, 7, 8, 9, 10, 11, 12, 13, 14]⟩ :: ⟨[(28, .d (bv (!y26)), some 15)], _, [0, 1, 2, 3, 4, 5, 6, 7, 8, 9, 10, 11, 12, 13, 14, 15]⟩ :: ⟨[(3, .d (iv v2), none), (29, .d (bv (!y26)), some 16)], _, [0, 1, 2, 3, 4, 5, 6, 7, 8, 9, 10, 11, 12, 13, 14, 15, 16]⟩ :: ⟨[(30, .d (iv v2), some 17), (29, .d (bv (!y26)), some 16)], _, [0, 1, 2, 3, 4, 5, 6, 7, 8, 9, 10, 11, 12, 13, 14, 15, 16, 17]⟩ :: ⟨[(31, .d (bv (decide (v2 > 0))), some 18), (29, .d (bv (!y26)), some 16)], _, [0, 1, 2, 3, 4, 5, 6, 7, 8, 9, 10, 11, 12, 13, 14, 15, 16, 17, 18]⟩ :: ⟨[(0, .d (.one (.sl false 73 (a0.map (c73 false)))), none), (32, .d (bv (decide (v2 > 0))), some 19)], _, [0, 1, 2, 3, 4, 5, 6, 7, 8, 9, 10, 11, 12, 13, 14, 15, 16, 17, 18, 19]⟩ :: ⟨[(3, .d (iv v2), none), (32, .d (bv (decide (v2 > 0))), some 19)], _, [0, 1, 2, 3, 4, 5, 6, 7, 8, 9, 10, 11, 12, 13, 14, 15, 16, 17, 18, 19]⟩ :: ⟨[(34, .d (iv v2), some 21), (32, .d (bv (decide (v2 > 0))), some 19)], _, [0, 1, 2, 3, 4, 5, 6, 7, 8, 9, 10, 11, 12, 13, 14, 15, 16, 17, 18, 19, 21]⟩ :: ⟨[(33, .d (.one (.sl false 73 (a0.map (c73 false)))), some 20), (35, .d (iv (IntKind.i64.wrap (v2 - 1))), some 22), (32, .d (bv (decide (v2 > 0))), some 19)], _, [0, 1, 2, 3, 4, 5, 6, 7, 8, 9, 10, 11, 12, 13, 14, 15, 16, 17, 18, 19, 20, 21, 22]⟩ :: ⟨[(36, .sp none (c73 false z29), some 23), (32, .d (bv (decide (v2 > 0))), some 19)], _, [0, 1, 2, 3, 4, 5, 6, 7, 8, 9, 10, 11, 12, 13, 14, 15, 16, 17, 18, 19, 20, 21, 22, 23]⟩ :: ⟨[(37, .sp none ((c73 false z29).drop 0), some 24), (32, .d (bv (decide (v2 > 0))), some 19)], _, [0, 1, 2, 3, 4, 5, 6, 7, 8, 9, 10, 11, 12, 13, 14, 15, 16, 17, 18, 19, 20, 21, 22, 23, 24]⟩ :: ⟨[(0, .d (.one (.sl false 73 (a0.map (c73 false)))), none), (32, .d (bv (decide (v2 > 0))), some 19)], _, [0, 1, 2, 3, 4, 5, 6, 7, 8, 9, 10, 11, 12, 13, 14, 15, 16, 17, 18, 19]⟩ :: ⟨[(3, .d (iv v2), none), (32, .d (bv (decide (v2 > 0))), some 19)], _, [0, 1, 2, 3, 4, 5, 6, 7, 8, 9, 10, 11, 12, 13, 14, 15, 16, 17, 18, 19]⟩ :: ⟨[(39, .d (.one (.sl false 73 (a0.map (c73 false)))), some 26), (40, .d (iv v2), some 27), (32, .d (bv (decide (v2 > 0))), some 19)], _, [0, 1, 2, 3, 4, 5, 6, 7, 8, 9, 10, 11, 12, 13, 14, 15, 16, 17, 18, 19, 26, 27]⟩ :: ⟨[(41, .sp none (c73 false z30), some 28), (32, .d (bv (decide (v2 > 0))), some 19)], _, [0, 1, 2, 3, 4, 5, 6, 7, 8, 9, 10, 11, 12, 13, 14, 15, 16, 17, 18, 19, 26, 27, 28]⟩ :: ⟨[(42, .sp none ((c73 false z30).drop 0), some 29), (32, .d (bv (decide (v2 > 0))), some 19)], _, [0, 1, 2, 3, 4, 5, 6, 7, 8, 9, 10, 11, 12, 13, 14, 15, 16, 17, 18, 19, 26, 27, 28, 29]⟩ :: ⟨[(38, .d (sv z29.f0), some 25), (43, .d (sv z30.f0), some 30), (32, .d (bv (decide (v2 > 0))), some 19)], _, [0, 1, 2, 3, 4, 5, 6, 7, 8, 9, 10, 11, 12, 13, 14, 15, 16, 17, 18, 19, 20, 21, 22, 23, 24, 25, 26, 27, 28, 29, 30]⟩ :: ⟨[(44, .d (bv y31), some 31), (32, .d (bv (decide (v2 > 0))), some 19)], _, [0, 1, 2, 3, 4, 5, 6, 7, 8, 9, 10, 11, 12, 13, 14, 15, 16, 17, 18, 19, 20, 21, 22, 23, 24, 25, 26, 27, 28, 29, 30, 31]⟩ :: ⟨[(32, .d (bv (decide (v2 > 0))), some 19), (45, .d (bv (!y31)), some 32), (29, .d (bv (!y26)), some 16)], _, [0, 1, 2, 3, 4, 5, 6, 7, 8, 9, 10, 11, 12, 13, 14, 15, 16, 17, 18, 19, 20, 21, 22, 23, 24, 25, 26, 27, 28, 29, 30, 31, 32]⟩ :: ⟨[(29, .d (bv (!y26)), some 16), (46, .d (bv (!y31)), some 33)], _, [0, 1, 2, 3, 4, 5, 6, 7, 8, 9, 10, 11, 12, 13, 14, 15, 16, 17, 18, 19, 20, 21, 22, 23, 24, 25, 26, 27, 28, 29, 30, 31, 32, 33]⟩ :: []) [(0, .d (.one (.sl false 73 (a0.map (c73 false)))), none), (3, .d (iv v2), none), (7, .d (iv v2), none), (8, .d (.one (.sl false 73 (a0.map (c73 false)))), none), (9, .d (iv (a0.length : Int)), none), (10, .d (bv (decide (v2 < (a0.length : Int)))), none), (13, .d (.one (.sl false 73 (a0.map (c73 false)))), some 0), (14, .d (iv v2), some 1), (17, .d (sv z22.f0), some 4), (18, .d (bv y23), some 5), (19, .d (bv (!y23)), some 6), (20, .d (bv (!y23)), some 7), (21, .d (.one (.sl false 73 (a0.map (c73 false)))), some 8), (22, .d (iv v2), some 9), (25, .d (iv z25.f1), some 12), (26, .d (bv y26), some 13), (27, .d (bv (!y26)), some 14), (28, .d (bv (!y26)), some 15), (29, .d (bv (!y26)), some 16), (30, .d (iv v2), some 17), (31, .d (bv (decide (v2 > 0))), some 18), (32, .d (bv (decide (v2 > 0))), some 19), (33, .d (.one (.sl false 73 (a0.map (c73 false)))), some 20), (34, .d (iv v2), some 21), (35, .d (iv (IntKind.i64.wrap (v2 - 1))), some 22), (38, .d (sv z29.f0), some 25), (39, .d (.one (.sl false 73 (a0.map (c73 false)))), some 26), (40, .d (iv v2), some 27), (43, .d (sv z30.f0), some 30), (44, .d (bv y31), some 31), (45, .d (bv (!y31)), some 32), (46, .d (bv (!y31)), some 33), (47, .d (bv (!y31)), some 34)] mixed ⟨lw_run rfl rfl (r_mvr (.inl rfl) rfl rfl rfl rfl), lw_run rfl rfl (la_mvs (.inl rfl) rfl rfl rfl), lw_run rfl rfl (r_ix rfl rfl rfl e45 rfl rfl hz22 rfl), lw_run rfl rfl (r_fsp rfl rfl rfl fd73_0 rfl rfl), lw_run rfl rfl (r_ld rfl rfl rfl fl9 rfl rfl), lw_run rfl rfl (r_call0 [] rfl rfl rfl rfl (r60 kf z22.f0 _ hy23) rfl rfl rfl rfl rfl rfl (.inl rfl)), lw_run rfl rfl (la_not rfl rfl rfl rfl), lw_run rfl rfl (la_mvs (.inl rfl) rfl rfl rfl), lw_on rfl rfl rfl rfl rfl (by exact congrArg gb hb24) (r_mvr (.inl rfl) rfl rfl rfl rfl), lw_on rfl rfl rfl rfl rfl (by exact congrArg gb hb24) (la_mvs (.inl rfl) rfl rfl rfl), lw_on rfl rfl rfl rfl rfl (by exact congrArg gb hb24) (r_ix rfl rfl rfl e45 rfl rfl hz25 rfl), lw_on rfl rfl rfl rfl rfl (by exact congrArg gb hb24) (r_fsp rfl rfl rfl fd73_1 rfl rfl), lw_on rfl rfl rfl rfl rfl (by exact congrArg gb hb24) (r_ld rfl rfl rfl fl3 rfl rfl), lw_on rfl rfl rfl rfl rfl (by exact congrArg gb hb24) (r_call0 [] rfl rfl rfl rfl (r34 kf z25.f1 1 6 _ hy26) rfl rfl rfl rfl rfl rfl (.inl rfl)), lw_on rfl rfl rfl rfl rfl (by exact congrArg gb hb24) (la_not rfl rfl rfl rfl), lw_run rfl rfl (r_pick (b := false) rfl rfl rfl (by exact congrArg gb hb24) rfl), lw_run rfl rfl (la_mvs (.inl rfl) rfl rfl rfl), lw_on rfl rfl rfl rfl rfl (by exact congrArg gb hb27) (la_mvs (.inl rfl) rfl rfl rfl), lw_on rfl rfl rfl rfl rfl (by exact congrArg gb hb27) (la_bin rfl rfl rfl rfl rfl rfl), lw_on rfl rfl rfl rfl rfl (by exact congrArg gb hb27) (la_mvs (.inl rfl) rfl rfl rfl), lw_on rfl rfl rfl rfl rfl (by exact congrArg gb hb28) (r_mvr (.inl rfl) rfl rfl rfl rfl), lw_on rfl rfl rfl rfl rfl (by exact congrArg gb hb28) (la_mvs (.inl rfl) rfl rfl rfl), lw_on rfl rfl rfl rfl rfl (by exact congrArg gb hb28) (la_bin rfl rfl rfl rfl rfl rfl), lw_on rfl rfl rfl rfl rfl (by exact congrArg gb hb28) (r_ix rfl rfl rfl e45 rfl rfl hz29 rfl), lw_on rfl rfl rfl rfl rfl (by exact congrArg gb hb28) (r_fsp rfl rfl rfl fd73_0 rfl rfl), lw_on rfl rfl rfl rfl rfl (by exact congrArg gb hb28) (r_ld rfl rfl rfl fl9 rfl rfl), lw_on rfl rfl rfl rfl rfl (by exact congrArg gb hb28) (r_mvr (.inl rfl) rfl rfl rfl rfl), lw_on rfl rfl rfl rfl rfl (by exact congrArg gb hb28) (la_mvs (.inl rfl) rfl rfl rfl), lw_on rfl rfl rfl rfl rfl (by exact congrArg gb hb28) (r_ix rfl rfl rfl e45 rfl rfl hz30 rfl), lw_on rfl rfl rfl rfl rfl (by exact congrArg gb hb28) (r_fsp rfl rfl rfl fd73_0 rfl rfl), lw_on rfl rfl rfl rfl rfl (by exact congrArg gb hb28) (r_ld rfl rfl rfl fl9 rfl rfl), lw_on rfl rfl rfl rfl rfl (by exact congrArg gb hb28) (r_call0 [] rfl rfl rfl rfl (r61 kf z29.f0 z30.f0 _ hy31) rfl rfl rfl rfl rfl rfl (.inl rfl)), lw_on rfl rfl rfl rfl rfl (by exact congrArg gb hb28) (la_not rfl rfl rfl rfl), lw_on rfl rfl rfl rfl rfl (by exact congrArg gb hb27) (r_pick (b := true) rfl rfl rfl (by exact congrArg gb hb28) rfl), lw_run rfl rfl (r_pick (b := false) rfl rfl rfl (by exact congrArg gb hb27) rfl), trivial⟩ ⟨⟨rfl, trivial⟩, ⟨rfl, trivial⟩, ⟨rfl, rfl, trivial⟩, ⟨rfl, trivial⟩, ⟨rfl, trivial⟩, ⟨rfl, trivial⟩, ⟨rfl, trivial⟩, ⟨rfl, trivial⟩, ⟨rfl, rfl, trivial⟩, ⟨rfl, rfl, trivial⟩, ⟨rfl, rfl, rfl, trivial⟩, ⟨rfl, rfl, trivial⟩, ⟨rfl, rfl, trivial⟩, ⟨rfl, rfl, trivial⟩, ⟨rfl, rfl, trivial⟩, ⟨rfl, rfl, trivial⟩, ⟨rfl, trivial⟩, ⟨rfl, rfl, trivial⟩, ⟨rfl, rfl, trivial⟩, ⟨rfl, rfl, trivial⟩, ⟨rfl, rfl, trivial⟩, ⟨rfl, rfl, trivial⟩, ⟨rfl, rfl, trivial⟩, ⟨rfl, rfl, rfl, trivial⟩, ⟨rfl, rfl, trivial⟩, ⟨rfl, rfl, trivial⟩, ⟨rfl, rfl, trivial⟩, ⟨rfl, rfl, trivial⟩, ⟨rfl, rfl, rfl, trivial⟩, ⟨rfl, rfl, trivial⟩, ⟨rfl, rfl, trivial⟩, ⟨rfl, rfl, rfl, trivial⟩, ⟨rfl, rfl, trivial⟩, ⟨rfl, rfl, rfl, trivial⟩, ⟨rfl, rfl, trivial⟩, trivial⟩ ⟨rfl, rfl, rfl, rfl, rfl, rfl, rfl, rfl, rfl, rfl, rfl, rfl, rfl, rfl, rfl, rfl, rfl, rfl, rfl, rfl, rfl, rfl, rfl, rfl, rfl, rfl, rfl, rfl, rfl, rfl, rfl, rfl, rfl, trivial⟩ (by kernel_rfl) ?_
              exact fun a w h => ⟨(z22.f0, y23, (!y23), (!y23), (!y26), (!y26), (!y31)), H, h.weaken (has_le ⟨rfl, rfl, rfl, rfl, rfl, rfl, rfl, rfl, rfl, rfl, rfl, rfl, rfl, rfl, rfl, trivial⟩)⟩
            · replace H := bif_f H hb28
              refine w_drawnq (⟨[(0, .d (.one (.sl false 73 (a0.map (c73 false)))), none)], _, []⟩ :: ⟨[(3, .d (iv v2), none)], _, []⟩ :: ⟨[(13, .d (.one (.sl false 73 (a0.map (c73 false)))), some 0), (14, .d (iv v2), some 1)], _, [0, 1]⟩ :: ⟨[(15, .sp none (c73 false z22), some 2)], _, [0, 1, 2]⟩ :: ⟨[(16, .sp none ((c73 false z22).drop 0), some 3)], _, [0, 1, 2, 3]⟩ :: ⟨[(17, .d (sv z22.f0), some 4)], _, [0, 1, 2, 3, 4]⟩ :: ⟨[(18, .d (bv y23), some 5)], _, [0, 1, 2, 3, 4, 5]⟩ :: ⟨[(19, .d (bv (!y23)), some 6)], _, [0, 1, 2, 3, 4, 5, 6]⟩ :: ⟨[(0, .d (.one (.sl false 73 (a0.map (c73 false)))), none), (20, .d (bv (!y23)), some 7)], _, [0, 1, 2, 3, 4, 5, 6, 7]⟩ :: ⟨[(3, .d (iv v2), none), (20, .d (bv (!y23)), some 7)], _, [0, 1, 2, 3, 4, 5, 6, 7]⟩ :: ⟨[(21, .d (.one (.sl false 73 (a0.map (c73 false)))), some 8), (22, .d (iv v2), some 9), (20, .d (bv (!y23)), some 7)], _, [0, 1, 2, 3, 4, 5, 6, 7, 8, 9]⟩ :: ⟨[(23, .sp none (c73 false z25), some 10), (20, .d (bv (!y23)), some 7)], _, [0, 1, 2, 3, 4, 5, 6, 7, 8, 9, 10]⟩ :: ⟨[(24, .sp none ((c73 false z25).drop 1), some 11), (20, .d (bv (!y23)), some 7)], _, [0, 1, 2, 3, 4, 5, 6, 7, 8, 9, 10, 11]⟩ :: ⟨[(25, .d (iv z25.f1), some 12), (20, .d (bv (!y23)), some 7)], _, [0, 1, 2, 3, 4, 5, 6, 7, 8, 9, 10, 11, 12]⟩ :: ⟨[(26, .d (bv y26), some 13), (20, .d (bv (!y23)), some 7)], _, [0, 1, 2, 3, 4, 5, 6, 7, 8, 9, 10, 11, 12, 13]⟩ :: ⟨[(20, .d (bv (!y23)), some 7), (27, .d (bv (!y26)), some 14)], _, [0, 1, 2, 3, 4, 5, 6, 7, 8, 9, 10, 11, 12, 13, 14]⟩ :: ⟨[(28, .d (bv (!y26)), some 15)], _, [0, 1, 2, 3, 4, 5, 6, 7, 8, 9, 10, 11, 12, 13, 14, 15]⟩ :: ⟨[(3, .d (iv v2), none), (29, .d (bv (!y26)), some 16)], _, [0, 1, 2, 3, 4, 5, 6, 7, 8, 9, 10, 11, 12, 13, 14, 15, 16]⟩ :: ⟨[(30, .d (iv v2), some 17), (29, .d (bv (!y26)), some 16)], _, [0, 1, 2, 3, 4, 5, 6, 7, 8, 9, 10, 11, 12, 13, 14, 15, 16, 17]⟩ :: ⟨[(31, .d (bv (decide (v2 > 0))), some 18), (29, .d (bv (!y26)), some 16)], _, [0, 1, 2, 3, 4, 5, 6, 7, 8, 9, 10, 11, 12, 13, 14, 15, 16, 17, 18]⟩ :: ⟨[(32, .d (bv (decide (v2 > 0))), some 19)], _, [0, 1, 2, 3, 4, 5, 6, 7, 8, 9, 10, 11, 12, 13, 14, 15, 16, 17, 18, 19]⟩ :: ⟨[(32, .d (bv (decide (v2 > 0))), some 19)], _, [0, 1, 2, 3, 4, 5, 6, 7, 8, 9, 10, 11, 12, 13, 14, 15, 16, 17, 18, 19]⟩ :: ⟨[(32, .d (bv (decide (v2 > 0))), some 19)], _, [0, 1, 2, 3, 4, 5, 6, 7, 8, 9, 10, 11, 12, 13, 14, 15, 16, 17, 18, 19, 21]⟩ :: ⟨[(32, .d (bv (decide (v2 > 0))), some 19)], _, [0, 1, 2, 3, 4, 5, 6, 7, 8, 9, 10, 11, 12, 13, 14, 15, 16, 17, 18, 19, 20, 21, 22]⟩ :: ⟨[(32, .d (bv (decide (v2 > 0))), some 19)], _, [0, 1, 2, 3, 4, 5, 6, 7, 8, 9, 10, 11, 12, 13, 14, 15, 16, 17, 18, 19, 20, 21, 22, 23]⟩ :: ⟨[(32, .d (bv (decide (v2 > 0))), some 19)], _, [0, 1, 2, 3, 4, 5, 6, 7, 8, 9, 10, 11, 12, 13, 14, 15, 16, 17, 18, 19, 20, 21, 22, 23, 24]⟩ :: ⟨[(32, .d (bv (decide (v2 > 0))), some 19)], _, [0, 1, 2, 3, 4, 5, 6, 7, 8, 9, 10, 11, 12, 13, 14, 15, 16, 17, 18, 19]⟩ :: ⟨[(32, .d (bv (decide (v2 > 0))), some 19)], _, [0, 1, 2, 3, 4, 5, 6, 7, 8, 9, 10, 11, 12, 13, 14, 15, 16, 17, 18, 19]⟩ :: ⟨[(32, .d (bv (decide (v2 > 0))), some 19)], _, [0, 1, 2, 3, 4, 5, 6, 7, 8, 9, 10, 11, 12, 13, 14, 15, 16, 17, 18, 19, 26, 27]⟩ :: ⟨[(32, .d (bv (decide (v2 > 0))), some 19)], _, [0, 1, 2, 3, 4, 5, 6, 7, 8, 9, 10, 11, 12, 13, 14, 15, 16, 17, 18, 19, 26, 27, 28]⟩ :: ⟨[(32, .d (bv (decide (v2 > 0))), some 19)], _, [0, 1, 2, 3, 4, 5, 6, 7, 8, 9, 10, 11, 12, 13, 14, 15, 16, 17, 18, 19, 26, 27, 28, 29]⟩ :: ⟨[(32, .d (bv (decide (v2 > 0))), some 19)], _, [0, 1, 2, 3, 4, 5, 6, 7, 8, 9, 10, 11, 12, 13, 14, 15, 16, 17, 18, 19, 20, 21, 22, 23, 24, 25, 26, 27, 28, 29, 30]⟩ :: ⟨[(32, .d (bv (decide (v2 > 0))), some 19)], _, [0, 1, 2, 3, 4, 5, 6, 7, 8, 9, 10, 11, 12, 13, 14, 15, 16, 17, 18, 19, 20, 21, 22, 23, 24, 25, 26, 27, 28, 29, 30, 31]⟩ :: ⟨[(32, .d (bv (decide (v2 > 0))), some 19), (45, .tup [], some 32), (29, .d (bv (!y26)), some 16)], _, [0, 1, 2, 3, 4, 5, 6, 7, 8, 9, 10, 11, 12, 13, 14, 15, 16, 17, 18, 19, 20, 21, 22, 23, 24, 25, 26, 27, 28, 29, 30, 31, 32]⟩ :: ⟨[(29, .d (bv (!y26)), some 16), (46, .d (bv false), some 33)], _, [0, 1, 2, 3, 4, 5, 6, 7, 8, 9, 10, 11, 12, 13, 14, 15, 16, 17, 18, 19, 20, 21, 22, 23, 24, 25, 26, 27, 28, 29, 30, 31, 32, 33]⟩ :: []) [(0, .d (.one (.sl false 73 (a0.map (c73 false)))), none), (3, .d (iv v2), none), (7, .d (iv v2), none), (8, .d (.one (.sl false 73 (a0.map (c73 false)))), none), (9, .d (iv (a0.length : Int)), none), (10, .d (bv (decide (v2 < (a0.length : Int)))), none), (13, .d (.one (.sl false 73 (a0.map (c73 false)))), some 0), (14, .d (iv v2), some 1), (17, .d (sv z22.f0), some 4), (18, .d (bv y23), some 5), (19, .d (bv (!y23)), some 6), (20, .d (bv (!y23)), some 7), (21, .d (.one (.sl false 73 (a0.map (c73 false)))), some 8), (22, .d (iv v2), some 9), (25, .d (iv z25.f1), some 12), (26, .d (bv y26), some 13), (27, .d (bv (!y26)), some 14), (28, .d (bv (!y26)), some 15), (29, .d (bv (!y26)), some 16), (30, .d (iv v2), some 17), (31, .d (bv (decide (v2 > 0))), some 18), (32, .d (bv (decide (v2 > 0))), some 19), (46, .d (bv false), some 33), (47, .d (bv false), some 34)] mixed ⟨lw_run rfl rfl (r_mvr (.inl rfl) rfl rfl rfl rfl), lw_run rfl rfl (la_mvs (.inl rfl) rfl rfl rfl), lw_run rfl rfl (r_ix rfl rfl rfl e45 rfl rfl hz22 rfl), lw_run rfl rfl (r_fsp rfl rfl rfl fd73_0 rfl rfl), lw_run rfl rfl (r_ld rfl rfl rfl fl9 rfl rfl), lw_run rfl rfl (r_call0 [] rfl rfl rfl rfl (r60 kf z22.f0 _ hy23) rfl rfl rfl rfl rfl rfl (.inl rfl)), lw_run rfl rfl (la_not rfl rfl rfl rfl), lw_run rfl rfl (la_mvs (.inl rfl) rfl rfl rfl), lw_on rfl rfl rfl rfl rfl (by exact congrArg gb hb24) (r_mvr (.inl rfl) rfl rfl rfl rfl), lw_on rfl rfl rfl rfl rfl (by exact congrArg gb hb24) (la_mvs (.inl rfl) rfl rfl rfl), lw_on rfl rfl rfl rfl rfl (by exact congrArg gb hb24) (r_ix rfl rfl rfl e45 rfl rfl hz25 rfl), lw_on rfl rfl rfl rfl rfl (by exact congrArg gb hb24) (r_fsp rfl rfl rfl fd73_1 rfl rfl), lw_on rfl rfl rfl rfl rfl (by exact congrArg gb hb24) (r_ld rfl rfl rfl fl3 rfl rfl), lw_on rfl rfl rfl rfl rfl (by exact congrArg gb hb24) (r_call0 [] rfl rfl rfl rfl (r34 kf z25.f1 1 6 _ hy26) rfl rfl rfl rfl rfl rfl (.inl rfl)), lw_on rfl rfl rfl rfl rfl (by exact congrArg gb hb24) (la_not rfl rfl rfl rfl), lw_run rfl rfl (r_pick (b := false) rfl rfl rfl (by exact congrArg gb hb24) rfl), lw_run rfl rfl (la_mvs (.inl rfl) rfl rfl rfl), lw_on rfl rfl rfl rfl rfl (by exact congrArg gb hb27) (la_mvs (.inl rfl) rfl rfl rfl), lw_on rfl rfl rfl rfl rfl (by exact congrArg gb hb27) (la_bin rfl rfl rfl rfl rfl rfl), lw_on rfl rfl rfl rfl rfl (by exact congrArg gb hb27) (la_mvs (.inl rfl) rfl rfl rfl), lw_off rfl rfl rfl rfl rfl (by exact congrArg gb hb28) rfl rfl rfl, lw_off rfl rfl rfl rfl rfl (by exact congrArg gb hb28) rfl rfl rfl, lw_off rfl rfl rfl rfl rfl (by exact congrArg gb hb28) rfl rfl rfl, lw_off rfl rfl rfl rfl rfl (by exact congrArg gb hb28) rfl rfl rfl, lw_off rfl rfl rfl rfl rfl (by exact congrArg gb hb28) rfl rfl rfl, lw_off rfl rfl rfl rfl rfl (by exact congrArg gb hb28) rfl rfl rfl, lw_off rfl rfl rfl rfl rfl (by exact congrArg gb hb28) rfl rfl rfl, lw_off rfl rfl rfl rfl rfl (by exact congrArg gb hb28) rfl rfl rfl, lw_off rfl rfl rfl rfl rfl (by exact congrArg gb hb28) rfl rfl rfl, lw_off rfl rfl rfl rfl rfl (by exact congrArg gb hb28) rfl rfl rfl, lw_off rfl rfl rfl rfl rfl (by exact congrArg gb hb28) rfl rfl rfl, lw_off rfl rfl rfl rfl rfl (by exact congrArg gb hb28) rfl rfl rfl, lw_off rfl rfl rfl rfl rfl (by exact congrArg gb hb28) rfl rfl rfl, lw_on rfl rfl rfl rfl rfl (by exact congrArg gb hb27) (r_pick (b := false) rfl rfl rfl (by exact congrArg gb hb28) rfl), lw_run rfl rfl (r_pick (b := false) rfl rfl rfl (by exact congrArg gb hb27) rfl), trivial⟩ ⟨⟨rfl, trivial⟩, ⟨rfl, trivial⟩, ⟨rfl, rfl, trivial⟩, ⟨rfl, trivial⟩, ⟨rfl, trivial⟩, ⟨rfl, trivial⟩, ⟨rfl, trivial⟩, ⟨rfl, trivial⟩, ⟨rfl, rfl, trivial⟩, ⟨rfl, rfl, trivial⟩, ⟨rfl, rfl, rfl, trivial⟩, ⟨rfl, rfl, trivial⟩, ⟨rfl, rfl, trivial⟩, ⟨rfl, rfl, trivial⟩, ⟨rfl, rfl, trivial⟩, ⟨rfl, rfl, trivial⟩, ⟨rfl, trivial⟩, ⟨rfl, rfl, trivial⟩, ⟨rfl, rfl, trivial⟩, ⟨rfl, rfl, trivial⟩, ⟨rfl, trivial⟩, ⟨rfl, trivial⟩, ⟨rfl, trivial⟩, ⟨rfl, trivial⟩, ⟨rfl, trivial⟩, ⟨rfl, trivial⟩, ⟨rfl, trivial⟩, ⟨rfl, trivial⟩, ⟨rfl, trivial⟩, ⟨rfl, trivial⟩, ⟨rfl, trivial⟩, ⟨rfl, trivial⟩, ⟨rfl, trivial⟩, ⟨rfl, rfl, rfl, trivial⟩, ⟨rfl, rfl, trivial⟩, trivial⟩ ⟨rfl, rfl, rfl, rfl, rfl, rfl, rfl, rfl, rfl, rfl, rfl, rfl, rfl, rfl, rfl, rfl, rfl, rfl, rfl, rfl, rfl, rfl, rfl, rfl, trivial⟩ (by kernel_rfl) ?_
              exact fun a w h => ⟨(z22.f0, y23, (!y23), (!y23), (!y26), (!y26), false), H, h.weaken (has_le ⟨rfl, rfl, rfl, rfl, rfl, rfl, rfl, rfl, rfl, rfl, rfl, rfl, rfl, rfl, rfl, trivial⟩)⟩
      · rintro ⟨v14, v15, v16, v17, v18, v19, v20⟩ H
        try dsimp only at H ⊢
        unfold F44_J0 at H
        refine w_cond rfl (fun hb21 => ?_) (fun hb21 => ?_)
        · replace H := bif_t H hb21
          refine w_seq' ?_
          refine w_reg ?_
          refine seq_cons (lw_run rfl rfl (la_mvs (.inr rfl) rfl rfl rfl)) ?_
          refine w_end ?_
          refine w_nx ?_
          cases H
          try dsimp only at HC0
          cases HC0
          exact w_ret (fun a w h => fin_one h rfl (.tmp rfl rfl) trivial)
        · replace H := bif_f H hb21
          refine w_skip ?_
          refine q_nb ?_
          refine w_nx ?_
          refine w_reg ?_
          refine seq_cons (lw_run rfl rfl (la_mvs (.inl rfl) rfl rfl rfl)) ?_
          refine seq_cons (lw_run rfl rfl (la_bin rfl rfl rfl rfl rfl rfl)) ?_
          refine seq_cons (lw_run rfl rfl (la_mvs (.inr rfl) rfl rfl rfl)) ?_
          refine w_end ?_
          refine q_nt ?_
          exact fun a w h => ⟨k0, (IntKind.i64.wrap (v2 + 1)), Nat.lt_succ_self k0, H, h.weaken (has_le ⟨rfl, rfl, trivial⟩)⟩
    · replace H := bif_f H hb3
      refine w_exit ?_
      refine q_et ?_
      refine q_et ?_
      refine q_in ?_
      cases H
      have H := HC0
      clear HC0
      try dsimp only at H
      refine w_nx ?_
      refine w_seq' ?_
      refine w_reg ?_
      refine seq_cons (lw_run rfl rfl (la_mvs (.inr rfl) rfl rfl rfl)) ?_
      refine w_end ?_
      refine w_nx ?_
      cases H
      exact w_ret (fun a w h => fin_one h rfl (.tmp rfl rfl) trivial)
/- loop.example/g00844/spec.l13Next -/
def F45 (kf : Nat) (a0_0 : Int) : Option (Int × Int) :=
  (remx (IntKind.i64.wrap ((IntKind.i64.wrap (a0_0 * 75)) + 74)) 65537).bind (fun z1 => some (z1, z1))
theorem r45 (kf : Nat) (a0_0 : Int) (R : (Int × Int)) (H : F45 kf a0_0 = some R) : Ret Try.prog 45 14 [.eq 14] [.box 3 [.v (.int .i64 a0_0)]] (.d (iv R.1)) [.box 3 [.v (.int .i64 R.2)]] := by
  refine ret_of Try.func45 rfl rfl (by kernel_rfl) rfl ?_
  intro fr a' w' hn
  obtain ⟨w0, M, Z0, n, γ⟩ := fr
  simp only at hn
  subst hn
  revert a' w'
  show W _ _ _ _ _
  refine w_seq' ?_
  refine w_reg ?_
  refine seq_cons (lw_run rfl rfl (la_mvs (.inr rfl) rfl rfl rfl)) ?_
  refine w_end ?_
  refine w_nx ?_
  refine w_seq' ?_
  refine w_reg ?_
  refine seq_cons (lw_run rfl rfl (la_eq (.inl rfl) rfl rfl rfl (.inr rfl) rfl)) ?_
  refine seq_cons (lw_run rfl rfl (la_eq (.inl rfl) rfl rfl rfl (.inr rfl) rfl)) ?_
  refine seq_cons (lw_run rfl rfl (la_nilc rfl rfl rfl rfl rfl rfl)) ?_
  refine seq_cons (lw_run rfl rfl (la_ldf rfl rfl rfl fl3 rfl rfl rfl)) ?_
  refine seq_cons (lw_run rfl rfl (la_bin rfl rfl rfl rfl rfl rfl)) ?_
  refine seq_cons (lw_run rfl rfl (la_bin rfl rfl rfl rfl rfl rfl)) ?_
  obtain ⟨z1, hz1, H⟩ := bnd H
  refine seq_cons (lw_run rfl rfl (r_rem rfl rfl rfl rfl rfl hz1)) ?_
  refine seq_cons (lw_run rfl rfl (la_nilc rfl rfl rfl rfl rfl rfl)) ?_
  refine seq_cons (lw_run rfl rfl (la_stf rfl rfl sz3 so3 rfl rfl rfl rfl)) ?_
  refine w_end ?_
  refine w_nx ?_
  refine w_seq' ?_
  refine w_reg ?_
  refine seq_cons (lw_run rfl rfl (la_eq (.inl rfl) rfl rfl rfl (.inr rfl) rfl)) ?_
  refine seq_cons (lw_run rfl rfl (la_nilc rfl rfl rfl rfl rfl rfl)) ?_
  refine seq_cons (lw_run rfl rfl (la_ldf rfl rfl rfl fl3 rfl rfl rfl)) ?_
  refine seq_cons (lw_run rfl rfl (la_mvs (.inr rfl) rfl rfl rfl)) ?_
  refine w_end ?_
  refine w_nx ?_
  cases H
  exact w_ret (fun a w h => fin_one h rfl (.tmp rfl rfl) ⟨⟨rfl, rfl⟩, trivial⟩)
/- loop.example/g00844/spec.StoreFrom -/
def F27_J1 (kf : Nat) (a0 : (List S69)) (a1 : Int) (v4 : Bool) (v6 : (List (List (List Int)))) (v7 : Int) (v8 : Int) (y10 : (Int × Int)) (z11 : Int) (v12 : (List (List Int))) (v13 : Int) (v14 : Int) (v16 : (List Int)) (v17 : Int) (v18 : Int) (z19 : S69) (y21 : (Int × Int)) (z22 : Int) (go : (List Int) → Int → Int → Option (Ex (List (List (List Int))) ((List Int) × Int × Int))) (v24 : Int) : Option (Ex (List (List (List Int))) ((List Int) × Int × Int)) :=
  (apx v16 ([v24])).bind (fun z25 => go z25 (IntKind.i64.wrap (v17 + 1)) y21.2)
def F27_L2 (kf : Nat) (a0 : (List S69)) (a1 : Int) (v4 : Bool) (v6 : (List (List (List Int)))) (v7 : Int) (v8 : Int) (y10 : (Int × Int)) (z11 : Int) (v12 : (List (List Int))) (v13 : Int) (v14 : Int) : Nat → (List Int) → Int → Int → Option (Ex (List (List (List Int))) ((List Int) × Int × Int))
  | 0, _, _, _ => none
  | k + 1, v16, v17, v18 =>
  (ix a0 v7).bind (fun z19 => (bif (decide (v17 < z19.f1)) then
  (F45 kf v18).bind (fun y21 => (remx y21.1 6).bind (fun z22 => (bif (z22 == 5) then
  F27_J1 kf a0 a1 v4 v6 v7 v8 y10 z11 v12 v13 v14 v16 v17 v18 z19 y21 z22 (F27_L2 kf a0 a1 v4 v6 v7 v8 y10 z11 v12 v13 v14 k) (-2000000)
  else F27_J1 kf a0 a1 v4 v6 v7 v8 y10 z11 v12 v13 v14 v16 v17 v18 z19 y21 z22 (F27_L2 kf a0 a1 v4 v6 v7 v8 y10 z11 v12 v13 v14 k) z22)))
  else some (.go (v16, v17, v18))))
def F27_L1 (kf : Nat) (a0 : (List S69)) (a1 : Int) (v4 : Bool) (v6 : (List (List (List Int)))) (v7 : Int) (v8 : Int) (y10 : (Int × Int)) (z11 : Int) : Nat → (List (List Int)) → Int → Int → Option (Ex (List (List (List Int))) ((List (List Int)) × Int × Int))
  | 0, _, _, _ => none
  | k + 1, v12, v13, v14 =>
  (bif (decide (v13 > 0)) then
  (F27_L2 kf a0 a1 v4 v6 v7 v8 y10 z11 v12 v13 v14 kf ([]) 0 v14).bind (fun o => match o with
  | .ret r => some (.ret r)
  | .go (v16, v17, v18) => (apx v12 ([v16])).bind (fun z27 => (F27_L1 kf a0 a1 v4 v6 v7 v8 y10 z11 k) z27 (IntKind.i64.wrap (v13 - 1)) v18))
  else some (.go (v12, v13, v14)))
def F27_L0 (kf : Nat) (a0 : (List S69)) (a1 : Int) (v4 : Bool) : Nat → (List (List (List Int))) → Int → Int → Option (Ex (List (List (List Int))) ((List (List (List Int))) × Int × Int))
  | 0, _, _, _ => none
  | k + 1, v6, v7, v8 =>
  (bif (decide (v7 < (a0.length : Int))) then
  (F45 kf v8).bind (fun y10 => (remx y10.1 5).bind (fun z11 => (F27_L1 kf a0 a1 v4 v6 v7 v8 y10 z11 kf ([]) z11 y10.2).bind (fun o => match o with
  | .ret r => some (.ret r)
  | .go (v12, v13, v14) => (apx v6 ([v12])).bind (fun z28 => (F27_L0 kf a0 a1 v4 k) z28 (IntKind.i64.wrap (v7 + 1)) v14))))
  else some (.go (v6, v7, v8)))
def F27_J0 (kf : Nat) (a0 : (List S69)) (a1 : Int) (v4 : Bool) : Option ((List (List (List Int)))) :=
  (bif v4 then
  some ([])
  else (F27_L0 kf a0 a1 v4 kf ([]) 0 a1).bind (fun o => match o with
  | .ret r => some r
  | .go (v6, v7, v8) => some v6))
def F27 (kf : Nat) (a0 : (List S69)) (a1 : Int) : Option (List (List (List Int))) :=
  (F44 kf a0).bind (fun y29 => (bif (!y29) then
  F27_J0 kf a0 a1 true
  else (F34 kf a1 0 65536).bind (fun y31 => F27_J0 kf a0 a1 (!y31))))
theorem r27 (kf : Nat) (a0 : (List S69)) (a1 : Int) (R : (List (List (List Int)))) (H : F27 kf a0 a1 = some R) : Ret Try.prog 27 63 [.d (.one (.sl false 73 (a0.map (c73 false)))), .d (iv a1)] [] (.d (.one (.sl true 52 (R.map (c52 true))))) [] := by
  refine ret_of Try.func27 rfl rfl (by kernel_rfl) rfl ?_
  intro fr a' w' hn
  obtain ⟨w0, M, Z0, n, γ⟩ := fr
  simp only at hn
  subst hn
  revert a' w'
  show W _ _ _ _ _
  refine w_seq' ?_
  refine w_reg ?_
  refine seq_cons (lw_run rfl rfl (r_nil true 52 (c52 true) (.inr rfl) rfl rfl)) ?_
  refine w_end ?_
  refine w_nx ?_
  refine w_seq' ?_
  refine w_join (σ := Bool) (fun s => mk [(0, .d (.one (.sl false 73 (a0.map (c73 false))))), (1, .d (iv a1)), (4, .d (.one (.sl true 52 (([]).map (c52 true))))), (20, .d (bv s))]) (fun s => F27_J0 kf a0 a1 s = some R) ?_ ?_
  · refine w_reg ?_
    refine seq_cons (lw_run rfl rfl (r_mvr (.inl rfl) rfl rfl rfl rfl)) ?_
    obtain ⟨y29, hy29, H⟩ := bnd H
    refine seq_cons (lw_run rfl rfl (r_call0 [] rfl rfl rfl rfl (r44 kf a0 _ hy29) rfl rfl rfl rfl rfl rfl (.inl rfl))) ?_
    refine seq_cons (lw_run rfl rfl (la_not rfl rfl rfl rfl)) ?_
    refine seq_cons (lw_run rfl rfl (la_mvs (.inl rfl) rfl rfl rfl)) ?_
    refine bcase (!y29) (fun hb30 => ?_) (fun hb30 => ?_)
    · replace H := bif_t H hb30
      refine seq_cons (lw_off rfl rfl rfl rfl rfl (by exact congrArg gb hb30) rfl rfl rfl) ?_
      refine seq_cons (lw_off rfl rfl rfl rfl rfl (by exact congrArg gb hb30) rfl rfl rfl) ?_
      refine seq_cons (lw_off rfl rfl rfl rfl rfl (by exact congrArg gb hb30) rfl rfl rfl) ?_
      refine seq_cons (lw_run rfl rfl (r_pick (b := true) rfl rfl rfl (by exact congrArg gb hb30) rfl)) ?_
      refine w_end ?_
      exact fun a w h => ⟨true, H, h.weaken (has_le ⟨rfl, rfl, rfl, rfl, trivial⟩)⟩
    · replace H := bif_f H hb30
      refine seq_cons (lw_on rfl rfl rfl rfl rfl (by exact congrArg gb hb30) (la_mvs (.inl rfl) rfl rfl rfl)) ?_
      obtain ⟨y31, hy31, H⟩ := bnd H
      refine seq_cons (lw_on rfl rfl rfl rfl rfl (by exact congrArg gb hb30) (r_call0 [] rfl rfl rfl rfl (r34 kf a1 0 65536 _ hy31) rfl rfl rfl rfl rfl rfl (.inl rfl))) ?_
      refine seq_cons (lw_on rfl rfl rfl rfl rfl (by exact congrArg gb hb30) (la_not rfl rfl rfl rfl)) ?_
      refine seq_cons (lw_run rfl rfl (r_pick (b := false) rfl rfl rfl (by exact congrArg gb hb30) rfl)) ?_
      refine w_end ?_
      exact fun a w h => ⟨(!y31), H, h.weaken (has_le ⟨rfl, rfl, rfl, rfl, trivial⟩)⟩
  · rintro v4 H
    try dsimp only at H ⊢
    unfold F27_J0 at H
    refine w_cond rfl (fun hb5 => ?_) (fun hb5 => ?_)
    · replace H := bif_t H hb5
      refine w_seq' ?_
      refine w_reg ?_
      refine seq_cons (lw_run rfl rfl (r_nil true 52 (c52 true) (.inr rfl) rfl rfl)) ?_
      refine w_end ?_
      refine w_nx ?_
      cases H
      exact w_ret (fun a w h => fin_one h rfl (.tmp rfl rfl) trivial)
    · replace H := bif_f H hb5
      refine w_skip ?_
      refine w_nx ?_
      refine w_seq' ?_
      refine w_reg ?_
      refine seq_cons (lw_run rfl rfl (r_bsl (f := c52 true) (xs := ([] : (List (List (List Int))))) rfl rfl rfl e29 rfl rfl rfl rfl rfl sz52 rfl rfl)) ?_
      refine seq_cons (lw_run rfl rfl (la_mvo (.inr rfl) rfl rfl rfl rfl rfl)) ?_
      refine w_end ?_
      refine w_nx ?_
      refine w_seq' ?_
      refine w_reg ?_
      refine seq_cons (lw_run rfl rfl (la_mvs (.inl rfl) rfl rfl rfl)) ?_
      refine seq_cons (lw_run rfl rfl (la_alloc rfl rfl rfl (cs := [.v (.int .i64 0)]) (z3 true))) ?_
      refine seq_cons (lw_run rfl rfl (la_stf rfl rfl sz3 so3 rfl rfl rfl rfl)) ?_
      refine w_end ?_
      refine w_nx ?_
      refine w_seq' ?_
      refine w_seq' ?_
      refine w_reg ?_
      refine seq_cons (lw_run rfl rfl (la_mvs (.inr rfl) rfl rfl rfl)) ?_
      refine w_end ?_
      refine w_nx ?_
      refine w_block ?_
      obtain ⟨out0, HL, HC0⟩ := bnd H
      clear H
      refine w_weak (Γ' := (fun s : (List (List (List Int))) × Int × Int => mk [(0, .d (.one (.sl false 73 (a0.map (c73 false))))), (4, .d (.one (.sl true 52 (([]).map (c52 true))))), (6, .box 3 [.v (.int .i64 s.2.2)]), (5, .d (.one (.sl true 52 (s.1.map (c52 true))))), (7, .d (iv s.2.1))]) ([], 0, a1)) (w_loop (σ := (List (List (List Int))) × Int × Int) (fun s => mk [(0, .d (.one (.sl false 73 (a0.map (c73 false))))), (4, .d (.one (.sl true 52 (([]).map (c52 true))))), (6, .box 3 [.v (.int .i64 s.2.2)]), (5, .d (.one (.sl true 52 (s.1.map (c52 true))))), (7, .d (iv s.2.1))]) (fun k s => F27_L0 kf a0 a1 v4 k s.1 s.2.1 s.2.2 = some out0) kf ([], 0, a1) HL ?_) (has_le ⟨rfl, rfl, rfl, rfl, rfl, trivial⟩)
      clear HL
      rintro k0 ⟨v6, v7, v8⟩ H
      cases k0 with
      | zero => cases H
      | succ k0 =>
      try dsimp only at H ⊢
      refine w_seq' ?_
      refine w_seq' ?_
      refine w_reg ?_
      refine seq_cons (lw_run rfl rfl (la_mvs (.inl rfl) rfl rfl rfl)) ?_
      refine seq_cons (lw_run rfl rfl (r_mvr (.inl rfl) rfl rfl rfl rfl)) ?_
      refine seq_cons (lw_run rfl rfl (la_len rfl rfl rfl Try.underlying45 rfl)) ?_
      refine seq_cons (lw_run rfl rfl (la_bin rfl rfl rfl rfl rfl rfl)) ?_
      refine w_end ?_
      refine w_nx ?_
      refine w_cond rfl (fun hb9 => ?_) (fun hb9 => ?_)
      · replace H := bif_t H hb9
        refine w_skip ?_
        refine w_nx ?_
        refine w_seq' ?_
        refine w_block ?_
        refine w_seq' ?_
        refine w_reg ?_
        refine seq_cons (lw_run rfl rfl (r_bsl (f := c22 true) (xs := ([] : (List (List Int)))) rfl rfl rfl e52 rfl rfl rfl rfl rfl sz22 rfl rfl)) ?_
        refine seq_cons (lw_run rfl rfl (la_mvo (.inr rfl) rfl rfl rfl rfl rfl)) ?_
        refine w_end ?_
        refine w_nx ?_
        refine w_seq' ?_
        refine w_seq' ?_
        refine w_reg ?_
        obtain ⟨y10, hy10, H⟩ := bnd H
        refine seq_cons (lw_run rfl rfl (r_call [6] [] rfl rfl rfl rfl (r45 kf v8 _ hy10) rfl rfl rfl rfl rfl rfl rfl rfl rfl (.inl rfl))) ?_
        obtain ⟨z11, hz11, H⟩ := bnd H
        refine seq_cons (lw_run rfl rfl (r_rem rfl rfl rfl rfl rfl hz11)) ?_
        refine seq_cons (lw_run rfl rfl (la_mvs (.inr rfl) rfl rfl rfl)) ?_
        refine w_end ?_
        refine w_nx ?_
        refine w_block ?_
        obtain ⟨out1, HL, HC1⟩ := bnd H
        clear H
        refine w_weak (Γ' := (fun s : (List (List Int)) × Int × Int => mk [(0, .d (.one (.sl false 73 (a0.map (c73 false))))), (4, .d (.one (.sl true 52 (([]).map (c52 true))))), (5, .d (.one (.sl true 52 (v6.map (c52 true))))), (6, .box 3 [.v (.int .i64 s.2.2)]), (7, .d (iv v7)), (23, .d (iv v7)), (24, .d (.one (.sl false 73 (a0.map (c73 false))))), (25, .d (iv (a0.length : Int))), (26, .d (bv (decide (v7 < (a0.length : Int))))), (30, .d (iv y10.1)), (31, .d (iv z11)), (8, .d (.one (.sl true 22 (s.1.map (c22 true))))), (9, .d (iv s.2.1))]) ([], z11, y10.2)) (w_loop (σ := (List (List Int)) × Int × Int) (fun s => mk [(0, .d (.one (.sl false 73 (a0.map (c73 false))))), (4, .d (.one (.sl true 52 (([]).map (c52 true))))), (5, .d (.one (.sl true 52 (v6.map (c52 true))))), (6, .box 3 [.v (.int .i64 s.2.2)]), (7, .d (iv v7)), (23, .d (iv v7)), (24, .d (.one (.sl false 73 (a0.map (c73 false))))), (25, .d (iv (a0.length : Int))), (26, .d (bv (decide (v7 < (a0.length : Int))))), (30, .d (iv y10.1)), (31, .d (iv z11)), (8, .d (.one (.sl true 22 (s.1.map (c22 true))))), (9, .d (iv s.2.1))]) (fun k s => F27_L1 kf a0 a1 v4 v6 v7 v8 y10 z11 k s.1 s.2.1 s.2.2 = some out1) kf ([], z11, y10.2) HL ?_) (has_le ⟨rfl, rfl, rfl, rfl, rfl, rfl, rfl, rfl, rfl, rfl, rfl, rfl, rfl, trivial⟩)
        clear HL
        rintro k1 ⟨v12, v13, v14⟩ H
        cases k1 with
        | zero => cases H
        | succ k1 =>
        try dsimp only at H ⊢
        refine w_seq' ?_
        refine w_seq' ?_
        refine w_reg ?_
        refine seq_cons (lw_run rfl rfl (la_mvs (.inl rfl) rfl rfl rfl)) ?_
        refine seq_cons (lw_run rfl rfl (la_bin rfl rfl rfl rfl rfl rfl)) ?_
        refine w_end ?_
        refine w_nx ?_
        refine w_cond rfl (fun hb15 => ?_) (fun hb15 => ?_)
        · replace H := bif_t H hb15
          refine w_skip ?_
          refine w_nx ?_
          refine w_seq' ?_
          refine w_block ?_
          refine w_seq' ?_
          refine w_reg ?_
          refine seq_cons (lw_run rfl rfl (r_bsl (f := c3 true) (xs := ([] : (List Int))) rfl rfl rfl e22 rfl rfl rfl rfl rfl sz3 rfl rfl)) ?_
          refine seq_cons (lw_run rfl rfl (la_mvo (.inr rfl) rfl rfl rfl rfl rfl)) ?_
          refine w_end ?_
          refine w_nx ?_
          refine w_seq' ?_
          refine w_seq' ?_
          refine w_reg ?_
          refine seq_cons (lw_run rfl rfl (la_mvs (.inr rfl) rfl rfl rfl)) ?_
          refine w_end ?_
          refine w_nx ?_
          refine w_block ?_
          obtain ⟨out2, HL, HC2⟩ := bnd H
          clear H
          refine w_weak (Γ' := (fun s : (List Int) × Int × Int => mk [(0, .d (.one (.sl false 73 (a0.map (c73 false))))), (4, .d (.one (.sl true 52 (([]).map (c52 true))))), (5, .d (.one (.sl true 52 (v6.map (c52 true))))), (6, .box 3 [.v (.int .i64 s.2.2)]), (7, .d (iv v7)), (8, .d (.one (.sl true 22 (v12.map (c22 true))))), (9, .d (iv v13)), (23, .d (iv v7)), (24, .d (.one (.sl false 73 (a0.map (c73 false))))), (25, .d (iv (a0.length : Int))), (26, .d (bv (decide (v7 < (a0.length : Int))))), (30, .d (iv y10.1)), (31, .d (iv z11)), (32, .d (iv v13)), (33, .d (bv (decide (v13 > 0)))), (10, .d (.one (.sl true 3 (s.1.map (c3 true))))), (11, .d (iv s.2.1))]) ([], 0, v14)) (w_loop (σ := (List Int) × Int × Int) (fun s => mk [(0, .d (.one (.sl false 73 (a0.map (c73 false))))), (4, .d (.one (.sl true 52 (([]).map (c52 true))))), (5, .d (.one (.sl true 52 (v6.map (c52 true))))), (6, .box 3 [.v (.int .i64 s.2.2)]), (7, .d (iv v7)), (8, .d (.one (.sl true 22 (v12.map (c22 true))))), (9, .d (iv v13)), (23, .d (iv v7)), (24, .d (.one (.sl false 73 (a0.map (c73 false))))), (25, .d (iv (a0.length : Int))), (26, .d (bv (decide (v7 < (a0.length : Int))))), (30, .d (iv y10.1)), (31, .d (iv z11)), (32, .d (iv v13)), (33, .d (bv (decide (v13 > 0)))), (10, .d (.one (.sl true 3 (s.1.map (c3 true))))), (11, .d (iv s.2.1))]) (fun k s => F27_L2 kf a0 a1 v4 v6 v7 v8 y10 z11 v12 v13 v14 k s.1 s.2.1 s.2.2 = some out2) kf ([], 0, v14) HL ?_) (has_le ⟨rfl, rfl, rfl, rfl, rfl, rfl, rfl, rfl, rfl, rfl, rfl, rfl, rfl, rfl, rfl, rfl, rfl, trivial⟩)
          clear HL
          rintro k2 ⟨v16, v17, v18⟩ H
          cases k2 with
          | zero => cases H
          | succ k2 =>
          try dsimp only at H ⊢
          refine w_seq' ?_
          refine w_seq' ?_
          refine w_reg ?_
          refine seq_cons (lw_run rfl rfl (la_mvs (.inl rfl) rfl rfl rfl)) ?_
          refine seq_cons (lw_run rfl rfl (r_mvr (.inl rfl) rfl rfl rfl rfl)) ?_
          refine seq_cons (lw_run rfl rfl (la_mvs (.inl rfl) rfl rfl rfl)) ?_
          obtain ⟨z19, hz19, H⟩ := bnd H
          refine seq_cons (lw_run rfl rfl (r_ix rfl rfl rfl e45 rfl rfl hz19 rfl)) ?_
          refine seq_cons (lw_run rfl rfl (r_fsp rfl rfl rfl fd73_1 rfl rfl)) ?_
          refine seq_cons (lw_run rfl rfl (r_ld rfl rfl rfl fl3 rfl rfl)) ?_
          refine seq_cons (lw_run rfl rfl (la_bin rfl rfl rfl rfl rfl rfl)) ?_
          refine w_end ?_
          refine w_nx ?_
          refine w_cond rfl (fun hb20 => ?_) (fun hb20 => ?_)
          · replace H := bif_t H hb20
            refine w_skip ?_
            refine w_nx ?_
            refine w_seq' ?_
            refine w_block ?_
            refine w_seq' ?_
            refine w_reg ?_
            obtain ⟨y21, hy21, H⟩ := bnd H
            refine seq_cons (lw_run rfl rfl (r_call [6] [] rfl rfl rfl rfl (r45 kf v18 _ hy21) rfl rfl rfl rfl rfl rfl rfl rfl rfl (.inl rfl))) ?_
            obtain ⟨z22, hz22, H⟩ := bnd H
            refine seq_cons (lw_run rfl rfl (r_rem rfl rfl rfl rfl rfl hz22)) ?_
            refine seq_cons (lw_run rfl rfl (la_mvs (.inr rfl) rfl rfl rfl)) ?_
            refine w_end ?_
            refine w_nx ?_
            refine w_join (σ := Int) (fun s => mk [(0, .d (.one (.sl false 73 (a0.map (c73 false))))), (4, .d (.one (.sl true 52 (([]).map (c52 true))))), (5, .d (.one (.sl true 52 (v6.map (c52 true))))), (6, .box 3 [.v (.int .i64 y21.2)]), (7, .d (iv v7)), (8, .d (.one (.sl true 22 (v12.map (c22 true))))), (9, .d (iv v13)), (10, .d (.one (.sl true 3 (v16.map (c3 true))))), (11, .d (iv v17)), (12, .d (iv s)), (23, .d (iv v7)), (24, .d (.one (.sl false 73 (a0.map (c73 false))))), (25, .d (iv (a0.length : Int))), (26, .d (bv (decide (v7 < (a0.length : Int))))), (30, .d (iv y10.1)), (31, .d (iv z11)), (32, .d (iv v13)), (33, .d (bv (decide (v13 > 0)))), (37, .d (iv v17)), (38, .d (.one (.sl false 73 (a0.map (c73 false))))), (39, .d (iv v7)), (40, .sp none (c73 false z19)), (41, .sp none ((c73 false z19).drop 1)), (42, .d (iv z19.f1)), (43, .d (bv (decide (v17 < z19.f1)))), (46, .d (iv y21.1)), (47, .d (iv z22)), (48, .d (iv z22)), (49, .d (bv (z22 == 5)))]) (fun s => F27_J1 kf a0 a1 v4 v6 v7 v8 y10 z11 v12 v13 v14 v16 v17 v18 z19 y21 z22 (F27_L2 kf a0 a1 v4 v6 v7 v8 y10 z11 v12 v13 v14 k2) s = some out2) ?_ ?_
            · refine w_seq' ?_
              refine w_reg ?_
              refine seq_cons (lw_run rfl rfl (la_mvs (.inl rfl) rfl rfl rfl)) ?_
              refine seq_cons (lw_run rfl rfl (la_bin rfl rfl rfl rfl rfl rfl)) ?_
              refine w_end ?_
              refine w_nx ?_
              refine w_cond rfl (fun hb26 => ?_) (fun hb26 => ?_)
              · replace H := bif_t H hb26
                refine w_reg ?_
                refine seq_cons (lw_run rfl rfl (la_mvs (.inr rfl) rfl rfl rfl)) ?_
                refine w_end ?_
                exact fun a w h => ⟨(-2000000), H, h.weaken (has_le ⟨rfl, rfl, rfl, rfl, rfl, rfl, rfl, rfl, rfl, rfl, rfl, rfl, rfl, rfl, rfl, rfl, rfl, rfl, rfl, rfl, rfl, rfl, rfl, rfl, rfl, rfl, rfl, rfl, rfl, trivial⟩)⟩
              · replace H := bif_f H hb26
                refine w_skip ?_
                exact fun a w h => ⟨z22, H, h.weaken (has_le ⟨rfl, rfl, rfl, rfl, rfl, rfl, rfl, rfl, rfl, rfl, rfl, rfl, rfl, rfl, rfl, rfl, rfl, rfl, rfl, rfl, rfl, rfl, rfl, rfl, rfl, rfl, rfl, rfl, rfl, trivial⟩)⟩
            · rintro v24 H
              try dsimp only at H ⊢
              unfold F27_J1 at H
              refine w_reg ?_
              refine seq_cons (lw_run rfl rfl (la_mvo (.inl rfl) rfl rfl rfl rfl rfl)) ?_
              refine seq_cons (lw_run rfl rfl (la_mvs (.inl rfl) rfl rfl rfl)) ?_
              refine seq_cons (lw_run rfl rfl (r_bsl (f := c3 true) (xs := ([v24] : (List Int))) rfl rfl rfl e22 rfl rfl rfl rfl rfl sz3 rfl rfl)) ?_
              obtain ⟨z25, hz25, H⟩ := bnd H
              refine seq_cons (lw_run rfl rfl (r_app rfl rfl rfl e22 rfl rfl hz25 rfl)) ?_
              refine seq_cons (lw_run rfl rfl (la_mvo (.inr rfl) rfl rfl rfl rfl rfl)) ?_
              refine w_end ?_
              refine q_nb ?_
              refine w_nx ?_
              refine w_reg ?_
              refine seq_cons (lw_run rfl rfl (la_mvs (.inl rfl) rfl rfl rfl)) ?_
              refine seq_cons (lw_run rfl rfl (la_bin rfl rfl rfl rfl rfl rfl)) ?_
              refine seq_cons (lw_run rfl rfl (la_mvs (.inr rfl) rfl rfl rfl)) ?_
              refine w_end ?_
              refine q_nt ?_
              exact fun a w h => ⟨k2, (z25, (IntKind.i64.wrap (v17 + 1)), y21.2), Nat.lt_succ_self k2, H, h.weaken (has_le ⟨rfl, rfl, rfl, rfl, rfl, rfl, rfl, rfl, rfl, rfl, rfl, rfl, rfl, rfl, rfl, rfl, rfl, trivial⟩)⟩
          · replace H := bif_f H hb20
            refine w_exit ?_
            refine q_et ?_
            refine q_et ?_
            refine q_in ?_
            cases H
            have H := HC2
            clear HC2
            try dsimp only at H
            refine w_nx ?_
            refine w_reg ?_
            refine seq_cons (lw_run rfl rfl (la_mvo (.inl rfl) rfl rfl rfl rfl rfl)) ?_
            refine seq_cons (lw_run rfl rfl (la_mvo (.inl rfl) rfl rfl rfl rfl rfl)) ?_
            refine seq_cons (lw_run rfl rfl (r_bsl (f := c22 true) (xs := ([v16] : (List (List Int)))) rfl rfl rfl e52 rfl rfl rfl rfl rfl sz22 rfl rfl)) ?_
            obtain ⟨z27, hz27, H⟩ := bnd H
            refine seq_cons (lw_run rfl rfl (r_app rfl rfl rfl e52 rfl rfl hz27 rfl)) ?_
            refine seq_cons (lw_run rfl rfl (la_mvo (.inr rfl) rfl rfl rfl rfl rfl)) ?_
            refine w_end ?_
            refine q_nb ?_
            refine w_nx ?_
            refine w_reg ?_
            refine seq_cons (lw_run rfl rfl (la_mvs (.inl rfl) rfl rfl rfl)) ?_
            refine seq_cons (lw_run rfl rfl (la_bin rfl rfl rfl rfl rfl rfl)) ?_
            refine seq_cons (lw_run rfl rfl (la_mvs (.inr rfl) rfl rfl rfl)) ?_
            refine w_end ?_
            refine q_nt ?_
            exact fun a w h => ⟨k1, (z27, (IntKind.i64.wrap (v13 - 1)), v18), Nat.lt_succ_self k1, H, h.weaken (has_le ⟨rfl, rfl, rfl, rfl, rfl, rfl, rfl, rfl, rfl, rfl, rfl, rfl, rfl, trivial⟩)⟩
        · replace H := bif_f H hb15
          refine w_exit ?_
          refine q_et ?_
          refine q_et ?_
          refine q_in ?_
          cases H
          have H := HC1
          clear HC1
          try dsimp only at H
          refine w_nx ?_
          refine w_reg ?_
          refine seq_cons (lw_run rfl rfl (la_mvo (.inl rfl) rfl rfl rfl rfl rfl)) ?_
          refine seq_cons (lw_run rfl rfl (la_mvo (.inl rfl) rfl rfl rfl rfl rfl)) ?_
          refine seq_cons (lw_run rfl rfl (r_bsl (f := c52 true) (xs := ([v12] : (List (List (List Int))))) rfl rfl rfl e29 rfl rfl rfl rfl rfl sz52 rfl rfl)) ?_
          obtain ⟨z28, hz28, H⟩ := bnd H
          refine seq_cons (lw_run rfl rfl (r_app rfl rfl rfl e29 rfl rfl hz28 rfl)) ?_
          refine seq_cons (lw_run rfl rfl (la_mvo (.inr rfl) rfl rfl rfl rfl rfl)) ?_
          refine w_end ?_
          refine q_nb ?_
          refine w_nx ?_
          refine w_reg ?_
          refine seq_cons (lw_run rfl rfl (la_mvs (.inl rfl) rfl rfl rfl)) ?_
          refine seq_cons (lw_run rfl rfl (la_bin rfl rfl rfl rfl rfl rfl)) ?_
          refine seq_cons (lw_run rfl rfl (la_mvs (.inr rfl) rfl rfl rfl)) ?_
          refine w_end ?_
          refine q_nt ?_
          exact fun a w h => ⟨k0, (z28, (IntKind.i64.wrap (v7 + 1)), v14), Nat.lt_succ_self k0, H, h.weaken (has_le ⟨rfl, rfl, rfl, rfl, rfl, trivial⟩)⟩
      · replace H := bif_f H hb9
        refine w_exit ?_
        refine q_et ?_
        refine q_et ?_
        refine q_in ?_
        cases H
        have H := HC0
        clear HC0
        try dsimp only at H
        refine w_nx ?_
        refine w_seq' ?_
        refine w_reg ?_
        refine seq_cons (lw_run rfl rfl (la_mvo (.inl rfl) rfl rfl rfl rfl rfl)) ?_
        refine seq_cons (lw_run rfl rfl (la_mvo (.inr rfl) rfl rfl rfl rfl rfl)) ?_
        refine w_end ?_
        refine w_nx ?_
        cases H
        exact w_ret (fun a w h => fin_one h rfl (.tmp rfl rfl) trivial)
/- loop.example/g00844/impl.in -/
def F35_J0 (kf : Nat) (a0 : Int) (a1 : Int) (a2 : Int) (v2 : Bool) : Option (Bool) :=
  some v2
def F35 (kf : Nat) (a0 : Int) (a1 : Int) (a2 : Int) : Option Bool :=
  (bif (decide (a0 ≥ a1)) then
  F35_J0 kf a0 a1 a2 (decide (a0 ≤ a2))
  else F35_J0 kf a0 a1 a2 false)
theorem r35 (kf : Nat) (a0 : Int) (a1 : Int) (a2 : Int) (R : Bool) (H : F35 kf a0 a1 a2 = some R) : Ret Try.prog 35 15 [.d (iv a0), .d (iv a1), .d (iv a2)] [] (.d (bv R)) [] := by
  refine ret_of Try.func35 rfl rfl (by kernel_rfl) rfl ?_
  intro fr a' w' hn
  obtain ⟨w0, M, Z0, n, γ⟩ := fr
  simp only at hn
  subst hn
  revert a' w'
  show W _ _ _ _ _
  refine w_seq' ?_
  refine w_reg ?_
  refine seq_cons (lw_run rfl rfl (la_mvs (.inr rfl) rfl rfl rfl)) ?_
  refine w_end ?_
  refine w_nx ?_
  refine w_join (σ := Bool) (fun s => mk [(6, .d (bv s))]) (fun s => F35_J0 kf a0 a1 a2 s = some R) ?_ ?_
  · refine w_reg ?_
    refine seq_cons (lw_run rfl rfl (la_mvs (.inl rfl) rfl rfl rfl)) ?_
    refine seq_cons (lw_run rfl rfl (la_mvs (.inl rfl) rfl rfl rfl)) ?_
    refine seq_cons (lw_run rfl rfl (la_bin rfl rfl rfl rfl rfl rfl)) ?_
    refine seq_cons (lw_run rfl rfl (la_mvs (.inl rfl) rfl rfl rfl)) ?_
    refine bcase (decide (a0 ≥ a1)) (fun hb3 => ?_) (fun hb3 => ?_)
    · replace H := bif_t H hb3
      refine seq_cons (lw_on rfl rfl rfl rfl rfl (by exact congrArg gb hb3) (la_mvs (.inl rfl) rfl rfl rfl)) ?_
      refine seq_cons (lw_on rfl rfl rfl rfl rfl (by exact congrArg gb hb3) (la_mvs (.inl rfl) rfl rfl rfl)) ?_
      refine seq_cons (lw_on rfl rfl rfl rfl rfl (by exact congrArg gb hb3) (la_bin rfl rfl rfl rfl rfl rfl)) ?_
      refine seq_cons (lw_run rfl rfl (r_pick (b := true) rfl rfl rfl (by exact congrArg gb hb3) rfl)) ?_
      refine seq_cons (lw_run rfl rfl (la_mvs (.inr rfl) rfl rfl rfl)) ?_
      refine w_end ?_
      exact fun a w h => ⟨(decide (a0 ≤ a2)), H, h.weaken (has_le ⟨rfl, trivial⟩)⟩
    · replace H := bif_f H hb3
      refine seq_cons (lw_off rfl rfl rfl rfl rfl (by exact congrArg gb hb3) rfl rfl rfl) ?_
      refine seq_cons (lw_off rfl rfl rfl rfl rfl (by exact congrArg gb hb3) rfl rfl rfl) ?_
      refine seq_cons (lw_off rfl rfl rfl rfl rfl (by exact congrArg gb hb3) rfl rfl rfl) ?_
      refine seq_cons (lw_run rfl rfl (r_pick (b := false) rfl rfl rfl (by exact congrArg gb hb3) rfl)) ?_
      refine seq_cons (lw_run rfl rfl (la_mvs (.inr rfl) rfl rfl rfl)) ?_
      refine w_end ?_
      exact fun a w h => ⟨false, H, h.weaken (has_le ⟨rfl, trivial⟩)⟩
  · rintro v2 H
    try dsimp only at H ⊢
    unfold F35_J0 at H
    cases H
    exact w_ret (fun a w h => fin_one h rfl (.tmp rfl rfl) trivial)
/- loop.example/g00844/impl.WordOk -/
def F62_J1 (kf : Nat) (a0 : ByteArray) (v1 : Int) (z3 : Int) (v5 : Bool) (v6 : Bool) (go : Int → Option (Ex Bool Int)) (v10 : Bool) : Option (Ex Bool Int) :=
  (bif v10 then
  some (.ret false)
  else go (IntKind.i64.wrap (v1 + 1)))
def F62_J0 (kf : Nat) (a0 : ByteArray) (v1 : Int) (z3 : Int) (go : Int → Option (Ex Bool Int)) (v5 : Bool) (v6 : Bool) : Option (Ex Bool Int) :=
  (bif (!v5) then
  (bif (v1 == 0) then
  F62_J1 kf a0 v1 z3 v5 v6 go true
  else (bif (decide (z3 < 48)) then
  F62_J1 kf a0 v1 z3 v5 v6 go true
  else F62_J1 kf a0 v1 z3 v5 v6 go (decide (z3 > 57))))
  else F62_J1 kf a0 v1 z3 v5 v6 go false)
def F62_L0 (kf : Nat) (a0 : ByteArray) : Nat → Int → Option (Ex Bool Int)
  | 0, _ => none
  | k + 1, v1 =>
  (bif (decide (v1 < (a0.size : Int))) then
  (bix a0 v1).bind (fun z3 => (bif (decide (z3 ≥ 97)) then
  F62_J0 kf a0 v1 z3 (F62_L0 kf a0 k) (decide (z3 ≤ 122)) (decide (z3 ≤ 122))
  else F62_J0 kf a0 v1 z3 (F62_L0 kf a0 k) false false))
  else some (.go v1))
def F62 (kf : Nat) (a0 : ByteArray) : Option Bool :=
  (F62_L0 kf a0 kf 0).bind (fun o => match o with
  | .ret r => some r
  | .go v1 => (F35 kf (a0.size : Int) 1 12).bind (fun y16 => some y16))
theorem r62 (kf : Nat) (a0 : ByteArray) (R : Bool) (H : F62 kf a0 = some R) : Ret Try.prog 62 38 [.d (sv a0)] [] (.d (bv R)) [] := by
  refine ret_of Try.func62 rfl rfl (by kernel_rfl) rfl ?_
  intro fr a' w' hn
  obtain ⟨w0, M, Z0, n, γ⟩ := fr
  simp only at hn
  subst hn
  revert a' w'
  show W _ _ _ _ _
  refine w_seq' ?_
  refine w_reg ?_
  refine seq_cons (lw_run rfl rfl (la_mvs (.inr rfl) rfl rfl rfl)) ?_
  refine w_end ?_
  refine w_nx ?_
  refine w_seq' ?_
  refine w_seq' ?_
  refine w_reg ?_
  refine seq_cons (lw_run rfl rfl (la_mvs (.inl rfl) rfl rfl rfl)) ?_
  refine seq_cons (lw_run rfl rfl (la_lens rfl rfl rfl Try.underlying9 rfl)) ?_
  refine seq_cons (lw_run rfl rfl (la_mvs (.inl rfl) rfl rfl rfl)) ?_
  refine w_end ?_
  refine w_nx ?_
  refine w_block ?_
  obtain ⟨out0, HL, HC0⟩ := bnd H
  clear H
  refine w_weak (Γ' := (fun s : Int => mk [(0, .d (sv a0)), (7, .d (iv (a0.size : Int))), (8, .d (iv s))]) 0) (w_loop (σ := Int) (fun s => mk [(0, .d (sv a0)), (7, .d (iv (a0.size : Int))), (8, .d (iv s))]) (fun k s => F62_L0 kf a0 k s = some out0) kf 0 HL ?_) (has_le ⟨rfl, rfl, rfl, trivial⟩)
  clear HL
  rintro k0 v1 H
  cases k0 with
  | zero => cases H
  | succ k0 =>
  try dsimp only at H ⊢
  refine w_seq' ?_
  refine w_reg ?_
  refine seq_cons (lw_run rfl rfl (la_bin rfl rfl rfl rfl rfl rfl)) ?_
  refine w_end ?_
  refine w_nx ?_
  refine w_seq' ?_
  refine w_cond rfl (fun hb2 => ?_) (fun hb2 => ?_)
  · replace H := bif_t H hb2
    refine w_skip ?_
    refine w_nx ?_
    refine w_seq' ?_
    refine w_block ?_
    refine w_seq' ?_
    refine w_reg ?_
    refine seq_cons (lw_run rfl rfl (la_mvs (.inl rfl) rfl rfl rfl)) ?_
    refine seq_cons (lw_run rfl rfl (la_mvs (.inr rfl) rfl rfl rfl)) ?_
    refine w_end ?_
    refine w_nx ?_
    refine w_seq' ?_
    refine w_reg ?_
    refine seq_cons (lw_run rfl rfl (la_mvs (.inl rfl) rfl rfl rfl)) ?_
    refine seq_cons (lw_run rfl rfl (la_mvs (.inl rfl) rfl rfl rfl)) ?_
    obtain ⟨z3, hz3, H⟩ := bnd H
    refine seq_cons (lw_run rfl rfl (r_index rfl rfl rfl Try.underlying9 rfl rfl hz3)) ?_
    refine seq_cons (lw_run rfl rfl (la_mvs (.inr rfl) rfl rfl rfl)) ?_
    refine w_end ?_
    refine w_nx ?_
    refine w_join (σ := Bool × Bool) (fun s => mk [(0, .d (sv a0)), (3, .d (iv v1)), (4, .d (.one (.v (.int .u8 z3)))), (5, .d (bv s.1)), (7, .d (iv (a0.size : Int))), (8, .d (iv v1)), (9, .d (bv (decide (v1 < (a0.size : Int))))), (10, .d (iv v1)), (11, .d (sv a0)), (12, .d (iv v1)), (13, .d (.one (.v (.int .u8 z3)))), (14, .d (.one (.v (.int .u8 z3)))), (15, .d (bv (decide (z3 ≥ 97)))), (16, .d (bv (decide (z3 ≥ 97)))), (19, .d (bv s.2))]) (fun s => F62_J0 kf a0 v1 z3 (F62_L0 kf a0 k0) s.1 s.2 = some out0) ?_ ?_
    · refine w_reg ?_
      refine seq_cons (lw_run rfl rfl (la_mvs (.inl rfl) rfl rfl rfl)) ?_
      refine seq_cons (lw_run rfl rfl (la_bin rfl rfl rfl rfl rfl rfl)) ?_
      refine seq_cons (lw_run rfl rfl (la_mvs (.inl rfl) rfl rfl rfl)) ?_
      refine bcase (decide (z3 ≥ 97)) (fun hb15 => ?_) (fun hb15 => ?_)
      · replace H := bif_t H hb15
        refine seq_cons (lw_on rfl rfl rfl rfl rfl (by exact congrArg gb hb15) (la_mvs (.inl rfl) rfl rfl rfl)) ?_
        refine seq_cons (lw_on rfl rfl rfl rfl rfl (by exact congrArg gb hb15) (la_bin rfl rfl rfl rfl rfl rfl)) ?_
        refine seq_cons (lw_run rfl rfl (r_pick (b := true) rfl rfl rfl (by exact congrArg gb hb15) rfl)) ?_
        refine seq_cons (lw_run rfl rfl (la_mvs (.inr rfl) rfl rfl rfl)) ?_
        refine w_end ?_
        exact fun a w h => ⟨((decide (z3 ≤ 122)), (decide (z3 ≤ 122))), H, h.weaken (has_le ⟨rfl, rfl, rfl, rfl, rfl, rfl, rfl, rfl, rfl, rfl, rfl, rfl, rfl, rfl, rfl, trivial⟩)⟩
      · replace H := bif_f H hb15
        refine seq_cons (lw_off rfl rfl rfl rfl rfl (by exact congrArg gb hb15) rfl rfl rfl) ?_
        refine seq_cons (lw_off rfl rfl rfl rfl rfl (by exact congrArg gb hb15) rfl rfl rfl) ?_
        refine seq_cons (lw_run rfl rfl (r_pick (b := false) rfl rfl rfl (by exact congrArg gb hb15) rfl)) ?_
        refine seq_cons (lw_run rfl rfl (la_mvs (.inr rfl) rfl rfl rfl)) ?_
        refine w_end ?_
        exact fun a w h => ⟨(false, false), H, h.weaken (has_le ⟨rfl, rfl, rfl, rfl, rfl, rfl, rfl, rfl, rfl, rfl, rfl, rfl, rfl, rfl, rfl, trivial⟩)⟩
    · rintro ⟨v5, v6⟩ H
      try dsimp only at H ⊢
      unfold F62_J0 at H
      refine w_join (σ := Bool) (fun s => mk [(0, .d (sv a0)), (3, .d (iv v1)), (4, .d (.one (.v (.int .u8 z3)))), (5, .d (bv v5)), (7, .d (iv (a0.size : Int))), (8, .d (iv v1)), (9, .d (bv (decide (v1 < (a0.size : Int))))), (10, .d (iv v1)), (11, .d (sv a0)), (12, .d (iv v1)), (13, .d (.one (.v (.int .u8 z3)))), (14, .d (.one (.v (.int .u8 z3)))), (15, .d (bv (decide (z3 ≥ 97)))), (16, .d (bv (decide (z3 ≥ 97)))), (19, .d (bv v6)), (20, .d (bv v5)), (21, .d (bv (!v5))), (22, .d (bv (!v5))), (33, .d (bv s))]) (fun s => F62_J1 kf a0 v1 z3 v5 v6 (F62_L0 kf a0 k0) s = some out0) ?_ ?_
      · refine w_reg ?_
        refine seq_cons (lw_run rfl rfl (la_mvs (.inl rfl) rfl rfl rfl)) ?_
        refine seq_cons (lw_run rfl rfl (la_not rfl rfl rfl rfl)) ?_
        refine seq_cons (lw_run rfl rfl (la_mvs (.inl rfl) rfl rfl rfl)) ?_
        refine bcase (!v5) (fun hb12 => ?_) (fun hb12 => ?_)
        · replace H := bif_t H hb12
          refine seq_cons (lw_on rfl rfl rfl rfl rfl (by exact congrArg gb hb12) (la_mvs (.inl rfl) rfl rfl rfl)) ?_
          refine seq_cons (lw_on rfl rfl rfl rfl rfl (by exact congrArg gb hb12) (la_bin rfl rfl rfl rfl rfl rfl)) ?_
          refine seq_cons (lw_on rfl rfl rfl rfl rfl (by exact congrArg gb hb12) (la_mvs (.inl rfl) rfl rfl rfl)) ?_
          refine bcase (v1 == 0) (fun hb13 => ?_) (fun hb13 => ?_)
          · replace H := bif_t H hb13
            refine seq_cons (lw_off rfl rfl rfl rfl rfl (by exact congrArg gb hb13) rfl rfl rfl) ?_
            refine seq_cons (lw_off rfl rfl rfl rfl rfl (by exact congrArg gb hb13) rfl rfl rfl) ?_
            refine seq_cons (lw_on rfl rfl rfl rfl rfl (by exact congrArg gb hb12) (r_pick (b := true) rfl rfl rfl (by exact congrArg gb hb13) rfl)) ?_
            refine seq_cons (lw_on rfl rfl rfl rfl rfl (by exact congrArg gb hb12) (la_mvs (.inl rfl) rfl rfl rfl)) ?_
            refine seq_cons (lw_off rfl rfl rfl rfl rfl rfl rfl rfl rfl) ?_
            refine seq_cons (lw_off rfl rfl rfl rfl rfl rfl rfl rfl rfl) ?_
            refine seq_cons (lw_on rfl rfl rfl rfl rfl (by exact congrArg gb hb12) (r_pick (b := true) rfl rfl rfl rfl rfl)) ?_
            refine seq_cons (lw_run rfl rfl (r_pick (b := true) rfl rfl rfl (by exact congrArg gb hb12) rfl)) ?_
            refine w_end ?_
            exact fun a w h => ⟨true, H, h.weaken (has_le ⟨rfl, rfl, rfl, rfl, rfl, rfl, rfl, rfl, rfl, rfl, rfl, rfl, rfl, rfl, rfl, rfl, rfl, rfl, rfl, trivial⟩)⟩
          · replace H := bif_f H hb13
            refine seq_cons (lw_on rfl rfl rfl rfl rfl (by exact congrArg gb hb13) (la_mvs (.inl rfl) rfl rfl rfl)) ?_
            refine seq_cons (lw_on rfl rfl rfl rfl rfl (by exact congrArg gb hb13) (la_bin rfl rfl rfl rfl rfl rfl)) ?_
            refine seq_cons (lw_on rfl rfl rfl rfl rfl (by exact congrArg gb hb12) (r_pick (b := false) rfl rfl rfl (by exact congrArg gb hb13) rfl)) ?_
            refine seq_cons (lw_on rfl rfl rfl rfl rfl (by exact congrArg gb hb12) (la_mvs (.inl rfl) rfl rfl rfl)) ?_
            refine bcase (decide (z3 < 48)) (fun hb14 => ?_) (fun hb14 => ?_)
            · replace H := bif_t H hb14
              refine seq_cons (lw_off rfl rfl rfl rfl rfl (by exact congrArg gb hb14) rfl rfl rfl) ?_
              refine seq_cons (lw_off rfl rfl rfl rfl rfl (by exact congrArg gb hb14) rfl rfl rfl) ?_
              refine seq_cons (lw_on rfl rfl rfl rfl rfl (by exact congrArg gb hb12) (r_pick (b := true) rfl rfl rfl (by exact congrArg gb hb14) rfl)) ?_
              refine seq_cons (lw_run rfl rfl (r_pick (b := true) rfl rfl rfl (by exact congrArg gb hb12) rfl)) ?_
              refine w_end ?_
              exact fun a w h => ⟨true, H, h.weaken (has_le ⟨rfl, rfl, rfl, rfl, rfl, rfl, rfl, rfl, rfl, rfl, rfl, rfl, rfl, rfl, rfl, rfl, rfl, rfl, rfl, trivial⟩)⟩
            · replace H := bif_f H hb14
              refine seq_cons (lw_on rfl rfl rfl rfl rfl (by exact congrArg gb hb14) (la_mvs (.inl rfl) rfl rfl rfl)) ?_
              refine seq_cons (lw_on rfl rfl rfl rfl rfl (by exact congrArg gb hb14) (la_bin rfl rfl rfl rfl rfl rfl)) ?_
              refine seq_cons (lw_on rfl rfl rfl rfl rfl (by exact congrArg gb hb12) (r_pick (b := false) rfl rfl rfl (by exact congrArg gb hb14) rfl)) ?_
              refine seq_cons (lw_run rfl rfl (r_pick (b := true) rfl rfl rfl (by exact congrArg gb hb12) rfl)) ?_
              refine w_end ?_
              exact fun a w h => ⟨(decide (z3 > 57)), H, h.weaken (has_le ⟨rfl, rfl, rfl, rfl, rfl, rfl, rfl, rfl, rfl, rfl, rfl, rfl, rfl, rfl, rfl, rfl, rfl, rfl, rfl, trivial⟩)⟩
        · replace H := bif_f H hb12
          refine seq_cons (lw_off rfl rfl rfl rfl rfl (by exact congrArg gb hb12) rfl rfl rfl) ?_
          refine seq_cons (lw_off rfl rfl rfl rfl rfl (by exact congrArg gb hb12) rfl rfl rfl) ?_
          refine seq_cons (lw_off rfl rfl rfl rfl rfl (by exact congrArg gb hb12) rfl rfl rfl) ?_
          refine seq_cons (lw_offu rfl rfl rfl rfl rfl rfl rfl rfl) ?_
          refine seq_cons (lw_offu rfl rfl rfl rfl rfl rfl rfl rfl) ?_
          refine seq_cons (lw_off rfl rfl rfl rfl rfl (by exact congrArg gb hb12) rfl rfl rfl) ?_
          refine seq_cons (lw_off rfl rfl rfl rfl rfl (by exact congrArg gb hb12) rfl rfl rfl) ?_
          refine seq_cons (lw_offu rfl rfl rfl rfl rfl rfl rfl rfl) ?_
          refine seq_cons (lw_offu rfl rfl rfl rfl rfl rfl rfl rfl) ?_
          refine seq_cons (lw_off rfl rfl rfl rfl rfl (by exact congrArg gb hb12) rfl rfl rfl) ?_
          refine seq_cons (lw_run rfl rfl (r_pick (b := false) rfl rfl rfl (by exact congrArg gb hb12) rfl)) ?_
          refine w_end ?_
          exact fun a w h => ⟨false, H, h.weaken (has_le ⟨rfl, rfl, rfl, rfl, rfl, rfl, rfl, rfl, rfl, rfl, rfl, rfl, rfl, rfl, rfl, rfl, rfl, rfl, rfl, trivial⟩)⟩
      · rintro v10 H
        try dsimp only at H ⊢
        unfold F62_J1 at H
        refine w_cond rfl (fun hb11 => ?_) (fun hb11 => ?_)
        · replace H := bif_t H hb11
          refine w_seq' ?_
          refine w_reg ?_
          refine seq_cons (lw_run rfl rfl (la_mvs (.inr rfl) rfl rfl rfl)) ?_
          refine w_end ?_
          refine w_nx ?_
          cases H
          try dsimp only at HC0
          cases HC0
          exact w_ret (fun a w h => fin_one h rfl (.tmp rfl rfl) trivial)
        · replace H := bif_f H hb11
          refine w_skip ?_
          refine q_nb ?_
          refine w_nx ?_
          refine w_reg ?_
          refine seq_cons (lw_run rfl rfl (la_bin rfl rfl rfl rfl rfl rfl)) ?_
          refine seq_cons (lw_run rfl rfl (la_mvs (.inl rfl) rfl rfl rfl)) ?_
          refine w_end ?_
          refine q_nt ?_
          exact fun a w h => ⟨k0, (IntKind.i64.wrap (v1 + 1)), Nat.lt_succ_self k0, H, h.weaken (has_le ⟨rfl, rfl, rfl, trivial⟩)⟩
  · replace H := bif_f H hb2
    refine w_exit ?_
    refine q_et ?_
    refine q_et ?_
    refine q_in ?_
    cases H
    have H := HC0
    clear HC0
    try dsimp only at H
    refine w_nx ?_
    refine w_seq' ?_
    refine w_reg ?_
    refine seq_cons (lw_run rfl rfl (la_mvs (.inl rfl) rfl rfl rfl)) ?_
    refine seq_cons (lw_run rfl rfl (la_lens rfl rfl rfl Try.underlying9 rfl)) ?_
    obtain ⟨y16, hy16, H⟩ := bnd H
    refine seq_cons (lw_run rfl rfl (r_call0 [] rfl rfl rfl rfl (r35 kf (a0.size : Int) 1 12 _ hy16) rfl rfl rfl rfl rfl rfl (.inl rfl))) ?_
    refine seq_cons (lw_run rfl rfl (la_mvs (.inr rfl) rfl rfl rfl)) ?_
    refine w_end ?_
    refine w_nx ?_
    cases H
    exact w_ret (fun a w h => fin_one h rfl (.tmp rfl rfl) trivial)
/- loop.example/g00844/impl.SchemaOk -/
def F47_J0 (kf : Nat) (a0 : (List S69)) (v1 : Int) (z3 : S69) (go : Int → Option (Ex Bool Int)) (v10 : Bool) (v11 : Bool) (v12 : Bool) (v13 : Bool) (v14 : Bool) (v15 : Bool) : Option (Ex Bool Int) :=
  (bif v15 then
  some (.ret false)
  else go (IntKind.i64.wrap (v1 + 1)))
def F47_L0 (kf : Nat) (a0 : (List S69)) : Nat → Int → Option (Ex Bool Int)
  | 0, _ => none
  | k + 1, v1 =>
  (bif (decide (v1 < (a0.length : Int))) then
  (ix a0 v1).bind (fun z3 => (F62 kf z3.f0).bind (fun y17 => (bif (!y17) then
  F47_J0 kf a0 v1 z3 (F47_L0 kf a0 k) y17 (!y17) (!y17) true true true
  else (F35 kf z3.f1 1 6).bind (fun y19 => (bif (!y19) then
  F47_J0 kf a0 v1 z3 (F47_L0 kf a0 k) y17 (!y17) (!y17) (!y19) (!y19) true
  else (bif (decide (v1 > 0)) then
  (ix a0 (IntKind.i64.wrap (v1 - 1))).bind (fun z22 => F47_J0 kf a0 v1 z3 (F47_L0 kf a0 k) y17 (!y17) (!y17) (!y19) (!y19) (!(Op.bytesLess z22.f0.toList z3.f0.toList)))
  else F47_J0 kf a0 v1 z3 (F47_L0 kf a0 k) y17 (!y17) (!y17) (!y19) (!y19) false))))))
  else some (.go v1))
def F47 (kf : Nat) (a0 : (List S69)) : Option Bool :=
  (F47_L0 kf a0 kf 0).bind (fun o => match o with
  | .ret r => some r
  | .go v1 => some (decide ((a0.length : Int) ≤ 8)))
theorem r47 (kf : Nat) (a0 : (List S69)) (R : Bool) (H : F47 kf a0 = some R) : Ret Try.prog 47 41 [.d (.one (.sl false 73 (a0.map (c73 false))))] [] (.d (bv R)) [] := by
  refine ret_of Try.func47 rfl rfl (by kernel_rfl) rfl ?_
  intro fr a' w' hn
  obtain ⟨w0, M, Z0, n, γ⟩ := fr
  simp only at hn
  subst hn
  revert a' w'
  show W _ _ _ _ _
  refine w_seq' ?_
  refine w_reg ?_
  refine seq_cons (lw_run rfl rfl (la_mvs (.inr rfl) rfl rfl rfl)) ?_
  refine w_end ?_
  refine w_nx ?_
  refine w_seq' ?_
  refine w_seq' ?_
  refine w_reg ?_
  refine seq_cons (lw_run rfl rfl (r_mvr (.inl rfl) rfl rfl rfl rfl)) ?_
  refine seq_cons (lw_run rfl rfl (la_len rfl rfl rfl Try.underlying45 rfl)) ?_
  refine seq_cons (lw_run rfl rfl (la_mvs (.inl rfl) rfl rfl rfl)) ?_
  refine w_end ?_
  refine w_nx ?_
  refine w_block ?_
  obtain ⟨out0, HL, HC0⟩ := bnd H
  clear H
  refine w_weak (Γ' := (fun s : Int => mk [(0, .d (.one (.sl false 73 (a0.map (c73 false))))), (5, .d (.one (.sl false 73 (a0.map (c73 false))))), (6, .d (iv (a0.length : Int))), (7, .d (iv s))]) 0) (w_loop (σ := Int) (fun s => mk [(0, .d (.one (.sl false 73 (a0.map (c73 false))))), (5, .d (.one (.sl false 73 (a0.map (c73 false))))), (6, .d (iv (a0.length : Int))), (7, .d (iv s))]) (fun k s => F47_L0 kf a0 k s = some out0) kf 0 HL ?_) (has_le ⟨rfl, rfl, rfl, rfl, trivial⟩)
  clear HL
  rintro k0 v1 H
  cases k0 with
  | zero => cases H
  | succ k0 =>
  try dsimp only at H ⊢
  refine w_seq' ?_
  refine w_reg ?_
  refine seq_cons (lw_run rfl rfl (la_bin rfl rfl rfl rfl rfl rfl)) ?_
  refine w_end ?_
  refine w_nx ?_
  refine w_seq' ?_
  refine w_cond rfl (fun hb2 => ?_) (fun hb2 => ?_)
  · replace H := bif_t H hb2
    refine w_skip ?_
    refine w_nx ?_
    refine w_seq' ?_
    refine w_block ?_
    refine w_seq' ?_
    refine w_reg ?_
    refine seq_cons (lw_run rfl rfl (la_mvs (.inl rfl) rfl rfl rfl)) ?_
    obtain ⟨z3, hz3, H⟩ := bnd H
    refine seq_cons (lw_run rfl rfl (r_ix rfl rfl rfl e45 rfl rfl hz3 rfl)) ?_
    refine seq_cons (lw_run rfl rfl (r_lds rfl rfl rfl rw73 rfl (ln73 _ _) rfl)) ?_
    refine seq_cons (lw_run rfl rfl (la_alloc rfl rfl rfl (cs := [.v (.string ByteArray.empty), .v (.int .i64 0)]) (z73 true))) ?_
    refine seq_cons (lw_run rfl rfl (la_mvs (.inr rfl) rfl rfl rfl)) ?_
    refine seq_cons (lw_run rfl rfl (la_stb rfl rfl rfl sz73 so73 rfl rfl rfl (nodupB_ok rfl))) ?_
    refine w_end ?_
    refine w_nx ?_
    refine w_join (σ := Bool × Bool × Bool × Bool × Bool × Bool) (fun s => mk [(0, .d (.one (.sl false 73 (a0.map (c73 false))))), (3, .d (iv v1)), (4, .box 73 (c73 false z3)), (5, .d (.one (.sl false 73 (a0.map (c73 false))))), (6, .d (iv (a0.length : Int))), (7, .d (iv v1)), (8, .d (bv (decide (v1 < (a0.length : Int))))), (9, .d (iv v1)), (11, .d (.agg (c73 false z3))), (12, .fld 4 0), (13, .d (sv z3.f0)), (14, .d (bv s.1)), (15, .d (bv s.2.1)), (16, .d (bv s.2.2.1)), (21, .d (bv s.2.2.2.1)), (22, .d (bv s.2.2.2.2.1)), (36, .d (bv s.2.2.2.2.2))]) (fun s => F47_J0 kf a0 v1 z3 (F47_L0 kf a0 k0) s.1 s.2.1 s.2.2.1 s.2.2.2.1 s.2.2.2.2.1 s.2.2.2.2.2 = some out0) ?_ ?_
    · obtain ⟨y17, hy17, H⟩ := bnd H
      refine bcase (!y17) (fun hb18 => ?_) (fun hb18 => ?_)
      · replace H := bif_t H hb18
        refine w_drawnq (⟨[(4, .box 73 (c73 false z3), none)], _, []⟩ :: ⟨[(12, .fld 4 0, some 0), (4, .box 73 (c73 false z3), none)], _, [0]⟩ :: ⟨[(13, .d (sv z3.f0), some 1)], _, [0, 1]⟩ :: ⟨[(14, .d (bv y17), some 2)], _, [0, 1, 2]⟩ :: ⟨[(15, .d (bv (!y17)), some 3)], _, [0, 1, 2, 3]⟩ :: ⟨[(16, .d (bv (!y17)), some 4)], _, [0, 1, 2, 3, 4]⟩ :: ⟨[(16, .d (bv (!y17)), some 4)], _, [0, 1, 2, 3, 4, 5]⟩ :: ⟨[(16, .d (bv (!y17)), some 4)], _, [0, 1, 2, 3, 4, 5, 6]⟩ :: ⟨[(16, .d (bv (!y17)), some 4)], _, [0, 1, 2, 3, 4, 5, 6, 7]⟩ :: ⟨[(16, .d (bv (!y17)), some 4), (20, .tup [], some 8)], _, [0, 1, 2, 3, 4, 5, 6, 7, 8]⟩ :: ⟨[(21, .d (bv true), some 9)], _, [0, 1, 2, 3, 4, 5, 6, 7, 8, 9]⟩ :: ⟨[(22, .d (bv true), some 10)], _, [0, 1, 2, 3, 4, 5, 6, 7, 8, 9, 10]⟩ :: ⟨[(22, .d (bv true), some 10)], _, [0, 1, 2, 3, 4, 5, 6, 7, 8, 9, 10, 11]⟩ :: ⟨[(22, .d (bv true), some 10)], _, [0, 1, 2, 3, 4, 5, 6, 7, 8, 9, 10, 11, 12]⟩ :: ⟨[(25, .tup [], some 13)], _, [0, 1, 2, 3, 4, 5, 6, 7, 8, 9, 10, 11, 12, 13]⟩ :: ⟨[(25, .tup [], some 13)], _, [0, 1, 2, 3, 4, 5, 6, 7, 8, 9, 10, 11, 12, 13]⟩ :: ⟨[(25, .tup [], some 13)], _, [0, 1, 2, 3, 4, 5, 6, 7, 8, 9, 10, 11, 12, 13, 15]⟩ :: ⟨[(25, .tup [], some 13)], _, [0, 1, 2, 3, 4, 5, 6, 7, 8, 9, 10, 11, 12, 13, 14, 15, 16]⟩ :: ⟨[(25, .tup [], some 13)], _, [0, 1, 2, 3, 4, 5, 6, 7, 8, 9, 10, 11, 12, 13, 14, 15, 16, 17]⟩ :: ⟨[(25, .tup [], some 13)], _, [0, 1, 2, 3, 4, 5, 6, 7, 8, 9, 10, 11, 12, 13, 14, 15, 16, 17, 18]⟩ :: ⟨[(25, .tup [], some 13)], _, [0, 1, 2, 3, 4, 5, 6, 7, 8, 9, 10, 11, 12, 13]⟩ :: ⟨[(25, .tup [], some 13)], _, [0, 1, 2, 3, 4, 5, 6, 7, 8, 9, 10, 11, 12, 13, 20]⟩ :: ⟨[(25, .tup [], some 13)], _, [0, 1, 2, 3, 4, 5, 6, 7, 8, 9, 10, 11, 12, 13, 14, 15, 16, 17, 18, 19, 20, 21]⟩ :: ⟨[(22, .d (bv true), some 10)], _, [0, 1, 2, 3, 4, 5, 6, 7, 8, 9, 10, 11, 12, 13, 14, 15, 16, 17, 18, 19, 20, 21, 22]⟩ :: ⟨[(22, .d (bv true), some 10), (35, .tup [], some 23)], _, [0, 1, 2, 3, 4, 5, 6, 7, 8, 9, 10, 11, 12, 13, 14, 15, 16, 17, 18, 19, 20, 21, 22, 23]⟩ :: []) [(0, .d (.one (.sl false 73 (a0.map (c73 false)))), none), (3, .d (iv v1), none), (4, .box 73 (c73 false z3), none), (5, .d (.one (.sl false 73 (a0.map (c73 false)))), none), (6, .d (iv (a0.length : Int)), none), (7, .d (iv v1), none), (8, .d (bv (decide (v1 < (a0.length : Int)))), none), (9, .d (iv v1), none), (11, .d (.agg (c73 false z3)), none), (12, .fld 4 0, some 0), (13, .d (sv z3.f0), some 1), (14, .d (bv y17), some 2), (15, .d (bv (!y17)), some 3), (16, .d (bv (!y17)), some 4), (21, .d (bv true), some 9), (22, .d (bv true), some 10), (36, .d (bv true), some 24)] mixed ⟨lw_run rfl rfl (la_fbx rfl rfl rfl fd73_0 rfl rfl), lw_run rfl rfl (la_ldf rfl rfl rfl fl9 rfl rfl rfl), lw_run rfl rfl (r_call0 [] rfl rfl rfl rfl (r62 kf z3.f0 _ hy17) rfl rfl rfl rfl rfl rfl (.inl rfl)), lw_run rfl rfl (la_not rfl rfl rfl rfl), lw_run rfl rfl (la_mvs (.inl rfl) rfl rfl rfl), lw_off rfl rfl rfl rfl rfl (by exact congrArg gb hb18) rfl rfl rfl, lw_off rfl rfl rfl rfl rfl (by exact congrArg gb hb18) rfl rfl rfl, lw_off rfl rfl rfl rfl rfl (by exact congrArg gb hb18) rfl rfl rfl, lw_off rfl rfl rfl rfl rfl (by exact congrArg gb hb18) rfl rfl rfl, lw_run rfl rfl (r_pick (b := true) rfl rfl rfl (by exact congrArg gb hb18) rfl), lw_run rfl rfl (la_mvs (.inl rfl) rfl rfl rfl), lw_off rfl rfl rfl rfl rfl rfl rfl rfl rfl, lw_off rfl rfl rfl rfl rfl rfl rfl rfl rfl, lw_off rfl rfl rfl rfl rfl rfl rfl rfl rfl, lw_offu rfl rfl rfl rfl rfl rfl rfl rfl, lw_offu rfl rfl rfl rfl rfl rfl rfl rfl, lw_offu rfl rfl rfl rfl rfl rfl rfl rfl, lw_offu rfl rfl rfl rfl rfl rfl rfl rfl, lw_offu rfl rfl rfl rfl rfl rfl rfl rfl, lw_offu rfl rfl rfl rfl rfl rfl rfl rfl, lw_offu rfl rfl rfl rfl rfl rfl rfl rfl, lw_offu rfl rfl rfl rfl rfl rfl rfl rfl, lw_offu rfl rfl rfl rfl rfl rfl rfl rfl, lw_off rfl rfl rfl rfl rfl rfl rfl rfl rfl, lw_run rfl rfl (r_pick (b := true) rfl rfl rfl rfl rfl), trivial⟩ ⟨⟨rfl, trivial⟩, ⟨rfl, rfl, trivial⟩, ⟨rfl, trivial⟩, ⟨rfl, trivial⟩, ⟨rfl, trivial⟩, ⟨rfl, trivial⟩, ⟨rfl, trivial⟩, ⟨rfl, trivial⟩, ⟨rfl, trivial⟩, ⟨rfl, rfl, trivial⟩, ⟨rfl, trivial⟩, ⟨rfl, trivial⟩, ⟨rfl, trivial⟩, ⟨rfl, trivial⟩, ⟨rfl, trivial⟩, ⟨rfl, trivial⟩, ⟨rfl, trivial⟩, ⟨rfl, trivial⟩, ⟨rfl, trivial⟩, ⟨rfl, trivial⟩, ⟨rfl, trivial⟩, ⟨rfl, trivial⟩, ⟨rfl, trivial⟩, ⟨rfl, trivial⟩, ⟨rfl, rfl, trivial⟩, trivial⟩ ⟨rfl, rfl, rfl, rfl, rfl, rfl, rfl, rfl, rfl, rfl, rfl, rfl, rfl, rfl, rfl, rfl, rfl, trivial⟩ (by kernel_rfl) ?_
        exact fun a w h => ⟨(y17, (!y17), (!y17), true, true, true), H, h.weaken (has_le ⟨rfl, rfl, rfl, rfl, rfl, rfl, rfl, rfl, rfl, rfl, rfl, rfl, rfl, rfl, rfl, rfl, rfl, trivial⟩)⟩
      · replace H := bif_f H hb18
        obtain ⟨y19, hy19, H⟩ := bnd H
        refine bcase (!y19) (fun hb20 => ?_) (fun hb20 => ?_)
        · replace H := bif_t H hb20
          refine w_drawnq (⟨[(4, .box 73 (c73 false z3), none)], _, []⟩ :: ⟨[(12, .fld 4 0, some 0), (4, .box 73 (c73 false z3), none)], _, [0]⟩ :: ⟨[(13, .d (sv z3.f0), some 1)], _, [0, 1]⟩ :: ⟨[(14, .d (bv y17), some 2)], _, [0, 1, 2]⟩ :: ⟨[(15, .d (bv (!y17)), some 3)], _, [0, 1, 2, 3]⟩ :: ⟨[(4, .box 73 (c73 false z3), none), (16, .d (bv (!y17)), some 4)], _, [0, 1, 2, 3, 4]⟩ :: ⟨[(17, .fld 4 1, some 5), (16, .d (bv (!y17)), some 4), (4, .box 73 (c73 false z3), none)], _, [0, 1, 2, 3, 4, 5]⟩ :: ⟨[(18, .d (iv z3.f1), some 6), (16, .d (bv (!y17)), some 4)], _, [0, 1, 2, 3, 4, 5, 6]⟩ :: ⟨[(19, .d (bv y19), some 7), (16, .d (bv (!y17)), some 4)], _, [0, 1, 2, 3, 4, 5, 6, 7]⟩ :: ⟨[(16, .d (bv (!y17)), some 4), (20, .d (bv (!y19)), some 8)], _, [0, 1, 2, 3, 4, 5, 6, 7, 8]⟩ :: ⟨[(21, .d (bv (!y19)), some 9)], _, [0, 1, 2, 3, 4, 5, 6, 7, 8, 9]⟩ :: ⟨[(22, .d (bv (!y19)), some 10)], _, [0, 1, 2, 3, 4, 5, 6, 7, 8, 9, 10]⟩ :: ⟨[(22, .d (bv (!y19)), some 10)], _, [0, 1, 2, 3, 4, 5, 6, 7, 8, 9, 10, 11]⟩ :: ⟨[(22, .d (bv (!y19)), some 10)], _, [0, 1, 2, 3, 4, 5, 6, 7, 8, 9, 10, 11, 12]⟩ :: ⟨[(25, .tup [], some 13)], _, [0, 1, 2, 3, 4, 5, 6, 7, 8, 9, 10, 11, 12, 13]⟩ :: ⟨[(25, .tup [], some 13)], _, [0, 1, 2, 3, 4, 5, 6, 7, 8, 9, 10, 11, 12, 13]⟩ :: ⟨[(25, .tup [], some 13)], _, [0, 1, 2, 3, 4, 5, 6, 7, 8, 9, 10, 11, 12, 13, 15]⟩ :: ⟨[(25, .tup [], some 13)], _, [0, 1, 2, 3, 4, 5, 6, 7, 8, 9, 10, 11, 12, 13, 14, 15, 16]⟩ :: ⟨[(25, .tup [], some 13)], _, [0, 1, 2, 3, 4, 5, 6, 7, 8, 9, 10, 11, 12, 13, 14, 15, 16, 17]⟩ :: ⟨[(25, .tup [], some 13)], _, [0, 1, 2, 3, 4, 5, 6, 7, 8, 9, 10, 11, 12, 13, 14, 15, 16, 17, 18]⟩ :: ⟨[(25, .tup [], some 13)], _, [0, 1, 2, 3, 4, 5, 6, 7, 8, 9, 10, 11, 12, 13]⟩ :: ⟨[(25, .tup [], some 13)], _, [0, 1, 2, 3, 4, 5, 6, 7, 8, 9, 10, 11, 12, 13, 20]⟩ :: ⟨[(25, .tup [], some 13)], _, [0, 1, 2, 3, 4, 5, 6, 7, 8, 9, 10, 11, 12, 13, 14, 15, 16, 17, 18, 19, 20, 21]⟩ :: ⟨[(22, .d (bv (!y19)), some 10)], _, [0, 1, 2, 3, 4, 5, 6, 7, 8, 9, 10, 11, 12, 13, 14, 15, 16, 17, 18, 19, 20, 21, 22]⟩ :: ⟨[(22, .d (bv (!y19)), some 10), (35, .tup [], some 23)], _, [0, 1, 2, 3, 4, 5, 6, 7, 8, 9, 10, 11, 12, 13, 14, 15, 16, 17, 18, 19, 20, 21, 22, 23]⟩ :: []) [(0, .d (.one (.sl false 73 (a0.map (c73 false)))), none), (3, .d (iv v1), none), (4, .box 73 (c73 false z3), none), (5, .d (.one (.sl false 73 (a0.map (c73 false)))), none), (6, .d (iv (a0.length : Int)), none), (7, .d (iv v1), none), (8, .d (bv (decide (v1 < (a0.length : Int)))), none), (9, .d (iv v1), none), (11, .d (.agg (c73 false z3)), none), (12, .fld 4 0, some 0), (13, .d (sv z3.f0), some 1), (14, .d (bv y17), some 2), (15, .d (bv (!y17)), some 3), (16, .d (bv (!y17)), some 4), (17, .fld 4 1, some 5), (18, .d (iv z3.f1), some 6), (19, .d (bv y19), some 7), (20, .d (bv (!y19)), some 8), (21, .d (bv (!y19)), some 9), (22, .d (bv (!y19)), some 10), (36, .d (bv true), some 24)] mixed ⟨lw_run rfl rfl (la_fbx rfl rfl rfl fd73_0 rfl rfl), lw_run rfl rfl (la_ldf rfl rfl rfl fl9 rfl rfl rfl), lw_run rfl rfl (r_call0 [] rfl rfl rfl rfl (r62 kf z3.f0 _ hy17) rfl rfl rfl rfl rfl rfl (.inl rfl)), lw_run rfl rfl (la_not rfl rfl rfl rfl), lw_run rfl rfl (la_mvs (.inl rfl) rfl rfl rfl), lw_on rfl rfl rfl rfl rfl (by exact congrArg gb hb18) (la_fbx rfl rfl rfl fd73_1 rfl rfl), lw_on rfl rfl rfl rfl rfl (by exact congrArg gb hb18) (la_ldf rfl rfl rfl fl3 rfl rfl rfl), lw_on rfl rfl rfl rfl rfl (by exact congrArg gb hb18) (r_call0 [] rfl rfl rfl rfl (r35 kf z3.f1 1 6 _ hy19) rfl rfl rfl rfl rfl rfl (.inl rfl)), lw_on rfl rfl rfl rfl rfl (by exact congrArg gb hb18) (la_not rfl rfl rfl rfl), lw_run rfl rfl (r_pick (b := false) rfl rfl rfl (by exact congrArg gb hb18) rfl), lw_run rfl rfl (la_mvs (.inl rfl) rfl rfl rfl), lw_off rfl rfl rfl rfl rfl (by exact congrArg gb hb20) rfl rfl rfl, lw_off rfl rfl rfl rfl rfl (by exact congrArg gb hb20) rfl rfl rfl, lw_off rfl rfl rfl rfl rfl (by exact congrArg gb hb20) rfl rfl rfl, lw_offu rfl rfl rfl rfl rfl rfl rfl rfl, lw_offu rfl rfl rfl rfl rfl rfl rfl rfl, lw_offu rfl rfl rfl rfl rfl rfl rfl rfl, lw_offu rfl rfl rfl rfl rfl rfl rfl rfl, lw_offu rfl rfl rfl rfl rfl rfl rfl rfl, lw_offu rfl rfl rfl rfl rfl rfl rfl rfl, lw_offu rfl rfl rfl rfl rfl rfl rfl rfl, lw_offu rfl rfl rfl rfl rfl rfl rfl rfl, lw_offu rfl rfl rfl rfl rfl rfl rfl rfl, lw_off rfl rfl rfl rfl rfl (by exact congrArg gb hb20) rfl rfl rfl, lw_run rfl rfl (r_pick (b := true) rfl rfl rfl (by exact congrArg gb hb20) rfl), trivial⟩ ⟨⟨rfl, trivial⟩, ⟨rfl, rfl, trivial⟩, ⟨rfl, trivial⟩, ⟨rfl, trivial⟩, ⟨rfl, trivial⟩, ⟨rfl, rfl, trivial⟩, ⟨rfl, rfl, rfl, trivial⟩, ⟨rfl, rfl, trivial⟩, ⟨rfl, rfl, trivial⟩, ⟨rfl, rfl, trivial⟩, ⟨rfl, trivial⟩, ⟨rfl, trivial⟩, ⟨rfl, trivial⟩, ⟨rfl, trivial⟩, ⟨rfl, trivial⟩, ⟨rfl, trivial⟩, ⟨rfl, trivial⟩, ⟨rfl, trivial⟩, ⟨rfl, trivial⟩, ⟨rfl, trivial⟩, ⟨rfl, trivial⟩, ⟨rfl, trivial⟩, ⟨rfl, trivial⟩, ⟨rfl, trivial⟩, ⟨rfl, rfl, trivial⟩, trivial⟩ ⟨rfl, rfl, rfl, rfl, rfl, rfl, rfl, rfl, rfl, rfl, rfl, rfl, rfl, rfl, rfl, rfl, rfl, rfl, rfl, rfl, rfl, trivial⟩ (by kernel_rfl) ?_
          exact fun a w h => ⟨(y17, (!y17), (!y17), (!y19), (!y19), true), H, h.weaken (has_le ⟨rfl, rfl, rfl, rfl, rfl, rfl, rfl, rfl, rfl, rfl, rfl, rfl, rfl, rfl, rfl, rfl, rfl, trivial⟩)⟩
        · replace H := bif_f H hb20
          refine bcase (decide (v1 > 0)) (fun hb21 => ?_) (fun hb21 => ?_)
          · replace H := bif_t H hb21
            obtain ⟨z22, hz22, H⟩ := bnd H
            refine w_drawnq (⟨[(4, .box 73 (c73 false z3), none)], _, []⟩ :: ⟨[(12, .fld 4 0, some 0), (4, .box 73 (c73 false z3), none)], _, [0]⟩ :: ⟨[(13, .d (sv z3.f0), some 1)], _, [0, 1]⟩ :: ⟨[(14, .d (bv y17), some 2)], _, [0, 1, 2]⟩ :: ⟨[(15, .d (bv (!y17)), some 3)], _, [0, 1, 2, 3]⟩ :: ⟨[(4, .box 73 (c73 false z3), none), (16, .d (bv (!y17)), some 4)], _, [0, 1, 2, 3, 4]⟩ :: ⟨[(17, .fld 4 1, some 5), (16, .d (bv (!y17)), some 4), (4, .box 73 (c73 false z3), none)], _, [0, 1, 2, 3, 4, 5]⟩ :: ⟨[(18, .d (iv z3.f1), some 6), (16, .d (bv (!y17)), some 4)], _, [0, 1, 2, 3, 4, 5, 6]⟩ :: ⟨[(19, .d (bv y19), some 7), (16, .d (bv (!y17)), some 4)], _, [0, 1, 2, 3, 4, 5, 6, 7]⟩ :: ⟨[(16, .d (bv (!y17)), some 4), (20, .d (bv (!y19)), some 8)], _, [0, 1, 2, 3, 4, 5, 6, 7, 8]⟩ :: ⟨[(21, .d (bv (!y19)), some 9)], _, [0, 1, 2, 3, 4, 5, 6, 7, 8, 9]⟩ :: ⟨[(3, .d (iv v1), none), (22, .d (bv (!y19)), some 10)], _, [0, 1, 2, 3, 4, 5, 6, 7, 8, 9, 10]⟩ :: ⟨[(23, .d (iv v1), some 11), (22, .d (bv (!y19)), some 10)], _, [0, 1, 2, 3, 4, 5, 6, 7, 8, 9, 10, 11]⟩ :: ⟨[(24, .d (bv (decide (v1 > 0))), some 12), (22, .d (bv (!y19)), some 10)], _, [0, 1, 2, 3, 4, 5, 6, 7, 8, 9, 10, 11, 12]⟩ :: ⟨[(0, .d (.one (.sl false 73 (a0.map (c73 false)))), none), (25, .d (bv (decide (v1 > 0))), some 13)], _, [0, 1, 2, 3, 4, 5, 6, 7, 8, 9, 10, 11, 12, 13]⟩ :: ⟨[(3, .d (iv v1), none), (25, .d (bv (decide (v1 > 0))), some 13)], _, [0, 1, 2, 3, 4, 5, 6, 7, 8, 9, 10, 11, 12, 13]⟩ :: ⟨[(27, .d (iv v1), some 15), (25, .d (bv (decide (v1 > 0))), some 13)], _, [0, 1, 2, 3, 4, 5, 6, 7, 8, 9, 10, 11, 12, 13, 15]⟩ :: ⟨[(26, .d (.one (.sl false 73 (a0.map (c73 false)))), some 14), (28, .d (iv (IntKind.i64.wrap (v1 - 1))), some 16), (25, .d (bv (decide (v1 > 0))), some 13)], _, [0, 1, 2, 3, 4, 5, 6, 7, 8, 9, 10, 11, 12, 13, 14, 15, 16]⟩ :: ⟨[(29, .sp none (c73 false z22), some 17), (25, .d (bv (decide (v1 > 0))), some 13)], _, [0, 1, 2, 3, 4, 5, 6, 7, 8, 9, 10, 11, 12, 13, 14, 15, 16, 17]⟩ :: ⟨[(30, .sp none ((c73 false z22).drop 0), some 18), (25, .d (bv (decide (v1 > 0))), some 13)], _, [0, 1, 2, 3, 4, 5, 6, 7, 8, 9, 10, 11, 12, 13, 14, 15, 16, 17, 18]⟩ :: ⟨[(4, .box 73 (c73 false z3), none), (25, .d (bv (decide (v1 > 0))), some 13)], _, [0, 1, 2, 3, 4, 5, 6, 7, 8, 9, 10, 11, 12, 13]⟩ :: ⟨[(32, .fld 4 0, some 20), (25, .d (bv (decide (v1 > 0))), some 13), (4, .box 73 (c73 false z3), none)], _, [0, 1, 2, 3, 4, 5, 6, 7, 8, 9, 10, 11, 12, 13, 20]⟩ :: ⟨[(31, .d (sv z22.f0), some 19), (33, .d (sv z3.f0), some 21), (25, .d (bv (decide (v1 > 0))), some 13)], _, [0, 1, 2, 3, 4, 5, 6, 7, 8, 9, 10, 11, 12, 13, 14, 15, 16, 17, 18, 19, 20, 21]⟩ :: ⟨[(25, .d (bv (decide (v1 > 0))), some 13), (34, .d (bv (!(Op.bytesLess z22.f0.toList z3.f0.toList))), some 22), (22, .d (bv (!y19)), some 10)], _, [0, 1, 2, 3, 4, 5, 6, 7, 8, 9, 10, 11, 12, 13, 14, 15, 16, 17, 18, 19, 20, 21, 22]⟩ :: ⟨[(22, .d (bv (!y19)), some 10), (35, .d (bv (!(Op.bytesLess z22.f0.toList z3.f0.toList))), some 23)], _, [0, 1, 2, 3, 4, 5, 6, 7, 8, 9, 10, 11, 12, 13, 14, 15, 16, 17, 18, 19, 20, 21, 22, 23]⟩ :: []) [(0, .d (.one (.sl false 73 (a0.map (c73 false)))), none), (3, .d (iv v1), none), (4, .box 73 (c73 false z3), none), (5, .d (.one (.sl false 73 (a0.map (c73 false)))), none), (6, .d (iv (a0.length : Int)), none), (7, .d (iv v1), none), (8, .d (bv (decide (v1 < (a0.length : Int)))), none), (9, .d (iv v1), none), (11, .d (.agg (c73 false z3)), none), (12, .fld 4 0, some 0), (13, .d (sv z3.f0), some 1), (14, .d (bv y17), some 2), (15, .d (bv (!y17)), some 3), (16, .d (bv (!y17)), some 4), (17, .fld 4 1, some 5), (18, .d (iv z3.f1), some 6), (19, .d (bv y19), some 7), (20, .d (bv (!y19)), some 8), (21, .d (bv (!y19)), some 9), (22, .d (bv (!y19)), some 10), (23, .d (iv v1), some 11), (24, .d (bv (decide (v1 > 0))), some 12), (25, .d (bv (decide (v1 > 0))), some 13), (26, .d (.one (.sl false 73 (a0.map (c73 false)))), some 14), (27, .d (iv v1), some 15), (28, .d (iv (IntKind.i64.wrap (v1 - 1))), some 16), (31, .d (sv z22.f0), some 19), (32, .fld 4 0, some 20), (33, .d (sv z3.f0), some 21), (34, .d (bv (!(Op.bytesLess z22.f0.toList z3.f0.toList))), some 22), (35, .d (bv (!(Op.bytesLess z22.f0.toList z3.f0.toList))), some 23), (36, .d (bv (!(Op.bytesLess z22.f0.toList z3.f0.toList))), some 24)] mixed ⟨lw_run rfl rfl (la_fbx rfl rfl rfl fd73_0 rfl rfl), lw_run rfl rfl (la_ldf rfl rfl rfl fl9 rfl rfl rfl), lw_run rfl rfl (r_call0 [] rfl rfl rfl rfl (r62 kf z3.f0 _ hy17) rfl rfl rfl rfl rfl rfl (.inl rfl)), lw_run rfl rfl (la_not rfl rfl rfl rfl), lw_run rfl rfl (la_mvs (.inl rfl) rfl rfl rfl), lw_on rfl rfl rfl rfl rfl (by exact congrArg gb hb18) (la_fbx rfl rfl rfl fd73_1 rfl rfl), lw_on rfl rfl rfl rfl rfl (by exact congrArg gb hb18) (la_ldf rfl rfl rfl fl3 rfl rfl rfl), lw_on rfl rfl rfl rfl rfl (by exact congrArg gb hb18) (r_call0 [] rfl rfl rfl rfl (r35 kf z3.f1 1 6 _ hy19) rfl rfl rfl rfl rfl rfl (.inl rfl)), lw_on rfl rfl rfl rfl rfl (by exact congrArg gb hb18) (la_not rfl rfl rfl rfl), lw_run rfl rfl (r_pick (b := false) rfl rfl rfl (by exact congrArg gb hb18) rfl), lw_run rfl rfl (la_mvs (.inl rfl) rfl rfl rfl), lw_on rfl rfl rfl rfl rfl (by exact congrArg gb hb20) (la_mvs (.inl rfl) rfl rfl rfl), lw_on rfl rfl rfl rfl rfl (by exact congrArg gb hb20) (la_bin rfl rfl rfl rfl rfl rfl), lw_on rfl rfl rfl rfl rfl (by exact congrArg gb hb20) (la_mvs (.inl rfl) rfl rfl rfl), lw_on rfl rfl rfl rfl rfl (by exact congrArg gb hb21) (r_mvr (.inl rfl) rfl rfl rfl rfl), lw_on rfl rfl rfl rfl rfl (by exact congrArg gb hb21) (la_mvs (.inl rfl) rfl rfl rfl), lw_on rfl rfl rfl rfl rfl (by exact congrArg gb hb21) (la_bin rfl rfl rfl rfl rfl rfl), lw_on rfl rfl rfl rfl rfl (by exact congrArg gb hb21) (r_ix rfl rfl rfl e45 rfl rfl hz22 rfl), lw_on rfl rfl rfl rfl rfl (by exact congrArg gb hb21) (r_fsp rfl rfl rfl fd73_0 rfl rfl), lw_on rfl rfl rfl rfl rfl (by exact congrArg gb hb21) (r_ld rfl rfl rfl fl9 rfl rfl), lw_on rfl rfl rfl rfl rfl (by exact congrArg gb hb21) (la_fbx rfl rfl rfl fd73_0 rfl rfl), lw_on rfl rfl rfl rfl rfl (by exact congrArg gb hb21) (la_ldf rfl rfl rfl fl9 rfl rfl rfl), lw_on rfl rfl rfl rfl rfl (by exact congrArg gb hb21) (la_bin rfl rfl rfl rfl rfl rfl), lw_on rfl rfl rfl rfl rfl (by exact congrArg gb hb20) (r_pick (b := true) rfl rfl rfl (by exact congrArg gb hb21) rfl), lw_run rfl rfl (r_pick (b := false) rfl rfl rfl (by exact congrArg gb hb20) rfl), trivial⟩ ⟨⟨rfl, trivial⟩, ⟨rfl, rfl, trivial⟩, ⟨rfl, trivial⟩, ⟨rfl, trivial⟩, ⟨rfl, trivial⟩, ⟨rfl, rfl, trivial⟩, ⟨rfl, rfl, rfl, trivial⟩, ⟨rfl, rfl, trivial⟩, ⟨rfl, rfl, trivial⟩, ⟨rfl, rfl, trivial⟩, ⟨rfl, trivial⟩, ⟨rfl, rfl, trivial⟩, ⟨rfl, rfl, trivial⟩, ⟨rfl, rfl, trivial⟩, ⟨rfl, rfl, trivial⟩, ⟨rfl, rfl, trivial⟩, ⟨rfl, rfl, trivial⟩, ⟨rfl, rfl, rfl, trivial⟩, ⟨rfl, rfl, trivial⟩, ⟨rfl, rfl, trivial⟩, ⟨rfl, rfl, trivial⟩, ⟨rfl, rfl, rfl, trivial⟩, ⟨rfl, rfl, rfl, trivial⟩, ⟨rfl, rfl, rfl, trivial⟩, ⟨rfl, rfl, trivial⟩, trivial⟩ ⟨rfl, rfl, rfl, rfl, rfl, rfl, rfl, rfl, rfl, rfl, rfl, rfl, rfl, rfl, rfl, rfl, rfl, rfl, rfl, rfl, rfl, rfl, rfl, rfl, rfl, rfl, rfl, rfl, rfl, rfl, rfl, rfl, trivial⟩ (by kernel_rfl) ?_
            exact fun a w h => ⟨(y17, (!y17), (!y17), (!y19), (!y19), (!(Op.bytesLess z22.f0.toList z3.f0.toList))), H, h.weaken (has_le ⟨rfl, rfl, rfl, rfl, rfl, rfl, rfl, rfl, rfl, rfl, rfl, rfl, rfl, rfl, rfl, rfl, rfl, trivial⟩)⟩
          · replace H := bif_f H hb21
            refine w_drawnq (⟨[(4, .box 73 (c73 false z3), none)], _, []⟩ :: ⟨[(12, .fld 4 0, some 0), (4, .box 73 (c73 false z3), none)], _, [0]⟩ :: ⟨[(13, .d (sv z3.f0), some 1)], _, [0, 1]⟩ :: ⟨[(14, .d (bv y17), some 2)], _, [0, 1, 2]⟩ :: ⟨[(15, .d (bv (!y17)), some 3)], _, [0, 1, 2, 3]⟩ :: ⟨[(4, .box 73 (c73 false z3), none), (16, .d (bv (!y17)), some 4)], _, [0, 1, 2, 3, 4]⟩ :: ⟨[(17, .fld 4 1, some 5), (16, .d (bv (!y17)), some 4), (4, .box 73 (c73 false z3), none)], _, [0, 1, 2, 3, 4, 5]⟩ :: ⟨[(18, .d (iv z3.f1), some 6), (16, .d (bv (!y17)), some 4)], _, [0, 1, 2, 3, 4, 5, 6]⟩ :: ⟨[(19, .d (bv y19), some 7), (16, .d (bv (!y17)), some 4)], _, [0, 1, 2, 3, 4, 5, 6, 7]⟩ :: ⟨[(16, .d (bv (!y17)), some 4), (20, .d (bv (!y19)), some 8)], _, [0, 1, 2, 3, 4, 5, 6, 7, 8]⟩ :: ⟨[(21, .d (bv (!y19)), some 9)], _, [0, 1, 2, 3, 4, 5, 6, 7, 8, 9]⟩ :: ⟨[(3, .d (iv v1), none), (22, .d (bv (!y19)), some 10)], _, [0, 1, 2, 3, 4, 5, 6, 7, 8, 9, 10]⟩ :: ⟨[(23, .d (iv v1), some 11), (22, .d (bv (!y19)), some 10)], _, [0, 1, 2, 3, 4, 5, 6, 7, 8, 9, 10, 11]⟩ :: ⟨[(24, .d (bv (decide (v1 > 0))), some 12), (22, .d (bv (!y19)), some 10)], _, [0, 1, 2, 3, 4, 5, 6, 7, 8, 9, 10, 11, 12]⟩ :: ⟨[(25, .d (bv (decide (v1 > 0))), some 13)], _, [0, 1, 2, 3, 4, 5, 6, 7, 8, 9, 10, 11, 12, 13]⟩ :: ⟨[(25, .d (bv (decide (v1 > 0))), some 13)], _, [0, 1, 2, 3, 4, 5, 6, 7, 8, 9, 10, 11, 12, 13]⟩ :: ⟨[(25, .d (bv (decide (v1 > 0))), some 13)], _, [0, 1, 2, 3, 4, 5, 6, 7, 8, 9, 10, 11, 12, 13, 15]⟩ :: ⟨[(25, .d (bv (decide (v1 > 0))), some 13)], _, [0, 1, 2, 3, 4, 5, 6, 7, 8, 9, 10, 11, 12, 13, 14, 15, 16]⟩ :: ⟨[(25, .d (bv (decide (v1 > 0))), some 13)], _, [0, 1, 2, 3, 4, 5, 6, 7, 8, 9, 10, 11, 12, 13, 14, 15, 16, 17]⟩ :: ⟨[(25, .d (bv (decide (v1 > 0))), some 13)], _, [0, 1, 2, 3, 4, 5, 6, 7, 8, 9, 10, 11, 12, 13, 14, 15, 16, 17, 18]⟩ :: ⟨[(25, .d (bv (decide (v1 > 0))), some 13)], _, [0, 1, 2, 3, 4, 5, 6, 7, 8, 9, 10, 11, 12, 13]⟩ :: ⟨[(25, .d (bv (decide (v1 > 0))), some 13)], _, [0, 1, 2, 3, 4, 5, 6, 7, 8, 9, 10, 11, 12, 13, 20]⟩ :: ⟨[(25, .d (bv (decide (v1 > 0))), some 13)], _, [0, 1, 2, 3, 4, 5, 6, 7, 8, 9, 10, 11, 12, 13, 14, 15, 16, 17, 18, 19, 20, 21]⟩ :: ⟨[(25, .d (bv (decide (v1 > 0))), some 13), (34, .tup [], some 22), (22, .d (bv (!y19)), some 10)], _, [0, 1, 2, 3, 4, 5, 6, 7, 8, 9, 10, 11, 12, 13, 14, 15, 16, 17, 18, 19, 20, 21, 22]⟩ :: ⟨[(22, .d (bv (!y19)), some 10), (35, .d (bv false), some 23)], _, [0, 1, 2, 3, 4, 5, 6, 7, 8, 9, 10, 11, 12, 13, 14, 15, 16, 17, 18, 19, 20, 21, 22, 23]⟩ :: []) [(0, .d (.one (.sl false 73 (a0.map (c73 false)))), none), (3, .d (iv v1), none), (4, .box 73 (c73 false z3), none), (5, .d (.one (.sl false 73 (a0.map (c73 false)))), none), (6, .d (iv (a0.length : Int)), none), (7, .d (iv v1), none), (8, .d (bv (decide (v1 < (a0.length : Int)))), none), (9, .d (iv v1), none), (11, .d (.agg (c73 false z3)), none), (12, .fld 4 0, some 0), (13, .d (sv z3.f0), some 1), (14, .d (bv y17), some 2), (15, .d (bv (!y17)), some 3), (16, .d (bv (!y17)), some 4), (17, .fld 4 1, some 5), (18, .d (iv z3.f1), some 6), (19, .d (bv y19), some 7), (20, .d (bv (!y19)), some 8), (21, .d (bv (!y19)), some 9), (22, .d (bv (!y19)), some 10), (23, .d (iv v1), some 11), (24, .d (bv (decide (v1 > 0))), some 12), (25, .d (bv (decide (v1 > 0))), some 13), (35, .d (bv false), some 23), (36, .d (bv false), some 24)] mixed ⟨lw_run rfl rfl (la_fbx rfl rfl rfl fd73_0 rfl rfl), lw_run rfl rfl (la_ldf rfl rfl rfl fl9 rfl rfl rfl), lw_run rfl rfl (r_call0 [] rfl rfl rfl rfl (r62 kf z3.f0 _ hy17) rfl rfl rfl rfl rfl rfl (.inl rfl)), lw_run rfl rfl (la_not rfl rfl rfl rfl), lw_run rfl rfl (la_mvs (.inl rfl) rfl rfl rfl), lw_on rfl rfl rfl rfl rfl (by exact congrArg gb hb18) (la_fbx rfl rfl rfl fd73_1 rfl rfl), lw_on rfl rfl rfl rfl rfl (by exact congrArg gb hb18) (la_ldf rfl rfl rfl fl3 rfl rfl rfl), lw_on rfl rfl rfl rfl rfl (by exact congrArg gb hb18) (r_call0 [] rfl rfl rfl rfl (r35 kf z3.f1 1 6 _ hy19) rfl rfl rfl rfl rfl rfl (.inl rfl)), lw_on rfl rfl rfl rfl rfl (by exact congrArg gb hb18) (la_not rfl rfl rfl rfl), lw_run rfl rfl (r_pick (b := false) rfl rfl rfl (by exact congrArg gb hb18) rfl), lw_run rfl rfl (la_mvs (.inl rfl) rfl rfl rfl), lw_on rfl rfl rfl rfl rfl (by exact congrArg gb hb20) (la_mvs (.inl rfl) rfl rfl rfl), lw_on rfl rfl rfl rfl rfl (by exact congrArg gb hb20) (la_bin rfl rfl rfl rfl rfl rfl), lw_on rfl rfl rfl rfl rfl (by exact congrArg gb hb20) (la_mvs (.inl rfl) rfl rfl rfl), lw_off rfl rfl rfl rfl rfl (by exact congrArg gb hb21) rfl rfl rfl, lw_off rfl rfl rfl rfl rfl (by exact congrArg gb hb21) rfl rfl rfl, lw_off rfl rfl rfl rfl rfl (by exact congrArg gb hb21) rfl rfl rfl, lw_off rfl rfl rfl rfl rfl (by exact congrArg gb hb21) rfl rfl rfl, lw_off rfl rfl rfl rfl rfl (by exact congrArg gb hb21) rfl rfl rfl, lw_off rfl rfl rfl rfl rfl (by exact congrArg gb hb21) rfl rfl rfl, lw_off rfl rfl rfl rfl rfl (by exact congrArg gb hb21) rfl rfl rfl, lw_off rfl rfl rfl rfl rfl (by exact congrArg gb hb21) rfl rfl rfl, lw_off rfl rfl rfl rfl rfl (by exact congrArg gb hb21) rfl rfl rfl, lw_on rfl rfl rfl rfl rfl (by exact congrArg gb hb20) (r_pick (b := false) rfl rfl rfl (by exact congrArg gb hb21) rfl), lw_run rfl rfl (r_pick (b := false) rfl rfl rfl (by exact congrArg gb hb20) rfl), trivial⟩ ⟨⟨rfl, trivial⟩, ⟨rfl, rfl, trivial⟩, ⟨rfl, trivial⟩, ⟨rfl, trivial⟩, ⟨rfl, trivial⟩, ⟨rfl, rfl, trivial⟩, ⟨rfl, rfl, rfl, trivial⟩, ⟨rfl, rfl, trivial⟩, ⟨rfl, rfl, trivial⟩, ⟨rfl, rfl, trivial⟩, ⟨rfl, trivial⟩, ⟨rfl, rfl, trivial⟩, ⟨rfl, rfl, trivial⟩, ⟨rfl, rfl, trivial⟩, ⟨rfl, trivial⟩, ⟨rfl, trivial⟩, ⟨rfl, trivial⟩, ⟨rfl, trivial⟩, ⟨rfl, trivial⟩, ⟨rfl, trivial⟩, ⟨rfl, trivial⟩, ⟨rfl, trivial⟩, ⟨rfl, trivial⟩, ⟨rfl, rfl, rfl, trivial⟩, ⟨rfl, rfl, trivial⟩, trivial⟩ ⟨rfl, rfl, rfl, rfl, rfl, rfl, rfl, rfl, rfl, rfl, rfl, rfl, rfl, rfl, rfl, rfl, rfl, rfl, rfl, rfl, rfl, rfl, rfl, rfl, rfl, trivial⟩ (by kernel_rfl) ?_
            exact fun a w h => ⟨(y17, (!y17), (!y17), (!y19), (!y19), false), H, h.weaken (has_le ⟨rfl, rfl, rfl, rfl, rfl, rfl, rfl, rfl, rfl, rfl, rfl, rfl, rfl, rfl, rfl, rfl, rfl, trivial⟩)⟩
    · rintro ⟨v10, v11, v12, v13, v14, v15⟩ H
      try dsimp only at H ⊢
      unfold F47_J0 at H
      refine w_cond rfl (fun hb16 => ?_) (fun hb16 => ?_)
      · replace H := bif_t H hb16
        refine w_seq' ?_
        refine w_reg ?_
        refine seq_cons (lw_run rfl rfl (la_mvs (.inr rfl) rfl rfl rfl)) ?_
        refine w_end ?_
        refine w_nx ?_
        cases H
        try dsimp only at HC0
        cases HC0
        exact w_ret (fun a w h => fin_one h rfl (.tmp rfl rfl) trivial)
      · replace H := bif_f H hb16
        refine w_skip ?_
        refine q_nb ?_
        refine w_nx ?_
        refine w_reg ?_
        refine seq_cons (lw_run rfl rfl (la_bin rfl rfl rfl rfl rfl rfl)) ?_
        refine seq_cons (lw_run rfl rfl (la_mvs (.inl rfl) rfl rfl rfl)) ?_
        refine w_end ?_
        refine q_nt ?_
        exact fun a w h => ⟨k0, (IntKind.i64.wrap (v1 + 1)), Nat.lt_succ_self k0, H, h.weaken (has_le ⟨rfl, rfl, rfl, rfl, trivial⟩)⟩
  · replace H := bif_f H hb2
    refine w_exit ?_
    refine q_et ?_
    refine q_et ?_
    refine q_in ?_
    cases H
    have H := HC0
    clear HC0
    try dsimp only at H
    refine w_nx ?_
    refine w_seq' ?_
    refine w_reg ?_
    refine seq_cons (lw_run rfl rfl (r_mvr (.inl rfl) rfl rfl rfl rfl)) ?_
    refine seq_cons (lw_run rfl rfl (la_len rfl rfl rfl Try.underlying45 rfl)) ?_
    refine seq_cons (lw_run rfl rfl (la_bin rfl rfl rfl rfl rfl rfl)) ?_
    refine seq_cons (lw_run rfl rfl (la_mvs (.inr rfl) rfl rfl rfl)) ?_
    refine w_end ?_
    refine w_nx ?_
    cases H
    exact w_ret (fun a w h => fin_one h rfl (.tmp rfl rfl) trivial)
/- (*loop.example/g00844/impl.stream).next -/
def F48 (kf : Nat) (a0_0 : Int) : Option (Int × Int) :=
  (remx (IntKind.i64.wrap ((IntKind.i64.wrap (75 * a0_0)) + 74)) 65537).bind (fun z1 => some (z1, z1))
theorem r48 (kf : Nat) (a0_0 : Int) (R : (Int × Int)) (H : F48 kf a0_0 = some R) : Ret Try.prog 48 17 [.eq 17] [.box 77 [.v (.int .i64 a0_0)]] (.d (iv R.1)) [.box 77 [.v (.int .i64 R.2)]] := by
  refine ret_of Try.func48 rfl rfl (by kernel_rfl) rfl ?_
  intro fr a' w' hn
  obtain ⟨w0, M, Z0, n, γ⟩ := fr
  simp only at hn
  subst hn
  revert a' w'
  show W _ _ _ _ _
  refine w_seq' ?_
  refine w_reg ?_
  refine seq_cons (lw_run rfl rfl (la_mvs (.inr rfl) rfl rfl rfl)) ?_
  refine w_end ?_
  refine w_nx ?_
  refine w_seq' ?_
  refine w_reg ?_
  refine seq_cons (lw_run rfl rfl (la_eq (.inl rfl) rfl rfl rfl (.inr rfl) rfl)) ?_
  refine seq_cons (lw_run rfl rfl (la_eq (.inl rfl) rfl rfl rfl (.inr rfl) rfl)) ?_
  refine seq_cons (lw_run rfl rfl (la_nilc rfl rfl rfl rfl rfl rfl)) ?_
  refine seq_cons (lw_run rfl rfl (la_fbx rfl rfl rfl fd77_0 rfl rfl)) ?_
  refine seq_cons (lw_run rfl rfl (la_ldf rfl rfl rfl fl3 rfl rfl rfl)) ?_
  refine seq_cons (lw_run rfl rfl (la_bin rfl rfl rfl rfl rfl rfl)) ?_
  refine seq_cons (lw_run rfl rfl (la_bin rfl rfl rfl rfl rfl rfl)) ?_
  obtain ⟨z1, hz1, H⟩ := bnd H
  refine seq_cons (lw_run rfl rfl (r_rem rfl rfl rfl rfl rfl hz1)) ?_
  refine seq_cons (lw_run rfl rfl (la_nilc rfl rfl rfl rfl rfl rfl)) ?_
  refine seq_cons (lw_run rfl rfl (la_fbx rfl rfl rfl fd77_0 rfl rfl)) ?_
  refine seq_cons (lw_run rfl rfl (la_stf rfl rfl sz3 so3 rfl rfl rfl rfl)) ?_
  refine w_end ?_
  refine w_nx ?_
  refine w_seq' ?_
  refine w_reg ?_
  refine seq_cons (lw_run rfl rfl (la_eq (.inl rfl) rfl rfl rfl (.inr rfl) rfl)) ?_
  refine seq_cons (lw_run rfl rfl (la_nilc rfl rfl rfl rfl rfl rfl)) ?_
  refine seq_cons (lw_run rfl rfl (la_fbx rfl rfl rfl fd77_0 rfl rfl)) ?_
  refine seq_cons (lw_run rfl rfl (la_ldf rfl rfl rfl fl3 rfl rfl rfl)) ?_
  refine seq_cons (lw_run rfl rfl (la_mvs (.inr rfl) rfl rfl rfl)) ?_
  refine w_end ?_
  refine w_nx ?_
  cases H
  exact w_ret (fun a w h => fin_one h rfl (.tmp rfl rfl) ⟨⟨rfl, rfl⟩, trivial⟩)
/- loop.example/g00844/impl.StoreFrom -/
def F29_J1 (kf : Nat) (a0 : (List S69)) (a1 : Int) (v4 : Bool) (v6 : (List (List (List Int)))) (v7 : Int) (v8 : Int) (z10 : S69) (y11 : (Int × Int)) (z12 : Int) (v13 : (List (List Int))) (v14 : Int) (v15 : Int) (v17 : (List Int)) (v18 : Int) (v19 : Int) (y21 : (Int × Int)) (z22 : Int) (go : (List Int) → Int → Int → Option (Ex (List (List (List Int))) ((List Int) × Int × Int))) (v24 : Int) : Option (Ex (List (List (List Int))) ((List Int) × Int × Int)) :=
  (apx v17 ([v24])).bind (fun z25 => go z25 (IntKind.i64.wrap (v18 + 1)) y21.2)
def F29_L2 (kf : Nat) (a0 : (List S69)) (a1 : Int) (v4 : Bool) (v6 : (List (List (List Int)))) (v7 : Int) (v8 : Int) (z10 : S69) (y11 : (Int × Int)) (z12 : Int) (v13 : (List (List Int))) (v14 : Int) (v15 : Int) : Nat → (List Int) → Int → Int → Option (Ex (List (List (List Int))) ((List Int) × Int × Int))
  | 0, _, _, _ => none
  | k + 1, v17, v18, v19 =>
  (bif (decide (v18 < z10.f1)) then
  (F48 kf v19).bind (fun y21 => (remx y21.1 6).bind (fun z22 => (bif (z22 == 5) then
  F29_J1 kf a0 a1 v4 v6 v7 v8 z10 y11 z12 v13 v14 v15 v17 v18 v19 y21 z22 (F29_L2 kf a0 a1 v4 v6 v7 v8 z10 y11 z12 v13 v14 v15 k) (-2000000)
  else F29_J1 kf a0 a1 v4 v6 v7 v8 z10 y11 z12 v13 v14 v15 v17 v18 v19 y21 z22 (F29_L2 kf a0 a1 v4 v6 v7 v8 z10 y11 z12 v13 v14 v15 k) z22)))
  else some (.go (v17, v18, v19)))
def F29_L1 (kf : Nat) (a0 : (List S69)) (a1 : Int) (v4 : Bool) (v6 : (List (List (List Int)))) (v7 : Int) (v8 : Int) (z10 : S69) (y11 : (Int × Int)) (z12 : Int) : Nat → (List (List Int)) → Int → Int → Option (Ex (List (List (List Int))) ((List (List Int)) × Int × Int))
  | 0, _, _, _ => none
  | k + 1, v13, v14, v15 =>
  (bif (decide (v14 < z12)) then
  (F29_L2 kf a0 a1 v4 v6 v7 v8 z10 y11 z12 v13 v14 v15 kf ([]) 0 v15).bind (fun o => match o with
  | .ret r => some (.ret r)
  | .go (v17, v18, v19) => (apx v13 ([v17])).bind (fun z27 => (F29_L1 kf a0 a1 v4 v6 v7 v8 z10 y11 z12 k) z27 (IntKind.i64.wrap (v14 + 1)) v19))
  else some (.go (v13, v14, v15)))
def F29_L0 (kf : Nat) (a0 : (List S69)) (a1 : Int) (v4 : Bool) : Nat → (List (List (List Int))) → Int → Int → Option (Ex (List (List (List Int))) ((List (List (List Int))) × Int × Int))
  | 0, _, _, _ => none
  | k + 1, v6, v7, v8 =>
  (bif (decide (v7 < (a0.length : Int))) then
  (ix a0 v7).bind (fun z10 => (F48 kf v8).bind (fun y11 => (remx y11.1 5).bind (fun z12 => (F29_L1 kf a0 a1 v4 v6 v7 v8 z10 y11 z12 kf ([]) 0 y11.2).bind (fun o => match o with
  | .ret r => some (.ret r)
  | .go (v13, v14, v15) => (apx v6 ([v13])).bind (fun z28 => (F29_L0 kf a0 a1 v4 k) z28 (IntKind.i64.wrap (v7 + 1)) v15)))))
  else some (.go (v6, v7, v8)))
def F29_J0 (kf : Nat) (a0 : (List S69)) (a1 : Int) (v4 : Bool) : Option ((List (List (List Int)))) :=
  (bif v4 then
  some ([])
  else (F29_L0 kf a0 a1 v4 kf ([]) 0 ((⟨a1⟩ : S77).f0)).bind (fun o => match o with
  | .ret r => some r
  | .go (v6, v7, v8) => some v6))
def F29 (kf : Nat) (a0 : (List S69)) (a1 : Int) : Option (List (List (List Int))) :=
  (F47 kf a0).bind (fun y29 => (bif (!y29) then
  F29_J0 kf a0 a1 true
  else (F35 kf a1 0 65536).bind (fun y31 => F29_J0 kf a0 a1 (!y31))))
theorem r29 (kf : Nat) (a0 : (List S69)) (a1 : Int) (R : (List (List (List Int)))) (H : F29 kf a0 a1 = some R) : Ret Try.prog 29 59 [.d (.one (.sl false 73 (a0.map (c73 false)))), .d (iv a1)] [] (.d (.one (.sl true 52 (R.map (c52 true))))) [] := by
  refine ret_of Try.func29 rfl rfl (by kernel_rfl) rfl ?_
  intro fr a' w' hn
  obtain ⟨w0, M, Z0, n, γ⟩ := fr
  simp only at hn
  subst hn
  revert a' w'
  show W _ _ _ _ _
  refine w_seq' ?_
  refine w_reg ?_
  refine seq_cons (lw_run rfl rfl (r_nil true 52 (c52 true) (.inr rfl) rfl rfl)) ?_
  refine w_end ?_
  refine w_nx ?_
  refine w_seq' ?_
  refine w_join (σ := Bool) (fun s => mk [(0, .d (.one (.sl false 73 (a0.map (c73 false))))), (1, .d (iv a1)), (4, .d (.one (.sl true 52 (([]).map (c52 true))))), (19, .d (bv s))]) (fun s => F29_J0 kf a0 a1 s = some R) ?_ ?_
  · refine w_reg ?_
    refine seq_cons (lw_run rfl rfl (r_mvr (.inl rfl) rfl rfl rfl rfl)) ?_
    obtain ⟨y29, hy29, H⟩ := bnd H
    refine seq_cons (lw_run rfl rfl (r_call0 [] rfl rfl rfl rfl (r47 kf a0 _ hy29) rfl rfl rfl rfl rfl rfl (.inl rfl))) ?_
    refine seq_cons (lw_run rfl rfl (la_not rfl rfl rfl rfl)) ?_
    refine seq_cons (lw_run rfl rfl (la_mvs (.inl rfl) rfl rfl rfl)) ?_
    refine bcase (!y29) (fun hb30 => ?_) (fun hb30 => ?_)
    · replace H := bif_t H hb30
      refine seq_cons (lw_off rfl rfl rfl rfl rfl (by exact congrArg gb hb30) rfl rfl rfl) ?_
      refine seq_cons (lw_off rfl rfl rfl rfl rfl (by exact congrArg gb hb30) rfl rfl rfl) ?_
      refine seq_cons (lw_off rfl rfl rfl rfl rfl (by exact congrArg gb hb30) rfl rfl rfl) ?_
      refine seq_cons (lw_run rfl rfl (r_pick (b := true) rfl rfl rfl (by exact congrArg gb hb30) rfl)) ?_
      refine w_end ?_
      exact fun a w h => ⟨true, H, h.weaken (has_le ⟨rfl, rfl, rfl, rfl, trivial⟩)⟩
    · replace H := bif_f H hb30
      refine seq_cons (lw_on rfl rfl rfl rfl rfl (by exact congrArg gb hb30) (la_mvs (.inl rfl) rfl rfl rfl)) ?_
      obtain ⟨y31, hy31, H⟩ := bnd H
      refine seq_cons (lw_on rfl rfl rfl rfl rfl (by exact congrArg gb hb30) (r_call0 [] rfl rfl rfl rfl (r35 kf a1 0 65536 _ hy31) rfl rfl rfl rfl rfl rfl (.inl rfl))) ?_
      refine seq_cons (lw_on rfl rfl rfl rfl rfl (by exact congrArg gb hb30) (la_not rfl rfl rfl rfl)) ?_
      refine seq_cons (lw_run rfl rfl (r_pick (b := false) rfl rfl rfl (by exact congrArg gb hb30) rfl)) ?_
      refine w_end ?_
      exact fun a w h => ⟨(!y31), H, h.weaken (has_le ⟨rfl, rfl, rfl, rfl, trivial⟩)⟩
  · rintro v4 H
    try dsimp only at H ⊢
    unfold F29_J0 at H
    refine w_cond rfl (fun hb5 => ?_) (fun hb5 => ?_)
    · replace H := bif_t H hb5
      refine w_seq' ?_
      refine w_reg ?_
      refine seq_cons (lw_run rfl rfl (r_nil true 52 (c52 true) (.inr rfl) rfl rfl)) ?_
      refine w_end ?_
      refine w_nx ?_
      cases H
      exact w_ret (fun a w h => fin_one h rfl (.tmp rfl rfl) trivial)
    · replace H := bif_f H hb5
      refine w_skip ?_
      refine w_nx ?_
      refine w_seq' ?_
      refine w_reg ?_
      refine seq_cons (lw_run rfl rfl (la_mvs (.inl rfl) rfl rfl rfl)) ?_
      refine seq_cons (lw_run rfl rfl (la_bld (offs := [(0, 1)]) (ks := [0]) (zcs := (c77 true ⟨0⟩)) (cs' := [.v (.int .i64 a1)]) (cs := (c77 true (⟨a1⟩ : S77))) rfl rfl rfl bt77 (z77 true) rfl rfl rfl rfl)) ?_
      refine seq_cons (lw_run rfl rfl (la_box rfl rfl rfl rfl)) ?_
      refine seq_cons (lw_run rfl rfl (la_eq (.inr rfl) rfl rfl rfl (.inl rfl) rfl)) ?_
      refine w_end ?_
      refine w_nx ?_
      refine w_seq' ?_
      refine w_reg ?_
      refine seq_cons (lw_run rfl rfl (r_nil true 52 (c52 true) (.inr rfl) rfl rfl)) ?_
      refine w_end ?_
      refine w_nx ?_
      refine w_seq' ?_
      refine w_seq' ?_
      refine w_reg ?_
      refine seq_cons (lw_run rfl rfl (r_mvr (.inl rfl) rfl rfl rfl rfl)) ?_
      refine seq_cons (lw_run rfl rfl (la_len rfl rfl rfl Try.underlying45 rfl)) ?_
      refine seq_cons (lw_run rfl rfl (la_mvs (.inl rfl) rfl rfl rfl)) ?_
      refine w_end ?_
      refine w_nx ?_
      refine w_block ?_
      obtain ⟨out0, HL, HC0⟩ := bnd H
      clear H
      refine w_weak (Γ' := (fun s : (List (List (List Int))) × Int × Int => mk [(4, .d (.one (.sl true 52 (([]).map (c52 true))))), (5, .eq 22), (22, .box 77 [.v (.int .i64 s.2.2)]), (23, .d (.one (.sl false 73 (a0.map (c73 false))))), (24, .d (iv (a0.length : Int))), (6, .d (.one (.sl true 52 (s.1.map (c52 true))))), (25, .d (iv s.2.1))]) ([], 0, (⟨a1⟩ : S77).f0)) (w_loop (σ := (List (List (List Int))) × Int × Int) (fun s => mk [(4, .d (.one (.sl true 52 (([]).map (c52 true))))), (5, .eq 22), (22, .box 77 [.v (.int .i64 s.2.2)]), (23, .d (.one (.sl false 73 (a0.map (c73 false))))), (24, .d (iv (a0.length : Int))), (6, .d (.one (.sl true 52 (s.1.map (c52 true))))), (25, .d (iv s.2.1))]) (fun k s => F29_L0 kf a0 a1 v4 k s.1 s.2.1 s.2.2 = some out0) kf ([], 0, (⟨a1⟩ : S77).f0) HL ?_) (has_le ⟨rfl, rfl, rfl, rfl, rfl, rfl, rfl, trivial⟩)
      clear HL
      rintro k0 ⟨v6, v7, v8⟩ H
      cases k0 with
      | zero => cases H
      | succ k0 =>
      try dsimp only at H ⊢
      refine w_seq' ?_
      refine w_reg ?_
      refine seq_cons (lw_run rfl rfl (la_bin rfl rfl rfl rfl rfl rfl)) ?_
      refine w_end ?_
      refine w_nx ?_
      refine w_seq' ?_
      refine w_cond rfl (fun hb9 => ?_) (fun hb9 => ?_)
      · replace H := bif_t H hb9
        refine w_skip ?_
        refine w_nx ?_
        refine w_seq' ?_
        refine w_block ?_
        refine w_seq' ?_
        refine w_reg ?_
        obtain ⟨z10, hz10, H⟩ := bnd H
        refine seq_cons (lw_run rfl rfl (r_ix rfl rfl rfl e45 rfl rfl hz10 rfl)) ?_
        refine seq_cons (lw_run rfl rfl (r_lds rfl rfl rfl rw73 rfl (ln73 _ _) rfl)) ?_
        refine seq_cons (lw_run rfl rfl (la_alloc rfl rfl rfl (cs := [.v (.string ByteArray.empty), .v (.int .i64 0)]) (z73 true))) ?_
        refine seq_cons (lw_run rfl rfl (la_stb rfl rfl rfl sz73 so73 rfl rfl rfl (nodupB_ok rfl))) ?_
        refine w_end ?_
        refine w_nx ?_
        refine w_seq' ?_
        refine w_reg ?_
        refine seq_cons (lw_run rfl rfl (r_nil true 22 (c22 true) (.inr rfl) rfl rfl)) ?_
        refine w_end ?_
        refine w_nx ?_
        refine w_seq' ?_
        refine w_seq' ?_
        refine w_reg ?_
        refine seq_cons (lw_run rfl rfl (la_eq (.inl rfl) rfl rfl rfl (.inr rfl) rfl)) ?_
        obtain ⟨y11, hy11, H⟩ := bnd H
        refine seq_cons (lw_run rfl rfl (r_call [22] [] rfl rfl rfl rfl (r48 kf v8 _ hy11) rfl rfl rfl rfl rfl rfl rfl rfl rfl (.inl rfl))) ?_
        obtain ⟨z12, hz12, H⟩ := bnd H
        refine seq_cons (lw_run rfl rfl (r_rem rfl rfl rfl rfl rfl hz12)) ?_
        refine seq_cons (lw_run rfl rfl (la_mvs (.inl rfl) rfl rfl rfl)) ?_
        refine w_end ?_
        refine w_nx ?_
        refine w_block ?_
        obtain ⟨out1, HL, HC1⟩ := bnd H
        clear H
        refine w_weak (Γ' := (fun s : (List (List Int)) × Int × Int => mk [(4, .d (.one (.sl true 52 (([]).map (c52 true))))), (5, .eq 22), (6, .d (.one (.sl true 52 (v6.map (c52 true))))), (8, .box 73 (c73 false z10)), (22, .box 77 [.v (.int .i64 s.2.2)]), (23, .d (.one (.sl false 73 (a0.map (c73 false))))), (24, .d (iv (a0.length : Int))), (25, .d (iv v7)), (26, .d (bv (decide (v7 < (a0.length : Int))))), (27, .sp none (c73 false z10)), (28, .d (.agg (c73 false z10))), (29, .eq 22), (30, .d (iv y11.1)), (31, .d (iv z12)), (9, .d (.one (.sl true 22 (s.1.map (c22 true))))), (32, .d (iv s.2.1))]) ([], 0, y11.2)) (w_loop (σ := (List (List Int)) × Int × Int) (fun s => mk [(4, .d (.one (.sl true 52 (([]).map (c52 true))))), (5, .eq 22), (6, .d (.one (.sl true 52 (v6.map (c52 true))))), (8, .box 73 (c73 false z10)), (22, .box 77 [.v (.int .i64 s.2.2)]), (23, .d (.one (.sl false 73 (a0.map (c73 false))))), (24, .d (iv (a0.length : Int))), (25, .d (iv v7)), (26, .d (bv (decide (v7 < (a0.length : Int))))), (27, .sp none (c73 false z10)), (28, .d (.agg (c73 false z10))), (29, .eq 22), (30, .d (iv y11.1)), (31, .d (iv z12)), (9, .d (.one (.sl true 22 (s.1.map (c22 true))))), (32, .d (iv s.2.1))]) (fun k s => F29_L1 kf a0 a1 v4 v6 v7 v8 z10 y11 z12 k s.1 s.2.1 s.2.2 = some out1) kf ([], 0, y11.2) HL ?_) (has_le ⟨rfl, rfl, rfl, rfl, rfl, rfl, rfl, rfl, rfl, rfl, rfl, rfl, rfl, rfl, rfl, rfl, trivial⟩)
        clear HL
        rintro k1 ⟨v13, v14, v15⟩ H
        cases k1 with
        | zero => cases H
        | succ k1 =>
        try dsimp only at H ⊢
        refine w_seq' ?_
        refine w_reg ?_
        refine seq_cons (lw_run rfl rfl (la_bin rfl rfl rfl rfl rfl rfl)) ?_
        refine w_end ?_
        refine w_nx ?_
        refine w_seq' ?_
        refine w_cond rfl (fun hb16 => ?_) (fun hb16 => ?_)
        · replace H := bif_t H hb16
          refine w_skip ?_
          refine w_nx ?_
          refine w_seq' ?_
          refine w_block ?_
          refine w_seq' ?_
          refine w_reg ?_
          refine seq_cons (lw_run rfl rfl (r_nil true 3 (c3 true) (.inr rfl) rfl rfl)) ?_
          refine w_end ?_
          refine w_nx ?_
          refine w_seq' ?_
          refine w_seq' ?_
          refine w_reg ?_
          refine seq_cons (lw_run rfl rfl (la_fbx rfl rfl rfl fd73_1 rfl rfl)) ?_
          refine seq_cons (lw_run rfl rfl (la_ldf rfl rfl rfl fl3 rfl rfl rfl)) ?_
          refine seq_cons (lw_run rfl rfl (la_mvs (.inl rfl) rfl rfl rfl)) ?_
          refine w_end ?_
          refine w_nx ?_
          refine w_block ?_
          obtain ⟨out2, HL, HC2⟩ := bnd H
          clear H
          refine w_weak (Γ' := (fun s : (List Int) × Int × Int => mk [(4, .d (.one (.sl true 52 (([]).map (c52 true))))), (5, .eq 22), (6, .d (.one (.sl true 52 (v6.map (c52 true))))), (8, .box 73 (c73 false z10)), (9, .d (.one (.sl true 22 (v13.map (c22 true))))), (22, .box 77 [.v (.int .i64 s.2.2)]), (23, .d (.one (.sl false 73 (a0.map (c73 false))))), (24, .d (iv (a0.length : Int))), (25, .d (iv v7)), (26, .d (bv (decide (v7 < (a0.length : Int))))), (27, .sp none (c73 false z10)), (28, .d (.agg (c73 false z10))), (29, .eq 22), (30, .d (iv y11.1)), (31, .d (iv z12)), (32, .d (iv v14)), (33, .d (bv (decide (v14 < z12)))), (34, .fld 8 1), (35, .d (iv z10.f1)), (10, .d (.one (.sl true 3 (s.1.map (c3 true))))), (36, .d (iv s.2.1))]) ([], 0, v15)) (w_loop (σ := (List Int) × Int × Int) (fun s => mk [(4, .d (.one (.sl true 52 (([]).map (c52 true))))), (5, .eq 22), (6, .d (.one (.sl true 52 (v6.map (c52 true))))), (8, .box 73 (c73 false z10)), (9, .d (.one (.sl true 22 (v13.map (c22 true))))), (22, .box 77 [.v (.int .i64 s.2.2)]), (23, .d (.one (.sl false 73 (a0.map (c73 false))))), (24, .d (iv (a0.length : Int))), (25, .d (iv v7)), (26, .d (bv (decide (v7 < (a0.length : Int))))), (27, .sp none (c73 false z10)), (28, .d (.agg (c73 false z10))), (29, .eq 22), (30, .d (iv y11.1)), (31, .d (iv z12)), (32, .d (iv v14)), (33, .d (bv (decide (v14 < z12)))), (34, .fld 8 1), (35, .d (iv z10.f1)), (10, .d (.one (.sl true 3 (s.1.map (c3 true))))), (36, .d (iv s.2.1))]) (fun k s => F29_L2 kf a0 a1 v4 v6 v7 v8 z10 y11 z12 v13 v14 v15 k s.1 s.2.1 s.2.2 = some out2) kf ([], 0, v15) HL ?_) (has_le ⟨rfl, rfl, rfl, rfl, rfl, rfl, rfl, rfl, rfl, rfl, rfl, rfl, rfl, rfl, rfl, rfl, rfl, rfl, rfl, rfl, rfl, trivial⟩)
          clear HL
          rintro k2 ⟨v17, v18, v19⟩ H
          cases k2 with
          | zero => cases H
          | succ k2 =>
          try dsimp only at H ⊢
          refine w_seq' ?_
          refine w_reg ?_
          refine seq_cons (lw_run rfl rfl (la_bin rfl rfl rfl rfl rfl rfl)) ?_
          refine w_end ?_
          refine w_nx ?_
          refine w_seq' ?_
          refine w_cond rfl (fun hb20 => ?_) (fun hb20 => ?_)
          · replace H := bif_t H hb20
            refine w_skip ?_
            refine w_nx ?_
            refine w_seq' ?_
            refine w_block ?_
            refine w_seq' ?_
            refine w_reg ?_
            refine seq_cons (lw_run rfl rfl (la_eq (.inl rfl) rfl rfl rfl (.inr rfl) rfl)) ?_
            obtain ⟨y21, hy21, H⟩ := bnd H
            refine seq_cons (lw_run rfl rfl (r_call [22] [] rfl rfl rfl rfl (r48 kf v19 _ hy21) rfl rfl rfl rfl rfl rfl rfl rfl rfl (.inl rfl))) ?_
            obtain ⟨z22, hz22, H⟩ := bnd H
            refine seq_cons (lw_run rfl rfl (r_rem rfl rfl rfl rfl rfl hz22)) ?_
            refine seq_cons (lw_run rfl rfl (la_mvs (.inr rfl) rfl rfl rfl)) ?_
            refine w_end ?_
            refine w_nx ?_
            refine w_join (σ := Int) (fun s => mk [(4, .d (.one (.sl true 52 (([]).map (c52 true))))), (5, .eq 22), (6, .d (.one (.sl true 52 (v6.map (c52 true))))), (8, .box 73 (c73 false z10)), (9, .d (.one (.sl true 22 (v13.map (c22 true))))), (10, .d (.one (.sl true 3 (v17.map (c3 true))))), (11, .d (iv s)), (22, .box 77 [.v (.int .i64 y21.2)]), (23, .d (.one (.sl false 73 (a0.map (c73 false))))), (24, .d (iv (a0.length : Int))), (25, .d (iv v7)), (26, .d (bv (decide (v7 < (a0.length : Int))))), (27, .sp none (c73 false z10)), (28, .d (.agg (c73 false z10))), (29, .eq 22), (30, .d (iv y11.1)), (31, .d (iv z12)), (32, .d (iv v14)), (33, .d (bv (decide (v14 < z12)))), (34, .fld 8 1), (35, .d (iv z10.f1)), (36, .d (iv v18)), (37, .d (bv (decide (v18 < z10.f1)))), (38, .eq 22), (39, .d (iv y21.1)), (40, .d (iv z22)), (41, .d (iv z22)), (42, .d (bv (z22 == 5)))]) (fun s => F29_J1 kf a0 a1 v4 v6 v7 v8 z10 y11 z12 v13 v14 v15 v17 v18 v19 y21 z22 (F29_L2 kf a0 a1 v4 v6 v7 v8 z10 y11 z12 v13 v14 v15 k2) s = some out2) ?_ ?_
            · refine w_seq' ?_
              refine w_reg ?_
              refine seq_cons (lw_run rfl rfl (la_mvs (.inl rfl) rfl rfl rfl)) ?_
              refine seq_cons (lw_run rfl rfl (la_bin rfl rfl rfl rfl rfl rfl)) ?_
              refine w_end ?_
              refine w_nx ?_
              refine w_cond rfl (fun hb26 => ?_) (fun hb26 => ?_)
              · replace H := bif_t H hb26
                refine w_reg ?_
                refine seq_cons (lw_run rfl rfl (la_mvs (.inr rfl) rfl rfl rfl)) ?_
                refine w_end ?_
                exact fun a w h => ⟨(-2000000), H, h.weaken (has_le ⟨rfl, rfl, rfl, rfl, rfl, rfl, rfl, rfl, rfl, rfl, rfl, rfl, rfl, rfl, rfl, rfl, rfl, rfl, rfl, rfl, rfl, rfl, rfl, rfl, rfl, rfl, rfl, rfl, trivial⟩)⟩
              · replace H := bif_f H hb26
                refine w_skip ?_
                exact fun a w h => ⟨z22, H, h.weaken (has_le ⟨rfl, rfl, rfl, rfl, rfl, rfl, rfl, rfl, rfl, rfl, rfl, rfl, rfl, rfl, rfl, rfl, rfl, rfl, rfl, rfl, rfl, rfl, rfl, rfl, rfl, rfl, rfl, rfl, trivial⟩)⟩
            · rintro v24 H
              try dsimp only at H ⊢
              unfold F29_J1 at H
              refine w_reg ?_
              refine seq_cons (lw_run rfl rfl (la_mvo (.inl rfl) rfl rfl rfl rfl rfl)) ?_
              refine seq_cons (lw_run rfl rfl (la_mvs (.inl rfl) rfl rfl rfl)) ?_
              refine seq_cons (lw_run rfl rfl (r_bsl (f := c3 true) (xs := ([v24] : (List Int))) rfl rfl rfl e22 rfl rfl rfl rfl rfl sz3 rfl rfl)) ?_
              obtain ⟨z25, hz25, H⟩ := bnd H
              refine seq_cons (lw_run rfl rfl (r_app rfl rfl rfl e22 rfl rfl hz25 rfl)) ?_
              refine seq_cons (lw_run rfl rfl (la_mvo (.inr rfl) rfl rfl rfl rfl rfl)) ?_
              refine w_end ?_
              refine q_nb ?_
              refine w_nx ?_
              refine w_reg ?_
              refine seq_cons (lw_run rfl rfl (la_bin rfl rfl rfl rfl rfl rfl)) ?_
              refine seq_cons (lw_run rfl rfl (la_mvs (.inl rfl) rfl rfl rfl)) ?_
              refine w_end ?_
              refine q_nt ?_
              exact fun a w h => ⟨k2, (z25, (IntKind.i64.wrap (v18 + 1)), y21.2), Nat.lt_succ_self k2, H, h.weaken (has_le ⟨rfl, rfl, rfl, rfl, rfl, rfl, rfl, rfl, rfl, rfl, rfl, rfl, rfl, rfl, rfl, rfl, rfl, rfl, rfl, rfl, rfl, trivial⟩)⟩
          · replace H := bif_f H hb20
            refine w_exit ?_
            refine q_et ?_
            refine q_et ?_
            refine q_in ?_
            cases H
            have H := HC2
            clear HC2
            try dsimp only at H
            refine w_nx ?_
            refine w_reg ?_
            refine seq_cons (lw_run rfl rfl (la_mvo (.inl rfl) rfl rfl rfl rfl rfl)) ?_
            refine seq_cons (lw_run rfl rfl (la_mvo (.inl rfl) rfl rfl rfl rfl rfl)) ?_
            refine seq_cons (lw_run rfl rfl (r_bsl (f := c22 true) (xs := ([v17] : (List (List Int)))) rfl rfl rfl e52 rfl rfl rfl rfl rfl sz22 rfl rfl)) ?_
            obtain ⟨z27, hz27, H⟩ := bnd H
            refine seq_cons (lw_run rfl rfl (r_app rfl rfl rfl e52 rfl rfl hz27 rfl)) ?_
            refine seq_cons (lw_run rfl rfl (la_mvo (.inr rfl) rfl rfl rfl rfl rfl)) ?_
            refine w_end ?_
            refine q_nb ?_
            refine w_nx ?_
            refine w_reg ?_
            refine seq_cons (lw_run rfl rfl (la_bin rfl rfl rfl rfl rfl rfl)) ?_
            refine seq_cons (lw_run rfl rfl (la_mvs (.inl rfl) rfl rfl rfl)) ?_
            refine w_end ?_
            refine q_nt ?_
            exact fun a w h => ⟨k1, (z27, (IntKind.i64.wrap (v14 + 1)), v19), Nat.lt_succ_self k1, H, h.weaken (has_le ⟨rfl, rfl, rfl, rfl, rfl, rfl, rfl, rfl, rfl, rfl, rfl, rfl, rfl, rfl, rfl, rfl, trivial⟩)⟩
        · replace H := bif_f H hb16
          refine w_exit ?_
          refine q_et ?_
          refine q_et ?_
          refine q_in ?_
          cases H
          have H := HC1
          clear HC1
          try dsimp only at H
          refine w_nx ?_
          refine w_reg ?_
          refine seq_cons (lw_run rfl rfl (la_mvo (.inl rfl) rfl rfl rfl rfl rfl)) ?_
          refine seq_cons (lw_run rfl rfl (la_mvo (.inl rfl) rfl rfl rfl rfl rfl)) ?_
          refine seq_cons (lw_run rfl rfl (r_bsl (f := c52 true) (xs := ([v13] : (List (List (List Int))))) rfl rfl rfl e29 rfl rfl rfl rfl rfl sz52 rfl rfl)) ?_
          obtain ⟨z28, hz28, H⟩ := bnd H
          refine seq_cons (lw_run rfl rfl (r_app rfl rfl rfl e29 rfl rfl hz28 rfl)) ?_
          refine seq_cons (lw_run rfl rfl (la_mvo (.inr rfl) rfl rfl rfl rfl rfl)) ?_
          refine w_end ?_
          refine q_nb ?_
          refine w_nx ?_
          refine w_reg ?_
          refine seq_cons (lw_run rfl rfl (la_bin rfl rfl rfl rfl rfl rfl)) ?_
          refine seq_cons (lw_run rfl rfl (la_mvs (.inl rfl) rfl rfl rfl)) ?_
          refine w_end ?_
          refine q_nt ?_
          exact fun a w h => ⟨k0, (z28, (IntKind.i64.wrap (v7 + 1)), v15), Nat.lt_succ_self k0, H, h.weaken (has_le ⟨rfl, rfl, rfl, rfl, rfl, rfl, rfl, trivial⟩)⟩
      · replace H := bif_f H hb9
        refine w_exit ?_
        refine q_et ?_
        refine q_et ?_
        refine q_in ?_
        cases H
        have H := HC0
        clear HC0
        try dsimp only at H
        refine w_nx ?_
        refine w_seq' ?_
        refine w_reg ?_
        refine seq_cons (lw_run rfl rfl (la_mvo (.inl rfl) rfl rfl rfl rfl rfl)) ?_
        refine seq_cons (lw_run rfl rfl (la_mvo (.inr rfl) rfl rfl rfl rfl rfl)) ?_
        refine w_end ?_
        refine w_nx ?_
        cases H
        exact w_ret (fun a w h => fin_one h rfl (.tmp rfl rfl) trivial)
/- loop.example/g00844/laws.eqIntS -/
def F11_L0 (kf : Nat) (a0 : (List Int)) (a1 : (List Int)) : Nat → Int → Option (Ex Bool Int)
  | 0, _ => none
  | k + 1, v2 =>
  (bif (decide (v2 < (a0.length : Int))) then
  (ix a0 v2).bind (fun z4 => (ix a1 v2).bind (fun z5 => (bif (z4 != z5) then
  some (.ret false)
  else (F11_L0 kf a0 a1 k) (IntKind.i64.wrap (v2 + 1)))))
  else some (.go v2))
def F11 (kf : Nat) (a0 : (List Int)) (a1 : (List Int)) : Option Bool :=
  (bif ((a0.length : Int) != (a1.length : Int)) then
  some false
  else (F11_L0 kf a0 a1 kf 0).bind (fun o => match o with
  | .ret r => some r
  | .go v2 => some true))
theorem r11 (kf : Nat) (a0 : (List Int)) (a1 : (List Int)) (R : Bool) (H : F11 kf a0 a1 = some R) : Ret Try.prog 11 26 [.d (.one (.sl false 3 (a0.map (c3 false)))), .d (.one (.sl false 3 (a1.map (c3 false))))] [] (.d (bv R)) [] := by
  refine ret_of Try.func11 rfl rfl (by kernel_rfl) rfl ?_
  intro fr a' w' hn
  obtain ⟨w0, M, Z0, n, γ⟩ := fr
  simp only at hn
  subst hn
  revert a' w'
  show W _ _ _ _ _
  refine w_seq' ?_
  refine w_reg ?_
  refine seq_cons (lw_run rfl rfl (la_mvs (.inr rfl) rfl rfl rfl)) ?_
  refine w_end ?_
  refine w_nx ?_
  refine w_seq' ?_
  refine w_seq' ?_
  refine w_reg ?_
  refine seq_cons (lw_run rfl rfl (r_mvr (.inl rfl) rfl rfl rfl rfl)) ?_
  refine seq_cons (lw_run rfl rfl (la_len rfl rfl rfl Try.underlying22 rfl)) ?_
  refine seq_cons (lw_run rfl rfl (r_mvr (.inl rfl) rfl rfl rfl rfl)) ?_
  refine seq_cons (lw_run rfl rfl (la_len rfl rfl rfl Try.underlying22 rfl)) ?_
  refine seq_cons (lw_run rfl rfl (la_bin rfl rfl rfl rfl rfl rfl)) ?_
  refine w_end ?_
  refine w_nx ?_
  refine w_cond rfl (fun hb1 => ?_) (fun hb1 => ?_)
  · replace H := bif_t H hb1
    refine w_seq' ?_
    refine w_reg ?_
    refine seq_cons (lw_run rfl rfl (la_mvs (.inr rfl) rfl rfl rfl)) ?_
    refine w_end ?_
    refine w_nx ?_
    cases H
    exact w_ret (fun a w h => fin_one h rfl (.tmp rfl rfl) trivial)
  · replace H := bif_f H hb1
    refine w_skip ?_
    refine w_nx ?_
    refine w_seq' ?_
    refine w_seq' ?_
    refine w_reg ?_
    refine seq_cons (lw_run rfl rfl (la_mvs (.inr rfl) rfl rfl rfl)) ?_
    refine w_end ?_
    refine w_nx ?_
    refine w_block ?_
    obtain ⟨out0, HL, HC0⟩ := bnd H
    clear H
    refine w_weak (Γ' := (fun s : Int => mk [(0, .d (.one (.sl false 3 (a0.map (c3 false))))), (1, .d (.one (.sl false 3 (a1.map (c3 false))))), (5, .d (iv s))]) 0) (w_loop (σ := Int) (fun s => mk [(0, .d (.one (.sl false 3 (a0.map (c3 false))))), (1, .d (.one (.sl false 3 (a1.map (c3 false))))), (5, .d (iv s))]) (fun k s => F11_L0 kf a0 a1 k s = some out0) kf 0 HL ?_) (has_le ⟨rfl, rfl, rfl, trivial⟩)
    clear HL
    rintro k0 v2 H
    cases k0 with
    | zero => cases H
    | succ k0 =>
    try dsimp only at H ⊢
    refine w_seq' ?_
    refine w_seq' ?_
    refine w_reg ?_
    refine seq_cons (lw_run rfl rfl (la_mvs (.inl rfl) rfl rfl rfl)) ?_
    refine seq_cons (lw_run rfl rfl (r_mvr (.inl rfl) rfl rfl rfl rfl)) ?_
    refine seq_cons (lw_run rfl rfl (la_len rfl rfl rfl Try.underlying22 rfl)) ?_
    refine seq_cons (lw_run rfl rfl (la_bin rfl rfl rfl rfl rfl rfl)) ?_
    refine w_end ?_
    refine w_nx ?_
    refine w_cond rfl (fun hb3 => ?_) (fun hb3 => ?_)
    · replace H := bif_t H hb3
      refine w_skip ?_
      refine w_nx ?_
      refine w_seq' ?_
      refine w_block ?_
      refine w_seq' ?_
      obtain ⟨z4, hz4, H⟩ := bnd H
      obtain ⟨z5, hz5, H⟩ := bnd H
      refine w_drawnq (⟨[(0, .d (.one (.sl false 3 (a0.map (c3 false)))), none)], _, []⟩ :: ⟨[(5, .d (iv v2), none)], _, []⟩ :: ⟨[(17, .d (.one (.sl false 3 (a0.map (c3 false)))), some 0), (18, .d (iv v2), some 1)], _, [0, 1]⟩ :: ⟨[(19, .sp none (c3 false z4), some 2)], _, [0, 1, 2]⟩ :: ⟨[(1, .d (.one (.sl false 3 (a1.map (c3 false)))), none)], _, []⟩ :: ⟨[(5, .d (iv v2), none)], _, []⟩ :: ⟨[(21, .d (.one (.sl false 3 (a1.map (c3 false)))), some 4), (22, .d (iv v2), some 5)], _, [4, 5]⟩ :: ⟨[(23, .sp none (c3 false z5), some 6)], _, [4, 5, 6]⟩ :: ⟨[(20, .d (iv z4), some 3), (24, .d (iv z5), some 7)], _, [0, 1, 2, 3, 4, 5, 6, 7]⟩ :: []) [(0, .d (.one (.sl false 3 (a0.map (c3 false)))), none), (1, .d (.one (.sl false 3 (a1.map (c3 false)))), none), (5, .d (iv v2), none), (11, .d (iv v2), none), (12, .d (.one (.sl false 3 (a0.map (c3 false)))), none), (13, .d (iv (a0.length : Int)), none), (14, .d (bv (decide (v2 < (a0.length : Int)))), none), (17, .d (.one (.sl false 3 (a0.map (c3 false)))), some 0), (18, .d (iv v2), some 1), (20, .d (iv z4), some 3), (21, .d (.one (.sl false 3 (a1.map (c3 false)))), some 4), (22, .d (iv v2), some 5), (24, .d (iv z5), some 7), (25, .d (bv (z4 != z5)), some 8)] mixed ⟨lw_run rfl rfl (r_mvr (.inl rfl) rfl rfl rfl rfl), lw_run rfl rfl (la_mvs (.inl rfl) rfl rfl rfl), lw_run rfl rfl (r_ix rfl rfl rfl e22 rfl rfl hz4 rfl), lw_run rfl rfl (r_ld rfl rfl rfl fl3 rfl rfl), lw_run rfl rfl (r_mvr (.inl rfl) rfl rfl rfl rfl), lw_run rfl rfl (la_mvs (.inl rfl) rfl rfl rfl), lw_run rfl rfl (r_ix rfl rfl rfl e22 rfl rfl hz5 rfl), lw_run rfl rfl (r_ld rfl rfl rfl fl3 rfl rfl), lw_run rfl rfl (la_bin rfl rfl rfl rfl rfl rfl), trivial⟩ ⟨⟨rfl, trivial⟩, ⟨rfl, trivial⟩, ⟨rfl, rfl, trivial⟩, ⟨rfl, trivial⟩, ⟨rfl, trivial⟩, ⟨rfl, trivial⟩, ⟨rfl, rfl, trivial⟩, ⟨rfl, trivial⟩, ⟨rfl, rfl, trivial⟩, trivial⟩ ⟨rfl, rfl, rfl, rfl, rfl, rfl, rfl, rfl, rfl, rfl, rfl, rfl, rfl, rfl, trivial⟩ (by kernel_rfl) ?_
      refine w_nx ?_
      refine w_cond rfl (fun hb6 => ?_) (fun hb6 => ?_)
      · replace H := bif_t H hb6
        refine w_seq' ?_
        refine w_reg ?_
        refine seq_cons (lw_run rfl rfl (la_mvs (.inr rfl) rfl rfl rfl)) ?_
        refine w_end ?_
        refine w_nx ?_
        cases H
        try dsimp only at HC0
        cases HC0
        exact w_ret (fun a w h => fin_one h rfl (.tmp rfl rfl) trivial)
      · replace H := bif_f H hb6
        refine w_skip ?_
        refine q_nb ?_
        refine w_nx ?_
        refine w_reg ?_
        refine seq_cons (lw_run rfl rfl (la_mvs (.inl rfl) rfl rfl rfl)) ?_
        refine seq_cons (lw_run rfl rfl (la_bin rfl rfl rfl rfl rfl rfl)) ?_
        refine seq_cons (lw_run rfl rfl (la_mvs (.inr rfl) rfl rfl rfl)) ?_
        refine w_end ?_
        refine q_nt ?_
        exact fun a w h => ⟨k0, (IntKind.i64.wrap (v2 + 1)), Nat.lt_succ_self k0, H, h.weaken (has_le ⟨rfl, rfl, rfl, trivial⟩)⟩
    · replace H := bif_f H hb3
      refine w_exit ?_
      refine q_et ?_
      refine q_et ?_
      refine q_in ?_
      cases H
      have H := HC0
      clear HC0
      try dsimp only at H
      refine w_nx ?_
      refine w_seq' ?_
      refine w_reg ?_
      refine seq_cons (lw_run rfl rfl (la_mvs (.inr rfl) rfl rfl rfl)) ?_
      refine w_end ?_
      refine w_nx ?_
      cases H
      exact w_ret (fun a w h => fin_one h rfl (.tmp rfl rfl) trivial)
/- loop.example/g00844/laws.eqIntSS -/
def F38_L0 (kf : Nat) (a0 : (List (List Int))) (a1 : (List (List Int))) : Nat → Int → Option (Ex Bool Int)
  | 0, _ => none
  | k + 1, v2 =>
  (bif (decide (v2 < (a0.length : Int))) then
  (ix a0 v2).bind (fun z4 => (ix a1 v2).bind (fun z5 => (F11 kf z4 z5).bind (fun y6 => (bif (!y6) then
  some (.ret false)
  else (F38_L0 kf a0 a1 k) (IntKind.i64.wrap (v2 + 1))))))
  else some (.go v2))
def F38 (kf : Nat) (a0 : (List (List Int))) (a1 : (List (List Int))) : Option Bool :=
  (bif ((a0.length : Int) != (a1.length : Int)) then
  some false
  else (F38_L0 kf a0 a1 kf 0).bind (fun o => match o with
  | .ret r => some r
  | .go v2 => some true))
theorem r38 (kf : Nat) (a0 : (List (List Int))) (a1 : (List (List Int))) (R : Bool) (H : F38 kf a0 a1 = some R) : Ret Try.prog 38 27 [.d (.one (.sl false 22 (a0.map (c22 false)))), .d (.one (.sl false 22 (a1.map (c22 false))))] [] (.d (bv R)) [] := by
  refine ret_of Try.func38 rfl rfl (by kernel_rfl) rfl ?_
  intro fr a' w' hn
  obtain ⟨w0, M, Z0, n, γ⟩ := fr
  simp only at hn
  subst hn
  revert a' w'
  show W _ _ _ _ _
  refine w_seq' ?_
  refine w_reg ?_
  refine seq_cons (lw_run rfl rfl (la_mvs (.inr rfl) rfl rfl rfl)) ?_
  refine w_end ?_
  refine w_nx ?_
  refine w_seq' ?_
  refine w_seq' ?_
  refine w_reg ?_
  refine seq_cons (lw_run rfl rfl (r_mvr (.inl rfl) rfl rfl rfl rfl)) ?_
  refine seq_cons (lw_run rfl rfl (la_len rfl rfl rfl Try.underlying52 rfl)) ?_
  refine seq_cons (lw_run rfl rfl (r_mvr (.inl rfl) rfl rfl rfl rfl)) ?_
  refine seq_cons (lw_run rfl rfl (la_len rfl rfl rfl Try.underlying52 rfl)) ?_
  refine seq_cons (lw_run rfl rfl (la_bin rfl rfl rfl rfl rfl rfl)) ?_
  refine w_end ?_
  refine w_nx ?_
  refine w_cond rfl (fun hb1 => ?_) (fun hb1 => ?_)
  · replace H := bif_t H hb1
    refine w_seq' ?_
    refine w_reg ?_
    refine seq_cons (lw_run rfl rfl (la_mvs (.inr rfl) rfl rfl rfl)) ?_
    refine w_end ?_
    refine w_nx ?_
    cases H
    exact w_ret (fun a w h => fin_one h rfl (.tmp rfl rfl) trivial)
  · replace H := bif_f H hb1
    refine w_skip ?_
    refine w_nx ?_
    refine w_seq' ?_
    refine w_seq' ?_
    refine w_reg ?_
    refine seq_cons (lw_run rfl rfl (la_mvs (.inr rfl) rfl rfl rfl)) ?_
    refine w_end ?_
    refine w_nx ?_
    refine w_block ?_
    obtain ⟨out0, HL, HC0⟩ := bnd H
    clear H
    refine w_weak (Γ' := (fun s : Int => mk [(0, .d (.one (.sl false 22 (a0.map (c22 false))))), (1, .d (.one (.sl false 22 (a1.map (c22 false))))), (5, .d (iv s))]) 0) (w_loop (σ := Int) (fun s => mk [(0, .d (.one (.sl false 22 (a0.map (c22 false))))), (1, .d (.one (.sl false 22 (a1.map (c22 false))))), (5, .d (iv s))]) (fun k s => F38_L0 kf a0 a1 k s = some out0) kf 0 HL ?_) (has_le ⟨rfl, rfl, rfl, trivial⟩)
    clear HL
    rintro k0 v2 H
    cases k0 with
    | zero => cases H
    | succ k0 =>
    try dsimp only at H ⊢
    refine w_seq' ?_
    refine w_seq' ?_
    refine w_reg ?_
    refine seq_cons (lw_run rfl rfl (la_mvs (.inl rfl) rfl rfl rfl)) ?_
    refine seq_cons (lw_run rfl rfl (r_mvr (.inl rfl) rfl rfl rfl rfl)) ?_
    refine seq_cons (lw_run rfl rfl (la_len rfl rfl rfl Try.underlying52 rfl)) ?_
    refine seq_cons (lw_run rfl rfl (la_bin rfl rfl rfl rfl rfl rfl)) ?_
    refine w_end ?_
    refine w_nx ?_
    refine w_cond rfl (fun hb3 => ?_) (fun hb3 => ?_)
    · replace H := bif_t H hb3
      refine w_skip ?_
      refine w_nx ?_
      refine w_seq' ?_
      refine w_block ?_
      refine w_seq' ?_
      obtain ⟨z4, hz4, H⟩ := bnd H
      obtain ⟨z5, hz5, H⟩ := bnd H
      obtain ⟨y6, hy6, H⟩ := bnd H
      refine w_drawnq (⟨[(0, .d (.one (.sl false 22 (a0.map (c22 false)))), none)], _, []⟩ :: ⟨[(5, .d (iv v2), none)], _, []⟩ :: ⟨[(17, .d (.one (.sl false 22 (a0.map (c22 false)))), some 0), (18, .d (iv v2), some 1)], _, [0, 1]⟩ :: ⟨[(19, .sp none (c22 false z4), some 2)], _, [0, 1, 2]⟩ :: ⟨[(1, .d (.one (.sl false 22 (a1.map (c22 false)))), none)], _, []⟩ :: ⟨[(5, .d (iv v2), none)], _, []⟩ :: ⟨[(21, .d (.one (.sl false 22 (a1.map (c22 false)))), some 4), (22, .d (iv v2), some 5)], _, [4, 5]⟩ :: ⟨[(23, .sp none (c22 false z5), some 6)], _, [4, 5, 6]⟩ :: ⟨[(20, .d (.one (.sl false 3 (z4.map (c3 false)))), some 3), (24, .d (.one (.sl false 3 (z5.map (c3 false)))), some 7)], _, [0, 1, 2, 3, 4, 5, 6, 7]⟩ :: ⟨[(25, .d (bv y6), some 8)], _, [0, 1, 2, 3, 4, 5, 6, 7, 8]⟩ :: []) [(0, .d (.one (.sl false 22 (a0.map (c22 false)))), none), (1, .d (.one (.sl false 22 (a1.map (c22 false)))), none), (5, .d (iv v2), none), (11, .d (iv v2), none), (12, .d (.one (.sl false 22 (a0.map (c22 false)))), none), (13, .d (iv (a0.length : Int)), none), (14, .d (bv (decide (v2 < (a0.length : Int)))), none), (17, .d (.one (.sl false 22 (a0.map (c22 false)))), some 0), (18, .d (iv v2), some 1), (20, .d (.one (.sl false 3 (z4.map (c3 false)))), some 3), (21, .d (.one (.sl false 22 (a1.map (c22 false)))), some 4), (22, .d (iv v2), some 5), (24, .d (.one (.sl false 3 (z5.map (c3 false)))), some 7), (25, .d (bv y6), some 8), (26, .d (bv (!y6)), some 9)] mixed ⟨lw_run rfl rfl (r_mvr (.inl rfl) rfl rfl rfl rfl), lw_run rfl rfl (la_mvs (.inl rfl) rfl rfl rfl), lw_run rfl rfl (r_ix rfl rfl rfl e52 rfl rfl hz4 rfl), lw_run rfl rfl (r_ld rfl rfl rfl fl22 rfl rfl), lw_run rfl rfl (r_mvr (.inl rfl) rfl rfl rfl rfl), lw_run rfl rfl (la_mvs (.inl rfl) rfl rfl rfl), lw_run rfl rfl (r_ix rfl rfl rfl e52 rfl rfl hz5 rfl), lw_run rfl rfl (r_ld rfl rfl rfl fl22 rfl rfl), lw_run rfl rfl (r_call0 [] rfl rfl rfl rfl (r11 kf z4 z5 _ hy6) rfl rfl rfl rfl rfl rfl (.inl rfl)), lw_run rfl rfl (la_not rfl rfl rfl rfl), trivial⟩ ⟨⟨rfl, trivial⟩, ⟨rfl, trivial⟩, ⟨rfl, rfl, trivial⟩, ⟨rfl, trivial⟩, ⟨rfl, trivial⟩, ⟨rfl, trivial⟩, ⟨rfl, rfl, trivial⟩, ⟨rfl, trivial⟩, ⟨rfl, rfl, trivial⟩, ⟨rfl, trivial⟩, trivial⟩ ⟨rfl, rfl, rfl, rfl, rfl, rfl, rfl, rfl, rfl, rfl, rfl, rfl, rfl, rfl, rfl, trivial⟩ (by kernel_rfl) ?_
      refine w_nx ?_
      refine w_cond rfl (fun hb7 => ?_) (fun hb7 => ?_)
      · replace H := bif_t H hb7
        refine w_seq' ?_
        refine w_reg ?_
        refine seq_cons (lw_run rfl rfl (la_mvs (.inr rfl) rfl rfl rfl)) ?_
        refine w_end ?_
        refine w_nx ?_
        cases H
        try dsimp only at HC0
        cases HC0
        exact w_ret (fun a w h => fin_one h rfl (.tmp rfl rfl) trivial)
      · replace H := bif_f H hb7
        refine w_skip ?_
        refine q_nb ?_
        refine w_nx ?_
        refine w_reg ?_
        refine seq_cons (lw_run rfl rfl (la_mvs (.inl rfl) rfl rfl rfl)) ?_
        refine seq_cons (lw_run rfl rfl (la_bin rfl rfl rfl rfl rfl rfl)) ?_
        refine seq_cons (lw_run rfl rfl (la_mvs (.inr rfl) rfl rfl rfl)) ?_
        refine w_end ?_
        refine q_nt ?_
        exact fun a w h => ⟨k0, (IntKind.i64.wrap (v2 + 1)), Nat.lt_succ_self k0, H, h.weaken (has_le ⟨rfl, rfl, rfl, trivial⟩)⟩
    · replace H := bif_f H hb3
      refine w_exit ?_
      refine q_et ?_
      refine q_et ?_
      refine q_in ?_
      cases H
      have H := HC0
      clear HC0
      try dsimp only at H
      refine w_nx ?_
      refine w_seq' ?_
      refine w_reg ?_
      refine seq_cons (lw_run rfl rfl (la_mvs (.inr rfl) rfl rfl rfl)) ?_
      refine w_end ?_
      refine w_nx ?_
      cases H
      exact w_ret (fun a w h => fin_one h rfl (.tmp rfl rfl) trivial)
/- loop.example/g00844/laws.eqIntSSS -/
def F20_L0 (kf : Nat) (a0 : (List (List (List Int)))) (a1 : (List (List (List Int)))) : Nat → Int → Option (Ex Bool Int)
  | 0, _ => none
  | k + 1, v2 =>
  (bif (decide (v2 < (a0.length : Int))) then
  (ix a0 v2).bind (fun z4 => (ix a1 v2).bind (fun z5 => (F38 kf z4 z5).bind (fun y6 => (bif (!y6) then
  some (.ret false)
  else (F20_L0 kf a0 a1 k) (IntKind.i64.wrap (v2 + 1))))))
  else some (.go v2))
def F20 (kf : Nat) (a0 : (List (List (List Int)))) (a1 : (List (List (List Int)))) : Option Bool :=
  (bif ((a0.length : Int) != (a1.length : Int)) then
  some false
  else (F20_L0 kf a0 a1 kf 0).bind (fun o => match o with
  | .ret r => some r
  | .go v2 => some true))
theorem r20 (kf : Nat) (a0 : (List (List (List Int)))) (a1 : (List (List (List Int)))) (R : Bool) (H : F20 kf a0 a1 = some R) : Ret Try.prog 20 27 [.d (.one (.sl false 52 (a0.map (c52 false)))), .d (.one (.sl false 52 (a1.map (c52 false))))] [] (.d (bv R)) [] := by
  refine ret_of Try.func20 rfl rfl (by kernel_rfl) rfl ?_
  intro fr a' w' hn
  obtain ⟨w0, M, Z0, n, γ⟩ := fr
  simp only at hn
  subst hn
  revert a' w'
  show W _ _ _ _ _
  refine w_seq' ?_
  refine w_reg ?_
  refine seq_cons (lw_run rfl rfl (la_mvs (.inr rfl) rfl rfl rfl)) ?_
  refine w_end ?_
  refine w_nx ?_
  refine w_seq' ?_
  refine w_seq' ?_
  refine w_reg ?_
  refine seq_cons (lw_run rfl rfl (r_mvr (.inl rfl) rfl rfl rfl rfl)) ?_
  refine seq_cons (lw_run rfl rfl (la_len rfl rfl rfl Try.underlying29 rfl)) ?_
  refine seq_cons (lw_run rfl rfl (r_mvr (.inl rfl) rfl rfl rfl rfl)) ?_
  refine seq_cons (lw_run rfl rfl (la_len rfl rfl rfl Try.underlying29 rfl)) ?_
  refine seq_cons (lw_run rfl rfl (la_bin rfl rfl rfl rfl rfl rfl)) ?_
  refine w_end ?_
  refine w_nx ?_
  refine w_cond rfl (fun hb1 => ?_) (fun hb1 => ?_)
  · replace H := bif_t H hb1
    refine w_seq' ?_
    refine w_reg ?_
    refine seq_cons (lw_run rfl rfl (la_mvs (.inr rfl) rfl rfl rfl)) ?_
    refine w_end ?_
    refine w_nx ?_
    cases H
    exact w_ret (fun a w h => fin_one h rfl (.tmp rfl rfl) trivial)
  · replace H := bif_f H hb1
    refine w_skip ?_
    refine w_nx ?_
    refine w_seq' ?_
    refine w_seq' ?_
    refine w_reg ?_
    refine seq_cons (lw_run rfl rfl (la_mvs (.inr rfl) rfl rfl rfl)) ?_
    refine w_end ?_
    refine w_nx ?_
    refine w_block ?_
    obtain ⟨out0, HL, HC0⟩ := bnd H
    clear H
    refine w_weak (Γ' := (fun s : Int => mk [(0, .d (.one (.sl false 52 (a0.map (c52 false))))), (1, .d (.one (.sl false 52 (a1.map (c52 false))))), (5, .d (iv s))]) 0) (w_loop (σ := Int) (fun s => mk [(0, .d (.one (.sl false 52 (a0.map (c52 false))))), (1, .d (.one (.sl false 52 (a1.map (c52 false))))), (5, .d (iv s))]) (fun k s => F20_L0 kf a0 a1 k s = some out0) kf 0 HL ?_) (has_le ⟨rfl, rfl, rfl, trivial⟩)
    clear HL
    rintro k0 v2 H
    cases k0 with
    | zero => cases H
    | succ k0 =>
    try dsimp only at H ⊢
    refine w_seq' ?_
    refine w_seq' ?_
    refine w_reg ?_
    refine seq_cons (lw_run rfl rfl (la_mvs (.inl rfl) rfl rfl rfl)) ?_
    refine seq_cons (lw_run rfl rfl (r_mvr (.inl rfl) rfl rfl rfl rfl)) ?_
    refine seq_cons (lw_run rfl rfl (la_len rfl rfl rfl Try.underlying29 rfl)) ?_
    refine seq_cons (lw_run rfl rfl (la_bin rfl rfl rfl rfl rfl rfl)) ?_
    refine w_end ?_
    refine w_nx ?_
    refine w_cond rfl (fun hb3 => ?_) (fun hb3 => ?_)
    · replace H := bif_t H hb3
      refine w_skip ?_
      refine w_nx ?_
      refine w_seq' ?_
      refine w_block ?_
      refine w_seq' ?_
      obtain ⟨z4, hz4, H⟩ := bnd H
      obtain ⟨z5, hz5, H⟩ := bnd H
      obtain ⟨y6, hy6, H⟩ := bnd H
      refine w_drawnq (⟨[(0, .d (.one (.sl false 52 (a0.map (c52 false)))), none)], _, []⟩ :: ⟨[(5, .d (iv v2), none)], _, []⟩ :: ⟨[(17, .d (.one (.sl false 52 (a0.map (c52 false)))), some 0), (18, .d (iv v2), some 1)], _, [0, 1]⟩ :: ⟨[(19, .sp none (c52 false z4), some 2)], _, [0, 1, 2]⟩ :: ⟨[(1, .d (.one (.sl false 52 (a1.map (c52 false)))), none)], _, []⟩ :: ⟨[(5, .d (iv v2), none)], _, []⟩ :: ⟨[(21, .d (.one (.sl false 52 (a1.map (c52 false)))), some 4), (22, .d (iv v2), some 5)], _, [4, 5]⟩ :: ⟨[(23, .sp none (c52 false z5), some 6)], _, [4, 5, 6]⟩ :: ⟨[(20, .d (.one (.sl false 22 (z4.map (c22 false)))), some 3), (24, .d (.one (.sl false 22 (z5.map (c22 false)))), some 7)], _, [0, 1, 2, 3, 4, 5, 6, 7]⟩ :: ⟨[(25, .d (bv y6), some 8)], _, [0, 1, 2, 3, 4, 5, 6, 7, 8]⟩ :: []) [(0, .d (.one (.sl false 52 (a0.map (c52 false)))), none), (1, .d (.one (.sl false 52 (a1.map (c52 false)))), none), (5, .d (iv v2), none), (11, .d (iv v2), none), (12, .d (.one (.sl false 52 (a0.map (c52 false)))), none), (13, .d (iv (a0.length : Int)), none), (14, .d (bv (decide (v2 < (a0.length : Int)))), none), (17, .d (.one (.sl false 52 (a0.map (c52 false)))), some 0), (18, .d (iv v2), some 1), (20, .d (.one (.sl false 22 (z4.map (c22 false)))), some 3), (21, .d (.one (.sl false 52 (a1.map (c52 false)))), some 4), (22, .d (iv v2), some 5), (24, .d (.one (.sl false 22 (z5.map (c22 false)))), some 7), (25, .d (bv y6), some 8), (26, .d (bv (!y6)), some 9)] mixed ⟨lw_run rfl rfl (r_mvr (.inl rfl) rfl rfl rfl rfl), lw_run rfl rfl (la_mvs (.inl rfl) rfl rfl rfl), lw_run rfl rfl (r_ix rfl rfl rfl e29 rfl rfl hz4 rfl), lw_run rfl rfl (r_ld rfl rfl rfl fl52 rfl rfl), lw_run rfl rfl (r_mvr (.inl rfl) rfl rfl rfl rfl), lw_run rfl rfl (la_mvs (.inl rfl) rfl rfl rfl), lw_run rfl rfl (r_ix rfl rfl rfl e29 rfl rfl hz5 rfl), lw_run rfl rfl (r_ld rfl rfl rfl fl52 rfl rfl), lw_run rfl rfl (r_call0 [] rfl rfl rfl rfl (r38 kf z4 z5 _ hy6) rfl rfl rfl rfl rfl rfl (.inl rfl)), lw_run rfl rfl (la_not rfl rfl rfl rfl), trivial⟩ ⟨⟨rfl, trivial⟩, ⟨rfl, trivial⟩, ⟨rfl, rfl, trivial⟩, ⟨rfl, trivial⟩, ⟨rfl, trivial⟩, ⟨rfl, trivial⟩, ⟨rfl, rfl, trivial⟩, ⟨rfl, trivial⟩, ⟨rfl, rfl, trivial⟩, ⟨rfl, trivial⟩, trivial⟩ ⟨rfl, rfl, rfl, rfl, rfl, rfl, rfl, rfl, rfl, rfl, rfl, rfl, rfl, rfl, rfl, trivial⟩ (by kernel_rfl) ?_
      refine w_nx ?_
      refine w_cond rfl (fun hb7 => ?_) (fun hb7 => ?_)
      · replace H := bif_t H hb7
        refine w_seq' ?_
        refine w_reg ?_
        refine seq_cons (lw_run rfl rfl (la_mvs (.inr rfl) rfl rfl rfl)) ?_
        refine w_end ?_
        refine w_nx ?_
        cases H
        try dsimp only at HC0
        cases HC0
        exact w_ret (fun a w h => fin_one h rfl (.tmp rfl rfl) trivial)
      · replace H := bif_f H hb7
        refine w_skip ?_
        refine q_nb ?_
        refine w_nx ?_
        refine w_reg ?_
        refine seq_cons (lw_run rfl rfl (la_mvs (.inl rfl) rfl rfl rfl)) ?_
        refine seq_cons (lw_run rfl rfl (la_bin rfl rfl rfl rfl rfl rfl)) ?_
        refine seq_cons (lw_run rfl rfl (la_mvs (.inr rfl) rfl rfl rfl)) ?_
        refine w_end ?_
        refine q_nt ?_
        exact fun a w h => ⟨k0, (IntKind.i64.wrap (v2 + 1)), Nat.lt_succ_self k0, H, h.weaken (has_le ⟨rfl, rfl, rfl, trivial⟩)⟩
    · replace H := bif_f H hb3
      refine w_exit ?_
      refine q_et ?_
      refine q_et ?_
      refine q_in ?_
      cases H
      have H := HC0
      clear HC0
      try dsimp only at H
      refine w_nx ?_
      refine w_seq' ?_
      refine w_reg ?_
      refine seq_cons (lw_run rfl rfl (la_mvs (.inr rfl) rfl rfl rfl)) ?_
      refine w_end ?_
      refine w_nx ?_
      cases H
      exact w_ret (fun a w h => fin_one h rfl (.tmp rfl rfl) trivial)
/- loop.example/g00844/laws.eqTable -/
def F49 (kf : Nat) (a0 : S69) (a1 : S69) : Option Bool :=
  (bif (!(a0.f0.toList == a1.f0.toList)) then
  some false
  else (bif (a0.f1 != a1.f1) then
  some false
  else some true))
theorem r49 (kf : Nat) (a0 : S69) (a1 : S69) (R : Bool) (H : F49 kf a0 a1 = some R) : Ret Try.prog 49 15 [.d (.agg (c73 false a0)), .d (.agg (c73 false a1))] [] (.d (bv R)) [] := by
  refine ret_of Try.func49 rfl rfl (by kernel_rfl) rfl ?_
  intro fr a' w' hn
  obtain ⟨w0, M, Z0, n, γ⟩ := fr
  simp only at hn
  subst hn
  revert a' w'
  show W _ _ _ _ _
  refine w_seq' ?_
  refine w_reg ?_
  refine seq_cons (lw_run rfl rfl (la_box rfl rfl rfl rfl)) ?_
  refine seq_cons (lw_run rfl rfl (la_box rfl rfl rfl rfl)) ?_
  refine seq_cons (lw_run rfl rfl (la_mvs (.inr rfl) rfl rfl rfl)) ?_
  refine w_end ?_
  refine w_nx ?_
  refine w_seq' ?_
  refine w_seq' ?_
  refine w_reg ?_
  refine seq_cons (lw_run rfl rfl (la_fbx rfl rfl rfl fd73_0 rfl rfl)) ?_
  refine seq_cons (lw_run rfl rfl (la_ldf rfl rfl rfl fl9 rfl rfl rfl)) ?_
  refine seq_cons (lw_run rfl rfl (la_fbx rfl rfl rfl fd73_0 rfl rfl)) ?_
  refine seq_cons (lw_run rfl rfl (la_ldf rfl rfl rfl fl9 rfl rfl rfl)) ?_
  refine seq_cons (lw_run rfl rfl (la_bin rfl rfl rfl rfl rfl rfl)) ?_
  refine w_end ?_
  refine w_nx ?_
  refine w_cond rfl (fun hb1 => ?_) (fun hb1 => ?_)
  · replace H := bif_t H hb1
    refine w_seq' ?_
    refine w_reg ?_
    refine seq_cons (lw_run rfl rfl (la_mvs (.inr rfl) rfl rfl rfl)) ?_
    refine w_end ?_
    refine w_nx ?_
    cases H
    exact w_ret (fun a w h => fin_one h rfl (.tmp rfl rfl) trivial)
  · replace H := bif_f H hb1
    refine w_skip ?_
    refine w_nx ?_
    refine w_seq' ?_
    refine w_seq' ?_
    refine w_reg ?_
    refine seq_cons (lw_run rfl rfl (la_fbx rfl rfl rfl fd73_1 rfl rfl)) ?_
    refine seq_cons (lw_run rfl rfl (la_ldf rfl rfl rfl fl3 rfl rfl rfl)) ?_
    refine seq_cons (lw_run rfl rfl (la_fbx rfl rfl rfl fd73_1 rfl rfl)) ?_
    refine seq_cons (lw_run rfl rfl (la_ldf rfl rfl rfl fl3 rfl rfl rfl)) ?_
    refine seq_cons (lw_run rfl rfl (la_bin rfl rfl rfl rfl rfl rfl)) ?_
    refine w_end ?_
    refine w_nx ?_
    refine w_cond rfl (fun hb2 => ?_) (fun hb2 => ?_)
    · replace H := bif_t H hb2
      refine w_seq' ?_
      refine w_reg ?_
      refine seq_cons (lw_run rfl rfl (la_mvs (.inr rfl) rfl rfl rfl)) ?_
      refine w_end ?_
      refine w_nx ?_
      cases H
      exact w_ret (fun a w h => fin_one h rfl (.tmp rfl rfl) trivial)
    · replace H := bif_f H hb2
      refine w_skip ?_
      refine w_nx ?_
      refine w_seq' ?_
      refine w_reg ?_
      refine seq_cons (lw_run rfl rfl (la_mvs (.inr rfl) rfl rfl rfl)) ?_
      refine w_end ?_
      refine w_nx ?_
      cases H
      exact w_ret (fun a w h => fin_one h rfl (.tmp rfl rfl) trivial)
/- loop.example/g00844/laws.eqTableS -/
def F30_L0 (kf : Nat) (a0 : (List S69)) (a1 : (List S69)) : Nat → Int → Option (Ex Bool Int)
  | 0, _ => none
  | k + 1, v2 =>
  (bif (decide (v2 < (a0.length : Int))) then
  (ix a0 v2).bind (fun z4 => (ix a1 v2).bind (fun z5 => (F49 kf z4 z5).bind (fun y6 => (bif (!y6) then
  some (.ret false)
  else (F30_L0 kf a0 a1 k) (IntKind.i64.wrap (v2 + 1))))))
  else some (.go v2))
def F30 (kf : Nat) (a0 : (List S69)) (a1 : (List S69)) : Option Bool :=
  (bif ((a0.length : Int) != (a1.length : Int)) then
  some false
  else (F30_L0 kf a0 a1 kf 0).bind (fun o => match o with
  | .ret r => some r
  | .go v2 => some true))
theorem r30 (kf : Nat) (a0 : (List S69)) (a1 : (List S69)) (R : Bool) (H : F30 kf a0 a1 = some R) : Ret Try.prog 30 27 [.d (.one (.sl false 73 (a0.map (c73 false)))), .d (.one (.sl false 73 (a1.map (c73 false))))] [] (.d (bv R)) [] := by
  refine ret_of Try.func30 rfl rfl (by kernel_rfl) rfl ?_
  intro fr a' w' hn
  obtain ⟨w0, M, Z0, n, γ⟩ := fr
  simp only at hn
  subst hn
  revert a' w'
  show W _ _ _ _ _
  refine w_seq' ?_
  refine w_reg ?_
  refine seq_cons (lw_run rfl rfl (la_mvs (.inr rfl) rfl rfl rfl)) ?_
  refine w_end ?_
  refine w_nx ?_
  refine w_seq' ?_
  refine w_seq' ?_
  refine w_reg ?_
  refine seq_cons (lw_run rfl rfl (r_mvr (.inl rfl) rfl rfl rfl rfl)) ?_
  refine seq_cons (lw_run rfl rfl (la_len rfl rfl rfl Try.underlying45 rfl)) ?_
  refine seq_cons (lw_run rfl rfl (r_mvr (.inl rfl) rfl rfl rfl rfl)) ?_
  refine seq_cons (lw_run rfl rfl (la_len rfl rfl rfl Try.underlying45 rfl)) ?_
  refine seq_cons (lw_run rfl rfl (la_bin rfl rfl rfl rfl rfl rfl)) ?_
  refine w_end ?_
  refine w_nx ?_
  refine w_cond rfl (fun hb1 => ?_) (fun hb1 => ?_)
  · replace H := bif_t H hb1
    refine w_seq' ?_
    refine w_reg ?_
    refine seq_cons (lw_run rfl rfl (la_mvs (.inr rfl) rfl rfl rfl)) ?_
    refine w_end ?_
    refine w_nx ?_
    cases H
    exact w_ret (fun a w h => fin_one h rfl (.tmp rfl rfl) trivial)
  · replace H := bif_f H hb1
    refine w_skip ?_
    refine w_nx ?_
    refine w_seq' ?_
    refine w_seq' ?_
    refine w_reg ?_
    refine seq_cons (lw_run rfl rfl (la_mvs (.inr rfl) rfl rfl rfl)) ?_
    refine w_end ?_
    refine w_nx ?_
    refine w_block ?_
    obtain ⟨out0, HL, HC0⟩ := bnd H
    clear H
    refine w_weak (Γ' := (fun s : Int => mk [(0, .d (.one (.sl false 73 (a0.map (c73 false))))), (1, .d (.one (.sl false 73 (a1.map (c73 false))))), (5, .d (iv s))]) 0) (w_loop (σ := Int) (fun s => mk [(0, .d (.one (.sl false 73 (a0.map (c73 false))))), (1, .d (.one (.sl false 73 (a1.map (c73 false))))), (5, .d (iv s))]) (fun k s => F30_L0 kf a0 a1 k s = some out0) kf 0 HL ?_) (has_le ⟨rfl, rfl, rfl, trivial⟩)
    clear HL
    rintro k0 v2 H
    cases k0 with
    | zero => cases H
    | succ k0 =>
    try dsimp only at H ⊢
    refine w_seq' ?_
    refine w_seq' ?_
    refine w_reg ?_
    refine seq_cons (lw_run rfl rfl (la_mvs (.inl rfl) rfl rfl rfl)) ?_
    refine seq_cons (lw_run rfl rfl (r_mvr (.inl rfl) rfl rfl rfl rfl)) ?_
    refine seq_cons (lw_run rfl rfl (la_len rfl rfl rfl Try.underlying45 rfl)) ?_
    refine seq_cons (lw_run rfl rfl (la_bin rfl rfl rfl rfl rfl rfl)) ?_
    refine w_end ?_
    refine w_nx ?_
    refine w_cond rfl (fun hb3 => ?_) (fun hb3 => ?_)
    · replace H := bif_t H hb3
      refine w_skip ?_
      refine w_nx ?_
      refine w_seq' ?_
      refine w_block ?_
      refine w_seq' ?_
      obtain ⟨z4, hz4, H⟩ := bnd H
      obtain ⟨z5, hz5, H⟩ := bnd H
      obtain ⟨y6, hy6, H⟩ := bnd H
      refine w_drawnq (⟨[(0, .d (.one (.sl false 73 (a0.map (c73 false)))), none)], _, []⟩ :: ⟨[(5, .d (iv v2), none)], _, []⟩ :: ⟨[(17, .d (.one (.sl false 73 (a0.map (c73 false)))), some 0), (18, .d (iv v2), some 1)], _, [0, 1]⟩ :: ⟨[(19, .sp none (c73 false z4), some 2)], _, [0, 1, 2]⟩ :: ⟨[(1, .d (.one (.sl false 73 (a1.map (c73 false)))), none)], _, []⟩ :: ⟨[(5, .d (iv v2), none)], _, []⟩ :: ⟨[(21, .d (.one (.sl false 73 (a1.map (c73 false)))), some 4), (22, .d (iv v2), some 5)], _, [4, 5]⟩ :: ⟨[(23, .sp none (c73 false z5), some 6)], _, [4, 5, 6]⟩ :: ⟨[(20, .d (.agg (c73 false z4)), some 3), (24, .d (.agg (c73 false z5)), some 7)], _, [0, 1, 2, 3, 4, 5, 6, 7]⟩ :: ⟨[(25, .d (bv y6), some 8)], _, [0, 1, 2, 3, 4, 5, 6, 7, 8]⟩ :: []) [(0, .d (.one (.sl false 73 (a0.map (c73 false)))), none), (1, .d (.one (.sl false 73 (a1.map (c73 false)))), none), (5, .d (iv v2), none), (11, .d (iv v2), none), (12, .d (.one (.sl false 73 (a0.map (c73 false)))), none), (13, .d (iv (a0.length : Int)), none), (14, .d (bv (decide (v2 < (a0.length : Int)))), none), (17, .d (.one (.sl false 73 (a0.map (c73 false)))), some 0), (18, .d (iv v2), some 1), (20, .d (.agg (c73 false z4)), some 3), (21, .d (.one (.sl false 73 (a1.map (c73 false)))), some 4), (22, .d (iv v2), some 5), (24, .d (.agg (c73 false z5)), some 7), (25, .d (bv y6), some 8), (26, .d (bv (!y6)), some 9)] mixed ⟨lw_run rfl rfl (r_mvr (.inl rfl) rfl rfl rfl rfl), lw_run rfl rfl (la_mvs (.inl rfl) rfl rfl rfl), lw_run rfl rfl (r_ix rfl rfl rfl e45 rfl rfl hz4 rfl), lw_run rfl rfl (r_lds rfl rfl rfl rw73 rfl (ln73 _ _) rfl), lw_run rfl rfl (r_mvr (.inl rfl) rfl rfl rfl rfl), lw_run rfl rfl (la_mvs (.inl rfl) rfl rfl rfl), lw_run rfl rfl (r_ix rfl rfl rfl e45 rfl rfl hz5 rfl), lw_run rfl rfl (r_lds rfl rfl rfl rw73 rfl (ln73 _ _) rfl), lw_run rfl rfl (r_call0 [] rfl rfl rfl rfl (r49 kf z4 z5 _ hy6) rfl rfl rfl rfl rfl rfl (.inl rfl)), lw_run rfl rfl (la_not rfl rfl rfl rfl), trivial⟩ ⟨⟨rfl, trivial⟩, ⟨rfl, trivial⟩, ⟨rfl, rfl, trivial⟩, ⟨rfl, trivial⟩, ⟨rfl, trivial⟩, ⟨rfl, trivial⟩, ⟨rfl, rfl, trivial⟩, ⟨rfl, trivial⟩, ⟨rfl, rfl, trivial⟩, ⟨rfl, trivial⟩, trivial⟩ ⟨rfl, rfl, rfl, rfl, rfl, rfl, rfl, rfl, rfl, rfl, rfl, rfl, rfl, rfl, rfl, trivial⟩ (by kernel_rfl) ?_
      refine w_nx ?_
      refine w_cond rfl (fun hb7 => ?_) (fun hb7 => ?_)
      · replace H := bif_t H hb7
        refine w_seq' ?_
        refine w_reg ?_
        refine seq_cons (lw_run rfl rfl (la_mvs (.inr rfl) rfl rfl rfl)) ?_
        refine w_end ?_
        refine w_nx ?_
        cases H
        try dsimp only at HC0
        cases HC0
        exact w_ret (fun a w h => fin_one h rfl (.tmp rfl rfl) trivial)
      · replace H := bif_f H hb7
        refine w_skip ?_
        refine q_nb ?_
        refine w_nx ?_
        refine w_reg ?_
        refine seq_cons (lw_run rfl rfl (la_mvs (.inl rfl) rfl rfl rfl)) ?_
        refine seq_cons (lw_run rfl rfl (la_bin rfl rfl rfl rfl rfl rfl)) ?_
        refine seq_cons (lw_run rfl rfl (la_mvs (.inr rfl) rfl rfl rfl)) ?_
        refine w_end ?_
        refine q_nt ?_
        exact fun a w h => ⟨k0, (IntKind.i64.wrap (v2 + 1)), Nat.lt_succ_self k0, H, h.weaken (has_le ⟨rfl, rfl, rfl, trivial⟩)⟩
    · replace H := bif_f H hb3
      refine w_exit ?_
      refine q_et ?_
      refine q_et ?_
      refine q_in ?_
      cases H
      have H := HC0
      clear HC0
      try dsimp only at H
      refine w_nx ?_
      refine w_seq' ?_
      refine w_reg ?_
      refine seq_cons (lw_run rfl rfl (la_mvs (.inr rfl) rfl rfl rfl)) ?_
      refine w_end ?_
      refine w_nx ?_
      cases H
      exact w_ret (fun a w h => fin_one h rfl (.tmp rfl rfl) trivial)
/- loop.example/g00844/laws.markText -/
def F50_L0 (kf : Nat) (a0 : Int) : Nat → Int → ByteArray → Option (Ex ByteArray (Int × ByteArray))
  | 0, _, _ => none
  | k + 1, v2, v3 =>
  (bif (decide (v2 > 0)) then
  (remx v2 10).bind (fun z5 => (addx (bsOf ([(IntKind.u8.wrap (IntKind.i64.wrap (48 + z5)))])) v3).bind (fun z6 => (quox v2 10).bind (fun z7 => (F50_L0 kf a0 k) z7 z6)))
  else some (.go (v2, v3)))
def F50 (kf : Nat) (a0 : Int) : Option ByteArray :=
  (bif (decide (a0 ≤ 0)) then
  some (⟨#[109, 48]⟩ : ByteArray)
  else (F50_L0 kf a0 kf a0 (⟨#[]⟩ : ByteArray)).bind (fun o => match o with
  | .ret r => some r
  | .go (v2, v3) => (addx (⟨#[109]⟩ : ByteArray) v3).bind (fun z8 => some z8)))
theorem r50 (kf : Nat) (a0 : Int) (R : ByteArray) (H : F50 kf a0 = some R) : Ret Try.prog 50 20 [.d (iv a0)] [] (.d (sv R)) [] := by
  refine ret_of Try.func50 rfl rfl (by kernel_rfl) rfl ?_
  intro fr a' w' hn
  obtain ⟨w0, M, Z0, n, γ⟩ := fr
  simp only at hn
  subst hn
  revert a' w'
  show W _ _ _ _ _
  refine w_seq' ?_
  refine w_reg ?_
  refine seq_cons (lw_run rfl rfl (la_mvs (.inr rfl) rfl rfl rfl)) ?_
  refine w_end ?_
  refine w_nx ?_
  refine w_seq' ?_
  refine w_seq' ?_
  refine w_reg ?_
  refine seq_cons (lw_run rfl rfl (la_mvs (.inl rfl) rfl rfl rfl)) ?_
  refine seq_cons (lw_run rfl rfl (la_bin rfl rfl rfl rfl rfl rfl)) ?_
  refine w_end ?_
  refine w_nx ?_
  refine w_cond rfl (fun hb1 => ?_) (fun hb1 => ?_)
  · replace H := bif_t H hb1
    refine w_seq' ?_
    refine w_reg ?_
    refine seq_cons (lw_run rfl rfl (la_mvs (.inr rfl) rfl rfl rfl)) ?_
    refine w_end ?_
    refine w_nx ?_
    cases H
    exact w_ret (fun a w h => fin_one h rfl (.tmp rfl rfl) trivial)
  · replace H := bif_f H hb1
    refine w_skip ?_
    refine w_nx ?_
    refine w_seq' ?_
    refine w_reg ?_
    refine seq_cons (lw_run rfl rfl (la_mvs (.inr rfl) rfl rfl rfl)) ?_
    refine w_end ?_
    refine w_nx ?_
    refine w_seq' ?_
    refine w_block ?_
    obtain ⟨out0, HL, HC0⟩ := bnd H
    clear H
    refine w_weak (Γ' := (fun s : Int × ByteArray => mk [(2, .d (sv (⟨#[]⟩ : ByteArray))), (0, .d (iv s.1)), (3, .d (sv s.2))]) (a0, (⟨#[]⟩ : ByteArray))) (w_loop (σ := Int × ByteArray) (fun s => mk [(2, .d (sv (⟨#[]⟩ : ByteArray))), (0, .d (iv s.1)), (3, .d (sv s.2))]) (fun k s => F50_L0 kf a0 k s.1 s.2 = some out0) kf (a0, (⟨#[]⟩ : ByteArray)) HL ?_) (has_le ⟨rfl, rfl, rfl, trivial⟩)
    clear HL
    rintro k0 ⟨v2, v3⟩ H
    cases k0 with
    | zero => cases H
    | succ k0 =>
    try dsimp only at H ⊢
    refine w_seq' ?_
    refine w_seq' ?_
    refine w_reg ?_
    refine seq_cons (lw_run rfl rfl (la_mvs (.inl rfl) rfl rfl rfl)) ?_
    refine seq_cons (lw_run rfl rfl (la_bin rfl rfl rfl rfl rfl rfl)) ?_
    refine w_end ?_
    refine w_nx ?_
    refine w_cond rfl (fun hb4 => ?_) (fun hb4 => ?_)
    · replace H := bif_t H hb4
      refine w_skip ?_
      refine w_nx ?_
      refine w_block ?_
      refine w_seq' ?_
      refine w_reg ?_
      refine seq_cons (lw_run rfl rfl (la_mvs (.inl rfl) rfl rfl rfl)) ?_
      obtain ⟨z5, hz5, H⟩ := bnd H
      refine seq_cons (lw_run rfl rfl (r_rem rfl rfl rfl rfl rfl hz5)) ?_
      refine seq_cons (lw_run rfl rfl (la_bin rfl rfl rfl rfl rfl rfl)) ?_
      refine seq_cons (lw_run rfl rfl (r_conv rfl rfl rfl Try.underlying3 Try.underlying5 rfl)) ?_
      refine seq_cons (lw_run rfl rfl (r_bsl (f := c5 true) (xs := ([(IntKind.u8.wrap (IntKind.i64.wrap (48 + z5)))] : (List Int))) rfl rfl rfl e89 rfl rfl rfl rfl rfl sz5 rfl rfl)) ?_
      refine seq_cons (lw_run rfl rfl (r_b2s (f := c5 true) rfl rfl rfl Try.underlying89 Try.underlying9 Try.underlying5 (fun _ => rfl) rfl)) ?_
      refine seq_cons (lw_run rfl rfl (la_mvs (.inl rfl) rfl rfl rfl)) ?_
      obtain ⟨z6, hz6, H⟩ := bnd H
      refine seq_cons (lw_run rfl rfl (r_sadd rfl rfl rfl rfl rfl hz6)) ?_
      refine seq_cons (lw_run rfl rfl (la_mvs (.inr rfl) rfl rfl rfl)) ?_
      refine w_end ?_
      refine w_nx ?_
      refine w_reg ?_
      refine seq_cons (lw_run rfl rfl (la_mvs (.inl rfl) rfl rfl rfl)) ?_
      obtain ⟨z7, hz7, H⟩ := bnd H
      refine seq_cons (lw_run rfl rfl (r_quo rfl rfl rfl rfl rfl hz7)) ?_
      refine seq_cons (lw_run rfl rfl (la_mvs (.inr rfl) rfl rfl rfl)) ?_
      refine w_end ?_
      refine q_nb ?_
      refine q_nt ?_
      exact fun a w h => ⟨k0, (z7, z6), Nat.lt_succ_self k0, H, h.weaken (has_le ⟨rfl, rfl, rfl, trivial⟩)⟩
    · replace H := bif_f H hb4
      refine w_exit ?_
      refine q_et ?_
      refine q_et ?_
      refine q_in ?_
      cases H
      have H := HC0
      clear HC0
      try dsimp only at H
      refine w_nx ?_
      refine w_seq' ?_
      refine w_reg ?_
      refine seq_cons (lw_run rfl rfl (la_mvs (.inl rfl) rfl rfl rfl)) ?_
      obtain ⟨z8, hz8, H⟩ := bnd H
      refine seq_cons (lw_run rfl rfl (r_sadd rfl rfl rfl rfl rfl hz8)) ?_
      refine seq_cons (lw_run rfl rfl (la_mvs (.inr rfl) rfl rfl rfl)) ?_
      refine w_end ?_
      refine w_nx ?_
      cases H
      exact w_ret (fun a w h => fin_one h rfl (.tmp rfl rfl) trivial)
/- loop.example/g00844/laws.markTableS -/
def F31_L0 (kf : Nat) (a0 : (List S69)) (a1 : Int) : Nat → Int → Int → (List S69) → Option (Ex (Int × (List S69)) (Int × Int × (List S69)))
  | 0, _, _, _ => none
  | k + 1, v1, v2, v3 =>
  (bif (decide (v2 < (v3.length : Int))) then
  (F50 kf v1).bind (fun y5 => (ix v3 v2).bind (fun z6 => (ix (v3.set (v2).toNat (⟨y5, z6.f1⟩ : S69)) v2).bind (fun z7 => (F31_L0 kf a0 a1 k) (IntKind.i64.wrap ((IntKind.i64.wrap (v1 + 1)) + 1)) (IntKind.i64.wrap (v2 + 1)) ((v3.set (v2).toNat (⟨y5, z6.f1⟩ : S69)).set (v2).toNat (⟨z7.f0, (IntKind.i64.wrap (v1 + 1))⟩ : S69)))))
  else some (.go (v1, v2, v3)))
def F31 (kf : Nat) (a0 : (List S69)) (a1 : Int) : Option (Int × (List S69)) :=
  (F31_L0 kf a0 a1 kf a1 0 a0).bind (fun o => match o with
  | .ret r => some r
  | .go (v1, v2, v3) => some (v1, v3))
theorem r31 (kf : Nat) (a0 : (List S69)) (a1 : Int) (R : (Int × (List S69))) (H : F31 kf a0 a1 = some R) : Ret Try.prog 31 28 [.eq 28, .d (iv a1)] [.d (.one (.sl true 73 (a0.map (c73 true))))] (.d (iv R.1)) [.d (.one (.sl true 73 (R.2.map (c73 true))))] := by
  refine ret_of Try.func31 rfl rfl (by kernel_rfl) rfl ?_
  intro fr a' w' hn
  obtain ⟨w0, M, Z0, n, γ⟩ := fr
  simp only at hn
  subst hn
  revert a' w'
  show W _ _ _ _ _
  refine w_seq' ?_
  refine w_reg ?_
  refine seq_cons (lw_run rfl rfl (la_mvs (.inr rfl) rfl rfl rfl)) ?_
  refine w_end ?_
  refine w_nx ?_
  refine w_seq' ?_
  refine w_seq' ?_
  refine w_reg ?_
  refine seq_cons (lw_run rfl rfl (la_mvs (.inr rfl) rfl rfl rfl)) ?_
  refine w_end ?_
  refine w_nx ?_
  refine w_block ?_
  obtain ⟨out0, HL, HC0⟩ := bnd H
  clear H
  refine w_weak (Γ' := (fun s : Int × Int × (List S69) => mk [(0, .eq 28), (4, .d (iv 0)), (1, .d (iv s.1)), (5, .d (iv s.2.1)), (28, .d (.one (.sl true 73 (s.2.2.map (c73 true)))))]) (a1, 0, a0)) (w_loop (σ := Int × Int × (List S69)) (fun s => mk [(0, .eq 28), (4, .d (iv 0)), (1, .d (iv s.1)), (5, .d (iv s.2.1)), (28, .d (.one (.sl true 73 (s.2.2.map (c73 true)))))]) (fun k s => F31_L0 kf a0 a1 k s.1 s.2.1 s.2.2 = some out0) kf (a1, 0, a0) HL ?_) (has_le ⟨rfl, rfl, rfl, rfl, rfl, trivial⟩)
  clear HL
  rintro k0 ⟨v1, v2, v3⟩ H
  cases k0 with
  | zero => cases H
  | succ k0 =>
  try dsimp only at H ⊢
  refine w_seq' ?_
  refine w_seq' ?_
  refine w_reg ?_
  refine seq_cons (lw_run rfl rfl (la_mvs (.inl rfl) rfl rfl rfl)) ?_
  refine seq_cons (lw_run rfl rfl (la_eq (.inl rfl) rfl rfl rfl (.inr rfl) rfl)) ?_
  refine seq_cons (lw_run rfl rfl (r_leno rfl rfl rfl Try.underlying45 rfl)) ?_
  refine seq_cons (lw_run rfl rfl (la_bin rfl rfl rfl rfl rfl rfl)) ?_
  refine w_end ?_
  refine w_nx ?_
  refine w_cond rfl (fun hb4 => ?_) (fun hb4 => ?_)
  · replace H := bif_t H hb4
    refine w_skip ?_
    refine w_nx ?_
    refine w_seq' ?_
    refine w_block ?_
    refine w_seq' ?_
    refine w_reg ?_
    refine seq_cons (lw_run rfl rfl (la_eq (.inl rfl) rfl rfl rfl (.inr rfl) rfl)) ?_
    refine seq_cons (lw_run rfl rfl (la_mvs (.inl rfl) rfl rfl rfl)) ?_
    refine seq_cons (lw_run rfl rfl (la_mvs (.inl rfl) rfl rfl rfl)) ?_
    obtain ⟨y5, hy5, H⟩ := bnd H
    refine seq_cons (lw_run rfl rfl (r_call0 [] rfl rfl rfl rfl (r50 kf v1 _ hy5) rfl rfl rfl rfl rfl rfl (.inl rfl))) ?_
    obtain ⟨z6, hz6, H⟩ := bnd H
    refine seq_cons (lw_run rfl rfl (r_eixg rfl rfl rfl e45 rfl rfl hz6 rfl)) ?_
    refine seq_cons (lw_run rfl rfl (la_felt rfl rfl rfl fd73_0 rfl rfl)) ?_
    refine seq_cons (lw_run rfl rfl (la_ste (z' := (⟨y5, z6.f1⟩ : S69)) rfl rfl sz9 so9 rfl (ix_ok hz6).2 rfl rfl rfl rfl (nodupB_ok rfl))) ?_
    refine w_end ?_
    refine w_nx ?_
    refine w_seq' ?_
    refine w_reg ?_
    refine seq_cons (lw_run rfl rfl (la_mvs (.inl rfl) rfl rfl rfl)) ?_
    refine seq_cons (lw_run rfl rfl (la_bin rfl rfl rfl rfl rfl rfl)) ?_
    refine seq_cons (lw_run rfl rfl (la_mvs (.inr rfl) rfl rfl rfl)) ?_
    refine w_end ?_
    refine w_nx ?_
    refine w_seq' ?_
    refine w_reg ?_
    refine seq_cons (lw_run rfl rfl (la_eq (.inl rfl) rfl rfl rfl (.inr rfl) rfl)) ?_
    refine seq_cons (lw_run rfl rfl (la_mvs (.inl rfl) rfl rfl rfl)) ?_
    refine seq_cons (lw_run rfl rfl (la_mvs (.inl rfl) rfl rfl rfl)) ?_
    obtain ⟨z7, hz7, H⟩ := bnd H
    refine seq_cons (lw_run rfl rfl (r_eixg rfl rfl rfl e45 rfl rfl hz7 rfl)) ?_
    refine seq_cons (lw_run rfl rfl (la_felt rfl rfl rfl fd73_1 rfl rfl)) ?_
    refine seq_cons (lw_run rfl rfl (la_ste (z' := (⟨z7.f0, (IntKind.i64.wrap (v1 + 1))⟩ : S69)) rfl rfl sz3 so3 rfl (ix_ok hz7).2 rfl rfl rfl rfl (nodupB_ok rfl))) ?_
    refine w_end ?_
    refine w_nx ?_
    refine w_reg ?_
    refine seq_cons (lw_run rfl rfl (la_mvs (.inl rfl) rfl rfl rfl)) ?_
    refine seq_cons (lw_run rfl rfl (la_bin rfl rfl rfl rfl rfl rfl)) ?_
    refine seq_cons (lw_run rfl rfl (la_mvs (.inr rfl) rfl rfl rfl)) ?_
    refine w_end ?_
    refine q_nb ?_
    refine w_nx ?_
    refine w_reg ?_
    refine seq_cons (lw_run rfl rfl (la_mvs (.inl rfl) rfl rfl rfl)) ?_
    refine seq_cons (lw_run rfl rfl (la_bin rfl rfl rfl rfl rfl rfl)) ?_
    refine seq_cons (lw_run rfl rfl (la_mvs (.inr rfl) rfl rfl rfl)) ?_
    refine w_end ?_
    refine q_nt ?_
    exact fun a w h => ⟨k0, ((IntKind.i64.wrap ((IntKind.i64.wrap (v1 + 1)) + 1)), (IntKind.i64.wrap (v2 + 1)), ((v3.set (v2).toNat (⟨y5, z6.f1⟩ : S69)).set (v2).toNat (⟨z7.f0, (IntKind.i64.wrap (v1 + 1))⟩ : S69))), Nat.lt_succ_self k0, H, h.weaken (has_le ⟨rfl, rfl, rfl, rfl, rfl, trivial⟩)⟩
  · replace H := bif_f H hb4
    refine w_exit ?_
    refine q_et ?_
    refine q_et ?_
    refine q_in ?_
    cases H
    have H := HC0
    clear HC0
    try dsimp only at H
    refine w_nx ?_
    refine w_seq' ?_
    refine w_reg ?_
    refine seq_cons (lw_run rfl rfl (la_mvs (.inl rfl) rfl rfl rfl)) ?_
    refine seq_cons (lw_run rfl rfl (la_mvs (.inr rfl) rfl rfl rfl)) ?_
    refine w_end ?_
    refine w_nx ?_
    cases H
    exact w_ret (fun a w h => fin_one h rfl (.tmp rfl rfl) ⟨⟨rfl, rfl⟩, trivial⟩)
/- loop.example/g00844/laws.markIntS -/
def F14_L0 (kf : Nat) (a0 : (List Int)) (a1 : Int) : Nat → Int → Int → (List Int) → Option (Ex (Int × (List Int)) (Int × Int × (List Int)))
  | 0, _, _, _ => none
  | k + 1, v1, v2, v3 =>
  (bif (decide (v2 < (v3.length : Int))) then
  (stx v3 v2 v1).bind (fun z5 => (F14_L0 kf a0 a1 k) (IntKind.i64.wrap (v1 + 1)) (IntKind.i64.wrap (v2 + 1)) z5)
  else some (.go (v1, v2, v3)))
def F14 (kf : Nat) (a0 : (List Int)) (a1 : Int) : Option (Int × (List Int)) :=
  (F14_L0 kf a0 a1 kf a1 0 a0).bind (fun o => match o with
  | .ret r => some r
  | .go (v1, v2, v3) => some (v1, v3))
theorem r14 (kf : Nat) (a0 : (List Int)) (a1 : Int) (R : (Int × (List Int))) (H : F14 kf a0 a1 = some R) : Ret Try.prog 14 19 [.eq 19, .d (iv a1)] [.d (.one (.sl true 3 (a0.map (c3 true))))] (.d (iv R.1)) [.d (.one (.sl true 3 (R.2.map (c3 true))))] := by
  refine ret_of Try.func14 rfl rfl (by kernel_rfl) rfl ?_
  intro fr a' w' hn
  obtain ⟨w0, M, Z0, n, γ⟩ := fr
  simp only at hn
  subst hn
  revert a' w'
  show W _ _ _ _ _
  refine w_seq' ?_
  refine w_reg ?_
  refine seq_cons (lw_run rfl rfl (la_mvs (.inr rfl) rfl rfl rfl)) ?_
  refine w_end ?_
  refine w_nx ?_
  refine w_seq' ?_
  refine w_seq' ?_
  refine w_reg ?_
  refine seq_cons (lw_run rfl rfl (la_mvs (.inr rfl) rfl rfl rfl)) ?_
  refine w_end ?_
  refine w_nx ?_
  refine w_block ?_
  obtain ⟨out0, HL, HC0⟩ := bnd H
  clear H
  refine w_weak (Γ' := (fun s : Int × Int × (List Int) => mk [(0, .eq 19), (4, .d (iv 0)), (1, .d (iv s.1)), (5, .d (iv s.2.1)), (19, .d (.one (.sl true 3 (s.2.2.map (c3 true)))))]) (a1, 0, a0)) (w_loop (σ := Int × Int × (List Int)) (fun s => mk [(0, .eq 19), (4, .d (iv 0)), (1, .d (iv s.1)), (5, .d (iv s.2.1)), (19, .d (.one (.sl true 3 (s.2.2.map (c3 true)))))]) (fun k s => F14_L0 kf a0 a1 k s.1 s.2.1 s.2.2 = some out0) kf (a1, 0, a0) HL ?_) (has_le ⟨rfl, rfl, rfl, rfl, rfl, trivial⟩)
  clear HL
  rintro k0 ⟨v1, v2, v3⟩ H
  cases k0 with
  | zero => cases H
  | succ k0 =>
  try dsimp only at H ⊢
  refine w_seq' ?_
  refine w_seq' ?_
  refine w_reg ?_
  refine seq_cons (lw_run rfl rfl (la_mvs (.inl rfl) rfl rfl rfl)) ?_
  refine seq_cons (lw_run rfl rfl (la_eq (.inl rfl) rfl rfl rfl (.inr rfl) rfl)) ?_
  refine seq_cons (lw_run rfl rfl (r_leno rfl rfl rfl Try.underlying22 rfl)) ?_
  refine seq_cons (lw_run rfl rfl (la_bin rfl rfl rfl rfl rfl rfl)) ?_
  refine w_end ?_
  refine w_nx ?_
  refine w_cond rfl (fun hb4 => ?_) (fun hb4 => ?_)
  · replace H := bif_t H hb4
    refine w_skip ?_
    refine w_nx ?_
    refine w_seq' ?_
    refine w_block ?_
    refine w_seq' ?_
    refine w_reg ?_
    refine seq_cons (lw_run rfl rfl (la_eq (.inl rfl) rfl rfl rfl (.inr rfl) rfl)) ?_
    refine seq_cons (lw_run rfl rfl (la_mvs (.inl rfl) rfl rfl rfl)) ?_
    refine seq_cons (lw_run rfl rfl (la_mvs (.inl rfl) rfl rfl rfl)) ?_
    obtain ⟨z5, hz5, H⟩ := bnd H
    refine seq_cons (lw_run rfl rfl (r_eixs rfl rfl rfl e22 rfl rfl hz5 rfl)) ?_
    refine seq_cons (lw_run rfl rfl (r_ste rfl rfl sz3 so3 rfl hz5 rfl (l3 _) rfl rfl rfl)) ?_
    refine w_end ?_
    refine w_nx ?_
    refine w_reg ?_
    refine seq_cons (lw_run rfl rfl (la_mvs (.inl rfl) rfl rfl rfl)) ?_
    refine seq_cons (lw_run rfl rfl (la_bin rfl rfl rfl rfl rfl rfl)) ?_
    refine seq_cons (lw_run rfl rfl (la_mvs (.inr rfl) rfl rfl rfl)) ?_
    refine w_end ?_
    refine q_nb ?_
    refine w_nx ?_
    refine w_reg ?_
    refine seq_cons (lw_run rfl rfl (la_mvs (.inl rfl) rfl rfl rfl)) ?_
    refine seq_cons (lw_run rfl rfl (la_bin rfl rfl rfl rfl rfl rfl)) ?_
    refine seq_cons (lw_run rfl rfl (la_mvs (.inr rfl) rfl rfl rfl)) ?_
    refine w_end ?_
    refine q_nt ?_
    exact fun a w h => ⟨k0, ((IntKind.i64.wrap (v1 + 1)), (IntKind.i64.wrap (v2 + 1)), z5), Nat.lt_succ_self k0, H, h.weaken (has_le ⟨rfl, rfl, rfl, rfl, rfl, trivial⟩)⟩
  · replace H := bif_f H hb4
    refine w_exit ?_
    refine q_et ?_
    refine q_et ?_
    refine q_in ?_
    cases H
    have H := HC0
    clear HC0
    try dsimp only at H
    refine w_nx ?_
    refine w_seq' ?_
    refine w_reg ?_
    refine seq_cons (lw_run rfl rfl (la_mvs (.inl rfl) rfl rfl rfl)) ?_
    refine seq_cons (lw_run rfl rfl (la_mvs (.inr rfl) rfl rfl rfl)) ?_
    refine w_end ?_
    refine w_nx ?_
    cases H
    exact w_ret (fun a w h => fin_one h rfl (.tmp rfl rfl) ⟨⟨rfl, rfl⟩, trivial⟩)
/- loop.example/g00844/laws.markIntSS -/
def F51_L0 (kf : Nat) (a0 : (List (List Int))) (a1 : Int) : Nat → Int → Int → (List (List Int)) → Option (Ex (Int × (List (List Int))) (Int × Int × (List (List Int))))
  | 0, _, _, _ => none
  | k + 1, v1, v2, v3 =>
  (bif (decide (v2 < (v3.length : Int))) then
  (ix v3 v2).bind (fun z5 => (F14 kf z5 v1).bind (fun y7 => (F51_L0 kf a0 a1 k) y7.1 (IntKind.i64.wrap (v2 + 1)) (v3.set (v2).toNat y7.2)))
  else some (.go (v1, v2, v3)))
def F51 (kf : Nat) (a0 : (List (List Int))) (a1 : Int) : Option (Int × (List (List Int))) :=
  (F51_L0 kf a0 a1 kf a1 0 a0).bind (fun o => match o with
  | .ret r => some r
  | .go (v1, v2, v3) => some (v1, v3))
theorem r51 (kf : Nat) (a0 : (List (List Int))) (a1 : Int) (R : (Int × (List (List Int)))) (H : F51 kf a0 a1 = some R) : Ret Try.prog 51 19 [.eq 19, .d (iv a1)] [.d (.one (.sl true 22 (a0.map (c22 true))))] (.d (iv R.1)) [.d (.one (.sl true 22 (R.2.map (c22 true))))] := by
  refine ret_of Try.func51 rfl rfl (by kernel_rfl) rfl ?_
  intro fr a' w' hn
  obtain ⟨w0, M, Z0, n, γ⟩ := fr
  simp only at hn
  subst hn
  revert a' w'
  show W _ _ _ _ _
  refine w_seq' ?_
  refine w_reg ?_
  refine seq_cons (lw_run rfl rfl (la_mvs (.inr rfl) rfl rfl rfl)) ?_
  refine w_end ?_
  refine w_nx ?_
  refine w_seq' ?_
  refine w_seq' ?_
  refine w_reg ?_
  refine seq_cons (lw_run rfl rfl (la_mvs (.inr rfl) rfl rfl rfl)) ?_
  refine w_end ?_
  refine w_nx ?_
  refine w_block ?_
  obtain ⟨out0, HL, HC0⟩ := bnd H
  clear H
  refine w_weak (Γ' := (fun s : Int × Int × (List (List Int)) => mk [(0, .eq 19), (4, .d (iv 0)), (1, .d (iv s.1)), (5, .d (iv s.2.1)), (19, .d (.one (.sl true 22 (s.2.2.map (c22 true)))))]) (a1, 0, a0)) (w_loop (σ := Int × Int × (List (List Int))) (fun s => mk [(0, .eq 19), (4, .d (iv 0)), (1, .d (iv s.1)), (5, .d (iv s.2.1)), (19, .d (.one (.sl true 22 (s.2.2.map (c22 true)))))]) (fun k s => F51_L0 kf a0 a1 k s.1 s.2.1 s.2.2 = some out0) kf (a1, 0, a0) HL ?_) (has_le ⟨rfl, rfl, rfl, rfl, rfl, trivial⟩)
  clear HL
  rintro k0 ⟨v1, v2, v3⟩ H
  cases k0 with
  | zero => cases H
  | succ k0 =>
  try dsimp only at H ⊢
  refine w_seq' ?_
  refine w_seq' ?_
  refine w_reg ?_
  refine seq_cons (lw_run rfl rfl (la_mvs (.inl rfl) rfl rfl rfl)) ?_
  refine seq_cons (lw_run rfl rfl (la_eq (.inl rfl) rfl rfl rfl (.inr rfl) rfl)) ?_
  refine seq_cons (lw_run rfl rfl (r_leno rfl rfl rfl Try.underlying52 rfl)) ?_
  refine seq_cons (lw_run rfl rfl (la_bin rfl rfl rfl rfl rfl rfl)) ?_
  refine w_end ?_
  refine w_nx ?_
  refine w_cond rfl (fun hb4 => ?_) (fun hb4 => ?_)
  · replace H := bif_t H hb4
    refine w_skip ?_
    refine w_nx ?_
    refine w_seq' ?_
    refine w_block ?_
    refine w_reg ?_
    refine seq_cons (lw_run rfl rfl (la_eq (.inl rfl) rfl rfl rfl (.inr rfl) rfl)) ?_
    refine seq_cons (lw_run rfl rfl (la_mvs (.inl rfl) rfl rfl rfl)) ?_
    obtain ⟨z5, hz5, H⟩ := bnd H
    refine seq_cons (lw_run rfl rfl (r_eixg rfl rfl rfl e52 rfl rfl hz5 rfl)) ?_
    refine seq_consx rfl rfl (la_take rfl rfl rfl fl22 rfl (ix_ok hz5).2 rfl rfl) ?_
    intro u6
    refine seq_cons (lw_run rfl rfl (la_mvs (.inl rfl) rfl rfl rfl)) ?_
    obtain ⟨y7, hy7, H⟩ := bnd H
    refine seq_cons (lw_run rfl rfl (r_call [15] [] rfl rfl rfl rfl (r14 kf z5 v1 _ hy7) rfl rfl rfl rfl rfl rfl rfl rfl rfl (.inl rfl))) ?_
    refine seq_st (fun a w hs => hs.put 15 19 (z' := y7.2) rfl rfl rfl (ix_ok hz5).2 rfl rfl) ?_
    refine seq_cons (lw_run rfl rfl (la_mvs (.inr rfl) rfl rfl rfl)) ?_
    refine w_end ?_
    refine q_nb ?_
    refine w_nx ?_
    refine w_reg ?_
    refine seq_cons (lw_run rfl rfl (la_mvs (.inl rfl) rfl rfl rfl)) ?_
    refine seq_cons (lw_run rfl rfl (la_bin rfl rfl rfl rfl rfl rfl)) ?_
    refine seq_cons (lw_run rfl rfl (la_mvs (.inr rfl) rfl rfl rfl)) ?_
    refine w_end ?_
    refine q_nt ?_
    exact fun a w h => ⟨k0, (y7.1, (IntKind.i64.wrap (v2 + 1)), (v3.set (v2).toNat y7.2)), Nat.lt_succ_self k0, H, h.weaken (has_le ⟨rfl, rfl, rfl, rfl, rfl, trivial⟩)⟩
  · replace H := bif_f H hb4
    refine w_exit ?_
    refine q_et ?_
    refine q_et ?_
    refine q_in ?_
    cases H
    have H := HC0
    clear HC0
    try dsimp only at H
    refine w_nx ?_
    refine w_seq' ?_
    refine w_reg ?_
    refine seq_cons (lw_run rfl rfl (la_mvs (.inl rfl) rfl rfl rfl)) ?_
    refine seq_cons (lw_run rfl rfl (la_mvs (.inr rfl) rfl rfl rfl)) ?_
    refine w_end ?_
    refine w_nx ?_
    cases H
    exact w_ret (fun a w h => fin_one h rfl (.tmp rfl rfl) ⟨⟨rfl, rfl⟩, trivial⟩)
/- loop.example/g00844/laws.markIntSSS -/
def F32_L0 (kf : Nat) (a0 : (List (List (List Int)))) (a1 : Int) : Nat → Int → Int → (List (List (List Int))) → Option (Ex (Int × (List (List (List Int)))) (Int × Int × (List (List (List Int)))))
  | 0, _, _, _ => none
  | k + 1, v1, v2, v3 =>
  (bif (decide (v2 < (v3.length : Int))) then
  (ix v3 v2).bind (fun z5 => (F51 kf z5 v1).bind (fun y7 => (F32_L0 kf a0 a1 k) y7.1 (IntKind.i64.wrap (v2 + 1)) (v3.set (v2).toNat y7.2)))
  else some (.go (v1, v2, v3)))
def F32 (kf : Nat) (a0 : (List (List (List Int)))) (a1 : Int) : Option (Int × (List (List (List Int)))) :=
  (F32_L0 kf a0 a1 kf a1 0 a0).bind (fun o => match o with
  | .ret r => some r
  | .go (v1, v2, v3) => some (v1, v3))
theorem r32 (kf : Nat) (a0 : (List (List (List Int)))) (a1 : Int) (R : (Int × (List (List (List Int))))) (H : F32 kf a0 a1 = some R) : Ret Try.prog 32 19 [.eq 19, .d (iv a1)] [.d (.one (.sl true 52 (a0.map (c52 true))))] (.d (iv R.1)) [.d (.one (.sl true 52 (R.2.map (c52 true))))] := by
  refine ret_of Try.func32 rfl rfl (by kernel_rfl) rfl ?_
  intro fr a' w' hn
  obtain ⟨w0, M, Z0, n, γ⟩ := fr
  simp only at hn
  subst hn
  revert a' w'
  show W _ _ _ _ _
  refine w_seq' ?_
  refine w_reg ?_
  refine seq_cons (lw_run rfl rfl (la_mvs (.inr rfl) rfl rfl rfl)) ?_
  refine w_end ?_
  refine w_nx ?_
  refine w_seq' ?_
  refine w_seq' ?_
  refine w_reg ?_
  refine seq_cons (lw_run rfl rfl (la_mvs (.inr rfl) rfl rfl rfl)) ?_
  refine w_end ?_
  refine w_nx ?_
  refine w_block ?_
  obtain ⟨out0, HL, HC0⟩ := bnd H
  clear H
  refine w_weak (Γ' := (fun s : Int × Int × (List (List (List Int))) => mk [(0, .eq 19), (4, .d (iv 0)), (1, .d (iv s.1)), (5, .d (iv s.2.1)), (19, .d (.one (.sl true 52 (s.2.2.map (c52 true)))))]) (a1, 0, a0)) (w_loop (σ := Int × Int × (List (List (List Int)))) (fun s => mk [(0, .eq 19), (4, .d (iv 0)), (1, .d (iv s.1)), (5, .d (iv s.2.1)), (19, .d (.one (.sl true 52 (s.2.2.map (c52 true)))))]) (fun k s => F32_L0 kf a0 a1 k s.1 s.2.1 s.2.2 = some out0) kf (a1, 0, a0) HL ?_) (has_le ⟨rfl, rfl, rfl, rfl, rfl, trivial⟩)
  clear HL
  rintro k0 ⟨v1, v2, v3⟩ H
  cases k0 with
  | zero => cases H
  | succ k0 =>
  try dsimp only at H ⊢
  refine w_seq' ?_
  refine w_seq' ?_
  refine w_reg ?_
  refine seq_cons (lw_run rfl rfl (la_mvs (.inl rfl) rfl rfl rfl)) ?_
  refine seq_cons (lw_run rfl rfl (la_eq (.inl rfl) rfl rfl rfl (.inr rfl) rfl)) ?_
  refine seq_cons (lw_run rfl rfl (r_leno rfl rfl rfl Try.underlying29 rfl)) ?_
  refine seq_cons (lw_run rfl rfl (la_bin rfl rfl rfl rfl rfl rfl)) ?_
  refine w_end ?_
  refine w_nx ?_
  refine w_cond rfl (fun hb4 => ?_) (fun hb4 => ?_)
  · replace H := bif_t H hb4
    refine w_skip ?_
    refine w_nx ?_
    refine w_seq' ?_
    refine w_block ?_
    refine w_reg ?_
    refine seq_cons (lw_run rfl rfl (la_eq (.inl rfl) rfl rfl rfl (.inr rfl) rfl)) ?_
    refine seq_cons (lw_run rfl rfl (la_mvs (.inl rfl) rfl rfl rfl)) ?_
    obtain ⟨z5, hz5, H⟩ := bnd H
    refine seq_cons (lw_run rfl rfl (r_eixg rfl rfl rfl e29 rfl rfl hz5 rfl)) ?_
    refine seq_consx rfl rfl (la_take rfl rfl rfl fl52 rfl (ix_ok hz5).2 rfl rfl) ?_
    intro u6
    refine seq_cons (lw_run rfl rfl (la_mvs (.inl rfl) rfl rfl rfl)) ?_
    obtain ⟨y7, hy7, H⟩ := bnd H
    refine seq_cons (lw_run rfl rfl (r_call [15] [] rfl rfl rfl rfl (r51 kf z5 v1 _ hy7) rfl rfl rfl rfl rfl rfl rfl rfl rfl (.inl rfl))) ?_
    refine seq_st (fun a w hs => hs.put 15 19 (z' := y7.2) rfl rfl rfl (ix_ok hz5).2 rfl rfl) ?_
    refine seq_cons (lw_run rfl rfl (la_mvs (.inr rfl) rfl rfl rfl)) ?_
    refine w_end ?_
    refine q_nb ?_
    refine w_nx ?_
    refine w_reg ?_
    refine seq_cons (lw_run rfl rfl (la_mvs (.inl rfl) rfl rfl rfl)) ?_
    refine seq_cons (lw_run rfl rfl (la_bin rfl rfl rfl rfl rfl rfl)) ?_
    refine seq_cons (lw_run rfl rfl (la_mvs (.inr rfl) rfl rfl rfl)) ?_
    refine w_end ?_
    refine q_nt ?_
    exact fun a w h => ⟨k0, (y7.1, (IntKind.i64.wrap (v2 + 1)), (v3.set (v2).toNat y7.2)), Nat.lt_succ_self k0, H, h.weaken (has_le ⟨rfl, rfl, rfl, rfl, rfl, trivial⟩)⟩
  · replace H := bif_f H hb4
    refine w_exit ?_
    refine q_et ?_
    refine q_et ?_
    refine q_in ?_
    cases H
    have H := HC0
    clear HC0
    try dsimp only at H
    refine w_nx ?_
    refine w_seq' ?_
    refine w_reg ?_
    refine seq_cons (lw_run rfl rfl (la_mvs (.inl rfl) rfl rfl rfl)) ?_
    refine seq_cons (lw_run rfl rfl (la_mvs (.inr rfl) rfl rfl rfl)) ?_
    refine w_end ?_
    refine w_nx ?_
    cases H
    exact w_ret (fun a w h => fin_one h rfl (.tmp rfl rfl) ⟨⟨rfl, rfl⟩, trivial⟩)
/- loop.example/g00844/laws.heldIntS -/
def F15_L0 (kf : Nat) (a0 : (List Int)) (a1 : Int) : Nat → Int → Int → Option (Ex Int (Int × Int))
  | 0, _, _ => none
  | k + 1, v1, v2 =>
  (bif (decide (v2 < (a0.length : Int))) then
  (ix a0 v2).bind (fun z4 => (bif (z4 != v1) then
  some (.ret (-1))
  else (F15_L0 kf a0 a1 k) (IntKind.i64.wrap (v1 + 1)) (IntKind.i64.wrap (v2 + 1))))
  else some (.go (v1, v2)))
def F15 (kf : Nat) (a0 : (List Int)) (a1 : Int) : Option Int :=
  (F15_L0 kf a0 a1 kf a1 0).bind (fun o => match o with
  | .ret r => some r
  | .go (v1, v2) => some v1)
theorem r15 (kf : Nat) (a0 : (List Int)) (a1 : Int) (R : Int) (H : F15 kf a0 a1 = some R) : Ret Try.prog 15 21 [.d (.one (.sl false 3 (a0.map (c3 false)))), .d (iv a1)] [] (.d (iv R)) [] := by
  refine ret_of Try.func15 rfl rfl (by kernel_rfl) rfl ?_
  intro fr a' w' hn
  obtain ⟨w0, M, Z0, n, γ⟩ := fr
  simp only at hn
  subst hn
  revert a' w'
  show W _ _ _ _ _
  refine w_seq' ?_
  refine w_reg ?_
  refine seq_cons (lw_run rfl rfl (la_mvs (.inr rfl) rfl rfl rfl)) ?_
  refine w_end ?_
  refine w_nx ?_
  refine w_seq' ?_
  refine w_seq' ?_
  refine w_reg ?_
  refine seq_cons (lw_run rfl rfl (la_mvs (.inr rfl) rfl rfl rfl)) ?_
  refine w_end ?_
  refine w_nx ?_
  refine w_block ?_
  obtain ⟨out0, HL, HC0⟩ := bnd H
  clear H
  refine w_weak (Γ' := (fun s : Int × Int => mk [(0, .d (.one (.sl false 3 (a0.map (c3 false))))), (1, .d (iv s.1)), (5, .d (iv s.2))]) (a1, 0)) (w_loop (σ := Int × Int) (fun s => mk [(0, .d (.one (.sl false 3 (a0.map (c3 false))))), (1, .d (iv s.1)), (5, .d (iv s.2))]) (fun k s => F15_L0 kf a0 a1 k s.1 s.2 = some out0) kf (a1, 0) HL ?_) (has_le ⟨rfl, rfl, rfl, trivial⟩)
  clear HL
  rintro k0 ⟨v1, v2⟩ H
  cases k0 with
  | zero => cases H
  | succ k0 =>
  try dsimp only at H ⊢
  refine w_seq' ?_
  refine w_seq' ?_
  refine w_reg ?_
  refine seq_cons (lw_run rfl rfl (la_mvs (.inl rfl) rfl rfl rfl)) ?_
  refine seq_cons (lw_run rfl rfl (r_mvr (.inl rfl) rfl rfl rfl rfl)) ?_
  refine seq_cons (lw_run rfl rfl (la_len rfl rfl rfl Try.underlying22 rfl)) ?_
  refine seq_cons (lw_run rfl rfl (la_bin rfl rfl rfl rfl rfl rfl)) ?_
  refine w_end ?_
  refine w_nx ?_
  refine w_cond rfl (fun hb3 => ?_) (fun hb3 => ?_)
  · replace H := bif_t H hb3
    refine w_skip ?_
    refine w_nx ?_
    refine w_seq' ?_
    refine w_block ?_
    refine w_seq' ?_
    refine w_seq' ?_
    refine w_reg ?_
    refine seq_cons (lw_run rfl rfl (r_mvr (.inl rfl) rfl rfl rfl rfl)) ?_
    refine seq_cons (lw_run rfl rfl (la_mvs (.inl rfl) rfl rfl rfl)) ?_
    obtain ⟨z4, hz4, H⟩ := bnd H
    refine seq_cons (lw_run rfl rfl (r_ix rfl rfl rfl e22 rfl rfl hz4 rfl)) ?_
    refine seq_cons (lw_run rfl rfl (r_ld rfl rfl rfl fl3 rfl rfl)) ?_
    refine seq_cons (lw_run rfl rfl (la_mvs (.inl rfl) rfl rfl rfl)) ?_
    refine seq_cons (lw_run rfl rfl (la_bin rfl rfl rfl rfl rfl rfl)) ?_
    refine w_end ?_
    refine w_nx ?_
    refine w_cond rfl (fun hb5 => ?_) (fun hb5 => ?_)
    · replace H := bif_t H hb5
      refine w_seq' ?_
      refine w_reg ?_
      refine seq_cons (lw_run rfl rfl (la_mvs (.inr rfl) rfl rfl rfl)) ?_
      refine w_end ?_
      refine w_nx ?_
      cases H
      try dsimp only at HC0
      cases HC0
      exact w_ret (fun a w h => fin_one h rfl (.tmp rfl rfl) trivial)
    · replace H := bif_f H hb5
      refine w_skip ?_
      refine w_nx ?_
      refine w_reg ?_
      refine seq_cons (lw_run rfl rfl (la_mvs (.inl rfl) rfl rfl rfl)) ?_
      refine seq_cons (lw_run rfl rfl (la_bin rfl rfl rfl rfl rfl rfl)) ?_
      refine seq_cons (lw_run rfl rfl (la_mvs (.inr rfl) rfl rfl rfl)) ?_
      refine w_end ?_
      refine q_nb ?_
      refine w_nx ?_
      refine w_reg ?_
      refine seq_cons (lw_run rfl rfl (la_mvs (.inl rfl) rfl rfl rfl)) ?_
      refine seq_cons (lw_run rfl rfl (la_bin rfl rfl rfl rfl rfl rfl)) ?_
      refine seq_cons (lw_run rfl rfl (la_mvs (.inr rfl) rfl rfl rfl)) ?_
      refine w_end ?_
      refine q_nt ?_
      exact fun a w h => ⟨k0, ((IntKind.i64.wrap (v1 + 1)), (IntKind.i64.wrap (v2 + 1))), Nat.lt_succ_self k0, H, h.weaken (has_le ⟨rfl, rfl, rfl, trivial⟩)⟩
  · replace H := bif_f H hb3
    refine w_exit ?_
    refine q_et ?_
    refine q_et ?_
    refine q_in ?_
    cases H
    have H := HC0
    clear HC0
    try dsimp only at H
    refine w_nx ?_
    refine w_seq' ?_
    refine w_reg ?_
    refine seq_cons (lw_run rfl rfl (la_mvs (.inl rfl) rfl rfl rfl)) ?_
    refine seq_cons (lw_run rfl rfl (la_mvs (.inr rfl) rfl rfl rfl)) ?_
    refine w_end ?_
    refine w_nx ?_
    cases H
    exact w_ret (fun a w h => fin_one h rfl (.tmp rfl rfl) trivial)
/- loop.example/g00844/laws.heldIntSS -/
def F52_L0 (kf : Nat) (a0 : (List (List Int))) (a1 : Int) : Nat → Int → Int → Option (Ex Int (Int × Int))
  | 0, _, _ => none
  | k + 1, v1, v2 =>
  (bif (decide (v2 < (a0.length : Int))) then
  (ix a0 v2).bind (fun z4 => (F15 kf z4 v1).bind (fun y5 => (bif (decide (y5 < 0)) then
  some (.ret (-1))
  else (F52_L0 kf a0 a1 k) y5 (IntKind.i64.wrap (v2 + 1)))))
  else some (.go (v1, v2)))
def F52 (kf : Nat) (a0 : (List (List Int))) (a1 : Int) : Option Int :=
  (F52_L0 kf a0 a1 kf a1 0).bind (fun o => match o with
  | .ret r => some r
  | .go (v1, v2) => some v1)
theorem r52 (kf : Nat) (a0 : (List (List Int))) (a1 : Int) (R : Int) (H : F52 kf a0 a1 = some R) : Ret Try.prog 52 21 [.d (.one (.sl false 22 (a0.map (c22 false)))), .d (iv a1)] [] (.d (iv R)) [] := by
  refine ret_of Try.func52 rfl rfl (by kernel_rfl) rfl ?_
  intro fr a' w' hn
  obtain ⟨w0, M, Z0, n, γ⟩ := fr
  simp only at hn
  subst hn
  revert a' w'
  show W _ _ _ _ _
  refine w_seq' ?_
  refine w_reg ?_
  refine seq_cons (lw_run rfl rfl (la_mvs (.inr rfl) rfl rfl rfl)) ?_
  refine w_end ?_
  refine w_nx ?_
  refine w_seq' ?_
  refine w_seq' ?_
  refine w_reg ?_
  refine seq_cons (lw_run rfl rfl (la_mvs (.inr rfl) rfl rfl rfl)) ?_
  refine w_end ?_
  refine w_nx ?_
  refine w_block ?_
  obtain ⟨out0, HL, HC0⟩ := bnd H
  clear H
  refine w_weak (Γ' := (fun s : Int × Int => mk [(0, .d (.one (.sl false 22 (a0.map (c22 false))))), (1, .d (iv s.1)), (5, .d (iv s.2))]) (a1, 0)) (w_loop (σ := Int × Int) (fun s => mk [(0, .d (.one (.sl false 22 (a0.map (c22 false))))), (1, .d (iv s.1)), (5, .d (iv s.2))]) (fun k s => F52_L0 kf a0 a1 k s.1 s.2 = some out0) kf (a1, 0) HL ?_) (has_le ⟨rfl, rfl, rfl, trivial⟩)
  clear HL
  rintro k0 ⟨v1, v2⟩ H
  cases k0 with
  | zero => cases H
  | succ k0 =>
  try dsimp only at H ⊢
  refine w_seq' ?_
  refine w_seq' ?_
  refine w_reg ?_
  refine seq_cons (lw_run rfl rfl (la_mvs (.inl rfl) rfl rfl rfl)) ?_
  refine seq_cons (lw_run rfl rfl (r_mvr (.inl rfl) rfl rfl rfl rfl)) ?_
  refine seq_cons (lw_run rfl rfl (la_len rfl rfl rfl Try.underlying52 rfl)) ?_
  refine seq_cons (lw_run rfl rfl (la_bin rfl rfl rfl rfl rfl rfl)) ?_
  refine w_end ?_
  refine w_nx ?_
  refine w_cond rfl (fun hb3 => ?_) (fun hb3 => ?_)
  · replace H := bif_t H hb3
    refine w_skip ?_
    refine w_nx ?_
    refine w_seq' ?_
    refine w_block ?_
    refine w_seq' ?_
    refine w_reg ?_
    refine seq_cons (lw_run rfl rfl (r_mvr (.inl rfl) rfl rfl rfl rfl)) ?_
    refine seq_cons (lw_run rfl rfl (la_mvs (.inl rfl) rfl rfl rfl)) ?_
    obtain ⟨z4, hz4, H⟩ := bnd H
    refine seq_cons (lw_run rfl rfl (r_ix rfl rfl rfl e52 rfl rfl hz4 rfl)) ?_
    refine seq_cons (lw_run rfl rfl (r_ld rfl rfl rfl fl22 rfl rfl)) ?_
    refine seq_cons (lw_run rfl rfl (la_mvs (.inl rfl) rfl rfl rfl)) ?_
    obtain ⟨y5, hy5, H⟩ := bnd H
    refine seq_cons (lw_run rfl rfl (r_call0 [] rfl rfl rfl rfl (r15 kf z4 v1 _ hy5) rfl rfl rfl rfl rfl rfl (.inl rfl))) ?_
    refine seq_cons (lw_run rfl rfl (la_mvs (.inr rfl) rfl rfl rfl)) ?_
    refine w_end ?_
    refine w_nx ?_
    refine w_seq' ?_
    refine w_reg ?_
    refine seq_cons (lw_run rfl rfl (la_mvs (.inl rfl) rfl rfl rfl)) ?_
    refine seq_cons (lw_run rfl rfl (la_bin rfl rfl rfl rfl rfl rfl)) ?_
    refine w_end ?_
    refine w_nx ?_
    refine w_cond rfl (fun hb6 => ?_) (fun hb6 => ?_)
    · replace H := bif_t H hb6
      refine w_seq' ?_
      refine w_reg ?_
      refine seq_cons (lw_run rfl rfl (la_mvs (.inr rfl) rfl rfl rfl)) ?_
      refine w_end ?_
      refine w_nx ?_
      cases H
      try dsimp only at HC0
      cases HC0
      exact w_ret (fun a w h => fin_one h rfl (.tmp rfl rfl) trivial)
    · replace H := bif_f H hb6
      refine w_skip ?_
      refine q_nb ?_
      refine w_nx ?_
      refine w_reg ?_
      refine seq_cons (lw_run rfl rfl (la_mvs (.inl rfl) rfl rfl rfl)) ?_
      refine seq_cons (lw_run rfl rfl (la_bin rfl rfl rfl rfl rfl rfl)) ?_
      refine seq_cons (lw_run rfl rfl (la_mvs (.inr rfl) rfl rfl rfl)) ?_
      refine w_end ?_
      refine q_nt ?_
      exact fun a w h => ⟨k0, (y5, (IntKind.i64.wrap (v2 + 1))), Nat.lt_succ_self k0, H, h.weaken (has_le ⟨rfl, rfl, rfl, trivial⟩)⟩
  · replace H := bif_f H hb3
    refine w_exit ?_
    refine q_et ?_
    refine q_et ?_
    refine q_in ?_
    cases H
    have H := HC0
    clear HC0
    try dsimp only at H
    refine w_nx ?_
    refine w_seq' ?_
    refine w_reg ?_
    refine seq_cons (lw_run rfl rfl (la_mvs (.inl rfl) rfl rfl rfl)) ?_
    refine seq_cons (lw_run rfl rfl (la_mvs (.inr rfl) rfl rfl rfl)) ?_
    refine w_end ?_
    refine w_nx ?_
    cases H
    exact w_ret (fun a w h => fin_one h rfl (.tmp rfl rfl) trivial)
/- loop.example/g00844/laws.heldIntSSS -/
def F33_L0 (kf : Nat) (a0 : (List (List (List Int)))) (a1 : Int) : Nat → Int → Int → Option (Ex Int (Int × Int))
  | 0, _, _ => none
  | k + 1, v1, v2 =>
  (bif (decide (v2 < (a0.length : Int))) then
  (ix a0 v2).bind (fun z4 => (F52 kf z4 v1).bind (fun y5 => (bif (decide (y5 < 0)) then
  some (.ret (-1))
  else (F33_L0 kf a0 a1 k) y5 (IntKind.i64.wrap (v2 + 1)))))
  else some (.go (v1, v2)))
def F33 (kf : Nat) (a0 : (List (List (List Int)))) (a1 : Int) : Option Int :=
  (F33_L0 kf a0 a1 kf a1 0).bind (fun o => match o with
  | .ret r => some r
  | .go (v1, v2) => some v1)
theorem r33 (kf : Nat) (a0 : (List (List (List Int)))) (a1 : Int) (R : Int) (H : F33 kf a0 a1 = some R) : Ret Try.prog 33 21 [.d (.one (.sl false 52 (a0.map (c52 false)))), .d (iv a1)] [] (.d (iv R)) [] := by
  refine ret_of Try.func33 rfl rfl (by kernel_rfl) rfl ?_
  intro fr a' w' hn
  obtain ⟨w0, M, Z0, n, γ⟩ := fr
  simp only at hn
  subst hn
  revert a' w'
  show W _ _ _ _ _
  refine w_seq' ?_
  refine w_reg ?_
  refine seq_cons (lw_run rfl rfl (la_mvs (.inr rfl) rfl rfl rfl)) ?_
  refine w_end ?_
  refine w_nx ?_
  refine w_seq' ?_
  refine w_seq' ?_
  refine w_reg ?_
  refine seq_cons (lw_run rfl rfl (la_mvs (.inr rfl) rfl rfl rfl)) ?_
  refine w_end ?_
  refine w_nx ?_
  refine w_block ?_
  obtain ⟨out0, HL, HC0⟩ := bnd H
  clear H
  refine w_weak (Γ' := (fun s : Int × Int => mk [(0, .d (.one (.sl false 52 (a0.map (c52 false))))), (1, .d (iv s.1)), (5, .d (iv s.2))]) (a1, 0)) (w_loop (σ := Int × Int) (fun s => mk [(0, .d (.one (.sl false 52 (a0.map (c52 false))))), (1, .d (iv s.1)), (5, .d (iv s.2))]) (fun k s => F33_L0 kf a0 a1 k s.1 s.2 = some out0) kf (a1, 0) HL ?_) (has_le ⟨rfl, rfl, rfl, trivial⟩)
  clear HL
  rintro k0 ⟨v1, v2⟩ H
  cases k0 with
  | zero => cases H
  | succ k0 =>
  try dsimp only at H ⊢
  refine w_seq' ?_
  refine w_seq' ?_
  refine w_reg ?_
  refine seq_cons (lw_run rfl rfl (la_mvs (.inl rfl) rfl rfl rfl)) ?_
  refine seq_cons (lw_run rfl rfl (r_mvr (.inl rfl) rfl rfl rfl rfl)) ?_
  refine seq_cons (lw_run rfl rfl (la_len rfl rfl rfl Try.underlying29 rfl)) ?_
  refine seq_cons (lw_run rfl rfl (la_bin rfl rfl rfl rfl rfl rfl)) ?_
  refine w_end ?_
  refine w_nx ?_
  refine w_cond rfl (fun hb3 => ?_) (fun hb3 => ?_)
  · replace H := bif_t H hb3
    refine w_skip ?_
    refine w_nx ?_
    refine w_seq' ?_
    refine w_block ?_
    refine w_seq' ?_
    refine w_reg ?_
    refine seq_cons (lw_run rfl rfl (r_mvr (.inl rfl) rfl rfl rfl rfl)) ?_
    refine seq_cons (lw_run rfl rfl (la_mvs (.inl rfl) rfl rfl rfl)) ?_
    obtain ⟨z4, hz4, H⟩ := bnd H
    refine seq_cons (lw_run rfl rfl (r_ix rfl rfl rfl e29 rfl rfl hz4 rfl)) ?_
    refine seq_cons (lw_run rfl rfl (r_ld rfl rfl rfl fl52 rfl rfl)) ?_
    refine seq_cons (lw_run rfl rfl (la_mvs (.inl rfl) rfl rfl rfl)) ?_
    obtain ⟨y5, hy5, H⟩ := bnd H
    refine seq_cons (lw_run rfl rfl (r_call0 [] rfl rfl rfl rfl (r52 kf z4 v1 _ hy5) rfl rfl rfl rfl rfl rfl (.inl rfl))) ?_
    refine seq_cons (lw_run rfl rfl (la_mvs (.inr rfl) rfl rfl rfl)) ?_
    refine w_end ?_
    refine w_nx ?_
    refine w_seq' ?_
    refine w_reg ?_
    refine seq_cons (lw_run rfl rfl (la_mvs (.inl rfl) rfl rfl rfl)) ?_
    refine seq_cons (lw_run rfl rfl (la_bin rfl rfl rfl rfl rfl rfl)) ?_
    refine w_end ?_
    refine w_nx ?_
    refine w_cond rfl (fun hb6 => ?_) (fun hb6 => ?_)
    · replace H := bif_t H hb6
      refine w_seq' ?_
      refine w_reg ?_
      refine seq_cons (lw_run rfl rfl (la_mvs (.inr rfl) rfl rfl rfl)) ?_
      refine w_end ?_
      refine w_nx ?_
      cases H
      try dsimp only at HC0
      cases HC0
      exact w_ret (fun a w h => fin_one h rfl (.tmp rfl rfl) trivial)
    · replace H := bif_f H hb6
      refine w_skip ?_
      refine q_nb ?_
      refine w_nx ?_
      refine w_reg ?_
      refine seq_cons (lw_run rfl rfl (la_mvs (.inl rfl) rfl rfl rfl)) ?_
      refine seq_cons (lw_run rfl rfl (la_bin rfl rfl rfl rfl rfl rfl)) ?_
      refine seq_cons (lw_run rfl rfl (la_mvs (.inr rfl) rfl rfl rfl)) ?_
      refine w_end ?_
      refine q_nt ?_
      exact fun a w h => ⟨k0, (y5, (IntKind.i64.wrap (v2 + 1))), Nat.lt_succ_self k0, H, h.weaken (has_le ⟨rfl, rfl, rfl, trivial⟩)⟩
  · replace H := bif_f H hb3
    refine w_exit ?_
    refine q_et ?_
    refine q_et ?_
    refine q_in ?_
    cases H
    have H := HC0
    clear HC0
    try dsimp only at H
    refine w_nx ?_
    refine w_seq' ?_
    refine w_reg ?_
    refine seq_cons (lw_run rfl rfl (la_mvs (.inl rfl) rfl rfl rfl)) ?_
    refine seq_cons (lw_run rfl rfl (la_mvs (.inr rfl) rfl rfl rfl)) ?_
    refine w_end ?_
    refine w_nx ?_
    cases H
    exact w_ret (fun a w h => fin_one h rfl (.tmp rfl rfl) trivial)
/- loop.example/g00844/laws.FnExactStoreFrom -/
def F7_J0 (kf : Nat) (a0 : (List S69)) (a1 : Int) (y1 : Int) (y3 : (List S69)) (y4 : (List (List (List Int)))) (y5 : (List S69)) (y6 : (List (List (List Int)))) (y7 : Bool) (y9 : (List S69)) (y10 : Bool) (y12 : (Int × (List S69))) (v15 : Bool) : Option (Bool) :=
  (bif v15 then
  some false
  else (F32 kf y6 1).bind (fun y17 => (F33 kf y17.2 1).bind (fun y18 => (bif (decide (y18 < 0)) then
  some false
  else (bif (y18 != y17.1) then
  some false
  else (F28 kf a0).bind (fun y21 => (F29 kf y21 a1).bind (fun y22 => (F20 kf y22 y4).bind (fun y23 => (bif (!y23) then
  some false
  else (F33 kf y17.2 1).bind (fun y25 => (bif (decide (y25 < 0)) then
  some false
  else (bif (y25 != y17.1) then
  some false
  else some true))))))))))))
def F7 (kf : Nat) (a0 : (List S69)) (a1 : Int) : Option Bool :=
  (F26 kf a0 1048576).bind (fun y1 => (bif (decide (y1 < 0)) then
  some true
  else (F28 kf a0).bind (fun y3 => (F27 kf y3 a1).bind (fun y4 => (F28 kf a0).bind (fun y5 => (F29 kf y5 a1).bind (fun y6 => (F20 kf y6 y4).bind (fun y7 => (bif (!y7) then
  some false
  else (F28 kf a0).bind (fun y9 => (F30 kf y5 y9).bind (fun y10 => (bif (!y10) then
  some false
  else (F31 kf y5 1).bind (fun y12 => (bif (decide (y12.1 < 0)) then
  F7_J0 kf a0 a1 y1 y3 y4 y5 y6 y7 y9 y10 y12 true
  else (F20 kf y6 y4).bind (fun y29 => F7_J0 kf a0 a1 y1 y3 y4 y5 y6 y7 y9 y10 y12 (!y29)))))))))))))))
theorem r7 (kf : Nat) (a0 : (List S69)) (a1 : Int) (R : Bool) (H : F7 kf a0 a1 = some R) : Ret Try.prog 7 74 [.d (.one (.sl false 69 (a0.map (c69 false)))), .d (iv a1)] [] (.d (bv R)) [] := by
  refine ret_of Try.func7 rfl rfl (by kernel_rfl) rfl ?_
  intro fr a' w' hn
  obtain ⟨w0, M, Z0, n, γ⟩ := fr
  simp only at hn
  subst hn
  revert a' w'
  show W _ _ _ _ _
  refine w_seq' ?_
  refine w_reg ?_
  refine seq_cons (lw_run rfl rfl (la_mvs (.inr rfl) rfl rfl rfl)) ?_
  refine w_end ?_
  refine w_nx ?_
  refine w_seq' ?_
  refine w_reg ?_
  refine seq_cons (lw_run rfl rfl (la_mvs (.inr rfl) rfl rfl rfl)) ?_
  refine w_end ?_
  refine w_nx ?_
  refine w_seq' ?_
  refine w_reg ?_
  refine seq_cons (lw_run rfl rfl (r_mvr (.inl rfl) rfl rfl rfl rfl)) ?_
  refine seq_cons (lw_run rfl rfl (la_mvs (.inl rfl) rfl rfl rfl)) ?_
  obtain ⟨y1, hy1, H⟩ := bnd H
  refine seq_cons (lw_run rfl rfl (r_call0 [] rfl rfl rfl rfl (r26 kf a0 1048576 _ hy1) rfl rfl rfl rfl rfl rfl (.inl rfl))) ?_
  refine seq_cons (lw_run rfl rfl (la_mvs (.inr rfl) rfl rfl rfl)) ?_
  refine w_end ?_
  refine w_nx ?_
  refine w_seq' ?_
  refine w_seq' ?_
  refine w_reg ?_
  refine seq_cons (lw_run rfl rfl (la_mvs (.inl rfl) rfl rfl rfl)) ?_
  refine seq_cons (lw_run rfl rfl (la_bin rfl rfl rfl rfl rfl rfl)) ?_
  refine w_end ?_
  refine w_nx ?_
  refine w_cond rfl (fun hb2 => ?_) (fun hb2 => ?_)
  · replace H := bif_t H hb2
    refine w_seq' ?_
    refine w_reg ?_
    refine seq_cons (lw_run rfl rfl (la_mvs (.inr rfl) rfl rfl rfl)) ?_
    refine w_end ?_
    refine w_nx ?_
    cases H
    exact w_ret (fun a w h => fin_one h rfl (.tmp rfl rfl) trivial)
  · replace H := bif_f H hb2
    refine w_skip ?_
    refine w_nx ?_
    refine w_seq' ?_
    refine w_reg ?_
    refine seq_cons (lw_run rfl rfl (r_mvr (.inl rfl) rfl rfl rfl rfl)) ?_
    obtain ⟨y3, hy3, H⟩ := bnd H
    refine seq_cons (lw_run rfl rfl (r_call0 [] rfl rfl rfl rfl (r28 kf a0 _ hy3) rfl rfl rfl rfl rfl rfl (.inl rfl))) ?_
    refine seq_cons (lw_run rfl rfl (la_mvs (.inl rfl) rfl rfl rfl)) ?_
    obtain ⟨y4, hy4, H⟩ := bnd H
    refine seq_cons (lw_run rfl rfl (r_call0 [19] rfl rfl rfl rfl (r27 kf y3 a1 _ hy4) rfl (by simp only [List.map, shD, shC_sl, List.map_map, Function.comp_def, sh73]) rfl rfl rfl rfl (.inr (clean_one (cl_s cl52))))) ?_
    refine seq_cons (lw_run rfl rfl (la_mvo (.inr rfl) rfl rfl rfl rfl rfl)) ?_
    refine w_end ?_
    refine w_nx ?_
    refine w_seq' ?_
    refine w_reg ?_
    refine seq_cons (lw_run rfl rfl (r_mvr (.inl rfl) rfl rfl rfl rfl)) ?_
    obtain ⟨y5, hy5, H⟩ := bnd H
    refine seq_cons (lw_run rfl rfl (r_call0 [] rfl rfl rfl rfl (r28 kf a0 _ hy5) rfl rfl rfl rfl rfl rfl (.inl rfl))) ?_
    refine seq_cons (lw_run rfl rfl (la_mvo (.inr rfl) rfl rfl rfl rfl rfl)) ?_
    refine w_end ?_
    refine w_nx ?_
    refine w_seq' ?_
    refine w_reg ?_
    refine seq_cons (lw_run rfl rfl (la_eq (.inl rfl) rfl rfl rfl (.inl rfl) rfl)) ?_
    refine seq_cons (lw_run rfl rfl (la_mvs (.inl rfl) rfl rfl rfl)) ?_
    obtain ⟨y6, hy6, H⟩ := bnd H
    refine seq_cons (lw_run rfl rfl (r_call0 [7] rfl rfl rfl rfl (r29 kf y5 a1 _ hy6) rfl (by simp only [List.map, shD, shC_sl, List.map_map, Function.comp_def, sh73]) rfl rfl rfl rfl (.inr (clean_one (cl_s cl52))))) ?_
    refine seq_cons (lw_run rfl rfl (la_mvo (.inr rfl) rfl rfl rfl rfl rfl)) ?_
    refine w_end ?_
    refine w_nx ?_
    refine w_seq' ?_
    refine w_seq' ?_
    refine w_reg ?_
    refine seq_cons (lw_run rfl rfl (la_eq (.inl rfl) rfl rfl rfl (.inl rfl) rfl)) ?_
    refine seq_cons (lw_run rfl rfl (la_eq (.inl rfl) rfl rfl rfl (.inl rfl) rfl)) ?_
    obtain ⟨y7, hy7, H⟩ := bnd H
    refine seq_cons (lw_run rfl rfl (r_call0 [8, 6] rfl rfl rfl rfl (r20 kf y6 y4 _ hy7) rfl (by simp only [List.map, shD, shC_sl, List.map_map, Function.comp_def, sh52, sh52]) rfl rfl rfl rfl (.inr (clean_v _)))) ?_
    refine seq_cons (lw_run rfl rfl (la_not rfl rfl rfl rfl)) ?_
    refine w_end ?_
    refine w_nx ?_
    refine w_cond rfl (fun hb8 => ?_) (fun hb8 => ?_)
    · replace H := bif_t H hb8
      refine w_seq' ?_
      refine w_reg ?_
      refine seq_cons (lw_run rfl rfl (la_mvs (.inr rfl) rfl rfl rfl)) ?_
      refine w_end ?_
      refine w_nx ?_
      cases H
      exact w_ret (fun a w h => fin_one h rfl (.tmp rfl rfl) trivial)
    · replace H := bif_f H hb8
      refine w_skip ?_
      refine w_nx ?_
      refine w_seq' ?_
      refine w_seq' ?_
      refine w_reg ?_
      refine seq_cons (lw_run rfl rfl (la_eq (.inl rfl) rfl rfl rfl (.inl rfl) rfl)) ?_
      refine seq_cons (lw_run rfl rfl (r_mvr (.inl rfl) rfl rfl rfl rfl)) ?_
      obtain ⟨y9, hy9, H⟩ := bnd H
      refine seq_cons (lw_run rfl rfl (r_call0 [] rfl rfl rfl rfl (r28 kf a0 _ hy9) rfl rfl rfl rfl rfl rfl (.inl rfl))) ?_
      obtain ⟨y10, hy10, H⟩ := bnd H
      refine seq_cons (lw_run rfl rfl (r_call0 [7, 33] rfl rfl rfl rfl (r30 kf y5 y9 _ hy10) rfl (by simp only [List.map, shD, shC_sl, List.map_map, Function.comp_def, sh73, sh73]) rfl rfl rfl rfl (.inr (clean_v _)))) ?_
      refine seq_cons (lw_run rfl rfl (la_not rfl rfl rfl rfl)) ?_
      refine w_end ?_
      refine w_nx ?_
      refine w_cond rfl (fun hb11 => ?_) (fun hb11 => ?_)
      · replace H := bif_t H hb11
        refine w_seq' ?_
        refine w_reg ?_
        refine seq_cons (lw_run rfl rfl (la_mvs (.inr rfl) rfl rfl rfl)) ?_
        refine w_end ?_
        refine w_nx ?_
        cases H
        exact w_ret (fun a w h => fin_one h rfl (.tmp rfl rfl) trivial)
      · replace H := bif_f H hb11
        refine w_skip ?_
        refine w_nx ?_
        refine w_seq' ?_
        refine w_reg ?_
        refine seq_cons (lw_run rfl rfl (la_mvs (.inr rfl) rfl rfl rfl)) ?_
        refine w_end ?_
        refine w_nx ?_
        refine w_seq' ?_
        refine w_reg ?_
        refine seq_cons (lw_run rfl rfl (la_eq (.inl rfl) rfl rfl rfl (.inl rfl) rfl)) ?_
        refine seq_cons (lw_run rfl rfl (la_mvs (.inl rfl) rfl rfl rfl)) ?_
        obtain ⟨y12, hy12, H⟩ := bnd H
        refine seq_cons (lw_run rfl rfl (r_call [7] [] rfl rfl rfl rfl (r31 kf y5 1 _ hy12) rfl rfl rfl rfl rfl rfl rfl rfl rfl (.inl rfl))) ?_
        refine seq_cons (lw_run rfl rfl (la_mvs (.inr rfl) rfl rfl rfl)) ?_
        refine w_end ?_
        refine w_nx ?_
        refine w_seq' ?_
        refine w_join (σ := Bool) (fun s => mk [(0, .d (.one (.sl false 69 (a0.map (c69 false))))), (1, .d (iv a1)), (4, .d (bv false)), (6, .d (.one (.sl true 52 (y4.map (c52 true))))), (8, .d (.one (.sl true 52 (y6.map (c52 true))))), (46, .d (bv s))]) (fun s => F7_J0 kf a0 a1 y1 y3 y4 y5 y6 y7 y9 y10 y12 s = some R) ?_ ?_
        · refine w_reg ?_
          refine seq_cons (lw_run rfl rfl (la_mvs (.inl rfl) rfl rfl rfl)) ?_
          refine seq_cons (lw_run rfl rfl (la_bin rfl rfl rfl rfl rfl rfl)) ?_
          refine seq_cons (lw_run rfl rfl (la_mvs (.inl rfl) rfl rfl rfl)) ?_
          refine bcase (decide (y12.1 < 0)) (fun hb28 => ?_) (fun hb28 => ?_)
          · replace H := bif_t H hb28
            refine seq_cons (lw_off rfl rfl rfl rfl rfl (by exact congrArg gb hb28) rfl rfl rfl) ?_
            refine seq_cons (lw_off rfl rfl rfl rfl rfl (by exact congrArg gb hb28) rfl rfl rfl) ?_
            refine seq_cons (lw_off rfl rfl rfl rfl rfl (by exact congrArg gb hb28) rfl rfl rfl) ?_
            refine seq_cons (lw_off rfl rfl rfl rfl rfl (by exact congrArg gb hb28) rfl rfl rfl) ?_
            refine seq_cons (lw_run rfl rfl (r_pick (b := true) rfl rfl rfl (by exact congrArg gb hb28) rfl)) ?_
            refine w_end ?_
            exact fun a w h => ⟨true, H, h.weaken (has_le ⟨rfl, rfl, rfl, rfl, rfl, rfl, trivial⟩)⟩
          · replace H := bif_f H hb28
            refine seq_cons (lw_on rfl rfl rfl rfl rfl (by exact congrArg gb hb28) (la_eq (.inl rfl) rfl rfl rfl (.inl rfl) rfl)) ?_
            refine seq_cons (lw_on rfl rfl rfl rfl rfl (by exact congrArg gb hb28) (la_eq (.inl rfl) rfl rfl rfl (.inl rfl) rfl)) ?_
            obtain ⟨y29, hy29, H⟩ := bnd H
            refine seq_cons (lw_on rfl rfl rfl rfl rfl (by exact congrArg gb hb28) (r_call0 [8, 6] rfl rfl rfl rfl (r20 kf y6 y4 _ hy29) rfl (by simp only [List.map, shD, shC_sl, List.map_map, Function.comp_def, sh52, sh52]) rfl rfl rfl rfl (.inr (clean_v _)))) ?_
            refine seq_cons (lw_on rfl rfl rfl rfl rfl (by exact congrArg gb hb28) (la_not rfl rfl rfl rfl)) ?_
            refine seq_cons (lw_run rfl rfl (r_pick (b := false) rfl rfl rfl (by exact congrArg gb hb28) rfl)) ?_
            refine w_end ?_
            exact fun a w h => ⟨(!y29), H, h.weaken (has_le ⟨rfl, rfl, rfl, rfl, rfl, rfl, trivial⟩)⟩
        · rintro v15 H
          try dsimp only at H ⊢
          unfold F7_J0 at H
          refine w_cond rfl (fun hb16 => ?_) (fun hb16 => ?_)
          · replace H := bif_t H hb16
            refine w_seq' ?_
            refine w_reg ?_
            refine seq_cons (lw_run rfl rfl (la_mvs (.inr rfl) rfl rfl rfl)) ?_
            refine w_end ?_
            refine w_nx ?_
            cases H
            exact w_ret (fun a w h => fin_one h rfl (.tmp rfl rfl) trivial)
          · replace H := bif_f H hb16
            refine w_skip ?_
            refine w_nx ?_
            refine w_seq' ?_
            refine w_reg ?_
            refine seq_cons (lw_run rfl rfl (la_mvs (.inr rfl) rfl rfl rfl)) ?_
            refine w_end ?_
            refine w_nx ?_
            refine w_seq' ?_
            refine w_reg ?_
            refine seq_cons (lw_run rfl rfl (la_eq (.inl rfl) rfl rfl rfl (.inl rfl) rfl)) ?_
            refine seq_cons (lw_run rfl rfl (la_mvs (.inl rfl) rfl rfl rfl)) ?_
            obtain ⟨y17, hy17, H⟩ := bnd H
            refine seq_cons (lw_run rfl rfl (r_call [8] [] rfl rfl rfl rfl (r32 kf y6 1 _ hy17) rfl rfl rfl rfl rfl rfl rfl rfl rfl (.inl rfl))) ?_
            refine seq_cons (lw_run rfl rfl (la_mvs (.inr rfl) rfl rfl rfl)) ?_
            refine w_end ?_
            refine w_nx ?_
            refine w_seq' ?_
            refine w_reg ?_
            refine seq_cons (lw_run rfl rfl (la_mvs (.inr rfl) rfl rfl rfl)) ?_
            refine w_end ?_
            refine w_nx ?_
            refine w_seq' ?_
            refine w_reg ?_
            refine seq_cons (lw_run rfl rfl (la_eq (.inl rfl) rfl rfl rfl (.inl rfl) rfl)) ?_
            refine seq_cons (lw_run rfl rfl (la_mvs (.inl rfl) rfl rfl rfl)) ?_
            obtain ⟨y18, hy18, H⟩ := bnd H
            refine seq_cons (lw_run rfl rfl (r_call0 [8] rfl rfl rfl rfl (r33 kf y17.2 1 _ hy18) rfl (by simp only [List.map, shD, shC_sl, List.map_map, Function.comp_def, sh52]) rfl rfl rfl rfl (.inr (clean_v _)))) ?_
            refine seq_cons (lw_run rfl rfl (la_mvs (.inr rfl) rfl rfl rfl)) ?_
            refine w_end ?_
            refine w_nx ?_
            refine w_seq' ?_
            refine w_seq' ?_
            refine w_reg ?_
            refine seq_cons (lw_run rfl rfl (la_mvs (.inl rfl) rfl rfl rfl)) ?_
            refine seq_cons (lw_run rfl rfl (la_bin rfl rfl rfl rfl rfl rfl)) ?_
            refine w_end ?_
            refine w_nx ?_
            refine w_cond rfl (fun hb19 => ?_) (fun hb19 => ?_)
            · replace H := bif_t H hb19
              refine w_seq' ?_
              refine w_reg ?_
              refine seq_cons (lw_run rfl rfl (la_mvs (.inr rfl) rfl rfl rfl)) ?_
              refine w_end ?_
              refine w_nx ?_
              cases H
              exact w_ret (fun a w h => fin_one h rfl (.tmp rfl rfl) trivial)
            · replace H := bif_f H hb19
              refine w_skip ?_
              refine w_nx ?_
              refine w_seq' ?_
              refine w_seq' ?_
              refine w_reg ?_
              refine seq_cons (lw_run rfl rfl (la_mvs (.inl rfl) rfl rfl rfl)) ?_
              refine seq_cons (lw_run rfl rfl (la_mvs (.inl rfl) rfl rfl rfl)) ?_
              refine seq_cons (lw_run rfl rfl (la_bin rfl rfl rfl rfl rfl rfl)) ?_
              refine w_end ?_
              refine w_nx ?_
              refine w_cond rfl (fun hb20 => ?_) (fun hb20 => ?_)
              · replace H := bif_t H hb20
                refine w_seq' ?_
                refine w_reg ?_
                refine seq_cons (lw_run rfl rfl (la_mvs (.inr rfl) rfl rfl rfl)) ?_
                refine w_end ?_
                refine w_nx ?_
                cases H
                exact w_ret (fun a w h => fin_one h rfl (.tmp rfl rfl) trivial)
              · replace H := bif_f H hb20
                refine w_skip ?_
                refine w_nx ?_
                refine w_seq' ?_
                refine w_reg ?_
                refine seq_cons (lw_run rfl rfl (r_mvr (.inl rfl) rfl rfl rfl rfl)) ?_
                obtain ⟨y21, hy21, H⟩ := bnd H
                refine seq_cons (lw_run rfl rfl (r_call0 [] rfl rfl rfl rfl (r28 kf a0 _ hy21) rfl rfl rfl rfl rfl rfl (.inl rfl))) ?_
                refine seq_cons (lw_run rfl rfl (la_mvs (.inl rfl) rfl rfl rfl)) ?_
                obtain ⟨y22, hy22, H⟩ := bnd H
                refine seq_cons (lw_run rfl rfl (r_call0 [59] rfl rfl rfl rfl (r29 kf y21 a1 _ hy22) rfl (by simp only [List.map, shD, shC_sl, List.map_map, Function.comp_def, sh73]) rfl rfl rfl rfl (.inr (clean_one (cl_s cl52))))) ?_
                refine seq_cons (lw_run rfl rfl (la_mvo (.inr rfl) rfl rfl rfl rfl rfl)) ?_
                refine w_end ?_
                refine w_nx ?_
                refine w_seq' ?_
                refine w_seq' ?_
                refine w_reg ?_
                refine seq_cons (lw_run rfl rfl (la_eq (.inl rfl) rfl rfl rfl (.inl rfl) rfl)) ?_
                refine seq_cons (lw_run rfl rfl (la_eq (.inl rfl) rfl rfl rfl (.inl rfl) rfl)) ?_
                obtain ⟨y23, hy23, H⟩ := bnd H
                refine seq_cons (lw_run rfl rfl (r_call0 [12, 6] rfl rfl rfl rfl (r20 kf y22 y4 _ hy23) rfl (by simp only [List.map, shD, shC_sl, List.map_map, Function.comp_def, sh52, sh52]) rfl rfl rfl rfl (.inr (clean_v _)))) ?_
                refine seq_cons (lw_run rfl rfl (la_not rfl rfl rfl rfl)) ?_
                refine w_end ?_
                refine w_nx ?_
                refine w_cond rfl (fun hb24 => ?_) (fun hb24 => ?_)
                · replace H := bif_t H hb24
                  refine w_seq' ?_
                  refine w_reg ?_
                  refine seq_cons (lw_run rfl rfl (la_mvs (.inr rfl) rfl rfl rfl)) ?_
                  refine w_end ?_
                  refine w_nx ?_
                  cases H
                  exact w_ret (fun a w h => fin_one h rfl (.tmp rfl rfl) trivial)
                · replace H := bif_f H hb24
                  refine w_skip ?_
                  refine w_nx ?_
                  refine w_seq' ?_
                  refine w_reg ?_
                  refine seq_cons (lw_run rfl rfl (la_mvs (.inr rfl) rfl rfl rfl)) ?_
                  refine w_end ?_
                  refine w_nx ?_
                  refine w_seq' ?_
                  refine w_reg ?_
                  refine seq_cons (lw_run rfl rfl (la_eq (.inl rfl) rfl rfl rfl (.inl rfl) rfl)) ?_
                  refine seq_cons (lw_run rfl rfl (la_mvs (.inl rfl) rfl rfl rfl)) ?_
                  obtain ⟨y25, hy25, H⟩ := bnd H
                  refine seq_cons (lw_run rfl rfl (r_call0 [8] rfl rfl rfl rfl (r33 kf y17.2 1 _ hy25) rfl (by simp only [List.map, shD, shC_sl, List.map_map, Function.comp_def, sh52]) rfl rfl rfl rfl (.inr (clean_v _)))) ?_
                  refine seq_cons (lw_run rfl rfl (la_mvs (.inr rfl) rfl rfl rfl)) ?_
                  refine w_end ?_
                  refine w_nx ?_
                  refine w_seq' ?_
                  refine w_seq' ?_
                  refine w_reg ?_
                  refine seq_cons (lw_run rfl rfl (la_mvs (.inl rfl) rfl rfl rfl)) ?_
                  refine seq_cons (lw_run rfl rfl (la_bin rfl rfl rfl rfl rfl rfl)) ?_
                  refine w_end ?_
                  refine w_nx ?_
                  refine w_cond rfl (fun hb26 => ?_) (fun hb26 => ?_)
                  · replace H := bif_t H hb26
                    refine w_seq' ?_
                    refine w_reg ?_
                    refine seq_cons (lw_run rfl rfl (la_mvs (.inr rfl) rfl rfl rfl)) ?_
                    refine w_end ?_
                    refine w_nx ?_
                    cases H
                    exact w_ret (fun a w h => fin_one h rfl (.tmp rfl rfl) trivial)
                  · replace H := bif_f H hb26
                    refine w_skip ?_
                    refine w_nx ?_
                    refine w_seq' ?_
                    refine w_seq' ?_
                    refine w_reg ?_
                    refine seq_cons (lw_run rfl rfl (la_mvs (.inl rfl) rfl rfl rfl)) ?_
                    refine seq_cons (lw_run rfl rfl (la_mvs (.inl rfl) rfl rfl rfl)) ?_
                    refine seq_cons (lw_run rfl rfl (la_bin rfl rfl rfl rfl rfl rfl)) ?_
                    refine w_end ?_
                    refine w_nx ?_
                    refine w_cond rfl (fun hb27 => ?_) (fun hb27 => ?_)
                    · replace H := bif_t H hb27
                      refine w_seq' ?_
                      refine w_reg ?_
                      refine seq_cons (lw_run rfl rfl (la_mvs (.inr rfl) rfl rfl rfl)) ?_
                      refine w_end ?_
                      refine w_nx ?_
                      cases H
                      exact w_ret (fun a w h => fin_one h rfl (.tmp rfl rfl) trivial)
                    · replace H := bif_f H hb27
                      refine w_skip ?_
                      refine w_nx ?_
                      refine w_seq' ?_
                      refine w_reg ?_
                      refine seq_cons (lw_run rfl rfl (la_mvs (.inr rfl) rfl rfl rfl)) ?_
                      refine w_end ?_
                      refine w_nx ?_
                      cases H
                      exact w_ret (fun a w h => fin_one h rfl (.tmp rfl rfl) trivial)
end Go.Proofs.YtdclbbkkcngjnaaX
