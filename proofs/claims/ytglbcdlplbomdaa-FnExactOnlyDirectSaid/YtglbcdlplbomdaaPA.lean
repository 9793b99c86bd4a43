/- The plain law: the plain functions answer as the statement says. -/
import Derived.Test.YtglbcdlplbomdaaGA
set_option linter.all false
namespace Go.Proofs.YtglbcdlplbomdaaX
open Go Go.Proofs.YtglbcdlplbomdaaT
set_option linter.all false
@[simp] theorem V_spec_l01In (x lo hi : Int) : F_spec_l01In x lo hi = some (okIn x lo hi) := (U_spec_l01In x lo hi).out (by
  simp [okIn]; grind)
@[simp] theorem V_impl_in (x lo hi : Int) : F_impl_in x lo hi = some (okIn x lo hi) := (U_impl_in x lo hi).out (by
  simp [okIn]; grind)
@[simp] theorem V_impl_isCol (x : Int) : F_impl_isCol x = some (okIn x 0 63) := (U_impl_isCol x).out (by simp)
@[simp] theorem V_impl_isSlot (x : Int) : F_impl_isSlot x = some (okIn x 0 39) := (U_impl_isSlot x).out (by simp)
@[simp] theorem V_impl_isNum (x : Int) : F_impl_isNum x = some (okIn x (-1000000) 1000000) := (U_impl_isNum x).out (by simp)
@[simp] theorem V_spec_l02Col (x : Int) : F_spec_l02Col x = some (okIn x 0 63) := (U_spec_l02Col x).out (by simp)
@[simp] theorem V_spec_l01Number (x : Int) : F_spec_l01Number x = some (okIn x (-1000000) 1000000) := (U_spec_l01Number x).out (by simp)
@[simp] theorem V_spec_ArityOf (k : Int) : F_spec_ArityOf k = some (arity k) := (U_spec_ArityOf k).out (by
  simp [arity]; grind)
@[simp] theorem V_impl_ArityOf (k : Int) : F_impl_ArityOf k = some (arity k) := (U_impl_ArityOf k).out (by
  simp [arity]; grind)
theorem V_impl_WordOk {w : ByteArray} (hw : w.size ≤ 2147483648) : F_impl_WordOk w = some (wordOk w) := (U_impl_WordOk w).out (by
  have e := loop_chk (f := fun f s => L_impl_WordOkx0 w f s.1 s.2) (bl w) (fun i c => okIn c 97 122 || (!(decide (i = 0)) && okIn c 48 57)) false
    (fun i x a g hx => by
      have hl := (List.getElem?_eq_some_iff.1 hx).1
      rw [bl_len] at hl
      have h1 : decide ((i : Int) < (w.size : Int)) = true := by simpa using hl
      simp only [L_impl_WordOkx0, h1, cond_true, bix_some hx, Option.bind_some, wrap_nat (show i < 9223372036854775807 by omega), okIn, J_impl_WordOkx1, J_impl_WordOkx2, joinK_bif, joinK_go, joinK_ret]
      grind)
    (fun a g => by simp [L_impl_WordOkx0, bl_len]) false
  rw [e]
  simp only [wordOk, wordOkL, bl_len]
  cases allI (fun i c => okIn c 97 122 || (!(decide (i = 0)) && okIn c 48 57)) (bl w) 0 <;> simp)
theorem V_spec_WordOk (w : ByteArray) : F_spec_WordOk w = some (wordOk w) := (U_spec_WordOk w).out (by
  by_cases hw : okIn w.size 1 12 = true
  · have hw' := okIn_iff.1 hw
    have hb : 0 < (bl w).length := by rw [bl_len]; omega
    have hx0 : (bl w)[0]? = some (bl w)[0] := List.getElem?_eq_getElem hb
    have e0 := bix_some hx0
    simp only [V_spec_l01In, Option.bind_some, hw, Bool.not_true, cond_false]
    rw [show (0 : Int) = ((0 : Nat) : Int) from rfl, e0]
    simp only [Option.bind_some, joinK_go, J_spec_WordOkx0]
    have e := loop_chk (f := fun f s => L_spec_WordOkx0 w f s.1 s.2) (bl w) (fun i c => okIn c 97 122 || okIn c 48 57) false
      (fun i x a g hx => by
        have hl := (List.getElem?_eq_some_iff.1 hx).1
        rw [bl_len] at hl
        have h1 : decide ((i : Int) < (w.size : Int)) = true := by simpa using hl
        simp only [L_spec_WordOkx0, h1, cond_true, bix_some hx, Option.bind_some, wrap_nat (show i < 9223372036854775807 by omega), okIn, J_spec_WordOkx2, joinK_bif, joinK_go, joinK_ret]
        grind)
      (fun a g => by simp [L_spec_WordOkx0, bl_len]) false
    rw [e]
    have hlen : okIn ((bl w).length : Int) 1 12 = true := by rw [bl_len]; exact hw
    simp only [wordOk, wordOkL, hlen, Bool.and_true]
    generalize bl w = l at hb
    match l, hb with
    | c :: l, _ =>
      have key : ∀ (l : List Int) (i : Nat), i ≠ 0 → allI (fun i c => okIn c 97 122 || (!(decide (i = 0)) && okIn c 48 57)) l i = allI (fun i c => okIn c 97 122 || okIn c 48 57) l i := by
        intro l
        induction l with
        | nil => intro i _; rfl
        | cons x xs ih => intro i hi; simp [allI, hi, ih (i + 1) (by omega)]
      simp only [allI, key l 1 (by omega), List.getElem_cons_zero]
      cases allI (fun i c => okIn c 97 122 || okIn c 48 57) l (0 + 1) <;> simp [okIn] <;> grind
  · have hw' : okIn w.size 1 12 = false := by simpa using hw
    simp [hw', wordOk, wordOkL, bl_len])
end Go.Proofs.YtglbcdlplbomdaaX
namespace Go.Proofs.YtglbcdlplbomdaaX
open Go Go.Proofs.YtglbcdlplbomdaaT
set_option linter.all false
theorem V_slices_Equal_Lint {a b : List Int} (ha : a.length ≤ 2147483648) : F_slices_Equal_Lint a b = some (decide (a = b)) := (U_slices_Equal_Lint a b).out (by
  by_cases hl : a.length = b.length
  · have h0 : ((a.length : Int) != (b.length : Int)) = false := by simp [hl]
    rw [h0]
    have e := loop_chk (f := fun f s => L_slices_Equal_Lintx0 a b f s.1 s.2) (a.zip b) (fun _ x => decide (x.1 = x.2)) false
      (fun i x v g hx => by
        obtain ⟨h1, h2⟩ := List.getElem?_zip_eq_some.1 hx
        have l1 := (List.getElem?_eq_some_iff.1 h1).1
        simp only [L_slices_Equal_Lintx0, lt_nat h1, cond_true, ix_some h1, ix_some h2, Option.bind_some, wrap_nat (show i < 9223372036854775807 by omega)]
        by_cases h : x.1 = x.2 <;> simp [h, bne_dec])
      (fun v g => by simp [L_slices_Equal_Lintx0, hl]) false
    rw [e, allI_const]
    have : (a.zip b).all (fun x => decide (x.1 = x.2)) = decide (a = b) := by
      clear e h0 ha
      induction a generalizing b with
      | nil => cases b <;> simp_all
      | cons x xs ih =>
        cases b with
        | nil => simp at hl
        | cons y ys =>
          simp only [List.length_cons, Nat.add_right_cancel_iff] at hl
          simp only [List.zip_cons_cons, List.all_cons, ih hl, List.cons.injEq]
          by_cases h1 : x = y <;> by_cases h2 : xs = ys <;> simp [h1, h2]
    rw [this]
    cases decide (a = b) <;> simp
  · have h0 : ((a.length : Int) != (b.length : Int)) = true := by simp [bne]; omega
    have : a ≠ b := fun e => hl (by rw [e])
    simp [h0, this])
theorem V_impl_sameNode {a b : SNode} (ha : a.2.2.2.2.2.2.1.length ≤ 2147483648) : F_impl_sameNode a b = some (decide (a = b)) := (U_impl_sameNode a b).out (by
  obtain ⟨k, name, col, op, num, slot, cols, u⟩ := a
  obtain ⟨k', name', col', op', num', slot', cols', u'⟩ := b
  simp only [V_slices_Equal_Lint ha, beq_toList]
  simp only [Prod.mk.injEq, beq_iff_eq]
  by_cases h1 : k = k' <;> by_cases h2 : name = name' <;> by_cases h3 : col = col' <;> by_cases h4 : op = op' <;> by_cases h5 : num = num' <;> cases slot <;> cases slot' <;> simp [h1, h2, h3, h4, h5, beq_dec])
@[simp] theorem V_impl_NodeOk_1 (x : Int) : F_impl_NodeOk_1 x = some (!okIn x 0 63) := (U_impl_NodeOk_1 x).out (by simp)
theorem findI_ge {T : Type} {p : T → Bool} {l : List T} : (match findI p l 0 with | some j => decide ((j : Int) ≥ 0) | none => decide ((-1 : Int) ≥ 0)) = l.any p := by
  cases h : findI p l 0 with
  | none => rw [findI_none.1 h]; rfl
  | some j =>
    have : l.any p = true := by
      cases ha : l.any p with
      | true => rfl
      | false => rw [findI_none.2 ha] at h; cases h
    rw [this]; simp
def fint (o : Option Nat) : Int := match o with | some j => j | none => -1
@[simp] theorem fint_neg (o : Option Nat) : decide (fint o < 0) = o.isNone := by
  cases o with
  | none => rfl
  | some j => exact nat_neg
@[simp] theorem fint_some (j : Nat) : fint (some j) = (j : Int) := rfl
@[simp] theorem fint_none : fint none = -1 := rfl
theorem V_slices_IndexFunc_Lint_impl_NodeOk_1 {l : List Int} (hl : l.length ≤ 2147483648) : F_slices_IndexFunc_Lint_impl_NodeOk_1 l = some (fint (findI (fun x => !okIn x 0 63) l 0)) := (U_slices_IndexFunc_Lint_impl_NodeOk_1 l).out (by
  have e := loop_find (f := fun f s => L_slices_IndexFunc_Lint_impl_NodeOk_1x0 l f s.1 s.2) l (fun x => !okIn x 0 63) (fun i => (i : Int))
    (fun i x v g hx => by
      have l1 := (List.getElem?_eq_some_iff.1 hx).1
      simp only [L_slices_IndexFunc_Lint_impl_NodeOk_1x0, lt_nat hx, cond_true, ix_some hx, Option.bind_some, V_impl_NodeOk_1, wrap_nat (show i < 9223372036854775807 by omega)])
    (fun v g => by simp [L_slices_IndexFunc_Lint_impl_NodeOk_1x0]) 0
  rw [e]
  cases findI (fun x => !okIn x 0 63) l 0 <;> simp [fint])
theorem fint_ge {T : Type} {p : T → Bool} {l : List T} : decide (fint (findI p l 0) ≥ 0) = l.any p := by
  rw [← findI_ge]
  cases findI p l 0 <;> rfl
theorem V_slices_ContainsFunc_Lint_impl_NodeOk_1 {l : List Int} (hl : l.length ≤ 2147483648) : F_slices_ContainsFunc_Lint_impl_NodeOk_1 l = some (l.any fun x => !okIn x 0 63) := (U_slices_ContainsFunc_Lint_impl_NodeOk_1 l).out (by
  simp only [V_slices_IndexFunc_Lint_impl_NodeOk_1 hl, Option.bind_some, fint_ge])
theorem all_not_any {T : Type} (p : T → Bool) : ∀ l : List T, (!l.any fun x => !p x) = l.all p
  | [] => rfl
  | x :: xs => by simp [← all_not_any p xs]
structure BNode (n : Nd) : Prop where
  name : n.2.1.size ≤ 2147483648
  cols : n.2.2.2.2.2.2.1.length ≤ 2147483648
theorem V_impl_NodeOk {n : SNode} (hb : BNode n) : F_impl_NodeOk n = some (nodeOk n) := (U_impl_NodeOk n).out (by
  obtain ⟨k, name, col, op, num, slot, cols, u⟩ := n
  obtain ⟨hn, hc⟩ := hb
  simp only at hn hc
  simp only [V_impl_WordOk hn, V_impl_isCol, V_impl_in, V_impl_isSlot, V_impl_isNum, V_slices_ContainsFunc_Lint_impl_NodeOk_1 hc, Option.bind_some, all_not_any]
  by_cases h0 : k = 0
  · subst h0
    simp only [nodeOk, beq_self_eq_true, cond_true, joinK_go, J_impl_NodeOkx0]
    simp only [V_impl_sameNode (a := (0, ByteArray.empty, col, op, num, slot, cols, ())) hc]
    cases wordOk name <;> cases slot <;> simp <;> grind
  have e0 : (k == 0) = false := by simpa using h0
  by_cases h1 : k = 1
  · subst h1
    simp only [nodeOk, e0, beq_self_eq_true, cond_true, cond_false, joinK_bif, joinK_go, J_impl_NodeOkx0, J_impl_NodeOkx1, J_impl_NodeOkx2, V_impl_isSlot, V_impl_isNum, Option.bind_some]
    simp only [V_impl_sameNode (a := (0, name, 0, 0, 0, false, cols, ())) hc]
    simp only [okIn, Prod.mk.injEq, Bool.decide_and]
    generalize decide (name = ByteArray.empty) = dn
    generalize decide (cols = []) = dc
    by_cases hz : num = 0
    · subst hz
      by_cases h2 : op = 3 <;> cases slot <;> cases dn <;> cases dc <;> simp [h2] <;> grind
    · by_cases h2 : op = 3 <;> cases slot <;> cases dn <;> cases dc <;> simp [h2, hz] <;> grind
  have e1 : (k == 1) = false := by simpa using h1
  by_cases h2 : k = 2
  · subst h2
    simp only [nodeOk, e0, e1, beq_self_eq_true, cond_true, cond_false, joinK_bif, joinK_go, J_impl_NodeOkx0, J_impl_NodeOkx3, Option.bind_some]
    simp only [V_impl_sameNode (a := (0, name, col, op, num, slot, [], ())) (by simp)]
    cases cols.all (fun c => okIn c 0 63) <;> cases okIn cols.length 1 6 <;> cases slot <;> simp <;> grind
  have e2 : (k == 2) = false := by simpa using h2
  by_cases h3 : k = 3
  · subst h3
    simp only [nodeOk, e0, e1, e2, beq_self_eq_true, cond_true, cond_false, joinK_bif, joinK_go, J_impl_NodeOkx0, J_impl_NodeOkx4, Option.bind_some]
    simp only [V_impl_sameNode (a := (0, name, 0, op, 0, slot, cols, ())) hc]
    cases okIn col 0 63 <;> cases okIn num 0 63 <;> cases slot <;> simp <;> grind
  have e3 : (k == 3) = false := by simpa using h3
  by_cases h5 : k = 5
  · subst h5
    simp only [nodeOk, e0, e1, e2, e3, beq_self_eq_true, cond_true, cond_false, joinK_bif, joinK_go, J_impl_NodeOkx0, Option.bind_some]
    simp only [V_impl_sameNode (a := (0, name, 0, op, num, slot, cols, ())) hc]
    cases okIn col 0 63 <;> cases slot <;> simp <;> grind
  have e5 : (k == 5) = false := by simpa using h5
  by_cases h6 : k = 6
  · subst h6
    simp only [nodeOk, e0, e1, e2, e3, e5, beq_self_eq_true, cond_true, cond_false, joinK_bif, joinK_go, J_impl_NodeOkx0, J_impl_NodeOkx5, Option.bind_some]
    simp only [V_impl_sameNode (a := (0, name, col, op, 0, false, cols, ())) hc]
    cases okIn num 0 1000000 <;> cases okIn num 0 39 <;> cases slot <;> simp <;> grind
  have e6 : (k == 6) = false := by simpa using h6
  simp only [nodeOk, e0, e1, e2, e3, e5, e6, h0, h1, h2, h3, h5, h6, cond_false, joinK_bif, joinK_go, J_impl_NodeOkx6, if_false]
  by_cases h4 : k = 4
  · subst h4
    simp only [beq_self_eq_true, cond_true, joinK_go, J_impl_NodeOkx0, V_impl_sameNode (a := (0, name, col, op, num, slot, cols, ())) hc]
    cases slot <;> simp <;> grind
  have e4 : (k == 4) = false := by simpa using h4
  by_cases h7 : k = 7
  · subst h7
    simp only [e4, beq_self_eq_true, cond_true, cond_false, joinK_go, J_impl_NodeOkx0, V_impl_sameNode (a := (0, name, col, op, num, slot, cols, ())) hc]
    cases slot <;> simp <;> grind
  have e7 : (k == 7) = false := by simpa using h7
  simp [e4, e7, h4, h7])
theorem V_spec_NodeOk {n : SNode} (hb : BNode n) : F_spec_NodeOk n = some (nodeOk n) := (U_spec_NodeOk n).out (by
  obtain ⟨k, name, col, op, num, slot, cols, u⟩ := n
  obtain ⟨hn, hc⟩ := hb
  simp only at hn hc
  have hlen : decide ((cols.length : Int) > 0) = !decide (cols = []) := by cases cols <;> simp <;> omega
  have e := loop_chk (f := fun f s => L_spec_NodeOkx0 (k, name, col, op, num, slot, cols, u) f s.1 s.2) cols (fun _ x => okIn x 0 63) (Ex.ret false)
      (fun i x v g hx => by
        have l1 := (List.getElem?_eq_some_iff.1 hx).1
        simp only [L_spec_NodeOkx0, lt_nat hx, cond_true, ix_some hx, Option.bind_some, V_spec_l02Col, wrap_nat (show i < 9223372036854775807 by omega)]
        cases okIn x 0 63 <;> rfl)
      (fun v g => by simp [L_spec_NodeOkx0]) false
  rw [allI_const] at e
  simp only [V_spec_l01In, Option.bind_some, beq_toList, hlen, J_spec_NodeOkx0, J_spec_NodeOkx4, V_spec_WordOk, V_spec_l02Col, V_spec_l01Number, e]
  simp only [nodeOk]
  have hne : ∀ a b : Int, (a != b) = !decide (a = b) := fun _ _ => rfl
  have heq : ∀ a b : Int, (a == b) = decide (a = b) := fun _ _ => rfl
  simp only [hne, heq]
  generalize decide (name = ByteArray.empty) = dn
  generalize decide (cols = []) = dc
  by_cases h0 : k = 0
  · subst h0
    cases dn <;> cases dc <;> cases slot <;> cases wordOk name <;> simp <;> grind
  by_cases h1 : k = 1
  · subst h1
    cases dn <;> cases dc <;> cases slot <;> simp [okIn] <;> grind
  by_cases h2 : k = 2
  · subst h2
    cases dn <;> cases dc <;> cases slot <;> cases cols.all (fun c => okIn c 0 63) <;> cases okIn cols.length 1 6 <;> simp <;> grind
  by_cases h3 : k = 3
  · subst h3
    cases dn <;> cases dc <;> cases slot <;> simp [okIn] <;> grind
  by_cases h5 : k = 5
  · subst h5
    cases dn <;> cases dc <;> cases slot <;> simp [okIn] <;> grind
  by_cases h6 : k = 6
  · subst h6
    cases dn <;> cases dc <;> cases slot <;> simp [okIn] <;> grind
  by_cases h4 : k = 4
  · subst h4
    cases dn <;> cases dc <;> cases slot <;> simp [okIn] <;> grind
  by_cases h7 : k = 7
  · subst h7
    cases dn <;> cases dc <;> cases slot <;> simp [okIn] <;> grind
  cases dn <;> cases dc <;> cases slot <;> simp [h0, h1, h2, h3, h4, h5, h6, h7] <;> grind)
end Go.Proofs.YtglbcdlplbomdaaX
namespace Go.Proofs.YtglbcdlplbomdaaX
open Go Go.Proofs.YtglbcdlplbomdaaT PT
set_option linter.all false
structure BPlan (p : List Nd) : Prop where
  len : p.length ≤ 1073741824
  nodes : ∀ n ∈ p, BNode n
theorem mem_of_get {T : Type} {l : List T} {i : Nat} {x : T} (h : l[i]? = some x) : x ∈ l := List.mem_of_getElem? h
theorem V_impl_PlanOk_1 {n : SNode} (hb : BNode n) : F_impl_PlanOk_1 n = some (!nodeOk n) := (U_impl_PlanOk_1 n).out (by
  obtain ⟨k, name, col, op, num, slot, cols, u⟩ := n
  have hb' : BNode (k, name, col, op, num, slot, cols, ()) := hb
  simp only [V_impl_NodeOk hb', Option.bind_some])
theorem V_slices_IndexFunc_LimplNode_impl_PlanOk_1 {l : List SNode} (hb : BPlan l) : F_slices_IndexFunc_LimplNode_impl_PlanOk_1 l = some (fint (findI (fun x => !nodeOk x) l 0)) := (U_slices_IndexFunc_LimplNode_impl_PlanOk_1 l).out (by
  have e := loop_find (f := fun f s => L_slices_IndexFunc_LimplNode_impl_PlanOk_1x0 l f s.1 s.2) l (fun x => !nodeOk x) (fun i => (i : Int))
    (fun i x v g hx => by
      have l1 := (List.getElem?_eq_some_iff.1 hx).1
      have := hb.len
      simp only [L_slices_IndexFunc_LimplNode_impl_PlanOk_1x0, lt_nat hx, cond_true, ix_some hx, Option.bind_some, V_impl_PlanOk_1 (hb.nodes x (mem_of_get hx)), wrap_nat (show i < 9223372036854775807 by omega)])
    (fun v g => by simp [L_slices_IndexFunc_LimplNode_impl_PlanOk_1x0]) 0
  rw [e]
  cases findI (fun x => !nodeOk x) l 0 <;> simp [fint])
theorem V_slices_ContainsFunc_LimplNode_impl_PlanOk_1 {l : List SNode} (hb : BPlan l) : F_slices_ContainsFunc_LimplNode_impl_PlanOk_1 l = some (l.any fun x => !nodeOk x) := (U_slices_ContainsFunc_LimplNode_impl_PlanOk_1 l).out (by
  simp only [V_slices_IndexFunc_LimplNode_impl_PlanOk_1 hb, Option.bind_some, fint_ge])
theorem parse_len : ∀ {r : Nat} {l : List Nd} {t : PT} {q : List Nd}, parse r l = some (t, q) → q.length < l.length
  | 0, _, _, _, h => by simp [parse] at h
  | r + 1, [], _, _, h => by simp [parse] at h
  | r + 1, n :: l, t, q, h => by
    simp only [parse] at h
    split at h
    · split at h
      · rename_i a q1 hp
        cases h
        have := parse_len hp
        simp; omega
      · cases h
    · split at h
      · split at h
        · rename_i a q1 hp
          have := parse_len hp
          split at h
          · rename_i b q2 hp2
            cases h
            have := parse_len hp2
            simp; omega
          · cases h
        · cases h
      · cases h; simp
theorem parse_drop {r : Nat} {l : List Nd} {t : PT} {q : List Nd} (h : parse r l = some (t, q)) : q = l.drop (l.length - q.length) := by
  suffices ∃ u, l = u ++ q by
    obtain ⟨u, rfl⟩ := this
    simp
  induction r generalizing l t q with
  | zero => simp [parse] at h
  | succ r ih =>
    cases l with
    | nil => simp [parse] at h
    | cons n l =>
      simp only [parse] at h
      split at h
      · split at h
        · rename_i a q1 hp
          cases h
          obtain ⟨u, rfl⟩ := ih hp
          exact ⟨n :: u, by simp⟩
        · cases h
      · split at h
        · split at h
          · rename_i a q1 hp
            split at h
            · rename_i b q2 hp2
              cases h
              obtain ⟨u, rfl⟩ := ih hp
              obtain ⟨v, rfl⟩ := ih hp2
              exact ⟨n :: (u ++ v), by simp⟩
            · cases h
          · cases h
        · cases h; exact ⟨[n], rfl⟩
def endM (p : List Nd) (r k : Nat) : Int := match parse r (p.drop k) with
  | some (_, q) => (p.length : Int) - q.length
  | none => -1
theorem endM_some {p : List Nd} {r k : Nat} {t : PT} {q : List Nd} (h : parse r (p.drop k) = some (t, q)) : ∃ j : Nat, endM p r k = (j : Int) ∧ k < j ∧ j ≤ p.length ∧ q = p.drop j := by
  have h1 := parse_len h
  have h2 := parse_drop h
  simp only [List.length_drop] at h1 h2
  refine ⟨p.length - q.length, ?_, by omega, by omega, ?_⟩
  · simp only [endM, h]; omega
  · rw [List.drop_drop, show k + (p.length - k - q.length) = p.length - q.length by omega] at h2
    exact h2
theorem wrap_sml {x : Int} (h : -9223372036854775808 ≤ x) (h' : x ≤ 9223372036854775807) : IntKind.i64.wrap x = x := by
  rw [IntKind.wrap_i64]; omega
theorem arity_cases {k : Int} (h : 0 ≤ arity k) : arity k = 0 ∨ arity k = 1 ∨ arity k = 2 := by
  revert h
  unfold arity
  repeat' split
  all_goals simp
theorem V_impl_end {p : List SNode} (hp : p.length ≤ 1073741824) (ha : ∀ n ∈ p, 0 ≤ arity n.1) : ∀ (r : Nat) (k : Nat) (d : Int), r ≤ 11 → d = 11 - r → F_impl_end p k d = some (endM p r k)
  | 0, k, d, _, hd => (U_impl_end p k d).out (by
    subst hd
    have : endM p 0 k = -1 := rfl
    rw [this]
    simp)
  | r + 1, k, d, hr, hd => (U_impl_end p k d).out (by
    have hd2 : decide (d > 10) = false := by simp; omega
    by_cases hk : k < p.length
    · have hx : p[k]? = some p[k] := List.getElem?_eq_getElem hk
      have h1 : decide ((k : Int) ≥ (p.length : Int)) = false := by simp; omega
      have hdr : p.drop k = p[k] :: p.drop (k + 1) := List.drop_eq_getElem_cons hk
      simp only [h1, cond_false, hd2, joinK_go, J_impl_endx0, ix_some hx, Option.bind_some, V_impl_ArityOf, wrap_nat (show k < 9223372036854775807 by omega)]
      have ha' := ha p[k] (mem_of_get hx)
      have ih := fun k => V_impl_end hp ha r k (IntKind.i64.wrap (d + 1)) (by omega) (by rw [wrap_sml (by omega) (by omega)]; omega)
      rcases arity_cases ha' with h | h | h
      · rw [h]
        rw [loopF_of (r := .go (0, ((k + 1 : Nat) : Int))) 1 (by
          intro n hn
          obtain ⟨m, rfl⟩ : ∃ m, n = m + 1 := ⟨n - 1, by omega⟩
          simp [loopK, L_impl_endx0])]
        simp only [joinK_go, J_impl_endx1, endM, hdr, parse, h]
        simp; omega
      · rw [h]
        cases hq : parse r (p.drop (k + 1)) with
        | none =>
          have e1 : endM p r (k + 1) = -1 := by simp only [endM, hq]
          rw [loopF_of (r := .ret (-1)) 1 (by
            intro n hn
            obtain ⟨m, rfl⟩ : ∃ m, n = m + 1 := ⟨n - 1, by omega⟩
            simp only [loopK, L_impl_endx0, ih, Option.bind_some, e1]
            simp)]
          simp only [joinK_ret, endM, hdr, parse, h, hq]
          simp
        | some x =>
          obtain ⟨t, q⟩ := x
          obtain ⟨j, e1, hj, hj2, hj3⟩ := endM_some hq
          rw [loopF_of (r := .go (0, (j : Int))) 2 (by
            intro n hn
            obtain ⟨m, rfl⟩ : ∃ m, n = m + 2 := ⟨n - 2, by omega⟩
            simp only [loopK, L_impl_endx0, ih, Option.bind_some, e1]
            simp)]
          simp only [joinK_go, J_impl_endx1, endM, hdr, parse, h, hq, if_true]
          rw [← e1]; simp only [endM, hq]
      · rw [h]
        cases hq : parse r (p.drop (k + 1)) with
        | none =>
          have e1 : endM p r (k + 1) = -1 := by simp only [endM, hq]
          rw [loopF_of (r := .ret (-1)) 1 (by
            intro n hn
            obtain ⟨m, rfl⟩ : ∃ m, n = m + 1 := ⟨n - 1, by omega⟩
            simp only [loopK, L_impl_endx0, ih, Option.bind_some, e1]
            simp)]
          simp only [joinK_ret, endM, hdr, parse, h, hq]
          simp
        | some x =>
          obtain ⟨t, q⟩ := x
          obtain ⟨j, e1, hj, hj2, hj3⟩ := endM_some hq
          subst hj3
          cases hq2 : parse r (p.drop j) with
          | none =>
            have e2 : endM p r j = -1 := by simp only [endM, hq2]
            rw [loopF_of (r := .ret (-1)) 2 (by
              intro n hn
              obtain ⟨m, rfl⟩ : ∃ m, n = m + 2 := ⟨n - 2, by omega⟩
              simp only [loopK, L_impl_endx0, ih, Option.bind_some, e1, e2]
              simp)]
            simp only [joinK_ret, endM, hdr, parse, h, hq, hq2]
            simp
          | some x =>
            obtain ⟨t2, q2⟩ := x
            obtain ⟨j2, e2, hj2, hj22, hj23⟩ := endM_some hq2
            rw [loopF_of (r := .go (0, (j2 : Int))) 3 (by
              intro n hn
              obtain ⟨m, rfl⟩ : ∃ m, n = m + 3 := ⟨n - 3, by omega⟩
              have w : IntKind.i64.wrap (1 + 1) = 2 := by rw [wrap_sml] <;> omega
              simp only [loopK, L_impl_endx0, ih, Option.bind_some, e1, e2]
              simp [w])]
            simp only [joinK_go, J_impl_endx1, endM, hdr, parse, h, hq, hq2, if_true]
            rw [← e2]; simp only [endM, hq2]
            simp
    · have h1 : decide ((k : Int) ≥ (p.length : Int)) = true := by simp; omega
      have hdr : p.drop k = [] := List.drop_eq_nil_of_le (by omega)
      simp only [h1, cond_true, joinK_go, J_impl_endx0, endM, hdr, parse])
end Go.Proofs.YtglbcdlplbomdaaX
namespace Go.Proofs.YtglbcdlplbomdaaX
open Go Go.Proofs.YtglbcdlplbomdaaT PT
set_option linter.all false
def endD (p : List Nd) (r k : Nat) : Int := match parse r (p.drop k) with
  | some (t, _) => t.depth
  | none => 0
theorem parse_depth : ∀ {r : Nat} {l : List Nd} {t : PT} {q : List Nd}, parse r l = some (t, q) → t.depth ≤ r
  | 0, _, _, _, h => by simp [parse] at h
  | r + 1, [], _, _, h => by simp [parse] at h
  | r + 1, n :: l, t, q, h => by
    simp only [parse] at h
    split at h
    · split at h
      · rename_i a q1 hp
        cases h
        have := parse_depth hp
        simp [PT.depth]; omega
      · cases h
    · split at h
      · split at h
        · rename_i a q1 hp
          have := parse_depth hp
          split at h
          · rename_i b q2 hp2
            cases h
            have := parse_depth hp2
            simp [PT.depth]; omega
          · cases h
        · cases h
      · cases h; simp [PT.depth]
theorem V_spec_l02End {p : List SNode} (hp : p.length ≤ 1073741824) (ha : ∀ n ∈ p, 0 ≤ arity n.1) : ∀ (r : Nat) (k : Nat) (d : Int), r ≤ 11 → d = r → F_spec_l02End p k d = some (endM p r k, endD p r k)
  | 0, k, d, _, hd => (U_spec_l02End p k d).out (by
    subst hd
    have h1 : endM p 0 k = -1 := rfl
    have h2 : endD p 0 k = 0 := rfl
    rw [h1, h2]
    simp)
  | r + 1, k, d, hr, hd => (U_spec_l02End p k d).out (by
    have hd2 : (d == 0) = false := by simp; omega
    by_cases hk : k < p.length
    · have hx : p[k]? = some p[k] := List.getElem?_eq_getElem hk
      have h1 : decide ((k : Int) ≥ (p.length : Int)) = false := by simp; omega
      have hdr : p.drop k = p[k] :: p.drop (k + 1) := List.drop_eq_getElem_cons hk
      simp only [h1, cond_false, hd2, joinK_go, J_spec_l02Endx0, wrap_nat (show k < 9223372036854775807 by omega)]
      have ha' := ha p[k] (mem_of_get hx)
      have ih := fun k => V_spec_l02End hp ha r k (IntKind.i64.wrap (d - 1)) (by omega) (by rw [wrap_sml (by omega) (by omega)]; omega)
      rcases arity_cases ha' with h | h | h
      · rw [loopF_of (r := .go (0, 0, ((k + 1 : Nat) : Int), 0)) 1 (by
          intro n hn
          obtain ⟨m, rfl⟩ : ∃ m, n = m + 1 := ⟨n - 1, by omega⟩
          simp only [loopK, L_spec_l02Endx0, ix_some hx, Option.bind_some, V_spec_ArityOf, h]
          simp)]
        simp only [joinK_go, J_spec_l02Endx1, endM, endD, hdr, parse, h]
        simp [PT.depth]; omega
      · cases hq : parse r (p.drop (k + 1)) with
        | none =>
          have e1 : endM p r (k + 1) = -1 := by simp only [endM, hq]
          rw [loopF_of (r := .ret ((-1), 0)) 1 (by
            intro n hn
            obtain ⟨m, rfl⟩ : ∃ m, n = m + 1 := ⟨n - 1, by omega⟩
            simp only [loopK, L_spec_l02Endx0, ix_some hx, Option.bind_some, V_spec_ArityOf, h, ih, e1]
            simp)]
          simp only [joinK_ret, endM, endD, hdr, parse, h, hq]
          simp
        | some x =>
          obtain ⟨t, q⟩ := x
          obtain ⟨j, e1, hj, hj2, hj3⟩ := endM_some hq
          have e1d : endD p r (k + 1) = (t.depth : Int) := by simp only [endD, hq]
          have hdp := parse_depth hq
          have hpos := t.depth_pos
          have hgt : decide ((t.depth : Int) > 0) = true := by simp; omega
          rw [loopF_of (r := .go (0, 0, (j : Int), (t.depth : Int))) 2 (by
            intro n hn
            obtain ⟨m, rfl⟩ : ∃ m, n = m + 2 := ⟨n - 2, by omega⟩
            simp only [loopK, L_spec_l02Endx0, ix_some hx, Option.bind_some, V_spec_ArityOf, h, ih, e1, e1d, hgt, cond_true]
            simp)]
          simp only [joinK_go, J_spec_l02Endx1, endM, endD, hdr, parse, h, hq, if_true, PT.depth]
          rw [← e1, wrap_nat (by omega)]; simp only [endM, hq]
      · cases hq : parse r (p.drop (k + 1)) with
        | none =>
          have e1 : endM p r (k + 1) = -1 := by simp only [endM, hq]
          rw [loopF_of (r := .ret ((-1), 0)) 1 (by
            intro n hn
            obtain ⟨m, rfl⟩ : ∃ m, n = m + 1 := ⟨n - 1, by omega⟩
            simp only [loopK, L_spec_l02Endx0, ix_some hx, Option.bind_some, V_spec_ArityOf, h, ih, e1]
            simp)]
          simp only [joinK_ret, endM, endD, hdr, parse, h, hq]
          simp
        | some x =>
          obtain ⟨t, q⟩ := x
          obtain ⟨j, e1, hj, hj2, hj3⟩ := endM_some hq
          have e1d : endD p r (k + 1) = (t.depth : Int) := by simp only [endD, hq]
          have hdp := parse_depth hq
          have hpos := t.depth_pos
          have hgt : decide ((t.depth : Int) > 0) = true := by simp; omega
          subst hj3
          cases hq2 : parse r (p.drop j) with
          | none =>
            have e2 : endM p r j = -1 := by simp only [endM, hq2]
            rw [loopF_of (r := .ret ((-1), 0)) 2 (by
              intro n hn
              obtain ⟨m, rfl⟩ : ∃ m, n = m + 2 := ⟨n - 2, by omega⟩
              simp only [loopK, L_spec_l02Endx0, ix_some hx, Option.bind_some, V_spec_ArityOf, h, ih, e1, e2, e1d, hgt, cond_true]
              simp [ih, e2])]
            simp only [joinK_ret, endM, endD, hdr, parse, h, hq, hq2]
            simp
          | some x =>
            obtain ⟨t2, q2⟩ := x
            obtain ⟨j2, e2, hj2, hj22, hj23⟩ := endM_some hq2
            have e2d : endD p r j = (t2.depth : Int) := by simp only [endD, hq2]
            have hdp2 := parse_depth hq2
            rw [loopF_of (r := .go (0, 0, (j2 : Int), ((max t.depth t2.depth : Nat) : Int))) 3 (by
              intro n hn
              obtain ⟨m, rfl⟩ : ∃ m, n = m + 3 := ⟨n - 3, by omega⟩
              have w : IntKind.i64.wrap (1 + 1) = 2 := by rw [wrap_sml] <;> omega
              simp only [loopK, L_spec_l02Endx0, ix_some hx, Option.bind_some, V_spec_ArityOf, h, ih, e1, e1d, hgt, cond_true]
              simp only [ih, e2, e2d, joinK_go, J_spec_l02Endx2, joinK_bind, joinK_bif, Option.bind_some, nat_neg, cond_false]
              by_cases hm : t2.depth > t.depth
              · have hmd : decide ((t2.depth : Int) > (t.depth : Int)) = true := by simp; omega
                rw [hmd, show max t.depth t2.depth = t2.depth by omega]
                simp [w]
              · have hmd : decide ((t2.depth : Int) > (t.depth : Int)) = false := by simp; omega
                rw [hmd, show max t.depth t2.depth = t.depth by omega]
                simp [w])]
            simp only [joinK_go, J_spec_l02Endx1, endM, endD, hdr, parse, h, hq, hq2, if_true, PT.depth]
            rw [← e2, wrap_nat (by omega)]; simp only [endM, hq2]
            simp [PT.depth]
    · have h1 : decide ((k : Int) ≥ (p.length : Int)) = true := by simp; omega
      have hdr : p.drop k = [] := List.drop_eq_nil_of_le (by omega)
      simp only [h1, cond_true, joinK_go, J_spec_l02Endx0, endM, endD, hdr, parse])
theorem planOk_eq (p : List Nd) (hn : p.all nodeOk = true) : (decide (endM p 10 0 = (p.length : Int)) && okIn p.length 1 40) = planOk p := by
  cases hl : okIn p.length 1 40 with
  | false => simp [planOk, planT, hl]
  | true =>
    simp only [planOk, planT, hl, hn, and_self, if_true, Bool.and_true, endM, List.drop_zero]
    have hl' := okIn_iff.1 hl
    cases h : parse 10 p with
    | none => simp
    | some x =>
      obtain ⟨t, q⟩ := x
      have := parse_len h
      cases q with
      | nil => simp
      | cons a q => simp at this ⊢; omega
theorem planOk_not {p : List Nd} (h : okIn p.length 1 40 = false ∨ p.all nodeOk = false) : planOk p = false := by
  rcases h with h | h <;> simp [planOk, planT, h]
theorem V_impl_PlanOk {p : List SNode} (hb : BPlan p) : F_impl_PlanOk p = some (planOk p) := (U_impl_PlanOk p).out (by
  simp only [V_impl_in, Option.bind_some, V_slices_ContainsFunc_LimplNode_impl_PlanOk_1 hb, joinK_bif, joinK_go, J_impl_PlanOkx0]
  cases hl : okIn p.length 1 40 with
  | false => simp [planOk_not (.inl hl)]
  | true =>
    rw [← Bool.not_not (p.any _), all_not_any]
    cases hn : p.all nodeOk with
    | false => simp [planOk_not (.inr hn)]
    | true =>
      have e := V_impl_end (p := p) hb.len (fun n hm => nodeOk_arity (by have := List.all_eq_true.1 hn n hm; simpa using this)) 10 0 1 (by omega) (by omega)
      rw [show ((0 : Nat) : Int) = 0 from rfl] at e
      simp only [e, Option.bind_some, Bool.not_true, cond_false, beq_dec, ← planOk_eq p hn, hl, Bool.and_true])
theorem V_spec_PlanOk {p : List SNode} (hb : BPlan p) : F_spec_PlanOk p = some (planOk p) := (U_spec_PlanOk p).out (by
  simp only [V_spec_l01In, Option.bind_some]
  have e := loop_chk (f := fun f s => L_spec_PlanOkx0 p f s.1 s.2) p (fun _ x => nodeOk x) false
    (fun i x v g hx => by
      have l1 := (List.getElem?_eq_some_iff.1 hx).1
      have := hb.len
      simp only [L_spec_PlanOkx0, lt_nat hx, cond_true, ix_some hx, Option.bind_some, V_spec_NodeOk (hb.nodes x (mem_of_get hx)), wrap_nat (show i < 9223372036854775807 by omega)]
      cases nodeOk x <;> rfl)
    (fun v g => by simp [L_spec_PlanOkx0]) false
  rw [e, allI_const]
  cases hl : okIn p.length 1 40 with
  | false => simp [planOk_not (.inl hl)]
  | true =>
    cases hn : p.all nodeOk with
    | false => simp [planOk_not (.inr hn)]
    | true =>
      have e := V_spec_l02End (p := p) hb.len (fun n hm => nodeOk_arity (by have := List.all_eq_true.1 hn n hm; simpa using this)) 10 0 10 (by omega) (by omega)
      rw [show ((0 : Nat) : Int) = 0 from rfl] at e
      simp only [e, Option.bind_some, Bool.not_true, cond_false, cond_true, joinK_go, J_spec_PlanOkx0, beq_dec, ← planOk_eq p hn, hl, Bool.and_true])
structure Good (t : PT) : Prop where
  ok : t.ok
  deep : t.depth ≤ 10
  nodes : ∀ n ∈ t.flat, nodeOk n = true
theorem Good.c1 {n : Nd} {a : PT} (h : Good (.n1 n a)) : Good a := ⟨h.ok.2, by have := h.deep; simp [PT.depth] at this; omega, fun m hm => h.nodes m (by simp [PT.flat, hm])⟩
theorem Good.l2 {n : Nd} {a b : PT} (h : Good (.n2 n a b)) : Good a := ⟨h.ok.2.1, by have := h.deep; simp [PT.depth] at this; omega, fun m hm => h.nodes m (by simp [PT.flat, hm])⟩
theorem Good.r2 {n : Nd} {a b : PT} (h : Good (.n2 n a b)) : Good b := ⟨h.ok.2.2, by have := h.deep; simp [PT.depth] at this; omega, fun m hm => h.nodes m (by simp [PT.flat, hm])⟩
theorem Good.hd {t : PT} (h : Good t) : nodeOk t.hd = true := h.nodes _ (by cases t <;> simp [PT.flat, PT.hd])
structure Pl (p : List Nd) : Prop where
  len : p.length ≤ 1073741824
  ar : ∀ n ∈ p, 0 ≤ arity n.1
theorem At.endM {p : List Nd} {k : Nat} {t : PT} (h : At p k t) (g : Good t) : endM p 10 k = ((k + t.size : Nat) : Int) := by
  have hp : parse 10 (p.drop k) = some (t, p.drop (k + t.size)) := by rw [h.rest]; exact flat_parse g.ok g.deep
  have := h.le
  simp only [_root_.Go.Proofs.YtglbcdlplbomdaaX.endM, hp, List.length_drop]
  omega
theorem At.endD {p : List Nd} {k : Nat} {t : PT} (h : At p k t) (g : Good t) : endD p 10 k = (t.depth : Int) := by
  have hp : parse 10 (p.drop k) = some (t, p.drop (k + t.size)) := by rw [h.rest]; exact flat_parse g.ok g.deep
  simp only [_root_.Go.Proofs.YtglbcdlplbomdaaX.endD, hp]
end Go.Proofs.YtglbcdlplbomdaaX
namespace Go.Proofs.YtglbcdlplbomdaaX
open Go Go.Proofs.YtglbcdlplbomdaaT PT
set_option linter.all false
structure BSch (s : List Tb) : Prop where
  len : s.length ≤ 1073741824
  names : ∀ t ∈ s, t.1.size ≤ 2147483648
def schP (s : List Tb) (i : Nat) (x : Tb) : Bool := wordOk x.1 && okIn x.2.1 1 6 && (decide (i = 0) || match s[i - 1]? with | some y => less y.1 x.1 | none => true)
def schemaOk (s : List Tb) : Bool := allI (schP s) s 0 && decide (s.length ≤ 8)
def tabAt (s : List Tb) (name : ByteArray) : Option Nat := findI (fun t => decide (t.1 = name)) s 0
def wT (s : List Tb) : PT → Option Int
  | .n0 n => match tabAt s n.2.1 with
    | some j => match s[j]? with
      | some t => some t.2.1
      | none => none
    | none => none
  | .n1 n a => match wT s a with
    | none => none
    | some w => if n.1 = 2 then (if n.2.2.2.2.2.2.1.all (fun c => decide (c < w)) = true then some n.2.2.2.2.2.2.1.length else none)
      else if n.1 = 1 ∨ n.1 = 5 then (if n.2.2.1 < w then some w else none) else some w
  | .n2 n a b => match wT s a, wT s b with
    | some w, some v => if n.1 = 3 then (if n.2.2.1 < w ∧ n.2.2.2.2.1 < v ∧ w + v ≤ 64 then some (w + v) else none) else if w = v then some w else none
    | _, _ => none
end Go.Proofs.YtglbcdlplbomdaaX
namespace Go.Proofs.YtglbcdlplbomdaaX
open Go Go.Proofs.YtglbcdlplbomdaaT PT
set_option linter.all false
structure Typed (s : List Tb) (t : PT) : Prop where
  plan : PlanT t
  sch : schemaOk s = true
  w : (wT s t).isSome = true
end Go.Proofs.YtglbcdlplbomdaaX
namespace Go.Proofs.YtglbcdlplbomdaaX
open Go Go.Proofs.YtglbcdlplbomdaaT PT
set_option linter.all false
theorem quox_some {a b : Int} (h0 : 0 ≤ a) (h1 : a ≤ 9223372036854775807) (hb : 1 ≤ b) : quox a b = some (a / b) := by
  unfold quox
  have hb0 : (b == 0) = false := by simp; omega
  rw [hb0, Int.tdiv_eq_ediv_of_nonneg h0]
  have : 0 ≤ a / b := Int.ediv_nonneg h0 (by omega)
  have : a / b ≤ a := Int.ediv_le_self _ h0
  rw [wrap_sml (by omega) (by omega)]
  rfl
end Go.Proofs.YtglbcdlplbomdaaX
namespace Go.Proofs.YtglbcdlplbomdaaX
open Go Go.Proofs.YtglbcdlplbomdaaT PT
set_option linter.all false
theorem V_spec_l01Copy {l : List Int} (h : l.length ≤ 2147483648) : F_spec_l01Copy l = some l := (U_spec_l01Copy l).out (by
  have e := loop_map (f := fun f s => L_spec_l01Copyx0 l f s.1 s.2) l id h
    (fun i x a g hx ha => by
      have l1 := (List.getElem?_eq_some_iff.1 hx).1
      simp only [L_spec_l01Copyx0, lt_nat hx, cond_true, ix_some hx, Option.bind_some, wrap_nat (show i < 9223372036854775807 by omega)]
      rw [apx_some (by simp [ha]; omega)]; rfl)
    (fun a g => by simp [L_spec_l01Copyx0])
  rw [e]; simp)
theorem V_slices_Clone_Lint {l : List Int} (h : l.length ≤ 2147483648) : F_slices_Clone_Lint l = some l := (U_slices_Clone_Lint l).out (by
  rw [apx_some (by simpa using h)]
  cases l <;> simp [nilx, bothEq])
theorem V_spec_l02Copy {p : List SNode} (hb : BPlan p) : F_spec_l02Copy p = some p := (U_spec_l02Copy p).out (by
  have e := loop_map (f := fun f s => L_spec_l02Copyx0 p f s.1 s.2) p id (by have := hb.len; omega)
    (fun i x a g hx ha => by
      have l1 := (List.getElem?_eq_some_iff.1 hx).1
      have := hb.len
      have hc := (hb.nodes x (mem_of_get hx)).cols
      obtain ⟨k, name, col, op, num, slot, cols, u⟩ := x
      simp only at hc
      simp only [L_spec_l02Copyx0, lt_nat hx, cond_true, ix_some hx, Option.bind_some, wrap_nat (show i < 9223372036854775807 by omega), V_spec_l01Copy hc, joinK_bif, joinK_go, J_spec_l02Copyx1]
      rw [apx_some (by simp [ha]; omega), apx_some (by simp [ha]; omega)]
      cases cols <;> simp)
    (fun a g => by simp [L_spec_l02Copyx0])
  rw [e]; simp)
theorem V_impl_own {p : List SNode} (hb : BPlan p) : F_impl_own p = some p := (U_impl_own p).out (by
  have e := loop_map (f := fun f s => L_impl_ownx0 p f s.1 s.2) p id (by have := hb.len; omega)
    (fun i x a g hx ha => by
      have l1 := (List.getElem?_eq_some_iff.1 hx).1
      have := hb.len
      have hc := (hb.nodes x (mem_of_get hx)).cols
      simp only [L_impl_ownx0, lt_nat hx, cond_true, ix_some hx, Option.bind_some, wrap_nat (show i < 9223372036854775807 by omega), V_slices_Clone_Lint hc]
      rw [apx_some (by simp [ha]; omega)]; rfl)
    (fun a g => by simp [L_impl_ownx0])
  rw [e]; simp)
end Go.Proofs.YtglbcdlplbomdaaX
namespace Go.Proofs.YtglbcdlplbomdaaX
open Go Go.Proofs.YtglbcdlplbomdaaT PT
set_option linter.all false
def put : PT → Nat → PT → PT
  | _, 0, v => v
  | .n0 n, _ + 1, _ => .n0 n
  | .n1 n a, k + 1, v => .n1 n (put a k v)
  | .n2 n a b, k + 1, v => if k < a.size then .n2 n (put a k v) b else .n2 n a (put b (k - a.size) v)
end Go.Proofs.YtglbcdlplbomdaaX
namespace Go.Proofs.YtglbcdlplbomdaaX
open Go Go.Proofs.YtglbcdlplbomdaaT PT
set_option linter.all false
theorem foldl_filter {T U : Type} (c : T → Bool) (m : T → U) : ∀ (l : List T) (a : List U), l.foldl (fun a x => if c x = true then a ++ [m x] else a) a = a ++ (l.filter c).map m
  | [], a => by simp
  | x :: l, a => by
    simp only [List.foldl_cons, foldl_filter c m l]
    cases h : c x <;> simp [h]
theorem range_of {n i x : Nat} (h : (List.range n)[i]? = some x) : x = i ∧ i < n := by
  have h1 := (List.getElem?_eq_some_iff.1 h)
  simp at h1
  omega
end Go.Proofs.YtglbcdlplbomdaaX
namespace Go.Proofs.YtglbcdlplbomdaaX
open Go Go.Proofs.YtglbcdlplbomdaaT PT
set_option linter.all false
theorem V_spec_l01Has {l : List Int} (hl : l.length ≤ 2147483648) (x : Int) : F_spec_l01Has l x = some (l.any fun y => decide (y = x)) := (U_spec_l01Has l x).out (by
  have e := loop_brk (f := fun f s => L_spec_l01Hasx0 l x f s.1 s.2) l (fun _ y => if y = x then some true else none)
    (fun i y v g hx => by
      have l1 := (List.getElem?_eq_some_iff.1 hx).1
      simp only [L_spec_l01Hasx0, lt_nat hx, cond_true, ix_some hx, Option.bind_some, wrap_nat (show i < 9223372036854775807 by omega)]
      by_cases h : y = x <;> simp [h, beq_dec])
    (fun v g => by simp [L_spec_l01Hasx0]) false
  rw [e]
  have key : ∀ (l : List Int) (i : Nat), brkI (fun _ y => if y = x then some true else none) l i = if l.any (fun y => decide (y = x)) = true then some true else none := by
    intro l
    induction l with
    | nil => intro i; rfl
    | cons y l ih =>
      intro i
      simp only [brkI, List.any_cons]
      by_cases h : y = x <;> simp [h, ih]
  rw [key]
  cases l.any (fun y => decide (y = x)) <;> simp)
end Go.Proofs.YtglbcdlplbomdaaX
namespace Go.Proofs.YtglbcdlplbomdaaX
open Go Go.Proofs.YtglbcdlplbomdaaT PT
set_option linter.all false
def hasSlot (p : List Nd) : Bool := p.any fun n => n.2.2.2.2.2.1
def closed (p : List Nd) : Bool := planOk p && !hasSlot p
def isLit (n : Nd) : Bool := (decide (n.1 = 1) && !decide (n.2.2.2.1 = 3)) || decide (n.1 = 6)
def liftN (n : Nd) (i : Int) : Nd := (n.1, n.2.1, n.2.2.1, n.2.2.2.1, i, true, n.2.2.2.2.2.2.1, ())
def liftL : List Nd → Nat → List Nd
  | [], _ => []
  | n :: l, i => if isLit n = true then liftN n i :: liftL l (i + 1) else n :: liftL l i
def lits (p : List Nd) : List Int := (p.filter isLit).map fun n => n.2.2.2.2.1
def lift (p : List Nd) : List Nd × List Int × Bool := if closed p = true then (liftL p 0, lits p, true) else ([], [], false)
@[simp] theorem V_spec_l07Literal (n : SNode) : F_spec_l07Literal n = some (isLit n) := (U_spec_l07Literal n).out (by
  simp only [isLit, beq_dec, bne_dec]
  by_cases h1 : n.1 = 1 <;> by_cases h2 : n.2.2.2.1 = 3 <;> simp [h1, h2])
@[simp] theorem V_impl_Node_isLiteral (n : SNode) : F_impl_Node_isLiteral n = some (isLit n) := (U_impl_Node_isLiteral n).out (by
  simp only [isLit, beq_dec, bne_dec]
  by_cases h1 : n.1 = 1 <;> by_cases h2 : n.2.2.2.1 = 3 <;> simp [h1, h2])
theorem V_slices_IndexFunc_LimplNode_impl_hasSlot_1 {l : List SNode} (hb : l.length ≤ 1073741824) : F_slices_IndexFunc_LimplNode_impl_hasSlot_1 l = some (fint (findI (fun n => n.2.2.2.2.2.1) l 0)) := (U_slices_IndexFunc_LimplNode_impl_hasSlot_1 l).out (by
  have e := loop_find (f := fun f s => L_slices_IndexFunc_LimplNode_impl_hasSlot_1x0 l f s.1 s.2) l (fun n => n.2.2.2.2.2.1) (fun i => (i : Int))
    (fun i x v g hx => by
      have l1 := (List.getElem?_eq_some_iff.1 hx).1
      have h1 : F_impl_hasSlot_1 x = some x.2.2.2.2.2.1 := (U_impl_hasSlot_1 x).out rfl
      simp only [L_slices_IndexFunc_LimplNode_impl_hasSlot_1x0, lt_nat hx, cond_true, ix_some hx, Option.bind_some, h1, wrap_nat (show i < 9223372036854775807 by omega)])
    (fun v g => by simp [L_slices_IndexFunc_LimplNode_impl_hasSlot_1x0]) 0
  rw [e]
  cases findI (fun n : SNode => n.2.2.2.2.2.1) l 0 <;> simp [fint])
theorem V_impl_hasSlot {l : List SNode} (hb : l.length ≤ 1073741824) : F_impl_hasSlot l = some (hasSlot l) := (U_impl_hasSlot l).out (by
  have : F_slices_ContainsFunc_LimplNode_impl_hasSlot_1 l = some (hasSlot l) := (U_slices_ContainsFunc_LimplNode_impl_hasSlot_1 l).out (by
    simp only [V_slices_IndexFunc_LimplNode_impl_hasSlot_1 hb, Option.bind_some, fint_ge, hasSlot])
  simp [this])
theorem V_impl_Closed {p : List SNode} (hb : BPlan p) : F_impl_Closed p = some (closed p) := (U_impl_Closed p).out (by
  simp only [V_impl_PlanOk hb, V_impl_hasSlot hb.len, Option.bind_some, closed]
  cases planOk p <;> simp)
def slotAt (p : List Nd) (x : Int) : Bool := p.any fun n => n.2.2.2.2.2.1 && decide (n.2.2.2.2.1 = x)
def slots (p : List Nd) : List Int := if planOk p = true then ((List.range 40).filter (fun x : Nat => slotAt p x)).map (fun x : Nat => (x : Int)) else []
theorem V_spec_SlotsOf {p : List SNode} (hb : BPlan p) : F_spec_SlotsOf p = some (slots p) := (U_spec_SlotsOf p).out (by
  simp only [V_spec_PlanOk hb, Option.bind_some, slots]
  cases hpk : planOk p with
  | false => simp
  | true =>
    have hl := hb.len
    have inner : ∀ (x : Nat) (v : List Int), (∀ y ∈ v, y < (x : Int)) → v.length ≤ 1000 → loopF (fun f z => L_spec_SlotsOfx1 p (x : Int) f z.1 z.2) (v, 0) = some (.go (if slotAt p x = true then v ++ [(x : Int)] else v)) := by
      intro x v hv hvl
      have e := loop_fold (f := fun f z => L_spec_SlotsOfx1 p (x : Int) f z.1 z.2) (fun i (a : List Int) => (a, (i : Int))) p (fun i a => a.length ≤ 1001 ∧ ((a.length = 1001 ∨ a ≠ v) → a.any (fun y => decide (y = (x : Int))) = true))
        (fun i n a => if (n.2.2.2.2.2.1 && decide (n.2.2.2.2.1 = (x : Int)) && !(a.any fun y => decide (y = (x : Int)))) = true then a ++ [(x : Int)] else a)
        (fun i n a g hn ha => by
          have l1 := (List.getElem?_eq_some_iff.1 hn).1
          have hw1 := wrap_nat (show i < 9223372036854775807 by omega)
          simp only [L_spec_SlotsOfx1, lt_nat hn, cond_true, ix_some hn, Option.bind_some, beq_dec, V_spec_l01Has (show a.length ≤ 2147483648 by omega)]
          cases h1 : n.2.2.2.2.2.1 with
          | false => simp [hw1]
          | true =>
            by_cases h2 : n.2.2.2.2.1 = (x : Int)
            · cases h3 : a.any (fun y => decide (y = (x : Int))) with
              | true => simp [h2, hw1]
              | false => simp [h2]; rw [apx_some (by simp; omega)]; simp [hw1]
            · simp [h2, hw1])
        (fun i n a hn ha => by
          split
          · rename_i hc
            simp only [Bool.and_eq_true, Bool.not_eq_true'] at hc
            have : ¬ (a.length = 1001 ∨ a ≠ v) := fun h => by rw [ha.2 h] at hc; cases hc.2
            refine ⟨by simp; omega, fun _ => by simp⟩
          · exact ha)
        (fun a g _ => by simp [L_spec_SlotsOfx1]) v (by
          refine ⟨by omega, fun h => ?_⟩
          rcases h with h | h
          · omega
          · exact absurd rfl h)
      rw [foldI_const (fun (n : SNode) (a : List Int) => if (n.2.2.2.2.2.1 && decide (n.2.2.2.2.1 = (x : Int)) && !(a.any fun y => decide (y = (x : Int)))) = true then a ++ [(x : Int)] else a)] at e
      have key : ∀ (p : List SNode) (a : List Int), p.foldl (fun a n => if (n.2.2.2.2.2.1 && decide (n.2.2.2.2.1 = (x : Int)) && !(a.any fun y => decide (y = (x : Int)))) = true then a ++ [(x : Int)] else a) a = if a.any (fun y => decide (y = (x : Int))) = true then a else if slotAt p x = true then a ++ [(x : Int)] else a := by
        intro p
        induction p with
        | nil => intro a; simp [slotAt]
        | cons n p ih =>
          intro a
          have hsa : slotAt (n :: p) (x : Int) = ((n.2.2.2.2.2.1 && decide (n.2.2.2.2.1 = (x : Int))) || slotAt p (x : Int)) := rfl
          simp only [List.foldl_cons, ih, hsa]
          generalize slotAt p (x : Int) = sa
          cases h3 : a.any (fun y => decide (y = (x : Int))) with
          | true => simp [h3]
          | false =>
            by_cases h1 : (n.2.2.2.2.2.1 && decide (n.2.2.2.2.1 = (x : Int))) = true
            · simp [h1]
            · have h1 : (n.2.2.2.2.2.1 && decide (n.2.2.2.2.1 = (x : Int))) = false := by simpa using h1
              simp only [h1, Bool.false_and, Bool.false_or]
              simp [h3]
      rw [key] at e
      have hno : v.any (fun y => decide (y = (x : Int))) = false := by
        rw [List.any_eq_false]
        intro y hy
        have := hv y hy
        simp; omega
      rw [hno] at e
      simpa using e
    have e := loop_fold (f := fun f z => L_spec_SlotsOfx0 p f z.1 z.2) (fun i (a : List Int) => (a, (i : Int))) (List.range 40) (fun i a => a.length ≤ i ∧ ∀ y ∈ a, y < (i : Int))
      (fun i (x : Nat) a => if slotAt p x = true then a ++ [(x : Int)] else a)
      (fun i x a g hx ha => by
        obtain ⟨rfl, hi⟩ := range_of hx
        have d : decide ((x : Int) < 40) = true := by simp; omega
        simp only [L_spec_SlotsOfx0, d, cond_true, inner x a ha.2 (by omega), joinK_go, J_spec_SlotsOfx1, wrap_nat (show x < 9223372036854775807 by omega)])
      (fun i x a hx ha => by
        obtain ⟨rfl, hi⟩ := range_of hx
        split
        · refine ⟨by simp; omega, fun y hy => ?_⟩
          simp only [List.mem_append, List.mem_singleton] at hy
          rcases hy with hy | rfl
          · have := ha.2 y hy; omega
          · omega
        · exact ⟨by omega, fun y hy => by have := ha.2 y hy; omega⟩)
      (fun a g _ => by simp [L_spec_SlotsOfx0]) [] (by simp)
    rw [foldI_const (fun (x : Nat) (a : List Int) => if slotAt p x = true then a ++ [(x : Int)] else a), foldl_filter (fun x : Nat => slotAt p x) (fun x : Nat => (x : Int))] at e
    rw [show ((0 : Nat) : Int) = 0 from rfl] at e
    rw [e]; simp)
theorem nodeOk_slot {n : Nd} (h : nodeOk n = true) (hs : n.2.2.2.2.2.1 = true) : 0 ≤ n.2.2.2.2.1 ∧ n.2.2.2.2.1 ≤ 39 := by
  obtain ⟨k, name, col, op, num, slot, cols, u⟩ := n
  simp only at hs
  subst hs
  simp only [nodeOk, Bool.and_eq_true, Bool.or_eq_true] at h
  have := h.1.2
  simp [okIn] at this
  simp only
  omega
theorem slots_nil {p : List Nd} (h : planOk p = true) : slots p = [] ↔ hasSlot p = false := by
  obtain ⟨t, ht, rfl⟩ := planOk_iff.1 h
  unfold slots
  rw [if_pos h]
  constructor
  · intro he
    simp only [List.map_eq_nil_iff, List.filter_eq_nil_iff] at he
    unfold hasSlot
    rw [List.any_eq_false]
    intro n hn hs
    have hr := nodeOk_slot (ht.nodes n hn) hs
    have := he n.2.2.2.2.1.toNat (by simp; omega)
    apply this
    unfold slotAt
    rw [List.any_eq_true]
    exact ⟨n, hn, by simp [hs]; omega⟩
  · intro hs
    unfold hasSlot at hs
    rw [List.any_eq_false] at hs
    simp only [List.map_eq_nil_iff, List.filter_eq_nil_iff]
    intro x _ hx
    unfold slotAt at hx
    rw [List.any_eq_true] at hx
    obtain ⟨n, hn, h2⟩ := hx
    simp only [Bool.and_eq_true] at h2
    exact hs n hn h2.1
theorem V_spec_Closed {p : List SNode} (hb : BPlan p) : F_spec_Closed p = some (closed p) := (U_spec_Closed p).out (by
  simp only [V_spec_PlanOk hb, V_spec_SlotsOf hb, Option.bind_some, closed]
  cases h : planOk p with
  | false => simp
  | true =>
    have := slots_nil h
    have e : (((slots p).length : Int) == 0) = !hasSlot p := by
      cases h2 : hasSlot p with
      | false => rw [this.2 h2]; rfl
      | true =>
        have h3 : slots p ≠ [] := fun e => by rw [this.1 e] at h2; cases h2
        have : 0 < (slots p).length := List.length_pos_iff.2 h3
        simp; omega
    rw [e]
    simp)
theorem lift_loop {R : Type} {L : (List Nd × List Int × Int → Option (Ex R (List Nd × List Int))) → List Nd × List Int × Int → Option (Ex R (List Nd × List Int))} {p : List Nd} (hp : p.length ≤ 1073741824)
    (hL : ∀ f (v : List Nd) (vs : List Int) (i : Nat) n, v[i]? = some n → v.length = p.length → vs.length ≤ i → L f (v, vs, (i : Int)) = if isLit n = true then f (v.set i (liftN n vs.length), vs ++ [n.2.2.2.2.1], ((i + 1 : Nat) : Int)) else f (v, vs, ((i + 1 : Nat) : Int)))
    (hE : ∀ f (v : List Nd) vs, v.length = p.length → L f (v, vs, (p.length : Int)) = some (.go (v, vs))) : loopF L (p, [], 0) = some (.go (liftL p 0, lits p)) := by
  refine loopF_of (p.length + 1) ?_
  have key : ∀ (xs ys : List Nd) (vs : List Int) (i : Nat), i + xs.length = p.length → ys.length = i → vs.length ≤ i → ∀ n, xs.length + 1 ≤ n →
      loopK L n (ys ++ xs, vs, (i : Int)) = some (.go (ys ++ liftL xs vs.length, vs ++ lits xs)) := by
    intro xs
    induction xs with
    | nil =>
      intro ys vs i hi hy hv n hn
      obtain ⟨m, rfl⟩ : ∃ m, n = m + 1 := ⟨n - 1, by omega⟩
      simp only [List.length_nil, Nat.add_zero] at hi
      simp only [loopK]
      rw [hi, hE _ _ _ (by simp [hy, hi])]
      simp [liftL, lits]
    | cons x xs ih =>
      intro ys vs i hi hy hv n hn
      obtain ⟨m, rfl⟩ : ∃ m, n = m + 1 := ⟨n - 1, by omega⟩
      simp only [List.length_cons] at hi hn
      simp only [loopK]
      rw [hL (loopK L m) (ys ++ x :: xs) vs i x (by rw [List.getElem?_append_right (by omega)]; simp [hy]) (by simp; omega) hv]
      cases hlit : isLit x with
      | true =>
        simp only [if_true]
        have hset : (ys ++ x :: xs).set i (liftN x vs.length) = (ys ++ [liftN x vs.length]) ++ xs := by
          rw [List.set_append_right _ _ (by omega), hy]; simp
        rw [hset, ih (ys ++ [liftN x vs.length]) (vs ++ [x.2.2.2.2.1]) (i + 1) (by omega) (by simp [hy]) (by simp; omega) m (by omega)]
        simp [liftL, hlit, lits]
      | false =>
        simp only [if_false, Bool.false_eq_true]
        have hap : ys ++ x :: xs = (ys ++ [x]) ++ xs := by simp
        rw [hap, ih (ys ++ [x]) vs (i + 1) (by omega) (by simp [hy]) (by omega) m (by omega)]
        simp [liftL, hlit, lits]
  intro n hn
  have := key p [] [] 0 (by simp) rfl (by simp) n hn
  simpa using this
theorem V_impl_Lift {p : List SNode} (hb : BPlan p) : F_impl_Lift p = some (lift p) := (U_impl_Lift p).out (by
  simp only [V_impl_Closed hb, V_impl_own hb, Option.bind_some, lift]
  cases hc : closed p with
  | false => simp
  | true =>
    have hl := hb.len
    have e := lift_loop (L := fun f z => L_impl_Liftx0 p f z.1 z.2.1 z.2.2) hl
      (fun f v vs i n hn hv hvs => by
        have l1 := (List.getElem?_eq_some_iff.1 hn).1
        have d : decide ((i : Int) < (p.length : Int)) = true := by simp; omega
        simp only [L_impl_Liftx0, d, cond_true, ix_some hn, Option.bind_some, V_impl_Node_isLiteral, joinK_bif, joinK_go, J_impl_Liftx1, wrap_nat (show i < 9223372036854775807 by omega)]
        cases isLit n with
        | false => simp
        | true =>
          have hw : IntKind.i64.wrap (((vs ++ [n.2.2.2.2.1]).length : Int) - 1) = (vs.length : Int) := by rw [wrap_sml] <;> simp <;> omega
          rw [apx_some (by simp; omega)]
          simp only [Option.bind_some, hw, Int.toNat_natCast, ix_set l1, List.set_set, joinK_go, J_impl_Liftx1, cond_true, if_true]
          rfl)
      (fun f v vs hv => by simp [L_impl_Liftx0])
    simp only [Bool.not_true, cond_false, e, if_true, joinK_go, J_impl_Liftx0])
theorem V_spec_Lift {p : List SNode} (hb : BPlan p) : F_spec_Lift p = some (lift p) := (U_spec_Lift p).out (by
  simp only [V_spec_Closed hb, V_spec_l02Copy hb, Option.bind_some, lift]
  cases hc : closed p with
  | false => simp
  | true =>
    have hl := hb.len
    have e := lift_loop (L := fun f z => L_spec_Liftx0 f z.1 z.2.1 z.2.2) hl
      (fun f v vs i n hn hv hvs => by
        have l1 := (List.getElem?_eq_some_iff.1 hn).1
        simp only [L_spec_Liftx0, lt_nat hn, cond_true, ix_some hn, Option.bind_some, V_spec_l07Literal, joinK_bif, joinK_go, J_spec_Liftx1, wrap_nat (show i < 9223372036854775807 by omega)]
        cases isLit n with
        | false => simp
        | true =>
          have hw : IntKind.i64.wrap (((vs ++ [n.2.2.2.2.1]).length : Int) - 1) = (vs.length : Int) := by rw [wrap_sml] <;> simp <;> omega
          rw [apx_some (by simp; omega)]
          simp only [Option.bind_some, hw, Int.toNat_natCast, ix_set l1, List.set_set, joinK_go, J_spec_Liftx1, Bool.not_true, cond_false, if_true]
          rfl)
      (fun f v vs hv => by rw [← hv]; simp [L_spec_Liftx0])
    simp only [Bool.not_true, cond_false, e, if_true, joinK_go, J_spec_Liftx0])
end Go.Proofs.YtglbcdlplbomdaaX
namespace Go.Proofs.YtglbcdlplbomdaaX
open Go Go.Proofs.YtglbcdlplbomdaaT PT
set_option linter.all false
abbrev Opn := Int × List Nd × List Nd × List Sp × Unit
structure BOp (o : Opn) : Prop where
  qb : BPlan o.2.1
  ob : BPlan o.2.2.1
  sb : o.2.2.2.1.length ≤ 1073741824
def directOp (o : Opn) : Opn := if closed o.2.1 = true ∧ o.1 = 0 then (o.1, o.2.1, liftL o.2.1 0, [], ()) else (o.1, o.2.1, o.2.2.1, o.2.2.2.1, ())
theorem V_spec_l11Op {o : SOp} (hb : BOp o) : F_spec_l11Op o = some o := (U_spec_l11Op o).out (by
  simp only [V_spec_l02Copy hb.qb, V_spec_l02Copy hb.ob, Option.bind_some]
  have hl := hb.sb
  have e := loop_fold (f := fun f z => L_spec_l11Opx0 o f z.1 z.2.1 z.2.2.1 z.2.2.2.1 z.2.2.2.2) (fun i (a : Int × List SNode × List SNode × List SStep) => (a.1, a.2.1, a.2.2.1, a.2.2.2, (i : Int))) o.2.2.2.1 (fun i a => a.2.2.2.length = i)
    (fun i x a => (a.1, a.2.1, a.2.2.1, a.2.2.2 ++ [x]))
    (fun i x a g hx ha => by
      have l1 := (List.getElem?_eq_some_iff.1 hx).1
      simp only [L_spec_l11Opx0, lt_nat hx, cond_true, ix_some hx, Option.bind_some, wrap_nat (show i < 9223372036854775807 by omega)]
      rw [apx_some (by simp [ha]; omega)]; simp only [Option.bind_some, wrap_nat (show i < 9223372036854775807 by omega)])
    (fun i x a _ ha => by simp [ha])
    (fun a g _ => by simp [L_spec_l11Opx0]) (o.1, o.2.1, o.2.2.1, []) rfl
  rw [foldI_const (fun (x : SStep) (a : Int × List SNode × List SNode × List SStep) => (a.1, a.2.1, a.2.2.1, a.2.2.2 ++ [x]))] at e
  have key : ∀ (l : List Sp) (a : Int × List SNode × List SNode × List SStep), l.foldl (fun a x => (a.1, a.2.1, a.2.2.1, a.2.2.2 ++ [x])) a = (a.1, a.2.1, a.2.2.1, a.2.2.2 ++ l) := by
    intro l
    induction l with
    | nil => intro a; simp
    | cons x l ih => intro a; simp [ih]
  rw [key] at e
  rw [show ((0 : Nat) : Int) = 0 from rfl] at e
  simp only at e
  rw [e]; simp)
theorem V_spec_OnlyDirect {s : List STable} {ops : List SOp} (hl : ops.length ≤ 1073741824) (hb : ∀ o ∈ ops, BOp o) : F_spec_OnlyDirect s ops = some (ops.map directOp) := (U_spec_OnlyDirect s ops).out (by
  have e := loop_map (f := fun f z => L_spec_OnlyDirectx0 ops f z.1 z.2) ops directOp (by omega)
    (fun i o a g hx ha => by
      have l1 := (List.getElem?_eq_some_iff.1 hx).1
      have hbo := hb o (mem_of_get hx)
      simp only [L_spec_OnlyDirectx0, lt_nat hx, cond_true, ix_some hx, Option.bind_some, V_spec_l11Op hbo, V_spec_Lift hbo.qb, wrap_nat (show i < 9223372036854775807 by omega), beq_dec, lift, directOp]
      have hw := wrap_nat (show i < 9223372036854775807 by omega)
      cases hc : closed o.2.1 with
      | false =>
        by_cases h0 : o.1 = 0
        · simp [h0]; rw [apx_some (by simp [ha]; omega)]; simp [hw]
        · simp [h0]; rw [apx_some (by simp [ha]; omega)]; simp [hw]
      | true =>
        by_cases h0 : o.1 = 0
        · simp [h0]; rw [apx_some (by simp [ha]; omega)]; simp [hw]
        · simp [h0]; rw [apx_some (by simp [ha]; omega)]; simp [hw])
    (fun a g => by simp [L_spec_OnlyDirectx0])
  rw [e]; simp)
theorem V_impl_OnlyDirect {s : List STable} {ops : List SOp} (hl : ops.length ≤ 1073741824) (hb : ∀ o ∈ ops, BOp o) : F_impl_OnlyDirect s ops = some (ops.map directOp) := (U_impl_OnlyDirect s ops).out (by
  have e := loop_map (f := fun f z => L_impl_OnlyDirectx0 ops f z.1 z.2) ops directOp (by omega)
    (fun i o a g hx ha => by
      have l1 := (List.getElem?_eq_some_iff.1 hx).1
      have hbo := hb o (mem_of_get hx)
      have hs := hbo.sb
      have hw := wrap_nat (show i < 9223372036854775807 by omega)
      have hap : apx [] o.2.2.2.1 = some o.2.2.2.1 := by rw [apx_some (by simp; omega)]; simp
      simp only [L_impl_OnlyDirectx0, lt_nat hx, cond_true, ix_some hx, Option.bind_some, V_impl_own hbo.ob, hap, V_impl_own hbo.qb, V_impl_Lift hbo.qb, beq_dec, lift, directOp]
      cases hc : closed o.2.1 with
      | false =>
        simp [V_impl_own hbo.qb]; rw [apx_some (by simp [ha]; omega)]; simp [hw]
      | true =>
        by_cases h0 : o.1 = 0
        · simp [h0, V_impl_own hbo.qb]; rw [apx_some (by simp [ha]; omega)]; simp [hw]
        · simp [h0, V_impl_own hbo.qb]; rw [apx_some (by simp [ha]; omega)]; simp [hw])
    (fun a g => by simp [L_impl_OnlyDirectx0])
  rw [e]; simp)
end Go.Proofs.YtglbcdlplbomdaaX
namespace Go.Proofs.YtglbcdlplbomdaaX
open Go Go.Proofs.YtglbcdlplbomdaaT
set_option linter.all false
def WL {T : Type} (W : T → Prop) (l : List T) : Prop := l.length ≤ maxLen ∧ ∀ x ∈ l, W x
def zTb (t : Tb) : Nat := t.1.size
def zNd (n : Nd) : Nat := n.2.1.size + n.2.2.2.2.2.2.1.length
def WTb (t : Tb) : Prop := t.1.size ≤ maxLen
def WNd (n : Nd) : Prop := n.2.1.size ≤ maxLen ∧ n.2.2.2.2.2.2.1.length ≤ maxLen
theorem sz_IntS {a : List Int} (hw : a.length ≤ maxLen) {v : Int} (h0 : 0 ≤ v) (h1 : v ≤ 1048576) : F_laws_szIntS a v = some (if (a.length : Int) ≤ v then v - (a.length : Nat) else -1) := (U_laws_szIntS a v).out (by
  rw [wrap_sub h0 h1 hw, sub_neg]
  by_cases h : (a.length : Int) ≤ v <;> simp [h])
theorem sz_Table {a : STable} (hw : WTb a) {v : Int} (h0 : 0 ≤ v) (h1 : v ≤ 1048576) : F_laws_szTable a v = some (if (zTb a : Int) ≤ v then v - (zTb a : Nat) else -1) := (U_laws_szTable a v).out (by
  unfold WTb at hw
  rw [wrap_sub h0 h1 hw, sub_neg]
  unfold zTb
  by_cases h : (a.1.size : Int) ≤ v <;> simp [h])
theorem sz_Node {a : SNode} (hw : WNd a) {v : Int} (h0 : 0 ≤ v) (h1 : v ≤ 1048576) : F_laws_szNode a v = some (if (zNd a : Int) ≤ v then v - (zNd a : Nat) else -1) := (U_laws_szNode a v).out (by
  rw [wrap_sub h0 h1 hw.1, sub_neg]
  unfold zNd
  by_cases h : (a.2.1.size : Int) ≤ v
  · rw [sz_IntS hw.2 (by omega) (by omega)]
    by_cases h2 : (a.2.2.2.2.2.2.1.length : Int) ≤ v - (a.2.1.size : Nat)
    · rw [if_pos h2, if_pos (by omega)]
      have : decide (v - (a.2.1.size : Int) - (a.2.2.2.2.2.2.1.length : Int) < 0) = false := by simp; omega
      simp [h, this]; omega
    · rw [if_neg h2, if_neg (by omega)]
      simp [h]
  · rw [if_neg (by omega)]
    simp [h])
theorem sz_list {T : Type} {W : T → Prop} {z : T → Nat} {a : List T} (hw : WL W a) {v : Int} (h0 : 0 ≤ v) (h1 : v ≤ 1048576) {G : T → Int → Option Int}
    (hG : ∀ x, W x → ∀ v : Int, 0 ≤ v → v ≤ 1048576 → G x v = some (if (z x : Int) ≤ v then v - z x else -1))
    {L : (Int × Int × Int → Option (Ex Int (Int × Int))) → Int × Int × Int → Option (Ex Int (Int × Int))}
    (hL : ∀ f v u i, L f (v, u, i) = bif decide (i < (a.length : Int)) then (ix a i).bind fun x => (G x v).bind fun y => bif decide (y < 0) then some (.ret (-1)) else f (y, u, IntKind.i64.wrap (i + 1)) else some (.go (v, u)))
    {J : Int → Int → Option Int} (hJ : ∀ x y, J x y = some x) :
    (bif decide ((IntKind.i64.wrap (v - (a.length : Int))) < 0) then some (-1) else joinK (loopF L ((IntKind.i64.wrap (v - (a.length : Int))), 0, 0)) (fun s => J s.1 s.2)) = some (if (zL z a : Int) ≤ v then v - (zL z a : Nat) else -1) := by
  rw [wrap_sub h0 h1 hw.1, sub_neg]
  unfold zL
  by_cases h : (a.length : Int) ≤ v
  · rw [sz_loop (z := z) (fun x hx => hG x (hw.2 x hx)) (by omega) hL (by omega) (by omega)]
    by_cases h2 : (((a.map z).sum : Nat) : Int) ≤ v - (a.length : Nat)
    · rw [if_pos h2, if_pos (by omega)]
      simp [h, hJ]; omega
    · rw [if_neg h2, if_neg (by omega)]
      simp [h]
  · rw [if_neg (by omega)]
    simp [h]
theorem sz_TableS {a : List STable} (hw : WL WTb a) {v : Int} (h0 : 0 ≤ v) (h1 : v ≤ 1048576) : F_laws_szTableS a v = some (if (zL zTb a : Int) ≤ v then v - (zL zTb a : Nat) else -1) :=
  (U_laws_szTableS a v).out (sz_list hw h0 h1 (fun x hx v h0 h1 => sz_Table hx h0 h1) (fun f v u i => rfl) (fun _ _ => rfl))
theorem sz_NodeS {a : List SNode} (hw : WL WNd a) {v : Int} (h0 : 0 ≤ v) (h1 : v ≤ 1048576) : F_laws_szNodeS a v = some (if (zL zNd a : Int) ≤ v then v - (zL zNd a : Nat) else -1) :=
  (U_laws_szNodeS a v).out (sz_list hw h0 h1 (fun x hx v h0 h1 => sz_Node hx h0 h1) (fun f v u i => rfl) (fun _ _ => rfl))
theorem to_IntS {a : List Int} (h : a.length ≤ 1048576) : F_laws_toIntS a = some a := (U_laws_toIntS a).out (by
  rw [mkx_nat (by omega)]
  simp only [Option.bind_some]
  rw [to_loop (G := some) (fun _ _ => rfl) h (fun f v i => rfl) (by simp)]
  rfl)
theorem to_list {T : Type} {z : T → Nat} {a : List T} (h : zL z a ≤ 1048576) {G : T → Option T} (hG : ∀ x, z x ≤ 1048576 → G x = some x) {x0 : T} {L : (List T × Int → Option (Ex (List T) (List T))) → List T × Int → Option (Ex (List T) (List T))}
    (hL : ∀ f v i, L f (v, i) = bif decide (i < (a.length : Int)) then (ix a i).bind fun x => (G x).bind fun y => (ix v i).bind fun _ => (stx v i y).bind fun v' => f (v', IntKind.i64.wrap (i + 1)) else some (.go v))
    {J : List T → Option (List T)} (hJ : ∀ x, J x = some x) : (mkx (a.length : Int) x0).bind (fun z1 => joinK (loopF L (z1, 0)) (fun s => J s)) = some a := by
  have hl := zL_len (z := z) (l := a)
  rw [mkx_nat (by omega)]
  simp only [Option.bind_some]
  rw [to_loop (fun x hx => hG x (by have := zL_mem (z := z) hx; omega)) (by omega) hL (by simp)]
  simp [hJ]
theorem to_Table (a : STable) : F_laws_toTable a = some a := (U_laws_toTable a).out rfl
theorem to_Node {a : SNode} (h : zNd a ≤ 1048576) : F_laws_toNode a = some a := (U_laws_toNode a).out (by
  unfold zNd at h
  rw [to_IntS (by omega)]; rfl)
theorem to_TableS {a : List STable} (h : zL zTb a ≤ 1048576) : F_laws_toTableS a = some a :=
  (U_laws_toTableS a).out (to_list h (fun x _ => to_Table x) (fun f v i => rfl) (fun _ => rfl))
theorem to_NodeS {a : List SNode} (h : zL zNd a ≤ 1048576) : F_laws_toNodeS a = some a :=
  (U_laws_toNodeS a).out (to_list h (fun x hx => to_Node hx) (fun f v i => rfl) (fun _ => rfl))
theorem eq_IntS {a : List Int} (hl : a.length ≤ 1073741824) : F_laws_eqIntS a a = some true := (U_laws_eqIntS a a).out (by
  rw [eq_loop hl (fun f i x v hx _ => by
    have l1 := (List.getElem?_eq_some_iff.1 hx).1
    simp only [L_laws_eqIntSx0, lt_nat hx, cond_true, ix_some hx, Option.bind_some, wrap_nat (show i < 9223372036854775807 by omega)]
    simp) (fun f v => by simp [L_laws_eqIntSx0])]
  simp)
theorem eq_Table (a : STable) : F_laws_eqTable a a = some true := (U_laws_eqTable a a).out (by simp)
theorem eq_Node {a : SNode} (h : a.2.2.2.2.2.2.1.length ≤ 1073741824) : F_laws_eqNode a a = some true := (U_laws_eqNode a a).out (by simp [eq_IntS h])
theorem eq_TableS {a : List STable} (hl : a.length ≤ 1073741824) : F_laws_eqTableS a a = some true := (U_laws_eqTableS a a).out (by
  rw [eq_loop hl (fun f i x v hx _ => by
    have l1 := (List.getElem?_eq_some_iff.1 hx).1
    simp only [L_laws_eqTableSx0, lt_nat hx, cond_true, ix_some hx, Option.bind_some, wrap_nat (show i < 9223372036854775807 by omega), eq_Table]
    simp) (fun f v => by simp [L_laws_eqTableSx0])]
  simp)
def CNd (n : Nd) : Prop := n.2.2.2.2.2.2.1.length ≤ 1073741824
theorem eq_NodeS {a : List SNode} (hl : a.length ≤ 1073741824) (hc : ∀ n ∈ a, CNd n) : F_laws_eqNodeS a a = some true := (U_laws_eqNodeS a a).out (by
  rw [eq_loop hl (fun f i x v hx hm => by
    have l1 := (List.getElem?_eq_some_iff.1 hx).1
    simp only [L_laws_eqNodeSx0, lt_nat hx, cond_true, ix_some hx, Option.bind_some, wrap_nat (show i < 9223372036854775807 by omega), eq_Node (hc x hm)]
    simp) (fun f v => by simp [L_laws_eqNodeSx0])]
  simp)
end Go.Proofs.YtglbcdlplbomdaaX
namespace Go.Proofs.YtglbcdlplbomdaaX
open Go Go.Proofs.YtglbcdlplbomdaaT
set_option linter.all false
theorem bplan_of {p : List Nd} (h : zL zNd p ≤ 1048576) : BPlan p := ⟨by have := zL_len (z := zNd) (l := p); omega, fun t ht => by
  have := zL_mem (z := zNd) ht; have e : zNd t = t.2.1.size + t.2.2.2.2.2.2.1.length := rfl; exact ⟨by omega, by omega⟩⟩
theorem cnd_of {p : List Nd} (h : zL zNd p ≤ 1048576) : ∀ n ∈ p, CNd n := fun t ht => by
  have := zL_mem (z := zNd) ht; have e : zNd t = t.2.1.size + t.2.2.2.2.2.2.1.length := rfl; unfold CNd; omega
theorem bne_self_int (a : Int) : (a != a) = false := by simp
end Go.Proofs.YtglbcdlplbomdaaX
namespace Go.Proofs.YtglbcdlplbomdaaX
open Go Go.Proofs.YtglbcdlplbomdaaT
theorem wl_TableS {n : Nat} {x : List Tb} (h : wfT (.sl n (.pr .str (.pr (.int .i64) .un))) x) : WL WTb x := ⟨h.1, fun y hy => (h.2 y hy).1⟩
end Go.Proofs.YtglbcdlplbomdaaX
namespace Go.Proofs.YtglbcdlplbomdaaX
open Go Go.Proofs.YtglbcdlplbomdaaT
set_option linter.all false
theorem quo10 {v : Int} (h0 : 0 ≤ v) (h1 : v ≤ 4611686018427387904) : quox v 10 = some (v / 10) := quox_some h0 (by omega) (by omega)
theorem text_loop : ∀ (m : Nat) (v : Int) (s : ByteArray), v < 10 ^ m → v ≤ 4611686018427387904 → 0 ≤ v → s.size + m ≤ 1000 →
    ∃ s', (∀ n, m + 1 ≤ n → loopK (fun f z => L_laws_markTextx0 f z.1 z.2) n (v, s) = some (.go s')) ∧ s'.size ≤ 1000 := by
  intro m
  induction m with
  | zero =>
    intro v s hv _ h0 hs
    have : v = 0 := by simp at hv; omega
    subst this
    refine ⟨s, fun n hn => ?_, by omega⟩
    obtain ⟨k, rfl⟩ : ∃ k, n = k + 1 := ⟨n - 1, by omega⟩
    simp [loopK, L_laws_markTextx0]
  | succ m ih =>
    intro v s hv hmx h0 hs
    by_cases hp : v > 0
    · have hb : (bsOf [IntKind.u8.wrap (IntKind.i64.wrap (48 + v.tmod 10))]).size = 1 := rfl
      have hadd : addx (bsOf [IntKind.u8.wrap (IntKind.i64.wrap (48 + v.tmod 10))]) s = some (bsOf [IntKind.u8.wrap (IntKind.i64.wrap (48 + v.tmod 10))] ++ s) := by
        unfold addx
        rw [hb, show Nat.ble (1 + s.size) 4611686018427387904 = true by rw [Nat.ble_eq]; omega]; rfl
      have hlt : v / 10 < 10 ^ m := by
        have : (10 : Int) ^ (m + 1) = 10 ^ m * 10 := by rw [Int.pow_succ]
        rw [this] at hv
        exact Int.ediv_lt_of_lt_mul (by omega) hv
      obtain ⟨s', h1, h2⟩ := ih (v / 10) (bsOf [IntKind.u8.wrap (IntKind.i64.wrap (48 + v.tmod 10))] ++ s) hlt (by omega) (by omega) (by rw [ByteArray.size_append, hb]; omega)
      refine ⟨s', fun n hn => ?_, h2⟩
      obtain ⟨k, rfl⟩ : ∃ k, n = k + 1 := ⟨n - 1, by omega⟩
      have hr : remx v 10 = some (v.tmod 10) := rfl
      simp only [loopK, L_laws_markTextx0, show decide (v > 0) = true by simpa using hp, cond_true, hr, Option.bind_some, hadd, quo10 h0 hmx]
      exact h1 k (by omega)
    · refine ⟨s, fun n hn => ?_, by omega⟩
      obtain ⟨k, rfl⟩ : ∃ k, n = k + 1 := ⟨n - 1, by omega⟩
      simp only [loopK, L_laws_markTextx0, show decide (v > 0) = false by simpa using hp, cond_false]
noncomputable def textM (k : Int) : ByteArray := (F_laws_markText k).getD ByteArray.empty
theorem V_markText {k : Int} (h0 : 0 ≤ k) (h1 : k ≤ 4611686018427387904) : F_laws_markText k = some (textM k) := by
  suffices h : ∃ r, F_laws_markText k = some r by
    obtain ⟨r, hr⟩ := h
    simp [textM, hr]
  by_cases hk : k ≤ 0
  · exact ⟨_, (U_laws_markText k).out (by simp only [hk, decide_true, cond_true]; rfl)⟩
  · obtain ⟨s', h2, h3⟩ := text_loop 20 k ByteArray.empty (by omega) h1 h0 (by simp)
    refine ⟨(⟨#[109]⟩ : ByteArray) ++ s', (U_laws_markText k).out ?_⟩
    simp only [hk, decide_false, cond_false, loopF_of 21 h2, joinK_go, J_laws_markTextx0]
    unfold addx
    have h4 : (⟨#[109]⟩ : ByteArray).size = 1 := rfl
    rw [h4, show Nat.ble (1 + s'.size) 4611686018427387904 = true by rw [Nat.ble_eq]; omega]
    rfl
def wI (_ : Int) : Nat := 1
def mkI (_ k : Int) : Int := k
theorem mark_IntS {a : List Int} {k : Int} (hl : a.length ≤ 1073741824) (h0 : 0 ≤ k) (hB : k + wtL wI a ≤ 4611686018427387904) : F_laws_markIntS a k = some (k + wtL wI a, mkL mkI wI a k) := (U_laws_markIntS a k).out (by
  rw [mark_loop (mk := mkI) (w := wI) hl h0 hB
    (fun f v i x k hx hm hlen h0 hB => by
      have l1 := (List.getElem?_eq_some_iff.1 hx).1
      have hw : IntKind.i64.wrap (k + 1) = k + 1 := by unfold wI at hB; rw [wrap_sml] <;> omega
      simp only [L_laws_markIntSx0, lt_nat hx, cond_true, ix_some hx, Option.bind_some, stx_nat l1, hw, wrap_nat (show i < 9223372036854775807 by omega), wI, mkI]
      rfl)
    (fun f v k => by simp [L_laws_markIntSx0])]
  simp)
theorem held_IntS {a : List Int} {k : Int} (hl : a.length ≤ 1073741824) (h0 : 0 ≤ k) (hB : k + wtL wI a ≤ 4611686018427387904) : F_laws_heldIntS (mkL mkI wI a k) k = some (k + wtL wI a) := (U_laws_heldIntS _ k).out (by
  rw [held_loop (mk := mkI) (w := wI) (a := a) hl h0 hB
    (fun f i x k' u hx hm h0 hB => by
      have l1 := (List.getElem?_eq_some_iff.1 hx).1
      rw [mkL_len] at l1
      have hw : IntKind.i64.wrap (k' + 1) = k' + 1 := by unfold wI at hB; rw [wrap_sml] <;> omega
      simp only [L_laws_heldIntSx0, lt_nat hx, cond_true, ix_some hx, Option.bind_some, hw, wrap_nat (show i < 9223372036854775807 by omega), wI, mkI]
      simp)
    (fun f k u => by simp [L_laws_heldIntSx0])]
  simp)
def wTb (_ : Tb) : Nat := 2
noncomputable def mkTb (_ : Tb) (k : Int) : Tb := (textM k, k + 1, ())
theorem mark_TableS {a : List STable} {k : Int} (hl : a.length ≤ 1073741824) (h0 : 0 ≤ k) (hB : k + wtL wTb a ≤ 4611686018427387904) : F_laws_markTableS a k = some (k + wtL wTb a, mkL mkTb wTb a k) := (U_laws_markTableS a k).out (by
  rw [mark_loop (mk := mkTb) (w := wTb) hl h0 hB
    (fun f v i x k hx hm hlen h0 hB => by
      have l1 := (List.getElem?_eq_some_iff.1 hx).1
      have hB' : k + 2 ≤ 4611686018427387904 := hB
      have hw : IntKind.i64.wrap (k + 1) = k + 1 := by rw [wrap_sml] <;> omega
      have hw2 : IntKind.i64.wrap (k + 1 + 1) = k + 2 := by rw [wrap_sml] <;> omega
      simp only [L_laws_markTableSx0, lt_nat hx, cond_true, ix_some hx, Option.bind_some, V_markText h0 (show k ≤ 4611686018427387904 by omega), Int.toNat_natCast, ix_set l1, List.set_set, hw, hw2, wrap_nat (show i < 9223372036854775807 by omega), wTb, mkTb]
      rfl)
    (fun f v k => by simp [L_laws_markTableSx0])]
  simp)
def wSp (_ : Sp) : Nat := 2
def mkSp (_ : Sp) (k : Int) : Sp := (k, k + 1, ())
theorem mark_StepS {a : List SStep} {k : Int} (hl : a.length ≤ 1073741824) (h0 : 0 ≤ k) (hB : k + wtL wSp a ≤ 4611686018427387904) : F_laws_markStepS a k = some (k + wtL wSp a, mkL mkSp wSp a k) := (U_laws_markStepS a k).out (by
  rw [mark_loop (mk := mkSp) (w := wSp) hl h0 hB
    (fun f v i x k hx hm hlen h0 hB => by
      have l1 := (List.getElem?_eq_some_iff.1 hx).1
      have hB' : k + 2 ≤ 4611686018427387904 := hB
      have hw : IntKind.i64.wrap (k + 1) = k + 1 := by rw [wrap_sml] <;> omega
      have hw2 : IntKind.i64.wrap (k + 1 + 1) = k + 2 := by rw [wrap_sml] <;> omega
      simp only [L_laws_markStepSx0, lt_nat hx, cond_true, ix_some hx, Option.bind_some, Int.toNat_natCast, ix_set l1, List.set_set, hw, hw2, wrap_nat (show i < 9223372036854775807 by omega), wSp, mkSp]
      rfl)
    (fun f v k => by simp [L_laws_markStepSx0])]
  simp)
theorem held_StepS {a : List SStep} {k : Int} (hl : a.length ≤ 1073741824) (h0 : 0 ≤ k) (hB : k + wtL wSp a ≤ 4611686018427387904) : F_laws_heldStepS (mkL mkSp wSp a k) k = some (k + wtL wSp a) := (U_laws_heldStepS _ k).out (by
  rw [held_loop (mk := mkSp) (w := wSp) (a := a) hl h0 hB
    (fun f i x k' u hx hm h0 hB => by
      have l1 := (List.getElem?_eq_some_iff.1 hx).1
      rw [mkL_len] at l1
      have hB' : k' + 2 ≤ 4611686018427387904 := hB
      have hw : IntKind.i64.wrap (k' + 1) = k' + 1 := by rw [wrap_sml] <;> omega
      have hw2 : IntKind.i64.wrap (k' + 1 + 1) = k' + 2 := by rw [wrap_sml] <;> omega
      simp only [L_laws_heldStepSx0, lt_nat hx, cond_true, ix_some hx, Option.bind_some, hw, hw2, wrap_nat (show i < 9223372036854775807 by omega), wSp, mkSp]
      simp)
    (fun f k u => by simp [L_laws_heldStepSx0])]
  simp)
def wNd (n : Nd) : Nat := 6 + wtL wI n.2.2.2.2.2.2.1
noncomputable def mkNd (n : Nd) (k : Int) : Nd := (k, textM (k + 1), k + 2, k + 3, k + 4, decide ((k + 5).tmod 3 = 0), mkL mkI wI n.2.2.2.2.2.2.1 (k + 6), ())
theorem remx3 (v : Int) : remx v 3 = some (v.tmod 3) := rfl
theorem mark_NodeS {a : List SNode} {k : Int} (hl : a.length ≤ 1073741824) (hc : ∀ n ∈ a, CNd n) (h0 : 0 ≤ k) (hB : k + wtL wNd a ≤ 4611686018427387904) : F_laws_markNodeS a k = some (k + wtL wNd a, mkL mkNd wNd a k) := (U_laws_markNodeS a k).out (by
  rw [mark_loop (mk := mkNd) (w := wNd) hl h0 hB
    (fun f v i x k hx hm hlen h0 hB => by
      have l1 := (List.getElem?_eq_some_iff.1 hx).1
      have hB' : k + (6 + wtL wI x.2.2.2.2.2.2.1 : Nat) ≤ 4611686018427387904 := hB
      have hw : IntKind.i64.wrap (k + 1) = k + 1 := by rw [wrap_sml] <;> omega
      have hw2 : IntKind.i64.wrap (k + 1 + 1) = k + 2 := by rw [wrap_sml] <;> omega
      have hw3 : IntKind.i64.wrap (k + 2 + 1) = k + 3 := by rw [wrap_sml] <;> omega
      have hw4 : IntKind.i64.wrap (k + 3 + 1) = k + 4 := by rw [wrap_sml] <;> omega
      have hw5 : IntKind.i64.wrap (k + 4 + 1) = k + 5 := by rw [wrap_sml] <;> omega
      have hw6 : IntKind.i64.wrap (k + 5 + 1) = k + 6 := by rw [wrap_sml] <;> omega
      simp only [L_laws_markNodeSx0, lt_nat hx, cond_true, ix_some hx, Option.bind_some, hw, hw2, hw3, hw4, hw5, hw6, V_markText (show 0 ≤ k + 1 by omega) (show k + 1 ≤ 4611686018427387904 by omega), Int.toNat_natCast, ix_set l1, List.set_set, remx3, bind2,
        mark_IntS (hc x hm) (show 0 ≤ k + 6 by omega) (show k + 6 + wtL wI x.2.2.2.2.2.2.1 ≤ 4611686018427387904 by omega), wrap_nat (show i < 9223372036854775807 by omega), wNd, mkNd, beq_dec]
      rw [show k + 6 + (wtL wI x.2.2.2.2.2.2.1 : Int) = k + ((6 + wtL wI x.2.2.2.2.2.2.1 : Nat) : Int) by omega])
    (fun f v k => by simp [L_laws_markNodeSx0])]
  simp)
theorem held_NodeS {a : List SNode} {k : Int} (hl : a.length ≤ 1073741824) (hc : ∀ n ∈ a, CNd n) (h0 : 0 ≤ k) (hB : k + wtL wNd a ≤ 4611686018427387904) : F_laws_heldNodeS (mkL mkNd wNd a k) k = some (k + wtL wNd a) := (U_laws_heldNodeS _ k).out (by
  rw [held_loop (mk := mkNd) (w := wNd) (a := a) hl h0 hB
    (fun f i x k u hx hm h0 hB => by
      have l1 := (List.getElem?_eq_some_iff.1 hx).1
      rw [mkL_len] at l1
      have hB' : k + (6 + wtL wI x.2.2.2.2.2.2.1 : Nat) ≤ 4611686018427387904 := hB
      have hw : IntKind.i64.wrap (k + 1) = k + 1 := by rw [wrap_sml] <;> omega
      have hw2 : IntKind.i64.wrap (k + 1 + 1) = k + 2 := by rw [wrap_sml] <;> omega
      have hw3 : IntKind.i64.wrap (k + 2 + 1) = k + 3 := by rw [wrap_sml] <;> omega
      have hw4 : IntKind.i64.wrap (k + 3 + 1) = k + 4 := by rw [wrap_sml] <;> omega
      have hw5 : IntKind.i64.wrap (k + 4 + 1) = k + 5 := by rw [wrap_sml] <;> omega
      have hw6 : IntKind.i64.wrap (k + 5 + 1) = k + 6 := by rw [wrap_sml] <;> omega
      have hng : decide (k + 6 + (wtL wI x.2.2.2.2.2.2.1 : Int) < 0) = false := by simp; omega
      simp only [L_laws_heldNodeSx0, lt_nat hx, cond_true, ix_some hx, Option.bind_some, hw, hw2, hw3, hw4, hw5, hw6, V_markText (show 0 ≤ k + 1 by omega) (show k + 1 ≤ 4611686018427387904 by omega), remx3, mkNd, beq_dec, bne_dec, decide_true, Bool.not_true, cond_false, beq_self_eq_true, bne_self_eq_false,
        held_IntS (hc x hm) (show 0 ≤ k + 6 by omega) (show k + 6 + wtL wI x.2.2.2.2.2.2.1 ≤ 4611686018427387904 by omega), hng, wrap_nat (show i < 9223372036854775807 by omega), wNd]
      rw [show k + 6 + (wtL wI x.2.2.2.2.2.2.1 : Int) = k + ((6 + wtL wI x.2.2.2.2.2.2.1 : Nat) : Int) by omega])
    (fun f k u => by simp [L_laws_heldNodeSx0])]
  simp)
theorem eq_Step (a : SStep) : F_laws_eqStep a a = some true := (U_laws_eqStep a a).out (by simp)
theorem eq_StepS {a : List SStep} (hl : a.length ≤ 1073741824) : F_laws_eqStepS a a = some true := (U_laws_eqStepS a a).out (by
  rw [eq_loop hl (fun f i x v hx _ => by
    have l1 := (List.getElem?_eq_some_iff.1 hx).1
    simp only [L_laws_eqStepSx0, lt_nat hx, cond_true, ix_some hx, Option.bind_some, wrap_nat (show i < 9223372036854775807 by omega), eq_Step]
    simp) (fun f v => by simp [L_laws_eqStepSx0])]
  simp)
theorem wtL_le {T : Type} {w z : T → Nat} {c : Nat} (h : ∀ x, w x ≤ c + c * z x) (l : List T) : wtL w l ≤ c * zL z l := by
  unfold wtL zL
  induction l with
  | nil => simp
  | cons x l ih =>
    have := h x
    simp only [List.map_cons, List.sum_cons, List.length_cons, Nat.mul_add, Nat.mul_one] at ih ⊢
    omega
theorem wtL_I (l : List Int) : wtL wI l = l.length := by
  unfold wtL wI
  induction l with
  | nil => rfl
  | cons x l ih => simp only [List.map_cons, List.sum_cons, ih, List.length_cons]; omega
theorem wtb_le (l : List Tb) : wtL wTb l ≤ 2 * zL zTb l := wtL_le (fun x => by unfold wTb; omega) l
theorem wnd_le (l : List Nd) : wtL wNd l ≤ 6 * zL zNd l := wtL_le (fun x => by unfold wNd zNd; rw [wtL_I]; omega) l
theorem wsp_le (l : List Sp) : wtL wSp l ≤ 2 * l.length := by
  unfold wtL wSp
  induction l with
  | nil => simp
  | cons x l ih => simp only [List.map_cons, List.sum_cons, List.length_cons]; omega
end Go.Proofs.YtglbcdlplbomdaaX
namespace Go.Proofs.YtglbcdlplbomdaaX
open Go Go.Proofs.YtglbcdlplbomdaaT
set_option linter.all false
def zOp (o : Opn) : Nat := zL zNd o.2.1 + zL zNd o.2.2.1 + o.2.2.2.1.length
def WOp (o : Opn) : Prop := WL WNd o.2.1 ∧ WL WNd o.2.2.1 ∧ o.2.2.2.1.length ≤ maxLen
theorem sz_StepS {a : List SStep} (hw : a.length ≤ maxLen) {v : Int} (h0 : 0 ≤ v) (h1 : v ≤ 1048576) : F_laws_szStepS a v = some (if (a.length : Int) ≤ v then v - (a.length : Nat) else -1) := (U_laws_szStepS a v).out (by
  rw [wrap_sub h0 h1 hw, sub_neg]
  by_cases h : (a.length : Int) ≤ v <;> simp [h])
theorem ite_neg {v : Int} {n : Nat} (h0 : 0 ≤ v) : decide ((if (n : Int) ≤ v then v - (n : Nat) else -1) < 0) = !decide ((n : Int) ≤ v) := by
  by_cases h : (n : Int) ≤ v
  · have : ¬ (v - (n : Int) < 0) := by omega
    simp [h, this]
  · simp [h]
theorem sz_Op {a : SOp} (hw : WOp a) {v : Int} (h0 : 0 ≤ v) (h1 : v ≤ 1048576) : F_laws_szOp a v = some (if (zOp a : Int) ≤ v then v - (zOp a : Nat) else -1) := (U_laws_szOp a v).out (by
  obtain ⟨w1, w2, w3⟩ := hw
  have e : zOp a = zL zNd a.2.1 + zL zNd a.2.2.1 + a.2.2.2.1.length := rfl
  rw [sz_NodeS w1 h0 h1]
  simp only [Option.bind_some, ite_neg h0]
  by_cases g1 : (zL zNd a.2.1 : Int) ≤ v
  rotate_left
  · rw [if_neg (show ¬ (zOp a : Int) ≤ v by omega)]; simp [g1]
  simp only [g1, decide_true, Bool.not_true, cond_false, if_true]
  rw [sz_NodeS w2 (by omega) (by omega)]
  simp only [Option.bind_some, ite_neg (show 0 ≤ v - (zL zNd a.2.1 : Nat) by omega)]
  by_cases g2 : (zL zNd a.2.2.1 : Int) ≤ v - (zL zNd a.2.1 : Nat)
  rotate_left
  · rw [if_neg (show ¬ (zOp a : Int) ≤ v by omega)]; simp [g2]
  simp only [g2, decide_true, Bool.not_true, cond_false, if_true]
  rw [sz_StepS w3 (by omega) (by omega)]
  simp only [Option.bind_some, ite_neg (show 0 ≤ v - (zL zNd a.2.1 : Nat) - (zL zNd a.2.2.1 : Nat) by omega)]
  by_cases g3 : (a.2.2.2.1.length : Int) ≤ v - (zL zNd a.2.1 : Nat) - (zL zNd a.2.2.1 : Nat)
  rotate_left
  · rw [if_neg (show ¬ (zOp a : Int) ≤ v by omega)]; simp [g3]
  simp only [g3, decide_true, Bool.not_true, cond_false, if_true]
  rw [if_pos (by omega)]
  congr 1; omega)
theorem sz_OpS {a : List SOp} (hw : WL WOp a) {v : Int} (h0 : 0 ≤ v) (h1 : v ≤ 1048576) : F_laws_szOpS a v = some (if (zL zOp a : Int) ≤ v then v - (zL zOp a : Nat) else -1) :=
  (U_laws_szOpS a v).out (sz_list hw h0 h1 (fun x hx v h0 h1 => sz_Op hx h0 h1) (fun f v u i => rfl) (fun _ _ => rfl))
theorem to_Step (a : SStep) : F_laws_toStep a = some a := (U_laws_toStep a).out rfl
theorem to_StepS {a : List SStep} (h : a.length ≤ 1048576) : F_laws_toStepS a = some a := (U_laws_toStepS a).out (by
  rw [mkx_nat (by omega)]
  simp only [Option.bind_some]
  rw [to_loop (G := F_laws_toStep) (fun x _ => to_Step x) h (fun f v i => rfl) (by simp)]
  rfl)
theorem to_Op {a : SOp} (h : zOp a ≤ 1048576) : F_laws_toOp a = some a := (U_laws_toOp a).out (by
  have e : zOp a = zL zNd a.2.1 + zL zNd a.2.2.1 + a.2.2.2.1.length := rfl
  rw [to_NodeS (by omega), to_NodeS (by omega), to_StepS (by omega)]; rfl)
theorem to_OpS {a : List SOp} (h : zL zOp a ≤ 1048576) : F_laws_toOpS a = some a :=
  (U_laws_toOpS a).out (to_list h (fun x hx => to_Op hx) (fun f v i => rfl) (fun _ => rfl))
structure COp (o : Opn) : Prop where
  l1 : o.2.1.length ≤ 1073741824
  c1 : ∀ n ∈ o.2.1, CNd n
  l2 : o.2.2.1.length ≤ 1073741824
  c2 : ∀ n ∈ o.2.2.1, CNd n
  l3 : o.2.2.2.1.length ≤ 1073741824
theorem eq_Op {a : SOp} (h : COp a) : F_laws_eqOp a a = some true := (U_laws_eqOp a a).out (by
  simp [eq_NodeS h.l1 h.c1, eq_NodeS h.l2 h.c2, eq_StepS h.l3])
theorem eq_OpS {a : List SOp} (hl : a.length ≤ 1073741824) (hc : ∀ n ∈ a, COp n) : F_laws_eqOpS a a = some true := (U_laws_eqOpS a a).out (by
  rw [eq_loop hl (fun f i x v hx hm => by
    have l1 := (List.getElem?_eq_some_iff.1 hx).1
    simp only [L_laws_eqOpSx0, lt_nat hx, cond_true, ix_some hx, Option.bind_some, wrap_nat (show i < 9223372036854775807 by omega), eq_Op (hc x hm)]
    simp) (fun f v => by simp [L_laws_eqOpSx0])]
  simp)
def wOp (o : Opn) : Nat := 1 + wtL wNd o.2.1 + wtL wNd o.2.2.1 + wtL wSp o.2.2.2.1
noncomputable def mkOp (o : Opn) (k : Int) : Opn := (k, mkL mkNd wNd o.2.1 (k + 1), mkL mkNd wNd o.2.2.1 (k + 1 + (wtL wNd o.2.1 : Nat)), mkL mkSp wSp o.2.2.2.1 (k + 1 + (wtL wNd o.2.1 : Nat) + (wtL wNd o.2.2.1 : Nat)), ())
theorem mark_OpS {a : List SOp} {k : Int} (hl : a.length ≤ 1073741824) (hc : ∀ n ∈ a, COp n) (h0 : 0 ≤ k) (hB : k + wtL wOp a ≤ 4611686018427387904) : F_laws_markOpS a k = some (k + wtL wOp a, mkL mkOp wOp a k) := (U_laws_markOpS a k).out (by
  rw [mark_loop (mk := mkOp) (w := wOp) hl h0 hB
    (fun f v i x k hx hm hlen h0 hB => by
      have l1 := (List.getElem?_eq_some_iff.1 hx).1
      have e : wOp x = 1 + wtL wNd x.2.1 + wtL wNd x.2.2.1 + wtL wSp x.2.2.2.1 := rfl
      have hw : IntKind.i64.wrap (k + 1) = k + 1 := by rw [wrap_sml] <;> omega
      have hcx := hc x hm
      have m1 := mark_NodeS (a := x.2.1) (k := k + 1) hcx.l1 hcx.c1 (by omega) (by omega)
      have m2 := mark_NodeS (a := x.2.2.1) (k := k + 1 + (wtL wNd x.2.1 : Nat)) hcx.l2 hcx.c2 (by omega) (by omega)
      have m3 := mark_StepS (a := x.2.2.2.1) (k := k + 1 + (wtL wNd x.2.1 : Nat) + (wtL wNd x.2.2.1 : Nat)) hcx.l3 (by omega) (by omega)
      simp only [L_laws_markOpSx0, lt_nat hx, cond_true, ix_some hx, Option.bind_some, hw, Int.toNat_natCast, ix_set l1, List.set_set, bind2, m1, m2, m3, wrap_nat (show i < 9223372036854775807 by omega), mkOp]
      rw [show k + 1 + (wtL wNd x.2.1 : Int) + (wtL wNd x.2.2.1 : Int) + (wtL wSp x.2.2.2.1 : Int) = k + ((wOp x : Nat) : Int) by omega])
    (fun f v k => by simp [L_laws_markOpSx0])]
  simp)
theorem held_OpS {a : List SOp} {k : Int} (hl : a.length ≤ 1073741824) (hc : ∀ n ∈ a, COp n) (h0 : 0 ≤ k) (hB : k + wtL wOp a ≤ 4611686018427387904) : F_laws_heldOpS (mkL mkOp wOp a k) k = some (k + wtL wOp a) := (U_laws_heldOpS _ k).out (by
  rw [held_loop (mk := mkOp) (w := wOp) (a := a) hl h0 hB
    (fun f i x k u hx hm h0 hB => by
      have l1 := (List.getElem?_eq_some_iff.1 hx).1
      rw [mkL_len] at l1
      have e : wOp x = 1 + wtL wNd x.2.1 + wtL wNd x.2.2.1 + wtL wSp x.2.2.2.1 := rfl
      have hw : IntKind.i64.wrap (k + 1) = k + 1 := by rw [wrap_sml] <;> omega
      have hcx := hc x hm
      have m1 := held_NodeS (a := x.2.1) (k := k + 1) hcx.l1 hcx.c1 (by omega) (by omega)
      have m2 := held_NodeS (a := x.2.2.1) (k := k + 1 + (wtL wNd x.2.1 : Nat)) hcx.l2 hcx.c2 (by omega) (by omega)
      have m3 := held_StepS (a := x.2.2.2.1) (k := k + 1 + (wtL wNd x.2.1 : Nat) + (wtL wNd x.2.2.1 : Nat)) hcx.l3 (by omega) (by omega)
      have n1 : decide (k + 1 + (wtL wNd x.2.1 : Int) < 0) = false := by simp; omega
      have n2 : decide (k + 1 + (wtL wNd x.2.1 : Int) + (wtL wNd x.2.2.1 : Int) < 0) = false := by simp; omega
      have n3 : decide (k + 1 + (wtL wNd x.2.1 : Int) + (wtL wNd x.2.2.1 : Int) + (wtL wSp x.2.2.2.1 : Int) < 0) = false := by simp; omega
      simp only [L_laws_heldOpSx0, lt_nat hx, cond_true, ix_some hx, Option.bind_some, hw, mkOp, bne_self_int, cond_false, m1, m2, m3, n1, n2, n3, wrap_nat (show i < 9223372036854775807 by omega)]
      rw [show k + 1 + (wtL wNd x.2.1 : Int) + (wtL wNd x.2.2.1 : Int) + (wtL wSp x.2.2.2.1 : Int) = k + ((wOp x : Nat) : Int) by omega])
    (fun f k u => by simp [L_laws_heldOpSx0])]
  simp)
theorem wop_le (l : List Opn) : wtL wOp l ≤ 6 * zL zOp l := wtL_le (fun o => by
  have h1 := wnd_le o.2.1
  have h2 := wnd_le o.2.2.1
  have h3 := wsp_le o.2.2.2.1
  unfold wOp zOp
  omega) l
theorem bop_of {o : Opn} (h : zOp o ≤ 1048576) : BOp o := by
  have e : zOp o = zL zNd o.2.1 + zL zNd o.2.2.1 + o.2.2.2.1.length := rfl
  exact ⟨bplan_of (by omega), bplan_of (by omega), by omega⟩
theorem cop_of {o : Opn} (h : zOp o ≤ 1048576) : COp o := by
  have e : zOp o = zL zNd o.2.1 + zL zNd o.2.2.1 + o.2.2.2.1.length := rfl
  have h1 := zL_len (z := zNd) (l := o.2.1)
  have h2 := zL_len (z := zNd) (l := o.2.2.1)
  exact ⟨by omega, cnd_of (by omega), by omega, cnd_of (by omega), by omega⟩
theorem ops_bop {l : List Opn} (h : zL zOp l ≤ 1048576) : ∀ o ∈ l, BOp o := fun o ho => bop_of (by have := zL_mem (z := zOp) ho; omega)
theorem ops_cop {l : List Opn} (h : zL zOp l ≤ 1048576) : ∀ o ∈ l, COp o := fun o ho => cop_of (by have := zL_mem (z := zOp) ho; omega)
theorem wl_OpS {n m k m2 k2 j : Nat} {x : List Opn} (h : wfT (.sl n (.pr (.int .i64) (.pr (.sl m (.pr (.int .i64) (.pr .str (.pr (.int .i64) (.pr (.int .i64) (.pr (.int .i64) (.pr .bool (.pr (.sl k (.int .i64)) .un)))))))) (.pr (.sl m2 (.pr (.int .i64) (.pr .str (.pr (.int .i64) (.pr (.int .i64) (.pr (.int .i64) (.pr .bool (.pr (.sl k2 (.int .i64)) .un)))))))) (.pr (.sl j (.pr (.int .i64) (.pr (.int .i64) .un))) .un))))) x) : WL WOp x :=
  ⟨h.1, fun y hy => ⟨⟨(h.2 y hy).2.1.1, fun z hz => ⟨((h.2 y hy).2.1.2 z hz).2.1, ((h.2 y hy).2.1.2 z hz).2.2.2.2.2.2.1.1⟩⟩, ⟨(h.2 y hy).2.2.1.1, fun z hz => ⟨((h.2 y hy).2.2.1.2 z hz).2.1, ((h.2 y hy).2.2.1.2 z hz).2.2.2.2.2.2.1.1⟩⟩, (h.2 y hy).2.2.2.1.1⟩⟩
theorem liftL_z : ∀ (l : List Nd) (i : Nat), zL zNd (liftL l i) = zL zNd l
  | [], _ => rfl
  | n :: l, i => by
    have h := liftL_z l
    unfold zL at h ⊢
    simp only [liftL]
    split
    · have := h (i + 1)
      have e : zNd (liftN n i) = zNd n := rfl
      simp only [List.length_cons, List.map_cons, List.sum_cons, e] at this ⊢
      omega
    · have := h i
      simp only [List.length_cons, List.map_cons, List.sum_cons] at this ⊢
      omega
theorem directOp_z (o : Opn) : zOp (directOp o) ≤ 2 * zOp o := by
  unfold directOp
  split
  · unfold zOp; simp only [liftL_z, List.length_nil]; omega
  · unfold zOp; simp only; omega
theorem direct_z (l : List Opn) : zL zOp (l.map directOp) ≤ 2 * zL zOp l := by
  unfold zL
  induction l with
  | nil => simp
  | cons o l ih =>
    have := directOp_z o
    simp only [List.map_cons, List.length_cons, List.sum_cons] at ih ⊢
    omega
theorem cop_of2 {o : Opn} (h : zOp o ≤ 4194304) : COp o := by
  have e : zOp o = zL zNd o.2.1 + zL zNd o.2.2.1 + o.2.2.2.1.length := rfl
  have h1 := zL_len (z := zNd) (l := o.2.1)
  have h2 := zL_len (z := zNd) (l := o.2.2.1)
  refine ⟨by omega, fun n hn => ?_, by omega, fun n hn => ?_, by omega⟩
  · have := zL_mem (z := zNd) hn; have e : zNd n = n.2.1.size + n.2.2.2.2.2.2.1.length := rfl; unfold CNd; omega
  · have := zL_mem (z := zNd) hn; have e : zNd n = n.2.1.size + n.2.2.2.2.2.2.1.length := rfl; unfold CNd; omega
theorem pure_FnExactOnlyDirect {a0 : List STable} {a1 : List SOp} (w0 : WL WTb a0) (w1 : WL WOp a1) : F_laws_FnExactOnlyDirect a0 a1 = some true := (U_laws_FnExactOnlyDirect a0 a1).out (by
  rw [sz_TableS w0 (by omega) (by omega)]
  by_cases h0 : (zL zTb a0 : Int) ≤ (1048576 : Int)
  rotate_left
  · rw [if_neg h0]; simp
  rw [if_pos h0]
  have hn0 : decide ((1048576 : Int) - (zL zTb a0 : Nat) < 0) = false := by simp; omega
  simp only [Option.bind_some, hn0, cond_false]
  rw [sz_OpS w1 (by omega) (by omega)]
  by_cases h1 : (zL zOp a1 : Int) ≤ (1048576 : Int) - (zL zTb a0 : Nat)
  rotate_left
  · rw [if_neg h1]; simp
  rw [if_pos h1]
  have hn1 : decide ((1048576 : Int) - (zL zTb a0 : Nat) - (zL zOp a1 : Nat) < 0) = false := by simp; omega
  have bo := ops_bop (l := a1) (by omega)
  have co := ops_cop (l := a1) (by omega)
  have hl0 := zL_len (z := zTb) (l := a0)
  have hl1 := zL_len (z := zOp) (l := a1)
  have hw0 := wtb_le a0
  have hw1 := wop_le a1
  have hz := direct_z a1
  have hw2 := wop_le (a1.map directOp)
  have hc2 : ∀ o ∈ a1.map directOp, COp o := fun o ho => cop_of2 (by have := zL_mem (z := zOp) ho; omega)
  have hl2 : (a1.map directOp).length ≤ 1073741824 := by simp; omega
  have m0 := mark_TableS (a := a0) (k := 1) (by omega) (by omega) (by omega)
  have m1 := mark_OpS (a := a1) (k := (1 : Int) + (wtL wTb a0 : Nat)) (by omega) co (by omega) (by omega)
  have k1 : decide ((1 : Int) + (wtL wTb a0 : Nat) + (wtL wOp a1 : Nat) < 0) = false := by simp; omega
  have g0 := mark_OpS (a := a1.map directOp) (k := 1) hl2 hc2 (by omega) (by omega)
  have g1 := held_OpS (a := a1.map directOp) (k := 1) hl2 hc2 (by omega) (by omega)
  have k2 : decide ((1 : Int) + (wtL wOp (a1.map directOp) : Nat) < 0) = false := by simp; omega
  simp only [Option.bind_some, hn1, joinK_go, joinK_ret, joinK_bif, joinK_bind, cond_false, cond_true, Bool.not_true, bne_self_int, to_TableS (a := a0) (by omega), to_OpS (a := a1) (by omega), eq_TableS (a := a0) (by omega), eq_OpS (a := a1) (by omega) co, eq_OpS hl2 hc2,
    V_spec_OnlyDirect (s := a0) (ops := a1) (by omega) bo, V_impl_OnlyDirect (s := a0) (ops := a1) (by omega) bo, m0, m1, k1, g0, g1, k2, J_laws_FnExactOnlyDirectx0])
end Go.Proofs.YtglbcdlplbomdaaX
