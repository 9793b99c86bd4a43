/- The plain law: the plain functions answer as the statement says. -/
import Derived.Test.YtpfjldlopeaniaaGreatGcA
set_option linter.all false
namespace Go.Proofs.YtpfjldlopeaniaaGreatX
open Go Go.Proofs.YtpfjldlopeaniaaGreatT
set_option linter.all false
@[simp] theorem V_spec_l01In (x lo hi : Int) : F_spec_l01In x lo hi = some (okIn x lo hi) := (U_spec_l01In x lo hi).out (by
  simp [okIn]; grind)
@[simp] theorem V_impl_in (x lo hi : Int) : F_impl_in x lo hi = some (okIn x lo hi) := (U_impl_in x lo hi).out (by
  simp [okIn]; grind)
@[simp] theorem V_impl_isCol (x : Int) : F_impl_isCol x = some (okIn x 0 63) := (U_impl_isCol x).out (by simp)
@[simp] theorem V_impl_isSlot (x : Int) : F_impl_isSlot x = some (okIn x 0 39) := (U_impl_isSlot x).out (by simp)
@[simp] theorem V_impl_isNum (x : Int) : F_impl_isNum x = some (okIn x (-1000000) 1000000) := (U_impl_isNum x).out (by simp)
@[simp] theorem V_spec_l02Col (x : Int) : F_spec_l02Col x = some (okIn x 0 63) := (U_spec_l02Col x).out (by simp)
@[simp] theorem V_spec_l01Number (x : Int) : F_spec_l01Number x = some (okIn x (-1000000) 1000000) := (U_spec_l01Number x).out (by simp)
@[simp] theorem V_spec_ArityOf (k : Int) : F_spec_ArityOf k = some (arity k) := (U_spec_ArityOf k).out (by
  simp [arity]; grind)
@[simp] theorem V_impl_ArityOf (k : Int) : F_impl_ArityOf k = some (arity k) := (U_impl_ArityOf k).out (by
  simp [arity]; grind)
theorem V_impl_WordOk {w : ByteArray} (hw : w.size ≤ 2147483648) : F_impl_WordOk w = some (wordOk w) := (U_impl_WordOk w).out (by
  have e := loop_chk (f := fun f s => L_impl_WordOkx0 w f s.1 s.2) (bl w) (fun i c => okIn c 97 122 || (!(decide (i = 0)) && okIn c 48 57)) false
    (fun i x a g hx => by
      have hl := (List.getElem?_eq_some_iff.1 hx).1
      rw [bl_len] at hl
      have h1 : decide ((i : Int) < (w.size : Int)) = true := by simpa using hl
      simp only [L_impl_WordOkx0, h1, cond_true, bix_some hx, Option.bind_some, wrap_nat (show i < 9223372036854775807 by omega), okIn, J_impl_WordOkx1, J_impl_WordOkx2, joinK_bif, joinK_go, joinK_ret]
      grind)
    (fun a g => by simp [L_impl_WordOkx0, bl_len]) false
  rw [e]
  simp only [wordOk, wordOkL, bl_len]
  cases allI (fun i c => okIn c 97 122 || (!(decide (i = 0)) && okIn c 48 57)) (bl w) 0 <;> simp)
theorem wordOk_len {w : ByteArray} (h : wordOk w = true) : 1 ≤ w.size ∧ w.size ≤ 12 := by
  simp only [wordOk, wordOkL, Bool.and_eq_true, bl_len, okIn_iff] at h
  omega
theorem V_spec_WordOk (w : ByteArray) : F_spec_WordOk w = some (wordOk w) := (U_spec_WordOk w).out (by
  by_cases hw : okIn w.size 1 12 = true
  · have hw' := okIn_iff.1 hw
    have hb : 0 < (bl w).length := by rw [bl_len]; omega
    have hx0 : (bl w)[0]? = some (bl w)[0] := List.getElem?_eq_getElem hb
    have e0 := bix_some hx0
    simp only [V_spec_l01In, Option.bind_some, hw, Bool.not_true, cond_false]
    rw [show (0 : Int) = ((0 : Nat) : Int) from rfl, e0]
    simp only [Option.bind_some, joinK_go, J_spec_WordOkx0]
    have e := loop_chk (f := fun f s => L_spec_WordOkx0 w f s.1 s.2) (bl w) (fun i c => okIn c 97 122 || okIn c 48 57) false
      (fun i x a g hx => by
        have hl := (List.getElem?_eq_some_iff.1 hx).1
        rw [bl_len] at hl
        have h1 : decide ((i : Int) < (w.size : Int)) = true := by simpa using hl
        simp only [L_spec_WordOkx0, h1, cond_true, bix_some hx, Option.bind_some, wrap_nat (show i < 9223372036854775807 by omega), okIn, J_spec_WordOkx2, joinK_bif, joinK_go, joinK_ret]
        grind)
      (fun a g => by simp [L_spec_WordOkx0, bl_len]) false
    rw [e]
    have hlen : okIn ((bl w).length : Int) 1 12 = true := by rw [bl_len]; exact hw
    simp only [wordOk, wordOkL, hlen, Bool.and_true]
    generalize bl w = l at hb
    match l, hb with
    | c :: l, _ =>
      have key : ∀ (l : List Int) (i : Nat), i ≠ 0 → allI (fun i c => okIn c 97 122 || (!(decide (i = 0)) && okIn c 48 57)) l i = allI (fun i c => okIn c 97 122 || okIn c 48 57) l i := by
        intro l
        induction l with
        | nil => intro i _; rfl
        | cons x xs ih => intro i hi; simp [allI, hi, ih (i + 1) (by omega)]
      simp only [allI, key l 1 (by omega), List.getElem_cons_zero]
      cases allI (fun i c => okIn c 97 122 || okIn c 48 57) l (0 + 1) <;> simp [okIn] <;> grind
  · have hw' : okIn w.size 1 12 = false := by simpa using hw
    simp [hw', wordOk, wordOkL, bl_len])
theorem V_spec_l01Less {a b : ByteArray} (ha : a.size ≤ 2147483648) : F_spec_l01Less a b = some (less a b) := (U_spec_l01Less a b).out (by
  have e := loop_brk (f := fun f s => L_spec_l01Lessx0 a b f s.1 s.2) ((bl a).zip (bl b)) (fun _ x => if x.1 = x.2 then none else some (decide (x.1 < x.2)))
    (fun i x v g hx => by
      obtain ⟨h1, h2⟩ := List.getElem?_zip_eq_some.1 hx
      have l1 := (List.getElem?_eq_some_iff.1 h1).1
      have l2 := (List.getElem?_eq_some_iff.1 h2).1
      rw [bl_len] at l1 l2
      have d1 : decide ((i : Int) < (a.size : Int)) = true := by simpa using l1
      have d2 : decide ((i : Int) < (b.size : Int)) = true := by simpa using l2
      simp only [L_spec_l01Lessx0, d1, d2, cond_true, bix_some h1, bix_some h2, Option.bind_some, joinK_go, J_spec_l01Lessx1, wrap_nat (show i < 9223372036854775807 by omega)]
      have hb : (x.1 != x.2) = !decide (x.1 = x.2) := rfl
      rw [hb]
      by_cases h : x.1 = x.2 <;> simp [h])
    (fun v g => by
      simp only [L_spec_l01Lessx0, List.length_zip, bl_len]
      by_cases h : a.size ≤ b.size
      · have h1 : decide (((min a.size b.size : Nat) : Int) < (a.size : Int)) = false := by simp only [decide_eq_false_iff_not]; omega
        simp only [h1, cond_false, joinK_go, J_spec_l01Lessx1]
      · have h1 : decide (((min a.size b.size : Nat) : Int) < (a.size : Int)) = true := by simp only [decide_eq_true_eq]; omega
        have h2 : decide (((min a.size b.size : Nat) : Int) < (b.size : Int)) = false := by simp only [decide_eq_false_iff_not]; omega
        simp only [h1, h2, cond_true, joinK_go, J_spec_l01Lessx1, cond_false]) false
  rw [e, less_lex]
  have key : ∀ (l : List (Int × Int)) (i : Nat), brkI (fun _ x => if x.1 = x.2 then none else some (decide (x.1 < x.2))) l i = lexE l := by
    intro l
    induction l with
    | nil => intro i; rfl
    | cons x xs ih =>
      intro i
      obtain ⟨x1, x2⟩ := x
      simp only [brkI, lexE]
      by_cases h : x1 = x2 <;> simp [h, ih]
  rw [key]
  cases lexE ((bl a).zip (bl b)) <;> simp [bl_len])
end Go.Proofs.YtpfjldlopeaniaaGreatX
namespace Go.Proofs.YtpfjldlopeaniaaGreatX
open Go Go.Proofs.YtpfjldlopeaniaaGreatT
set_option linter.all false
theorem V_slices_Equal_Lint {a b : List Int} (ha : a.length ≤ 2147483648) : F_slices_Equal_Lint a b = some (decide (a = b)) := (U_slices_Equal_Lint a b).out (by
  by_cases hl : a.length = b.length
  · have h0 : ((a.length : Int) != (b.length : Int)) = false := by simp [hl]
    rw [h0]
    have e := loop_chk (f := fun f s => L_slices_Equal_Lintx0 a b f s.1 s.2) (a.zip b) (fun _ x => decide (x.1 = x.2)) false
      (fun i x v g hx => by
        obtain ⟨h1, h2⟩ := List.getElem?_zip_eq_some.1 hx
        have l1 := (List.getElem?_eq_some_iff.1 h1).1
        simp only [L_slices_Equal_Lintx0, lt_nat h1, cond_true, ix_some h1, ix_some h2, Option.bind_some, wrap_nat (show i < 9223372036854775807 by omega)]
        by_cases h : x.1 = x.2 <;> simp [h, bne_dec])
      (fun v g => by simp [L_slices_Equal_Lintx0, hl]) false
    rw [e, allI_const]
    have : (a.zip b).all (fun x => decide (x.1 = x.2)) = decide (a = b) := by
      clear e h0 ha
      induction a generalizing b with
      | nil => cases b <;> simp_all
      | cons x xs ih =>
        cases b with
        | nil => simp at hl
        | cons y ys =>
          simp only [List.length_cons, Nat.add_right_cancel_iff] at hl
          simp only [List.zip_cons_cons, List.all_cons, ih hl, List.cons.injEq]
          by_cases h1 : x = y <;> by_cases h2 : xs = ys <;> simp [h1, h2]
    rw [this]
    cases decide (a = b) <;> simp
  · have h0 : ((a.length : Int) != (b.length : Int)) = true := by simp [bne]; omega
    have : a ≠ b := fun e => hl (by rw [e])
    simp [h0, this])
theorem V_impl_sameNode {a b : SNode} (ha : a.2.2.2.2.2.2.1.length ≤ 2147483648) : F_impl_sameNode a b = some (decide (a = b)) := (U_impl_sameNode a b).out (by
  obtain ⟨k, name, col, op, num, slot, cols, u⟩ := a
  obtain ⟨k', name', col', op', num', slot', cols', u'⟩ := b
  simp only [V_slices_Equal_Lint ha, beq_toList]
  simp only [Prod.mk.injEq, beq_iff_eq]
  by_cases h1 : k = k' <;> by_cases h2 : name = name' <;> by_cases h3 : col = col' <;> by_cases h4 : op = op' <;> by_cases h5 : num = num' <;> cases slot <;> cases slot' <;> simp [h1, h2, h3, h4, h5, beq_dec])
@[simp] theorem V_impl_NodeOk_1 (x : Int) : F_impl_NodeOk_1 x = some (!okIn x 0 63) := (U_impl_NodeOk_1 x).out (by simp)
theorem findI_ge {T : Type} {p : T → Bool} {l : List T} : (match findI p l 0 with | some j => decide ((j : Int) ≥ 0) | none => decide ((-1 : Int) ≥ 0)) = l.any p := by
  cases h : findI p l 0 with
  | none => rw [findI_none.1 h]; rfl
  | some j =>
    have : l.any p = true := by
      cases ha : l.any p with
      | true => rfl
      | false => rw [findI_none.2 ha] at h; cases h
    rw [this]; simp
def fint (o : Option Nat) : Int := match o with | some j => j | none => -1
@[simp] theorem fint_neg (o : Option Nat) : decide (fint o < 0) = o.isNone := by
  cases o with
  | none => rfl
  | some j => exact nat_neg
@[simp] theorem fint_some (j : Nat) : fint (some j) = (j : Int) := rfl
@[simp] theorem fint_none : fint none = -1 := rfl
theorem V_slices_IndexFunc_Lint_impl_NodeOk_1 {l : List Int} (hl : l.length ≤ 2147483648) : F_slices_IndexFunc_Lint_impl_NodeOk_1 l = some (fint (findI (fun x => !okIn x 0 63) l 0)) := (U_slices_IndexFunc_Lint_impl_NodeOk_1 l).out (by
  have e := loop_find (f := fun f s => L_slices_IndexFunc_Lint_impl_NodeOk_1x0 l f s.1 s.2) l (fun x => !okIn x 0 63) (fun i => (i : Int))
    (fun i x v g hx => by
      have l1 := (List.getElem?_eq_some_iff.1 hx).1
      simp only [L_slices_IndexFunc_Lint_impl_NodeOk_1x0, lt_nat hx, cond_true, ix_some hx, Option.bind_some, V_impl_NodeOk_1, wrap_nat (show i < 9223372036854775807 by omega)])
    (fun v g => by simp [L_slices_IndexFunc_Lint_impl_NodeOk_1x0]) 0
  rw [e]
  cases findI (fun x => !okIn x 0 63) l 0 <;> simp [fint])
theorem fint_ge {T : Type} {p : T → Bool} {l : List T} : decide (fint (findI p l 0) ≥ 0) = l.any p := by
  rw [← findI_ge]
  cases findI p l 0 <;> rfl
theorem V_slices_ContainsFunc_Lint_impl_NodeOk_1 {l : List Int} (hl : l.length ≤ 2147483648) : F_slices_ContainsFunc_Lint_impl_NodeOk_1 l = some (l.any fun x => !okIn x 0 63) := (U_slices_ContainsFunc_Lint_impl_NodeOk_1 l).out (by
  simp only [V_slices_IndexFunc_Lint_impl_NodeOk_1 hl, Option.bind_some, fint_ge])
theorem all_not_any {T : Type} (p : T → Bool) : ∀ l : List T, (!l.any fun x => !p x) = l.all p
  | [] => rfl
  | x :: xs => by simp [← all_not_any p xs]
structure BNode (n : Nd) : Prop where
  name : n.2.1.size ≤ 2147483648
  cols : n.2.2.2.2.2.2.1.length ≤ 2147483648
theorem V_impl_NodeOk {n : SNode} (hb : BNode n) : F_impl_NodeOk n = some (nodeOk n) := (U_impl_NodeOk n).out (by
  obtain ⟨k, name, col, op, num, slot, cols, u⟩ := n
  obtain ⟨hn, hc⟩ := hb
  simp only at hn hc
  simp only [V_impl_WordOk hn, V_impl_isCol, V_impl_in, V_impl_isSlot, V_impl_isNum, V_slices_ContainsFunc_Lint_impl_NodeOk_1 hc, Option.bind_some, all_not_any]
  by_cases h0 : k = 0
  · subst h0
    simp only [nodeOk, beq_self_eq_true, cond_true, joinK_go, J_impl_NodeOkx0]
    simp only [V_impl_sameNode (a := (0, ByteArray.empty, col, op, num, slot, cols, ())) hc]
    cases wordOk name <;> cases slot <;> simp <;> grind
  have e0 : (k == 0) = false := by simpa using h0
  by_cases h1 : k = 1
  · subst h1
    simp only [nodeOk, e0, beq_self_eq_true, cond_true, cond_false, joinK_bif, joinK_go, J_impl_NodeOkx0, J_impl_NodeOkx1, J_impl_NodeOkx2, V_impl_isSlot, V_impl_isNum, Option.bind_some]
    simp only [V_impl_sameNode (a := (0, name, 0, 0, 0, false, cols, ())) hc]
    simp only [okIn, Prod.mk.injEq, Bool.decide_and]
    generalize decide (name = ByteArray.empty) = dn
    generalize decide (cols = []) = dc
    by_cases hz : num = 0
    · subst hz
      by_cases h2 : op = 3 <;> cases slot <;> cases dn <;> cases dc <;> simp [h2] <;> grind
    · by_cases h2 : op = 3 <;> cases slot <;> cases dn <;> cases dc <;> simp [h2, hz] <;> grind
  have e1 : (k == 1) = false := by simpa using h1
  by_cases h2 : k = 2
  · subst h2
    simp only [nodeOk, e0, e1, beq_self_eq_true, cond_true, cond_false, joinK_bif, joinK_go, J_impl_NodeOkx0, J_impl_NodeOkx3, Option.bind_some]
    simp only [V_impl_sameNode (a := (0, name, col, op, num, slot, [], ())) (by simp)]
    cases cols.all (fun c => okIn c 0 63) <;> cases okIn cols.length 1 6 <;> cases slot <;> simp <;> grind
  have e2 : (k == 2) = false := by simpa using h2
  by_cases h3 : k = 3
  · subst h3
    simp only [nodeOk, e0, e1, e2, beq_self_eq_true, cond_true, cond_false, joinK_bif, joinK_go, J_impl_NodeOkx0, J_impl_NodeOkx4, Option.bind_some]
    simp only [V_impl_sameNode (a := (0, name, 0, op, 0, slot, cols, ())) hc]
    cases okIn col 0 63 <;> cases okIn num 0 63 <;> cases slot <;> simp <;> grind
  have e3 : (k == 3) = false := by simpa using h3
  by_cases h5 : k = 5
  · subst h5
    simp only [nodeOk, e0, e1, e2, e3, beq_self_eq_true, cond_true, cond_false, joinK_bif, joinK_go, J_impl_NodeOkx0, Option.bind_some]
    simp only [V_impl_sameNode (a := (0, name, 0, op, num, slot, cols, ())) hc]
    cases okIn col 0 63 <;> cases slot <;> simp <;> grind
  have e5 : (k == 5) = false := by simpa using h5
  by_cases h6 : k = 6
  · subst h6
    simp only [nodeOk, e0, e1, e2, e3, e5, beq_self_eq_true, cond_true, cond_false, joinK_bif, joinK_go, J_impl_NodeOkx0, J_impl_NodeOkx5, Option.bind_some]
    simp only [V_impl_sameNode (a := (0, name, col, op, 0, false, cols, ())) hc]
    cases okIn num 0 1000000 <;> cases okIn num 0 39 <;> cases slot <;> simp <;> grind
  have e6 : (k == 6) = false := by simpa using h6
  simp only [nodeOk, e0, e1, e2, e3, e5, e6, h0, h1, h2, h3, h5, h6, cond_false, joinK_bif, joinK_go, J_impl_NodeOkx6, if_false]
  by_cases h4 : k = 4
  · subst h4
    simp only [beq_self_eq_true, cond_true, joinK_go, J_impl_NodeOkx0, V_impl_sameNode (a := (0, name, col, op, num, slot, cols, ())) hc]
    cases slot <;> simp <;> grind
  have e4 : (k == 4) = false := by simpa using h4
  by_cases h7 : k = 7
  · subst h7
    simp only [e4, beq_self_eq_true, cond_true, cond_false, joinK_go, J_impl_NodeOkx0, V_impl_sameNode (a := (0, name, col, op, num, slot, cols, ())) hc]
    cases slot <;> simp <;> grind
  have e7 : (k == 7) = false := by simpa using h7
  simp [e4, e7, h4, h7])
theorem V_spec_NodeOk {n : SNode} (hb : BNode n) : F_spec_NodeOk n = some (nodeOk n) := (U_spec_NodeOk n).out (by
  obtain ⟨k, name, col, op, num, slot, cols, u⟩ := n
  obtain ⟨hn, hc⟩ := hb
  simp only at hn hc
  have hlen : decide ((cols.length : Int) > 0) = !decide (cols = []) := by cases cols <;> simp <;> omega
  have e := loop_chk (f := fun f s => L_spec_NodeOkx0 (k, name, col, op, num, slot, cols, u) f s.1 s.2) cols (fun _ x => okIn x 0 63) (Ex.ret false)
      (fun i x v g hx => by
        have l1 := (List.getElem?_eq_some_iff.1 hx).1
        simp only [L_spec_NodeOkx0, lt_nat hx, cond_true, ix_some hx, Option.bind_some, V_spec_l02Col, wrap_nat (show i < 9223372036854775807 by omega)]
        cases okIn x 0 63 <;> rfl)
      (fun v g => by simp [L_spec_NodeOkx0]) false
  rw [allI_const] at e
  simp only [V_spec_l01In, Option.bind_some, beq_toList, hlen, J_spec_NodeOkx0, J_spec_NodeOkx4, V_spec_WordOk, V_spec_l02Col, V_spec_l01Number, e]
  simp only [nodeOk]
  have hne : ∀ a b : Int, (a != b) = !decide (a = b) := fun _ _ => rfl
  have heq : ∀ a b : Int, (a == b) = decide (a = b) := fun _ _ => rfl
  simp only [hne, heq]
  generalize decide (name = ByteArray.empty) = dn
  generalize decide (cols = []) = dc
  by_cases h0 : k = 0
  · subst h0
    cases dn <;> cases dc <;> cases slot <;> cases wordOk name <;> simp <;> grind
  by_cases h1 : k = 1
  · subst h1
    cases dn <;> cases dc <;> cases slot <;> simp [okIn] <;> grind
  by_cases h2 : k = 2
  · subst h2
    cases dn <;> cases dc <;> cases slot <;> cases cols.all (fun c => okIn c 0 63) <;> cases okIn cols.length 1 6 <;> simp <;> grind
  by_cases h3 : k = 3
  · subst h3
    cases dn <;> cases dc <;> cases slot <;> simp [okIn] <;> grind
  by_cases h5 : k = 5
  · subst h5
    cases dn <;> cases dc <;> cases slot <;> simp [okIn] <;> grind
  by_cases h6 : k = 6
  · subst h6
    cases dn <;> cases dc <;> cases slot <;> simp [okIn] <;> grind
  by_cases h4 : k = 4
  · subst h4
    cases dn <;> cases dc <;> cases slot <;> simp [okIn] <;> grind
  by_cases h7 : k = 7
  · subst h7
    cases dn <;> cases dc <;> cases slot <;> simp [okIn] <;> grind
  cases dn <;> cases dc <;> cases slot <;> simp [h0, h1, h2, h3, h4, h5, h6, h7] <;> grind)
end Go.Proofs.YtpfjldlopeaniaaGreatX
namespace Go.Proofs.YtpfjldlopeaniaaGreatX
open Go Go.Proofs.YtpfjldlopeaniaaGreatT PT
set_option linter.all false
structure BPlan (p : List Nd) : Prop where
  len : p.length ≤ 1073741824
  nodes : ∀ n ∈ p, BNode n
theorem mem_of_get {T : Type} {l : List T} {i : Nat} {x : T} (h : l[i]? = some x) : x ∈ l := List.mem_of_getElem? h
theorem V_impl_PlanOk_1 {n : SNode} (hb : BNode n) : F_impl_PlanOk_1 n = some (!nodeOk n) := (U_impl_PlanOk_1 n).out (by
  obtain ⟨k, name, col, op, num, slot, cols, u⟩ := n
  have hb' : BNode (k, name, col, op, num, slot, cols, ()) := hb
  simp only [V_impl_NodeOk hb', Option.bind_some])
theorem V_slices_IndexFunc_LimplNode_impl_PlanOk_1 {l : List SNode} (hb : BPlan l) : F_slices_IndexFunc_LimplNode_impl_PlanOk_1 l = some (fint (findI (fun x => !nodeOk x) l 0)) := (U_slices_IndexFunc_LimplNode_impl_PlanOk_1 l).out (by
  have e := loop_find (f := fun f s => L_slices_IndexFunc_LimplNode_impl_PlanOk_1x0 l f s.1 s.2) l (fun x => !nodeOk x) (fun i => (i : Int))
    (fun i x v g hx => by
      have l1 := (List.getElem?_eq_some_iff.1 hx).1
      have := hb.len
      simp only [L_slices_IndexFunc_LimplNode_impl_PlanOk_1x0, lt_nat hx, cond_true, ix_some hx, Option.bind_some, V_impl_PlanOk_1 (hb.nodes x (mem_of_get hx)), wrap_nat (show i < 9223372036854775807 by omega)])
    (fun v g => by simp [L_slices_IndexFunc_LimplNode_impl_PlanOk_1x0]) 0
  rw [e]
  cases findI (fun x => !nodeOk x) l 0 <;> simp [fint])
theorem V_slices_ContainsFunc_LimplNode_impl_PlanOk_1 {l : List SNode} (hb : BPlan l) : F_slices_ContainsFunc_LimplNode_impl_PlanOk_1 l = some (l.any fun x => !nodeOk x) := (U_slices_ContainsFunc_LimplNode_impl_PlanOk_1 l).out (by
  simp only [V_slices_IndexFunc_LimplNode_impl_PlanOk_1 hb, Option.bind_some, fint_ge])
theorem parse_len : ∀ {r : Nat} {l : List Nd} {t : PT} {q : List Nd}, parse r l = some (t, q) → q.length < l.length
  | 0, _, _, _, h => by simp [parse] at h
  | r + 1, [], _, _, h => by simp [parse] at h
  | r + 1, n :: l, t, q, h => by
    simp only [parse] at h
    split at h
    · split at h
      · rename_i a q1 hp
        cases h
        have := parse_len hp
        simp; omega
      · cases h
    · split at h
      · split at h
        · rename_i a q1 hp
          have := parse_len hp
          split at h
          · rename_i b q2 hp2
            cases h
            have := parse_len hp2
            simp; omega
          · cases h
        · cases h
      · cases h; simp
theorem parse_drop {r : Nat} {l : List Nd} {t : PT} {q : List Nd} (h : parse r l = some (t, q)) : q = l.drop (l.length - q.length) := by
  suffices ∃ u, l = u ++ q by
    obtain ⟨u, rfl⟩ := this
    simp
  induction r generalizing l t q with
  | zero => simp [parse] at h
  | succ r ih =>
    cases l with
    | nil => simp [parse] at h
    | cons n l =>
      simp only [parse] at h
      split at h
      · split at h
        · rename_i a q1 hp
          cases h
          obtain ⟨u, rfl⟩ := ih hp
          exact ⟨n :: u, by simp⟩
        · cases h
      · split at h
        · split at h
          · rename_i a q1 hp
            split at h
            · rename_i b q2 hp2
              cases h
              obtain ⟨u, rfl⟩ := ih hp
              obtain ⟨v, rfl⟩ := ih hp2
              exact ⟨n :: (u ++ v), by simp⟩
            · cases h
          · cases h
        · cases h; exact ⟨[n], rfl⟩
def endM (p : List Nd) (r k : Nat) : Int := match parse r (p.drop k) with
  | some (_, q) => (p.length : Int) - q.length
  | none => -1
theorem endM_some {p : List Nd} {r k : Nat} {t : PT} {q : List Nd} (h : parse r (p.drop k) = some (t, q)) : ∃ j : Nat, endM p r k = (j : Int) ∧ k < j ∧ j ≤ p.length ∧ q = p.drop j := by
  have h1 := parse_len h
  have h2 := parse_drop h
  simp only [List.length_drop] at h1 h2
  refine ⟨p.length - q.length, ?_, by omega, by omega, ?_⟩
  · simp only [endM, h]; omega
  · rw [List.drop_drop, show k + (p.length - k - q.length) = p.length - q.length by omega] at h2
    exact h2
theorem wrap_sml {x : Int} (h : -9223372036854775808 ≤ x) (h' : x ≤ 9223372036854775807) : IntKind.i64.wrap x = x := by
  rw [IntKind.wrap_i64]; omega
theorem arity_cases {k : Int} (h : 0 ≤ arity k) : arity k = 0 ∨ arity k = 1 ∨ arity k = 2 := by
  revert h
  unfold arity
  repeat' split
  all_goals simp
theorem V_impl_end {p : List SNode} (hp : p.length ≤ 1073741824) (ha : ∀ n ∈ p, 0 ≤ arity n.1) : ∀ (r : Nat) (k : Nat) (d : Int), r ≤ 11 → d = 11 - r → F_impl_end p k d = some (endM p r k)
  | 0, k, d, _, hd => (U_impl_end p k d).out (by
    subst hd
    have : endM p 0 k = -1 := rfl
    rw [this]
    simp)
  | r + 1, k, d, hr, hd => (U_impl_end p k d).out (by
    have hd2 : decide (d > 10) = false := by simp; omega
    by_cases hk : k < p.length
    · have hx : p[k]? = some p[k] := List.getElem?_eq_getElem hk
      have h1 : decide ((k : Int) ≥ (p.length : Int)) = false := by simp; omega
      have hdr : p.drop k = p[k] :: p.drop (k + 1) := List.drop_eq_getElem_cons hk
      simp only [h1, cond_false, hd2, joinK_go, J_impl_endx0, ix_some hx, Option.bind_some, V_impl_ArityOf, wrap_nat (show k < 9223372036854775807 by omega)]
      have ha' := ha p[k] (mem_of_get hx)
      have ih := fun k => V_impl_end hp ha r k (IntKind.i64.wrap (d + 1)) (by omega) (by rw [wrap_sml (by omega) (by omega)]; omega)
      rcases arity_cases ha' with h | h | h
      · rw [h]
        rw [loopF_of (r := .go (0, ((k + 1 : Nat) : Int))) 1 (by
          intro n hn
          obtain ⟨m, rfl⟩ : ∃ m, n = m + 1 := ⟨n - 1, by omega⟩
          simp [loopK, L_impl_endx0])]
        simp only [joinK_go, J_impl_endx1, endM, hdr, parse, h]
        simp; omega
      · rw [h]
        cases hq : parse r (p.drop (k + 1)) with
        | none =>
          have e1 : endM p r (k + 1) = -1 := by simp only [endM, hq]
          rw [loopF_of (r := .ret (-1)) 1 (by
            intro n hn
            obtain ⟨m, rfl⟩ : ∃ m, n = m + 1 := ⟨n - 1, by omega⟩
            simp only [loopK, L_impl_endx0, ih, Option.bind_some, e1]
            simp)]
          simp only [joinK_ret, endM, hdr, parse, h, hq]
          simp
        | some x =>
          obtain ⟨t, q⟩ := x
          obtain ⟨j, e1, hj, hj2, hj3⟩ := endM_some hq
          rw [loopF_of (r := .go (0, (j : Int))) 2 (by
            intro n hn
            obtain ⟨m, rfl⟩ : ∃ m, n = m + 2 := ⟨n - 2, by omega⟩
            simp only [loopK, L_impl_endx0, ih, Option.bind_some, e1]
            simp)]
          simp only [joinK_go, J_impl_endx1, endM, hdr, parse, h, hq, if_true]
          rw [← e1]; simp only [endM, hq]
      · rw [h]
        cases hq : parse r (p.drop (k + 1)) with
        | none =>
          have e1 : endM p r (k + 1) = -1 := by simp only [endM, hq]
          rw [loopF_of (r := .ret (-1)) 1 (by
            intro n hn
            obtain ⟨m, rfl⟩ : ∃ m, n = m + 1 := ⟨n - 1, by omega⟩
            simp only [loopK, L_impl_endx0, ih, Option.bind_some, e1]
            simp)]
          simp only [joinK_ret, endM, hdr, parse, h, hq]
          simp
        | some x =>
          obtain ⟨t, q⟩ := x
          obtain ⟨j, e1, hj, hj2, hj3⟩ := endM_some hq
          subst hj3
          cases hq2 : parse r (p.drop j) with
          | none =>
            have e2 : endM p r j = -1 := by simp only [endM, hq2]
            rw [loopF_of (r := .ret (-1)) 2 (by
              intro n hn
              obtain ⟨m, rfl⟩ : ∃ m, n = m + 2 := ⟨n - 2, by omega⟩
              simp only [loopK, L_impl_endx0, ih, Option.bind_some, e1, e2]
              simp)]
            simp only [joinK_ret, endM, hdr, parse, h, hq, hq2]
            simp
          | some x =>
            obtain ⟨t2, q2⟩ := x
            obtain ⟨j2, e2, hj2, hj22, hj23⟩ := endM_some hq2
            rw [loopF_of (r := .go (0, (j2 : Int))) 3 (by
              intro n hn
              obtain ⟨m, rfl⟩ : ∃ m, n = m + 3 := ⟨n - 3, by omega⟩
              have w : IntKind.i64.wrap (1 + 1) = 2 := by rw [wrap_sml] <;> omega
              simp only [loopK, L_impl_endx0, ih, Option.bind_some, e1, e2]
              simp [w])]
            simp only [joinK_go, J_impl_endx1, endM, hdr, parse, h, hq, hq2, if_true]
            rw [← e2]; simp only [endM, hq2]
            simp
    · have h1 : decide ((k : Int) ≥ (p.length : Int)) = true := by simp; omega
      have hdr : p.drop k = [] := List.drop_eq_nil_of_le (by omega)
      simp only [h1, cond_true, joinK_go, J_impl_endx0, endM, hdr, parse])
end Go.Proofs.YtpfjldlopeaniaaGreatX
namespace Go.Proofs.YtpfjldlopeaniaaGreatX
open Go Go.Proofs.YtpfjldlopeaniaaGreatT PT
set_option linter.all false
def endD (p : List Nd) (r k : Nat) : Int := match parse r (p.drop k) with
  | some (t, _) => t.depth
  | none => 0
theorem parse_depth : ∀ {r : Nat} {l : List Nd} {t : PT} {q : List Nd}, parse r l = some (t, q) → t.depth ≤ r
  | 0, _, _, _, h => by simp [parse] at h
  | r + 1, [], _, _, h => by simp [parse] at h
  | r + 1, n :: l, t, q, h => by
    simp only [parse] at h
    split at h
    · split at h
      · rename_i a q1 hp
        cases h
        have := parse_depth hp
        simp [PT.depth]; omega
      · cases h
    · split at h
      · split at h
        · rename_i a q1 hp
          have := parse_depth hp
          split at h
          · rename_i b q2 hp2
            cases h
            have := parse_depth hp2
            simp [PT.depth]; omega
          · cases h
        · cases h
      · cases h; simp [PT.depth]
theorem V_spec_l02End {p : List SNode} (hp : p.length ≤ 1073741824) (ha : ∀ n ∈ p, 0 ≤ arity n.1) : ∀ (r : Nat) (k : Nat) (d : Int), r ≤ 11 → d = r → F_spec_l02End p k d = some (endM p r k, endD p r k)
  | 0, k, d, _, hd => (U_spec_l02End p k d).out (by
    subst hd
    have h1 : endM p 0 k = -1 := rfl
    have h2 : endD p 0 k = 0 := rfl
    rw [h1, h2]
    simp)
  | r + 1, k, d, hr, hd => (U_spec_l02End p k d).out (by
    have hd2 : (d == 0) = false := by simp; omega
    by_cases hk : k < p.length
    · have hx : p[k]? = some p[k] := List.getElem?_eq_getElem hk
      have h1 : decide ((k : Int) ≥ (p.length : Int)) = false := by simp; omega
      have hdr : p.drop k = p[k] :: p.drop (k + 1) := List.drop_eq_getElem_cons hk
      simp only [h1, cond_false, hd2, joinK_go, J_spec_l02Endx0, wrap_nat (show k < 9223372036854775807 by omega)]
      have ha' := ha p[k] (mem_of_get hx)
      have ih := fun k => V_spec_l02End hp ha r k (IntKind.i64.wrap (d - 1)) (by omega) (by rw [wrap_sml (by omega) (by omega)]; omega)
      rcases arity_cases ha' with h | h | h
      · rw [loopF_of (r := .go (0, 0, ((k + 1 : Nat) : Int), 0)) 1 (by
          intro n hn
          obtain ⟨m, rfl⟩ : ∃ m, n = m + 1 := ⟨n - 1, by omega⟩
          simp only [loopK, L_spec_l02Endx0, ix_some hx, Option.bind_some, V_spec_ArityOf, h]
          simp)]
        simp only [joinK_go, J_spec_l02Endx1, endM, endD, hdr, parse, h]
        simp [PT.depth]; omega
      · cases hq : parse r (p.drop (k + 1)) with
        | none =>
          have e1 : endM p r (k + 1) = -1 := by simp only [endM, hq]
          rw [loopF_of (r := .ret ((-1), 0)) 1 (by
            intro n hn
            obtain ⟨m, rfl⟩ : ∃ m, n = m + 1 := ⟨n - 1, by omega⟩
            simp only [loopK, L_spec_l02Endx0, ix_some hx, Option.bind_some, V_spec_ArityOf, h, ih, e1]
            simp)]
          simp only [joinK_ret, endM, endD, hdr, parse, h, hq]
          simp
        | some x =>
          obtain ⟨t, q⟩ := x
          obtain ⟨j, e1, hj, hj2, hj3⟩ := endM_some hq
          have e1d : endD p r (k + 1) = (t.depth : Int) := by simp only [endD, hq]
          have hdp := parse_depth hq
          have hpos := t.depth_pos
          have hgt : decide ((t.depth : Int) > 0) = true := by simp; omega
          rw [loopF_of (r := .go (0, 0, (j : Int), (t.depth : Int))) 2 (by
            intro n hn
            obtain ⟨m, rfl⟩ : ∃ m, n = m + 2 := ⟨n - 2, by omega⟩
            simp only [loopK, L_spec_l02Endx0, ix_some hx, Option.bind_some, V_spec_ArityOf, h, ih, e1, e1d, hgt, cond_true]
            simp)]
          simp only [joinK_go, J_spec_l02Endx1, endM, endD, hdr, parse, h, hq, if_true, PT.depth]
          rw [← e1, wrap_nat (by omega)]; simp only [endM, hq]
      · cases hq : parse r (p.drop (k + 1)) with
        | none =>
          have e1 : endM p r (k + 1) = -1 := by simp only [endM, hq]
          rw [loopF_of (r := .ret ((-1), 0)) 1 (by
            intro n hn
            obtain ⟨m, rfl⟩ : ∃ m, n = m + 1 := ⟨n - 1, by omega⟩
            simp only [loopK, L_spec_l02Endx0, ix_some hx, Option.bind_some, V_spec_ArityOf, h, ih, e1]
            simp)]
          simp only [joinK_ret, endM, endD, hdr, parse, h, hq]
          simp
        | some x =>
          obtain ⟨t, q⟩ := x
          obtain ⟨j, e1, hj, hj2, hj3⟩ := endM_some hq
          have e1d : endD p r (k + 1) = (t.depth : Int) := by simp only [endD, hq]
          have hdp := parse_depth hq
          have hpos := t.depth_pos
          have hgt : decide ((t.depth : Int) > 0) = true := by simp; omega
          subst hj3
          cases hq2 : parse r (p.drop j) with
          | none =>
            have e2 : endM p r j = -1 := by simp only [endM, hq2]
            rw [loopF_of (r := .ret ((-1), 0)) 2 (by
              intro n hn
              obtain ⟨m, rfl⟩ : ∃ m, n = m + 2 := ⟨n - 2, by omega⟩
              simp only [loopK, L_spec_l02Endx0, ix_some hx, Option.bind_some, V_spec_ArityOf, h, ih, e1, e2, e1d, hgt, cond_true]
              simp [ih, e2])]
            simp only [joinK_ret, endM, endD, hdr, parse, h, hq, hq2]
            simp
          | some x =>
            obtain ⟨t2, q2⟩ := x
            obtain ⟨j2, e2, hj2, hj22, hj23⟩ := endM_some hq2
            have e2d : endD p r j = (t2.depth : Int) := by simp only [endD, hq2]
            have hdp2 := parse_depth hq2
            rw [loopF_of (r := .go (0, 0, (j2 : Int), ((max t.depth t2.depth : Nat) : Int))) 3 (by
              intro n hn
              obtain ⟨m, rfl⟩ : ∃ m, n = m + 3 := ⟨n - 3, by omega⟩
              have w : IntKind.i64.wrap (1 + 1) = 2 := by rw [wrap_sml] <;> omega
              simp only [loopK, L_spec_l02Endx0, ix_some hx, Option.bind_some, V_spec_ArityOf, h, ih, e1, e1d, hgt, cond_true]
              simp only [ih, e2, e2d, joinK_go, J_spec_l02Endx2, joinK_bind, joinK_bif, Option.bind_some, nat_neg, cond_false]
              by_cases hm : t2.depth > t.depth
              · have hmd : decide ((t2.depth : Int) > (t.depth : Int)) = true := by simp; omega
                rw [hmd, show max t.depth t2.depth = t2.depth by omega]
                simp [w]
              · have hmd : decide ((t2.depth : Int) > (t.depth : Int)) = false := by simp; omega
                rw [hmd, show max t.depth t2.depth = t.depth by omega]
                simp [w])]
            simp only [joinK_go, J_spec_l02Endx1, endM, endD, hdr, parse, h, hq, hq2, if_true, PT.depth]
            rw [← e2, wrap_nat (by omega)]; simp only [endM, hq2]
            simp [PT.depth]
    · have h1 : decide ((k : Int) ≥ (p.length : Int)) = true := by simp; omega
      have hdr : p.drop k = [] := List.drop_eq_nil_of_le (by omega)
      simp only [h1, cond_true, joinK_go, J_spec_l02Endx0, endM, endD, hdr, parse])
theorem planOk_eq (p : List Nd) (hn : p.all nodeOk = true) : (decide (endM p 10 0 = (p.length : Int)) && okIn p.length 1 40) = planOk p := by
  cases hl : okIn p.length 1 40 with
  | false => simp [planOk, planT, hl]
  | true =>
    simp only [planOk, planT, hl, hn, and_self, if_true, Bool.and_true, endM, List.drop_zero]
    have hl' := okIn_iff.1 hl
    cases h : parse 10 p with
    | none => simp
    | some x =>
      obtain ⟨t, q⟩ := x
      have := parse_len h
      cases q with
      | nil => simp
      | cons a q => simp at this ⊢; omega
theorem planOk_not {p : List Nd} (h : okIn p.length 1 40 = false ∨ p.all nodeOk = false) : planOk p = false := by
  rcases h with h | h <;> simp [planOk, planT, h]
theorem V_impl_PlanOk {p : List SNode} (hb : BPlan p) : F_impl_PlanOk p = some (planOk p) := (U_impl_PlanOk p).out (by
  simp only [V_impl_in, Option.bind_some, V_slices_ContainsFunc_LimplNode_impl_PlanOk_1 hb, joinK_bif, joinK_go, J_impl_PlanOkx0]
  cases hl : okIn p.length 1 40 with
  | false => simp [planOk_not (.inl hl)]
  | true =>
    rw [← Bool.not_not (p.any _), all_not_any]
    cases hn : p.all nodeOk with
    | false => simp [planOk_not (.inr hn)]
    | true =>
      have e := V_impl_end (p := p) hb.len (fun n hm => nodeOk_arity (by have := List.all_eq_true.1 hn n hm; simpa using this)) 10 0 1 (by omega) (by omega)
      rw [show ((0 : Nat) : Int) = 0 from rfl] at e
      simp only [e, Option.bind_some, Bool.not_true, cond_false, beq_dec, ← planOk_eq p hn, hl, Bool.and_true])
theorem V_spec_PlanOk {p : List SNode} (hb : BPlan p) : F_spec_PlanOk p = some (planOk p) := (U_spec_PlanOk p).out (by
  simp only [V_spec_l01In, Option.bind_some]
  have e := loop_chk (f := fun f s => L_spec_PlanOkx0 p f s.1 s.2) p (fun _ x => nodeOk x) false
    (fun i x v g hx => by
      have l1 := (List.getElem?_eq_some_iff.1 hx).1
      have := hb.len
      simp only [L_spec_PlanOkx0, lt_nat hx, cond_true, ix_some hx, Option.bind_some, V_spec_NodeOk (hb.nodes x (mem_of_get hx)), wrap_nat (show i < 9223372036854775807 by omega)]
      cases nodeOk x <;> rfl)
    (fun v g => by simp [L_spec_PlanOkx0]) false
  rw [e, allI_const]
  cases hl : okIn p.length 1 40 with
  | false => simp [planOk_not (.inl hl)]
  | true =>
    cases hn : p.all nodeOk with
    | false => simp [planOk_not (.inr hn)]
    | true =>
      have e := V_spec_l02End (p := p) hb.len (fun n hm => nodeOk_arity (by have := List.all_eq_true.1 hn n hm; simpa using this)) 10 0 10 (by omega) (by omega)
      rw [show ((0 : Nat) : Int) = 0 from rfl] at e
      simp only [e, Option.bind_some, Bool.not_true, cond_false, cond_true, joinK_go, J_spec_PlanOkx0, beq_dec, ← planOk_eq p hn, hl, Bool.and_true])
structure Good (t : PT) : Prop where
  ok : t.ok
  deep : t.depth ≤ 10
  nodes : ∀ n ∈ t.flat, nodeOk n = true
theorem PlanT.good {t : PT} (h : PlanT t) : Good t := ⟨h.ok, h.deep, h.nodes⟩
theorem Good.c1 {n : Nd} {a : PT} (h : Good (.n1 n a)) : Good a := ⟨h.ok.2, by have := h.deep; simp [PT.depth] at this; omega, fun m hm => h.nodes m (by simp [PT.flat, hm])⟩
theorem Good.l2 {n : Nd} {a b : PT} (h : Good (.n2 n a b)) : Good a := ⟨h.ok.2.1, by have := h.deep; simp [PT.depth] at this; omega, fun m hm => h.nodes m (by simp [PT.flat, hm])⟩
theorem Good.r2 {n : Nd} {a b : PT} (h : Good (.n2 n a b)) : Good b := ⟨h.ok.2.2, by have := h.deep; simp [PT.depth] at this; omega, fun m hm => h.nodes m (by simp [PT.flat, hm])⟩
theorem Good.hd {t : PT} (h : Good t) : nodeOk t.hd = true := h.nodes _ (by cases t <;> simp [PT.flat, PT.hd])
structure Pl (p : List Nd) : Prop where
  len : p.length ≤ 1073741824
  ar : ∀ n ∈ p, 0 ≤ arity n.1
theorem PlanT.pl {t : PT} (h : PlanT t) : Pl t.flat := ⟨by have := h.size; simp only [len_flat]; omega, fun n hn => nodeOk_arity (h.nodes n hn)⟩
theorem At.endM {p : List Nd} {k : Nat} {t : PT} (h : At p k t) (g : Good t) : endM p 10 k = ((k + t.size : Nat) : Int) := by
  have hp : parse 10 (p.drop k) = some (t, p.drop (k + t.size)) := by rw [h.rest]; exact flat_parse g.ok g.deep
  have := h.le
  simp only [_root_.Go.Proofs.YtpfjldlopeaniaaGreatX.endM, hp, List.length_drop]
  omega
theorem At.endD {p : List Nd} {k : Nat} {t : PT} (h : At p k t) (g : Good t) : endD p 10 k = (t.depth : Int) := by
  have hp : parse 10 (p.drop k) = some (t, p.drop (k + t.size)) := by rw [h.rest]; exact flat_parse g.ok g.deep
  simp only [_root_.Go.Proofs.YtpfjldlopeaniaaGreatX.endD, hp]
theorem At.V_end {p : List SNode} {k : Nat} {t : PT} (h : At p k t) (g : Good t) (hp : Pl p) : F_impl_end p k 1 = some ((k + t.size : Nat) : Int) := by
  rw [V_impl_end hp.len hp.ar 10 k 1 (by omega) (by omega), h.endM g]
theorem At.V_l02End {p : List SNode} {k : Nat} {t : PT} (h : At p k t) (g : Good t) (hp : Pl p) : F_spec_l02End p k 10 = some (((k + t.size : Nat) : Int), (t.depth : Int)) := by
  rw [V_spec_l02End hp.len hp.ar 10 k 10 (by omega) (by omega), h.endM g, h.endD g]
def kids (k : Nat) : PT → List Int
  | .n0 _ => []
  | .n1 _ _ => [((k + 1 : Nat) : Int)]
  | .n2 _ a _ => [((k + 1 : Nat) : Int), ((k + 1 + a.size : Nat) : Int)]
theorem At.V_children {p : List SNode} {k : Nat} {t : PT} (h : At p k t) (g : Good t) (hp : Pl p) : F_impl_children p k = some (kids k t) := (U_impl_children p k).out (by
  have hle := h.le
  have hl := hp.len
  have hx := h.hd
  simp only [ix_some hx, Option.bind_some, V_impl_ArityOf, wrap_nat (show k < 9223372036854775807 by omega)]
  cases t with
  | n0 n =>
    have ha : arity n.1 = 0 := g.ok
    simp only [PT.hd, ha]
    rw [loopF_of (r := .go []) 1 (by
      intro n hn
      obtain ⟨m, rfl⟩ : ∃ m, n = m + 1 := ⟨n - 1, by omega⟩
      simp [loopK, L_impl_childrenx0])]
    simp [kids]
  | n1 n a =>
    have ha : arity n.1 = 1 := g.ok.1
    have e := h.c1.V_end g.c1 hp
    simp only [PT.hd, ha]
    rw [loopF_of (r := .go [((k + 1 : Nat) : Int)]) 2 (by
      intro n hn
      obtain ⟨m, rfl⟩ : ∃ m, n = m + 2 := ⟨n - 2, by omega⟩
      simp only [loopK, L_impl_childrenx0, e, Option.bind_some]
      rw [apx_some (by simp)]
      simp [e])]
    simp [kids]
  | n2 n a b =>
    have ha : arity n.1 = 2 := g.ok.1
    have e := h.l2.V_end g.l2 hp
    have e2 := h.r2.V_end g.r2 hp
    simp only [PT.hd, ha]
    rw [loopF_of (r := .go [((k + 1 : Nat) : Int), ((k + 1 + a.size : Nat) : Int)]) 3 (by
      intro n hn
      obtain ⟨m, rfl⟩ : ∃ m, n = m + 3 := ⟨n - 3, by omega⟩
      have w : IntKind.i64.wrap (1 + 1) = 2 := by rw [wrap_sml] <;> omega
      simp only [loopK, L_impl_childrenx0, e, Option.bind_some]
      rw [apx_some (by simp)]
      simp only [Option.bind_some]
      rw [apx_some (by simp)]
      simp only [Option.bind_some, e, e2]
      simp [w])]
    simp [kids])
theorem At.V_l02Kids {p : List SNode} {k : Nat} {t : PT} (h : At p k t) (g : Good t) (hp : Pl p) : F_spec_l02Kids p k = some (kids k t) := (U_spec_l02Kids p k).out (by
  have hle := h.le
  have hl := hp.len
  have hx := h.hd
  simp only [wrap_nat (show k < 9223372036854775807 by omega)]
  cases t with
  | n0 n =>
    have ha : arity n.1 = 0 := g.ok
    rw [loopF_of (r := .go []) 1 (by
      intro n hn
      obtain ⟨m, rfl⟩ : ∃ m, n = m + 1 := ⟨n - 1, by omega⟩
      simp only [loopK, L_spec_l02Kidsx0, ix_some hx, Option.bind_some, V_spec_ArityOf, PT.hd, ha]
      simp)]
    simp [kids]
  | n1 n a =>
    have ha : arity n.1 = 1 := g.ok.1
    have e := h.c1.V_l02End g.c1 hp
    rw [loopF_of (r := .go [((k + 1 : Nat) : Int)]) 2 (by
      intro n hn
      obtain ⟨m, rfl⟩ : ∃ m, n = m + 2 := ⟨n - 2, by omega⟩
      simp only [loopK, L_spec_l02Kidsx0, e, Option.bind_some, ix_some hx, V_spec_ArityOf, PT.hd, ha]
      rw [apx_some (by simp)]
      simp [e])]
    simp [kids]
  | n2 n a b =>
    have ha : arity n.1 = 2 := g.ok.1
    have e := h.l2.V_l02End g.l2 hp
    have e2 := h.r2.V_l02End g.r2 hp
    rw [loopF_of (r := .go [((k + 1 : Nat) : Int), ((k + 1 + a.size : Nat) : Int)]) 3 (by
      intro n hn
      obtain ⟨m, rfl⟩ : ∃ m, n = m + 3 := ⟨n - 3, by omega⟩
      have w : IntKind.i64.wrap (1 + 1) = 2 := by rw [wrap_sml] <;> omega
      simp only [loopK, L_spec_l02Kidsx0, e, Option.bind_some, ix_some hx, V_spec_ArityOf, PT.hd, ha]
      rw [apx_some (by simp)]
      simp only [Option.bind_some]
      rw [apx_some (by simp)]
      simp only [Option.bind_some, e, e2]
      simp [w])]
    simp [kids])
end Go.Proofs.YtpfjldlopeaniaaGreatX
namespace Go.Proofs.YtpfjldlopeaniaaGreatX
open Go Go.Proofs.YtpfjldlopeaniaaGreatT PT
set_option linter.all false
structure BSch (s : List Tb) : Prop where
  len : s.length ≤ 1073741824
  names : ∀ t ∈ s, t.1.size ≤ 2147483648
def schP (s : List Tb) (i : Nat) (x : Tb) : Bool := wordOk x.1 && okIn x.2.1 1 6 && (decide (i = 0) || match s[i - 1]? with | some y => less y.1 x.1 | none => true)
def schemaOk (s : List Tb) : Bool := allI (schP s) s 0 && decide (s.length ≤ 8)
theorem V_impl_SchemaOk {s : List STable} (hb : BSch s) : F_impl_SchemaOk s = some (schemaOk s) := (U_impl_SchemaOk s).out (by
  have e := loop_chk (f := fun f z => L_impl_SchemaOkx0 s f z.1 z.2) s (schP s) false
    (fun i x v g hx => by
      have l1 := (List.getElem?_eq_some_iff.1 hx).1
      have hl := hb.len
      have hw := hb.names x (mem_of_get hx)
      have hi : decide ((i : Int) > 0) = !decide (i = 0) := by
        by_cases h : i = 0
        · simp [h]
        · simp [h]; omega
      simp only [L_impl_SchemaOkx0, lt_nat hx, cond_true, ix_some hx, Option.bind_some, V_impl_WordOk hw, V_impl_in, hi, wrap_nat (show i < 9223372036854775807 by omega)]
      by_cases h : i = 0
      · subst h
        cases h1 : wordOk x.1 <;> cases h2 : okIn x.2.1 1 6 <;> simp [schP, h1, h2]
      · have hy : s[i - 1]? = some s[i - 1] := List.getElem?_eq_getElem (by omega)
        have hwr : IntKind.i64.wrap ((i : Int) - 1) = ((i - 1 : Nat) : Int) := by rw [wrap_sml] <;> omega
        have hw1 := wrap_nat (show i < 9223372036854775807 by omega)
        simp only [hwr, ix_some hy]
        cases h1 : wordOk x.1 <;> cases h2 : okIn x.2.1 1 6 <;> cases h3 : less s[i - 1].1 x.1 <;> simp [schP, h, hy, less_def, h1, h2, h3, hw1])
    (fun v g => by simp [L_impl_SchemaOkx0]) false
  rw [e]
  simp only [schemaOk]
  cases allI (schP s) s 0 <;> simp <;> omega)
theorem V_spec_SchemaOk {s : List STable} (hb : BSch s) : F_spec_SchemaOk s = some (schemaOk s) := (U_spec_SchemaOk s).out (by
  have e := loop_chk (f := fun f z => L_spec_SchemaOkx0 s f z.1 z.2) s (schP s) false
    (fun i x v g hx => by
      have l1 := (List.getElem?_eq_some_iff.1 hx).1
      have hl := hb.len
      have hw := hb.names x (mem_of_get hx)
      have hi : decide ((i : Int) > 0) = !decide (i = 0) := by
        by_cases h : i = 0
        · simp [h]
        · simp [h]; omega
      simp only [L_spec_SchemaOkx0, lt_nat hx, cond_true, ix_some hx, Option.bind_some, V_spec_WordOk, V_spec_l01In, hi, wrap_nat (show i < 9223372036854775807 by omega)]
      by_cases h : i = 0
      · subst h
        cases h1 : wordOk x.1 <;> cases h2 : okIn x.2.1 1 6 <;> simp [schP, h1, h2]
      · have hy : s[i - 1]? = some s[i - 1] := List.getElem?_eq_getElem (by omega)
        have hwr : IntKind.i64.wrap ((i : Int) - 1) = ((i - 1 : Nat) : Int) := by rw [wrap_sml] <;> omega
        have hw1 := wrap_nat (show i < 9223372036854775807 by omega)
        simp only [hwr, ix_some hy, V_spec_l01Less (hb.names _ (mem_of_get hy)), Option.bind_some]
        cases h1 : wordOk x.1 <;> cases h2 : okIn x.2.1 1 6 <;> cases h3 : less s[i - 1].1 x.1 <;> simp [schP, h, hy, h1, h2, h3, hw1])
    (fun v g => by simp [L_spec_SchemaOkx0]) false
  rw [e]
  simp only [schemaOk]
  by_cases h : s.length ≤ 8
  · have h' : decide ((s.length : Int) > 8) = false := by simp; omega
    rw [h']
    cases allI (schP s) s 0 <;> simp [h]
  · have h' : decide ((s.length : Int) > 8) = true := by simp; omega
    rw [h']
    simp [h])
theorem allI_get {T : Type} {p : Nat → T → Bool} : ∀ {l : List T} {k : Nat}, allI p l k = true → ∀ {i : Nat} {x : T}, l[i]? = some x → p (k + i) x = true
  | [], _, _, _, _, h => by simp at h
  | y :: l, k, h, i, x, hx => by
    simp only [allI, Bool.and_eq_true] at h
    cases i with
    | zero => simp at hx; subst hx; exact h.1
    | succ i =>
      have := allI_get h.2 (i := i) (x := x) (by simpa using hx)
      rw [show k + (i + 1) = k + 1 + i by omega]; exact this
theorem schemaOk_get {s : List Tb} (h : schemaOk s = true) {t : Tb} (ht : t ∈ s) : wordOk t.1 = true ∧ 1 ≤ t.2.1 ∧ t.2.1 ≤ 6 := by
  simp only [schemaOk, Bool.and_eq_true] at h
  obtain ⟨i, hi⟩ := List.mem_iff_getElem?.1 ht
  have := allI_get h.1 hi
  simp only [schP, Bool.and_eq_true, okIn_iff] at this
  exact ⟨this.1.1, this.1.2⟩
theorem schemaOk_len {s : List Tb} (h : schemaOk s = true) : s.length ≤ 8 := by
  simp only [schemaOk, Bool.and_eq_true, decide_eq_true_eq] at h
  exact h.2
def tabAt (s : List Tb) (name : ByteArray) : Option Nat := findI (fun t => decide (t.1 = name)) s 0
theorem V_impl_tableAt_1 (t : STable) (n : ByteArray) : F_impl_tableAt_1 t n = some (decide (t.1 = n), n) := (U_impl_tableAt_1 t n).out (by rw [beq_toList])
theorem V_slices_IndexFunc_LimplTable_impl_tableAt_1 {s : List STable} (hl : s.length ≤ 1073741824) (name : ByteArray) : F_slices_IndexFunc_LimplTable_impl_tableAt_1 s name = some (fint (tabAt s name), name) := (U_slices_IndexFunc_LimplTable_impl_tableAt_1 s name).out (by
  have := loop_findC (f := fun f z => L_slices_IndexFunc_LimplTable_impl_tableAt_1x0 s f z.1 z.2.1 z.2.2) s (fun t => decide (t.1 = name)) name
    (fun i x a g hx => by
      have l1 := (List.getElem?_eq_some_iff.1 hx).1
      simp only [L_slices_IndexFunc_LimplTable_impl_tableAt_1x0, lt_nat hx, cond_true, ix_some hx, Option.bind_some, V_impl_tableAt_1, wrap_nat (show i < 9223372036854775807 by omega)])
    (fun a g => by simp [L_slices_IndexFunc_LimplTable_impl_tableAt_1x0]) 0
  rw [this]
  simp only [tabAt]
  cases findI (fun t => decide (t.1 = name)) s 0 <;> simp [fint])
theorem V_impl_tableAt {s : List STable} (hl : s.length ≤ 1073741824) (name : ByteArray) : F_impl_tableAt s name = some (fint (tabAt s name)) := (U_impl_tableAt s name).out (by
  simp [V_slices_IndexFunc_LimplTable_impl_tableAt_1 hl])
theorem V_spec_l03Find {s : List STable} (hl : s.length ≤ 1073741824) (name : ByteArray) : F_spec_l03Find s name = some (fint (tabAt s name)) := (U_spec_l03Find s name).out (by
  have := loop_find (f := fun f z => L_spec_l03Findx0 s name f z.1 z.2) s (fun t => decide (t.1 = name)) (fun i => (i : Int))
    (fun i x a g hx => by
      have l1 := (List.getElem?_eq_some_iff.1 hx).1
      simp only [L_spec_l03Findx0, lt_nat hx, cond_true, ix_some hx, Option.bind_some, beq_toList, wrap_nat (show i < 9223372036854775807 by omega)])
    (fun a g => by simp [L_spec_l03Findx0]) 0
  rw [this]
  simp only [tabAt]
  cases findI (fun t => decide (t.1 = name)) s 0 <;> simp [fint])
theorem tabAt_some {s : List Tb} {name : ByteArray} {j : Nat} (h : tabAt s name = some j) : ∃ t, s[j]? = some t ∧ t.1 = name ∧ t ∈ s := by
  obtain ⟨_, t, h1, h2⟩ := findI_some h
  simp only [Nat.sub_zero, decide_eq_true_eq] at h1 h2
  exact ⟨t, h1, h2, mem_of_get h1⟩
def oint (o : Option Int) : Int := match o with | some x => x | none => -1
def wT (s : List Tb) : PT → Option Int
  | .n0 n => match tabAt s n.2.1 with
    | some j => match s[j]? with
      | some t => some t.2.1
      | none => none
    | none => none
  | .n1 n a => match wT s a with
    | none => none
    | some w => if n.1 = 2 then (if n.2.2.2.2.2.2.1.all (fun c => decide (c < w)) = true then some n.2.2.2.2.2.2.1.length else none)
      else if n.1 = 1 ∨ n.1 = 5 then (if n.2.2.1 < w then some w else none) else some w
  | .n2 n a b => match wT s a, wT s b with
    | some w, some v => if n.1 = 3 then (if n.2.2.1 < w ∧ n.2.2.2.2.1 < v ∧ w + v ≤ 64 then some (w + v) else none) else if w = v then some w else none
    | _, _ => none
theorem kind0 {n : Nd} (h : arity n.1 = 0) : n.1 = 0 := by
  revert h; unfold arity; repeat' split
  all_goals simp_all
theorem kind1 {n : Nd} (h : arity n.1 = 1) : n.1 = 1 ∨ n.1 = 2 ∨ n.1 = 5 ∨ n.1 = 6 ∨ n.1 = 7 := by
  revert h; unfold arity; repeat' split
  all_goals simp_all
theorem kind2 {n : Nd} (h : arity n.1 = 2) : n.1 = 3 ∨ n.1 = 4 := by
  revert h; unfold arity; repeat' split
  all_goals simp_all
theorem nodeOk_keep {n : Nd} (h : nodeOk n = true) (hk : n.1 = 2) : 1 ≤ n.2.2.2.2.2.2.1.length ∧ n.2.2.2.2.2.2.1.length ≤ 6 ∧ ∀ c ∈ n.2.2.2.2.2.2.1, 0 ≤ c ∧ c ≤ 63 := by
  obtain ⟨k, name, col, op, num, slot, cols, u⟩ := n
  simp only at hk
  subst hk
  simp [nodeOk, okIn] at h
  refine ⟨by simp only; omega, by simp only; omega, ?_⟩
  intro c hc
  exact h.2.1.1.1.1 c hc
theorem wT_range {s : List Tb} (hs : schemaOk s = true) : ∀ {t : PT} {w : Int}, Good t → wT s t = some w → 1 ≤ w ∧ w ≤ 64
  | .n0 n, w, g, h => by
    simp only [wT] at h
    split at h
    · rename_i j hj
      split at h
      · rename_i t ht
        cases h
        have := schemaOk_get hs (mem_of_get ht)
        omega
      · cases h
    · cases h
  | .n1 n a, w, g, h => by
    simp only [wT] at h
    split at h
    · cases h
    · rename_i w' hw
      have := wT_range hs g.c1 hw
      split at h
      · rename_i hk
        split at h
        · cases h
          have := nodeOk_keep g.hd hk
          simp only [PT.hd] at this
          omega
        · cases h
      · split at h
        · split at h
          · cases h; exact this
          · cases h
        · cases h; exact this
  | .n2 n a b, w, g, h => by
    simp only [wT] at h
    split at h
    · rename_i w' v hw hv
      have h1 := wT_range hs g.l2 hw
      have h2 := wT_range hs g.r2 hv
      split at h
      · split at h
        · cases h; omega
        · cases h
      · split at h
        · cases h; exact h1
        · cases h
    · cases h
theorem V_slices_Max_Lint {l : List Int} (h1 : 1 ≤ l.length) (h2 : l.length ≤ 1073741824) : ∃ m, F_slices_Max_Lint l = some m ∧ ∀ w, decide (m ≥ w) = !l.all (fun c => decide (c < w)) := by
  suffices h : ∃ m, F_slices_Max_Lint l = some m ∧ ∀ w, m ≥ w ↔ l.all (fun c => decide (c < w)) = false by
    obtain ⟨m, h1, h2⟩ := h
    refine ⟨m, h1, fun w => ?_⟩
    cases hb : l.all (fun c => decide (c < w)) with
    | false => simp [(h2 w).2 hb]
    | true => simp only [Bool.not_true, decide_eq_false_iff_not]; intro hc; rw [(h2 w).1 hc] at hb; cases hb
  match l, h1 with
  | x :: l, _ =>
    refine ⟨l.foldl (fun a x => mmx true a x) x, (U_slices_Max_Lint (x :: l)).out ?_, ?_⟩
    · have hd : decide (((x :: l).length : Int) < 1) = false := by simp; omega
      rw [hd]
      have e := loop_fold (f := fun f z => L_slices_Max_Lintx0 (x :: l) f z.1 z.2) (fun i a => (a, ((i + 1 : Nat) : Int))) l (fun _ _ => True) (fun _ x a => mmx true a x)
        (fun i y a g hy _ => by
          have l1 := (List.getElem?_eq_some_iff.1 hy).1
          have hx : (x :: l)[i + 1]? = some y := by simpa using hy
          simp only [List.length_cons] at h2
          simp only [L_slices_Max_Lintx0, lt_nat hx, cond_true, ix_some hx, Option.bind_some, wrap_nat (show i + 1 < 9223372036854775807 by omega)])
        (fun _ _ _ _ _ => trivial) (fun a g _ => by simp [L_slices_Max_Lintx0]) x trivial
      rw [foldI_const (fun x a => mmx true a x)] at e
      have h0 : ix (x :: l) 0 = some x := by rw [show (0 : Int) = ((0 : Nat) : Int) from rfl, ix_nat]; rfl
      simp only [cond_false, joinK_go, J_slices_Max_Lintx0, h0, Option.bind_some]
      rw [show ((0 + 1 : Nat) : Int) = 1 from rfl] at e
      rw [e]; simp
    · intro w
      clear h2
      induction l generalizing x with
      | nil => simp
      | cons y l ih =>
        have ih := ih (mmx true x y) (by simp)
        simp only [List.foldl_cons]
        rw [ih]
        simp only [List.all_cons, mmx, cond_true]
        by_cases h : y > x
        · simp only [h, decide_true, cond_true]
          by_cases h3 : y < w
          · have : x < w := by omega
            simp [h3, this]
          · simp [h3]
        · simp only [h, decide_false, cond_false]
          by_cases h3 : x < w
          · have : y < w := by omega
            simp [h3, this]
          · simp [h3]
theorem ix0 {T : Type} (x : T) (l : List T) : ix (x :: l) 0 = some x := by rw [show (0 : Int) = ((0 : Nat) : Int) from rfl, ix_nat]; rfl
theorem ix1 {T : Type} (x y : T) (l : List T) : ix (x :: y :: l) 1 = some y := by rw [show (1 : Int) = ((1 : Nat) : Int) from rfl, ix_nat]; rfl
theorem V_impl_width {s : List STable} (hs : schemaOk s = true) {p : List SNode} (hp : Pl p) : ∀ (t : PT) (k : Nat), At p k t → Good t → F_impl_width s p k = some (oint (wT s t))
  | .n0 n, k, h, g => (U_impl_width s p k).out (by
    have hk := kind0 (n := n) g.ok
    have hx : p[k]? = some n := h.hd
    have hl := schemaOk_len hs
    simp only [h.V_children g hp, kids, Option.bind_some]
    rw [loopF_of (r := .go (0, [])) 1 (by
      intro n hn
      obtain ⟨m, rfl⟩ : ∃ m, n = m + 1 := ⟨n - 1, by omega⟩
      simp [loopK, L_impl_widthx0])]
    simp only [joinK_go, J_impl_widthx0, ix_some hx, Option.bind_some, hk, V_impl_tableAt (show s.length ≤ 1073741824 by omega), wT, joinK_bind, joinK_bif, fint_neg, beq_dec, decide_true, cond_true]
    cases ht : tabAt s n.2.1 with
    | none => simp [fint, oint]
    | some j =>
      obtain ⟨t, h1, _, _⟩ := tabAt_some ht
      simp only [fint_some, ix_some h1, h1]
      simp [oint])
  | .n1 n a, k, h, g => (U_impl_width s p k).out (by
    have hk := kind1 (n := n) g.ok.1
    have hx : p[k]? = some n := h.hd
    have ih := V_impl_width hs hp a (k + 1) h.c1 g.c1
    simp only [h.V_children g hp, kids, Option.bind_some]
    generalize ((k + 1 : Nat) : Int) = j1 at *
    cases hw : wT s a with
    | none =>
      rw [hw] at ih
      rw [loopF_of (r := .ret (-1)) 1 (by
        intro n hn
        obtain ⟨m, rfl⟩ : ∃ m, n = m + 1 := ⟨n - 1, by omega⟩
        simp only [loopK, L_impl_widthx0, ix0, Option.bind_some, ih, oint]
        simp)]
      simp [wT, hw, oint]
    | some w =>
      rw [hw] at ih
      have hr := wT_range hs g.c1 hw
      have hneg : decide (w < 0) = false := by simp; omega
      rw [loopF_of (r := .go (0, [w])) 2 (by
        intro n hn
        obtain ⟨m, rfl⟩ : ∃ m, n = m + 2 := ⟨n - 2, by omega⟩
        simp only [loopK, L_impl_widthx0, ix0, Option.bind_some, ih, oint, hneg]
        rw [apx_some (by simp)]
        simp)]
      simp only [joinK_go, J_impl_widthx0, ix_some hx, Option.bind_some, wT, hw]
      rcases hk with hk | hk | hk | hk | hk
      · simp only [hk]
        by_cases hc : n.2.2.1 < w
        · have : decide (n.2.2.1 ≥ w) = false := by simp; omega
          simp [ix0, this, hc, oint, hk]
        · have : decide (n.2.2.1 ≥ w) = true := by simp; omega
          simp [ix0, this, hc, oint, hk]
      · have hn := nodeOk_keep g.hd hk
        simp only [PT.hd] at hn
        obtain ⟨m, hm, hm2⟩ := V_slices_Max_Lint hn.1 (by omega)
        simp only [hk, hm, Option.bind_some, ix0, J_impl_widthx2, hm2 w]
        cases hc : n.2.2.2.2.2.2.1.all (fun c => decide (c < w)) <;> simp [oint, ix0, hm, hm2, hc, hk]
      · simp only [hk]
        by_cases hc : n.2.2.1 < w
        · have : decide (n.2.2.1 ≥ w) = false := by simp; omega
          simp [ix0, this, hc, oint, hk]
        · have : decide (n.2.2.1 ≥ w) = true := by simp; omega
          simp [ix0, this, hc, oint, hk]
      · simp [hk, ix0, oint]
      · simp [hk, ix0, oint])
  | .n2 n a b, k, h, g => (U_impl_width s p k).out (by
    have hk := kind2 (n := n) g.ok.1
    have hx : p[k]? = some n := h.hd
    have ih := V_impl_width hs hp a (k + 1) h.l2 g.l2
    have ih2 := V_impl_width hs hp b (k + 1 + a.size) h.r2 g.r2
    simp only [h.V_children g hp, kids, Option.bind_some]
    generalize ((k + 1 : Nat) : Int) = j1 at *
    generalize ((k + 1 + a.size : Nat) : Int) = j2 at *
    cases hw : wT s a with
    | none =>
      rw [hw] at ih
      rw [loopF_of (r := .ret (-1)) 1 (by
        intro n hn
        obtain ⟨m, rfl⟩ : ∃ m, n = m + 1 := ⟨n - 1, by omega⟩
        simp only [loopK, L_impl_widthx0, ix0, Option.bind_some, ih, oint]
        simp)]
      simp [wT, hw, oint]
    | some w =>
      rw [hw] at ih
      have hr := wT_range hs g.l2 hw
      have hneg : decide (w < 0) = false := by simp; omega
      cases hv : wT s b with
      | none =>
        rw [hv] at ih2
        rw [loopF_of (r := .ret (-1)) 2 (by
          intro n hn
          obtain ⟨m, rfl⟩ : ∃ m, n = m + 2 := ⟨n - 2, by omega⟩
          simp only [loopK, L_impl_widthx0, ix0, Option.bind_some, ih, oint, hneg]
          rw [apx_some (by simp)]
          simp [ix1, ih2, oint])]
        simp [wT, hw, hv, oint]
      | some v =>
        rw [hv] at ih2
        have hr2 := wT_range hs g.r2 hv
        have hneg2 : decide (v < 0) = false := by simp; omega
        rw [loopF_of (r := .go (0, [w, v])) 3 (by
          intro n hn
          obtain ⟨m, rfl⟩ : ∃ m, n = m + 3 := ⟨n - 3, by omega⟩
          have ww : IntKind.i64.wrap (1 + 1) = 2 := by rw [wrap_sml] <;> omega
          simp only [loopK, L_impl_widthx0, ix0, Option.bind_some, ih, oint, hneg]
          rw [apx_some (by simp)]
          simp [ix1, ih2, oint, hneg2]
          rw [apx_some (by simp)]
          simp [ww])]
        simp only [joinK_go, J_impl_widthx0, ix_some hx, Option.bind_some, wT, hw, hv]
        rcases hk with hk | hk
        · simp only [hk]
          have hwr : IntKind.i64.wrap (w + v) = w + v := by rw [wrap_sml] <;> omega
          have d1 : decide (n.2.2.1 ≥ w) = !decide (n.2.2.1 < w) := by by_cases h : n.2.2.1 < w <;> simp [h] <;> omega
          have d2 : decide (n.2.2.2.2.1 ≥ v) = !decide (n.2.2.2.2.1 < v) := by by_cases h : n.2.2.2.2.1 < v <;> simp [h] <;> omega
          have d3 : decide (w + v > 64) = !decide (w + v ≤ 64) := by by_cases h : w + v ≤ 64 <;> simp [h] <;> omega
          by_cases h1 : n.2.2.1 < w <;> by_cases h2 : n.2.2.2.2.1 < v <;> by_cases h3 : w + v ≤ 64 <;> simp [ix0, ix1, hwr, d1, d2, d3, h1, h2, h3, oint, hk]
        · simp only [hk]
          by_cases h1 : w = v <;> simp [ix0, ix1, h1, oint, bne_dec, hk])
end Go.Proofs.YtpfjldlopeaniaaGreatX
namespace Go.Proofs.YtpfjldlopeaniaaGreatX
open Go Go.Proofs.YtpfjldlopeaniaaGreatT PT
set_option linter.all false
theorem V_spec_l03Width {s : List STable} (hs : schemaOk s = true) {p : List SNode} (hp : Pl p) : ∀ (t : PT) (k : Nat), At p k t → Good t → F_spec_l03Width s p k = some (oint (wT s t))
  | .n0 n, k, h, g => (U_spec_l03Width s p k).out (by
    have hk := kind0 (n := n) g.ok
    have hx : p[k]? = some n := h.hd
    have hl := schemaOk_len hs
    simp only [ix_some hx, h.V_l02Kids g hp, kids, Option.bind_some]
    rw [loopF_of (r := .go (0, [])) 1 (by
      intro n hn
      obtain ⟨m, rfl⟩ : ∃ m, n = m + 1 := ⟨n - 1, by omega⟩
      simp [loopK, L_spec_l03Widthx0])]
    simp only [joinK_go, J_spec_l03Widthx0, ix_some hx, Option.bind_some, hk, V_spec_l03Find (show s.length ≤ 1073741824 by omega), wT, joinK_bind, joinK_bif, fint_neg, beq_dec, decide_true, cond_true]
    cases ht : tabAt s n.2.1 with
    | none => simp [fint, oint]
    | some j =>
      obtain ⟨t, h1, _, _⟩ := tabAt_some ht
      simp only [fint_some, ix_some h1, h1]
      simp [oint])
  | .n1 n a, k, h, g => (U_spec_l03Width s p k).out (by
    have hk := kind1 (n := n) g.ok.1
    have hx : p[k]? = some n := h.hd
    have ih := V_spec_l03Width hs hp a (k + 1) h.c1 g.c1
    simp only [ix_some hx, h.V_l02Kids g hp, kids, Option.bind_some]
    generalize ((k + 1 : Nat) : Int) = j1 at *
    cases hw : wT s a with
    | none =>
      rw [hw] at ih
      rw [loopF_of (r := .ret (-1)) 1 (by
        intro n hn
        obtain ⟨m, rfl⟩ : ∃ m, n = m + 1 := ⟨n - 1, by omega⟩
        simp only [loopK, L_spec_l03Widthx0, ix0, Option.bind_some, ih, oint]
        simp)]
      simp [wT, hw, oint]
    | some w =>
      rw [hw] at ih
      have hr := wT_range hs g.c1 hw
      have hneg : decide (w < 0) = false := by simp; omega
      rw [loopF_of (r := .go (0, [w])) 2 (by
        intro n hn
        obtain ⟨m, rfl⟩ : ∃ m, n = m + 2 := ⟨n - 2, by omega⟩
        simp only [loopK, L_spec_l03Widthx0, ix0, Option.bind_some, ih, oint, hneg]
        rw [apx_some (by simp)]
        simp)]
      simp only [joinK_go, J_spec_l03Widthx0, ix_some hx, Option.bind_some, wT, hw]
      rcases hk with hk | hk | hk | hk | hk
      · simp only [hk]
        by_cases hc : n.2.2.1 < w
        · have : decide (n.2.2.1 ≥ w) = false := by simp; omega
          simp [ix0, this, hc, oint, hk]
        · have : decide (n.2.2.1 ≥ w) = true := by simp; omega
          simp [ix0, this, hc, oint, hk]
      · have hn := nodeOk_keep g.hd hk
        simp only [PT.hd] at hn
        have e := loop_chk (f := fun f s => L_spec_l03Widthx1 n [w] f s.1 s.2) n.2.2.2.2.2.2.1 (fun _ c => decide (c < w)) (Ex.ret (-1))
          (fun i x v g hx => by
            have l1 := (List.getElem?_eq_some_iff.1 hx).1
            simp only [L_spec_l03Widthx1, lt_nat hx, cond_true, ix_some hx, Option.bind_some, ix0, wrap_nat (show i < 9223372036854775807 by omega)]
            by_cases h : x < w
            · have : decide (x ≥ w) = false := by simp; omega
              simp [h, this]
            · have : decide (x ≥ w) = true := by simp; omega
              simp [h, this])
          (fun v g => by simp [L_spec_l03Widthx1]) 0
        rw [allI_const] at e
        simp only [hk, joinK_bif, joinK_go, J_spec_l03Widthx2, e]
        cases hc : n.2.2.2.2.2.2.1.all (fun c => decide (c < w)) <;> simp [oint, ix0, hc, hk, e]
      · simp only [hk]
        by_cases hc : n.2.2.1 < w
        · have : decide (n.2.2.1 ≥ w) = false := by simp; omega
          simp [ix0, this, hc, oint, hk]
        · have : decide (n.2.2.1 ≥ w) = true := by simp; omega
          simp [ix0, this, hc, oint, hk]
      · simp [hk, ix0, oint]
      · simp [hk, ix0, oint])
  | .n2 n a b, k, h, g => (U_spec_l03Width s p k).out (by
    have hk := kind2 (n := n) g.ok.1
    have hx : p[k]? = some n := h.hd
    have ih := V_spec_l03Width hs hp a (k + 1) h.l2 g.l2
    have ih2 := V_spec_l03Width hs hp b (k + 1 + a.size) h.r2 g.r2
    simp only [ix_some hx, h.V_l02Kids g hp, kids, Option.bind_some]
    generalize ((k + 1 : Nat) : Int) = j1 at *
    generalize ((k + 1 + a.size : Nat) : Int) = j2 at *
    cases hw : wT s a with
    | none =>
      rw [hw] at ih
      rw [loopF_of (r := .ret (-1)) 1 (by
        intro n hn
        obtain ⟨m, rfl⟩ : ∃ m, n = m + 1 := ⟨n - 1, by omega⟩
        simp only [loopK, L_spec_l03Widthx0, ix0, Option.bind_some, ih, oint]
        simp)]
      simp [wT, hw, oint]
    | some w =>
      rw [hw] at ih
      have hr := wT_range hs g.l2 hw
      have hneg : decide (w < 0) = false := by simp; omega
      cases hv : wT s b with
      | none =>
        rw [hv] at ih2
        rw [loopF_of (r := .ret (-1)) 2 (by
          intro n hn
          obtain ⟨m, rfl⟩ : ∃ m, n = m + 2 := ⟨n - 2, by omega⟩
          simp only [loopK, L_spec_l03Widthx0, ix0, Option.bind_some, ih, oint, hneg]
          rw [apx_some (by simp)]
          simp [ix1, ih2, oint])]
        simp [wT, hw, hv, oint]
      | some v =>
        rw [hv] at ih2
        have hr2 := wT_range hs g.r2 hv
        have hneg2 : decide (v < 0) = false := by simp; omega
        rw [loopF_of (r := .go (0, [w, v])) 3 (by
          intro n hn
          obtain ⟨m, rfl⟩ : ∃ m, n = m + 3 := ⟨n - 3, by omega⟩
          have ww : IntKind.i64.wrap (1 + 1) = 2 := by rw [wrap_sml] <;> omega
          simp only [loopK, L_spec_l03Widthx0, ix0, Option.bind_some, ih, oint, hneg]
          rw [apx_some (by simp)]
          simp [ix1, ih2, oint, hneg2]
          rw [apx_some (by simp)]
          simp [ww])]
        simp only [joinK_go, J_spec_l03Widthx0, ix_some hx, Option.bind_some, wT, hw, hv]
        rcases hk with hk | hk
        · simp only [hk]
          have hwr : IntKind.i64.wrap (w + v) = w + v := by rw [wrap_sml] <;> omega
          have d1 : decide (n.2.2.1 ≥ w) = !decide (n.2.2.1 < w) := by by_cases h : n.2.2.1 < w <;> simp [h] <;> omega
          have d2 : decide (n.2.2.2.2.1 ≥ v) = !decide (n.2.2.2.2.1 < v) := by by_cases h : n.2.2.2.2.1 < v <;> simp [h] <;> omega
          have d3 : decide (w + v > 64) = !decide (w + v ≤ 64) := by by_cases h : w + v ≤ 64 <;> simp [h] <;> omega
          by_cases h1 : n.2.2.1 < w <;> by_cases h2 : n.2.2.2.2.1 < v <;> by_cases h3 : w + v ≤ 64 <;> simp [ix0, ix1, hwr, d1, d2, d3, h1, h2, h3, oint, hk]
        · simp only [hk]
          by_cases h1 : w = v <;> simp [ix0, ix1, h1, oint, bne_dec, hk])
def widthOf (s : List Tb) (p : List Nd) : Option Int := if schemaOk s = true then (planT p).bind (wT s) else none
theorem V_impl_WidthOf {s : List STable} (hs : BSch s) {p : List SNode} (hp : BPlan p) : F_impl_WidthOf s p = some (oint (widthOf s p)) := (U_impl_WidthOf s p).out (by
  simp only [V_impl_SchemaOk hs, V_impl_PlanOk hp, Option.bind_some]
  unfold widthOf
  cases h1 : schemaOk s with
  | false => simp [oint]
  | true =>
    cases h2 : planT p with
    | none => simp [planOk, h2, oint]
    | some t =>
      obtain ⟨ht, rfl⟩ := planT_some h2
      have := V_impl_width h1 ht.pl t 0 (At.root t) ht.good
      rw [show ((0 : Nat) : Int) = 0 from rfl] at this
      simp [planOk, h2, this])
theorem V_spec_WidthOf {s : List STable} (hs : BSch s) {p : List SNode} (hp : BPlan p) : F_spec_WidthOf s p = some (oint (widthOf s p)) := (U_spec_WidthOf s p).out (by
  simp only [V_spec_SchemaOk hs, V_spec_PlanOk hp, Option.bind_some]
  unfold widthOf
  cases h1 : schemaOk s with
  | false => simp [oint]
  | true =>
    cases h2 : planT p with
    | none => simp [planOk, h2, oint]
    | some t =>
      obtain ⟨ht, rfl⟩ := planT_some h2
      have := V_spec_l03Width h1 ht.pl t 0 (At.root t) ht.good
      rw [show ((0 : Nat) : Int) = 0 from rfl] at this
      simp [planOk, h2, this])
def typedOk (s : List Tb) (p : List Nd) : Bool := (widthOf s p).isSome
theorem widthOf_range {s : List Tb} {p : List Nd} {w : Int} (h : widthOf s p = some w) : 1 ≤ w ∧ w ≤ 64 := by
  unfold widthOf at h
  split at h
  · rename_i hs
    cases hp : planT p with
    | none => simp [hp] at h
    | some t =>
      simp only [hp, Option.bind_some] at h
      exact wT_range hs (planT_some hp).1.good h
  · cases h
theorem V_impl_TypedOk {s : List STable} (hs : BSch s) {p : List SNode} (hp : BPlan p) : F_impl_TypedOk s p = some (typedOk s p) := (U_impl_TypedOk s p).out (by
  simp only [V_impl_WidthOf hs hp, Option.bind_some, typedOk]
  cases h : widthOf s p with
  | none => simp [oint]
  | some w => have := widthOf_range h; simp [oint]; omega)
theorem V_spec_TypedOk {s : List STable} (hs : BSch s) {p : List SNode} (hp : BPlan p) : F_spec_TypedOk s p = some (typedOk s p) := (U_spec_TypedOk s p).out (by
  simp only [V_spec_WidthOf hs hp, Option.bind_some, typedOk]
  cases h : widthOf s p with
  | none => simp [oint]
  | some w => have := widthOf_range h; simp [oint, bne_dec]; omega)
structure Typed (s : List Tb) (t : PT) : Prop where
  plan : PlanT t
  sch : schemaOk s = true
  w : (wT s t).isSome = true
end Go.Proofs.YtpfjldlopeaniaaGreatX
namespace Go.Proofs.YtpfjldlopeaniaaGreatX
open Go Go.Proofs.YtpfjldlopeaniaaGreatT PT
set_option linter.all false
def sizesOk (s : List Tb) (sizes : List Int) : Bool := decide (sizes.length = s.length) && sizes.all (fun x => okIn x 0 1000)
def good (s : List Tb) (sizes : List Int) (p : List Nd) : Bool := typedOk s p && sizesOk s sizes
theorem quox_some {a b : Int} (h0 : 0 ≤ a) (h1 : a ≤ 9223372036854775807) (hb : 1 ≤ b) : quox a b = some (a / b) := by
  unfold quox
  have hb0 : (b == 0) = false := by simp; omega
  rw [hb0, Int.tdiv_eq_ediv_of_nonneg h0]
  have : 0 ≤ a / b := Int.ediv_nonneg h0 (by omega)
  have : a / b ≤ a := Int.ediv_le_self _ h0
  rw [wrap_sml (by omega) (by omega)]
  rfl
end Go.Proofs.YtpfjldlopeaniaaGreatX
namespace Go.Proofs.YtpfjldlopeaniaaGreatX
open Go Go.Proofs.YtpfjldlopeaniaaGreatT PT
set_option linter.all false
theorem loop_flat {R T : Type} {f : (List T × Int → Option (Ex R (List T))) → List T × Int → Option (Ex R (List T))} (l : List (List T)) (hl : l.length ≤ 1073741824)
    (h1 : ∀ (i : Nat) x (a : List T) (g : List T × Int → Option (Ex R (List T))), l[i]? = some x → a.length + x.length ≤ l.flatten.length → f g (a, (i : Int)) = g (a ++ x, ((i + 1 : Nat) : Int)))
    (h2 : ∀ a (g : List T × Int → Option (Ex R (List T))), f g (a, (l.length : Int)) = some (.go a)) :
    loopF f ([], 0) = some (.go l.flatten) := by
  have := loop_fold (f := f) (fun i a => (a, (i : Int))) l (fun i a => a.length + (l.drop i).flatten.length = l.flatten.length) (fun i x a => a ++ x)
    (fun i x a g hx hi => h1 i x a g hx (by
      have l1 := (List.getElem?_eq_some_iff.1 hx).1
      have : l.drop i = x :: l.drop (i + 1) := by rw [List.drop_eq_getElem_cons l1]; congr 1; exact (List.getElem?_eq_some_iff.1 hx).2
      rw [this] at hi
      simp only [List.flatten_cons, List.length_append] at hi
      omega))
    (fun i x a hx hi => by
      have l1 := (List.getElem?_eq_some_iff.1 hx).1
      have : l.drop i = x :: l.drop (i + 1) := by rw [List.drop_eq_getElem_cons l1]; congr 1; exact (List.getElem?_eq_some_iff.1 hx).2
      rw [this] at hi
      simp only [List.flatten_cons, List.length_append] at hi ⊢
      omega) (fun a g _ => h2 a g) [] (by simp)
  rw [foldI_const (fun x a => a ++ x)] at this
  rw [show ((0 : Nat) : Int) = 0 from rfl] at this
  rw [this]
  congr 2
  have := foldl_flat (fun x : List T => x) l []
  simpa [List.flatMap] using this
end Go.Proofs.YtpfjldlopeaniaaGreatX
namespace Go.Proofs.YtpfjldlopeaniaaGreatX
open Go Go.Proofs.YtpfjldlopeaniaaGreatT PT
set_option linter.all false
def ovr (r : Int) : Int × Int := if r = 0 then (1, 1) else if r = 1 then (1, 5) else if r = 2 then (6, 6) else if r = 3 then (5, 5) else if r = 4 then (1, 4) else if r = 5 ∨ r = 6 then (1, 3) else if r = 7 then (7, 7) else if r = 8 then (2, 2) else if r = 9 then (6, 2) else if r = 10 then (1, 2) else if r = 11 then (7, 5) else (-1, -1)
def limN (n m : Nd) : Nd := (n.1, n.2.1, n.2.2.1, n.2.2.2.1, min n.2.2.2.2.1 m.2.2.2.2.1, n.2.2.2.2.2.1, n.2.2.2.2.2.2.1, ())
def colN (n : Nd) (c : Int) : Nd := (n.1, n.2.1, c, n.2.2.2.1, n.2.2.2.2.1, n.2.2.2.2.2.1, n.2.2.2.2.2.2.1, ())
def colsN (n : Nd) (cs : List Int) : Nd := (n.1, n.2.1, n.2.2.1, n.2.2.2.1, n.2.2.2.2.1, n.2.2.2.2.2.1, cs, ())
def pick (l : List Int) (c : Int) : Int := (l[c.toNat]?).getD 0
def turnC (s : List Tb) (r : Int) (n : Nd) : PT → Option PT
  | .n0 _ => none
  | .n1 m d => if r = 2 then (if n.2.2.2.2.2.1 = true ∨ m.2.2.2.2.2.1 = true then none else some (.n1 (limN n m) d))
    else if r = 3 then (if n.2.2.1 = m.2.2.1 then some (.n1 m d) else none)
    else if r = 7 then some (.n1 m d)
    else if r = 8 then some (.n1 (colsN m (n.2.2.2.2.2.2.1.map (pick m.2.2.2.2.2.2.1))) d)
    else if r = 10 then some (.n1 m (.n1 (colN n (pick m.2.2.2.2.2.2.1 n.2.2.1)) d))
    else some (.n1 m (.n1 n d))
  | .n2 m d e => if r = 4 then some (.n2 m (.n1 n d) (.n1 n e))
    else if r = 5 then (if n.2.2.1 < oint (wT s d) then some (.n2 m (.n1 n d) e) else none)
    else if n.2.2.1 < oint (wT s d) then none else some (.n2 m d (.n1 (colN n (n.2.2.1 - oint (wT s d))) e))
def turn (s : List Tb) (r : Int) : PT → Option PT
  | .n1 n c => if n.1 = (ovr r).1 ∧ c.hd.1 = (ovr r).2 then turnC s r n c else none
  | _ => none
end Go.Proofs.YtpfjldlopeaniaaGreatX
namespace Go.Proofs.YtpfjldlopeaniaaGreatX
open Go Go.Proofs.YtpfjldlopeaniaaGreatT PT
set_option linter.all false
theorem bnode_ok {n : Nd} (h : nodeOk n = true) : n.2.1.size ≤ 12 ∧ n.2.2.2.2.2.2.1.length ≤ 6 := by
  obtain ⟨k, name, col, op, num, slot, cols, u⟩ := n
  simp only [nodeOk, Bool.and_eq_true, Bool.or_eq_true, decide_eq_true_eq] at h
  obtain ⟨⟨⟨⟨h1, h2⟩, _⟩, _⟩, h3⟩ := h
  have hn : name.size ≤ 12 := by
    rcases h1 with h1 | h1
    · rw [if_pos h1] at h3
      simp only [Bool.and_eq_true] at h3
      exact (wordOk_len h3.1.1.1).2
    · subst h1; simp
  refine ⟨hn, ?_⟩
  rcases h2 with h2 | h2
  · subst h2
    simp [okIn] at h3
    simp only
    omega
  · subst h2; simp
theorem bnode_of {n : Nd} (h : nodeOk n = true) : BNode n := ⟨by have := (bnode_ok h).1; omega, by have := (bnode_ok h).2; omega⟩
theorem Good.bn {t : PT} (g : Good t) : ∀ n ∈ t.flat, BNode n := fun n hn => bnode_of (g.nodes n hn)
end Go.Proofs.YtpfjldlopeaniaaGreatX
namespace Go.Proofs.YtpfjldlopeaniaaGreatX
open Go Go.Proofs.YtpfjldlopeaniaaGreatT PT
set_option linter.all false
def put : PT → Nat → PT → PT
  | _, 0, v => v
  | .n0 n, _ + 1, _ => .n0 n
  | .n1 n a, k + 1, v => .n1 n (put a k v)
  | .n2 n a b, k + 1, v => if k < a.size then .n2 n (put a k v) b else .n2 n a (put b (k - a.size) v)
end Go.Proofs.YtpfjldlopeaniaaGreatX
namespace Go.Proofs.YtpfjldlopeaniaaGreatX
open Go Go.Proofs.YtpfjldlopeaniaaGreatT PT
set_option linter.all false
theorem foldl_filter {T U : Type} (c : T → Bool) (m : T → U) : ∀ (l : List T) (a : List U), l.foldl (fun a x => if c x = true then a ++ [m x] else a) a = a ++ (l.filter c).map m
  | [], a => by simp
  | x :: l, a => by
    simp only [List.foldl_cons, foldl_filter c m l]
    cases h : c x <;> simp [h]
theorem range_of {n i x : Nat} (h : (List.range n)[i]? = some x) : x = i ∧ i < n := by
  have h1 := (List.getElem?_eq_some_iff.1 h)
  simp at h1
  omega
end Go.Proofs.YtpfjldlopeaniaaGreatX
namespace Go.Proofs.YtpfjldlopeaniaaGreatX
open Go Go.Proofs.YtpfjldlopeaniaaGreatT PT
set_option linter.all false
theorem V_spec_l01Has {l : List Int} (hl : l.length ≤ 2147483648) (x : Int) : F_spec_l01Has l x = some (l.any fun y => decide (y = x)) := (U_spec_l01Has l x).out (by
  have e := loop_brk (f := fun f s => L_spec_l01Hasx0 l x f s.1 s.2) l (fun _ y => if y = x then some true else none)
    (fun i y v g hx => by
      have l1 := (List.getElem?_eq_some_iff.1 hx).1
      simp only [L_spec_l01Hasx0, lt_nat hx, cond_true, ix_some hx, Option.bind_some, wrap_nat (show i < 9223372036854775807 by omega)]
      by_cases h : y = x <;> simp [h, beq_dec])
    (fun v g => by simp [L_spec_l01Hasx0]) false
  rw [e]
  have key : ∀ (l : List Int) (i : Nat), brkI (fun _ y => if y = x then some true else none) l i = if l.any (fun y => decide (y = x)) = true then some true else none := by
    intro l
    induction l with
    | nil => intro i; rfl
    | cons y l ih =>
      intro i
      simp only [brkI, List.any_cons]
      by_cases h : y = x <;> simp [h, ih]
  rw [key]
  cases l.any (fun y => decide (y = x)) <;> simp)
end Go.Proofs.YtpfjldlopeaniaaGreatX
namespace Go.Proofs.YtpfjldlopeaniaaGreatX
open Go Go.Proofs.YtpfjldlopeaniaaGreatT PT
set_option linter.all false
def slotAt (p : List Nd) (x : Int) : Bool := p.any fun n => n.2.2.2.2.2.1 && decide (n.2.2.2.2.1 = x)
def slots (p : List Nd) : List Int := if planOk p = true then ((List.range 40).filter (fun x : Nat => slotAt p x)).map (fun x : Nat => (x : Int)) else []
theorem V_spec_SlotsOf {p : List SNode} (hb : BPlan p) : F_spec_SlotsOf p = some (slots p) := (U_spec_SlotsOf p).out (by
  simp only [V_spec_PlanOk hb, Option.bind_some, slots]
  cases hpk : planOk p with
  | false => simp
  | true =>
    have hl := hb.len
    have inner : ∀ (x : Nat) (v : List Int), (∀ y ∈ v, y < (x : Int)) → v.length ≤ 1000 → loopF (fun f z => L_spec_SlotsOfx1 p (x : Int) f z.1 z.2) (v, 0) = some (.go (if slotAt p x = true then v ++ [(x : Int)] else v)) := by
      intro x v hv hvl
      have e := loop_fold (f := fun f z => L_spec_SlotsOfx1 p (x : Int) f z.1 z.2) (fun i (a : List Int) => (a, (i : Int))) p (fun i a => a.length ≤ 1001 ∧ ((a.length = 1001 ∨ a ≠ v) → a.any (fun y => decide (y = (x : Int))) = true))
        (fun i n a => if (n.2.2.2.2.2.1 && decide (n.2.2.2.2.1 = (x : Int)) && !(a.any fun y => decide (y = (x : Int)))) = true then a ++ [(x : Int)] else a)
        (fun i n a g hn ha => by
          have l1 := (List.getElem?_eq_some_iff.1 hn).1
          have hw1 := wrap_nat (show i < 9223372036854775807 by omega)
          simp only [L_spec_SlotsOfx1, lt_nat hn, cond_true, ix_some hn, Option.bind_some, beq_dec, V_spec_l01Has (show a.length ≤ 2147483648 by omega)]
          cases h1 : n.2.2.2.2.2.1 with
          | false => simp [hw1]
          | true =>
            by_cases h2 : n.2.2.2.2.1 = (x : Int)
            · cases h3 : a.any (fun y => decide (y = (x : Int))) with
              | true => simp [h2, hw1]
              | false => simp [h2]; rw [apx_some (by simp; omega)]; simp [hw1]
            · simp [h2, hw1])
        (fun i n a hn ha => by
          split
          · rename_i hc
            simp only [Bool.and_eq_true, Bool.not_eq_true'] at hc
            have : ¬ (a.length = 1001 ∨ a ≠ v) := fun h => by rw [ha.2 h] at hc; cases hc.2
            refine ⟨by simp; omega, fun _ => by simp⟩
          · exact ha)
        (fun a g _ => by simp [L_spec_SlotsOfx1]) v (by
          refine ⟨by omega, fun h => ?_⟩
          rcases h with h | h
          · omega
          · exact absurd rfl h)
      rw [foldI_const (fun (n : SNode) (a : List Int) => if (n.2.2.2.2.2.1 && decide (n.2.2.2.2.1 = (x : Int)) && !(a.any fun y => decide (y = (x : Int)))) = true then a ++ [(x : Int)] else a)] at e
      have key : ∀ (p : List SNode) (a : List Int), p.foldl (fun a n => if (n.2.2.2.2.2.1 && decide (n.2.2.2.2.1 = (x : Int)) && !(a.any fun y => decide (y = (x : Int)))) = true then a ++ [(x : Int)] else a) a = if a.any (fun y => decide (y = (x : Int))) = true then a else if slotAt p x = true then a ++ [(x : Int)] else a := by
        intro p
        induction p with
        | nil => intro a; simp [slotAt]
        | cons n p ih =>
          intro a
          have hsa : slotAt (n :: p) (x : Int) = ((n.2.2.2.2.2.1 && decide (n.2.2.2.2.1 = (x : Int))) || slotAt p (x : Int)) := rfl
          simp only [List.foldl_cons, ih, hsa]
          generalize slotAt p (x : Int) = sa
          cases h3 : a.any (fun y => decide (y = (x : Int))) with
          | true => simp [h3]
          | false =>
            by_cases h1 : (n.2.2.2.2.2.1 && decide (n.2.2.2.2.1 = (x : Int))) = true
            · simp [h1]
            · have h1 : (n.2.2.2.2.2.1 && decide (n.2.2.2.2.1 = (x : Int))) = false := by simpa using h1
              simp only [h1, Bool.false_and, Bool.false_or]
              simp [h3]
      rw [key] at e
      have hno : v.any (fun y => decide (y = (x : Int))) = false := by
        rw [List.any_eq_false]
        intro y hy
        have := hv y hy
        simp; omega
      rw [hno] at e
      simpa using e
    have e := loop_fold (f := fun f z => L_spec_SlotsOfx0 p f z.1 z.2) (fun i (a : List Int) => (a, (i : Int))) (List.range 40) (fun i a => a.length ≤ i ∧ ∀ y ∈ a, y < (i : Int))
      (fun i (x : Nat) a => if slotAt p x = true then a ++ [(x : Int)] else a)
      (fun i x a g hx ha => by
        obtain ⟨rfl, hi⟩ := range_of hx
        have d : decide ((x : Int) < 40) = true := by simp; omega
        simp only [L_spec_SlotsOfx0, d, cond_true, inner x a ha.2 (by omega), joinK_go, J_spec_SlotsOfx1, wrap_nat (show x < 9223372036854775807 by omega)])
      (fun i x a hx ha => by
        obtain ⟨rfl, hi⟩ := range_of hx
        split
        · refine ⟨by simp; omega, fun y hy => ?_⟩
          simp only [List.mem_append, List.mem_singleton] at hy
          rcases hy with hy | rfl
          · have := ha.2 y hy; omega
          · omega
        · exact ⟨by omega, fun y hy => by have := ha.2 y hy; omega⟩)
      (fun a g _ => by simp [L_spec_SlotsOfx0]) [] (by simp)
    rw [foldI_const (fun (x : Nat) (a : List Int) => if slotAt p x = true then a ++ [(x : Int)] else a), foldl_filter (fun x : Nat => slotAt p x) (fun x : Nat => (x : Int))] at e
    rw [show ((0 : Nat) : Int) = 0 from rfl] at e
    rw [e]; simp)
theorem nodeOk_slot {n : Nd} (h : nodeOk n = true) (hs : n.2.2.2.2.2.1 = true) : 0 ≤ n.2.2.2.2.1 ∧ n.2.2.2.2.1 ≤ 39 := by
  obtain ⟨k, name, col, op, num, slot, cols, u⟩ := n
  simp only at hs
  subst hs
  simp only [nodeOk, Bool.and_eq_true, Bool.or_eq_true] at h
  have := h.1.2
  simp [okIn] at this
  simp only
  omega
end Go.Proofs.YtpfjldlopeaniaaGreatX
namespace Go.Proofs.YtpfjldlopeaniaaGreatX
open Go Go.Proofs.YtpfjldlopeaniaaGreatT PT
set_option linter.all false
abbrev Opn := Int × List Nd × List Nd × List Sp × Unit
structure BOp (o : Opn) : Prop where
  qb : BPlan o.2.1
  ob : BPlan o.2.2.1
  sb : o.2.2.2.1.length ≤ 1073741824
end Go.Proofs.YtpfjldlopeaniaaGreatX
namespace Go.Proofs.YtpfjldlopeaniaaGreatX
open Go Go.Proofs.YtpfjldlopeaniaaGreatT
set_option linter.all false
inductive BL (key : List Int → Int) (bs : Nat) : List (List Int) → List (List Int) → Prop where
  | last (xs : List (List Int)) : xs.length ≤ bs → BL key bs xs (srt key xs)
  | step (A xs ys : List (List Int)) : A.length = bs → BL key bs xs ys → BL key bs (A ++ xs) (srt key A ++ ys)
theorem BL.len {key : List Int → Int} {bs : Nat} {xs ys : List (List Int)} (h : BL key bs xs ys) : ys.length = xs.length := by
  induction h with
  | last xs _ => exact srt_len xs
  | step A xs ys _ _ ih => simp [srt_len, ih]
theorem BL.all {key : List Int → Int} {bs : Nat} {xs ys : List (List Int)} (h : BL key bs xs ys) (hl : xs.length ≤ bs) : ys = srt key xs := by
  cases h with
  | last _ h => rfl
  | step A x y h1 h2 =>
    simp at hl
    have hx : x = [] := List.length_eq_zero_iff.1 (by omega)
    subst hx
    have := h2.len
    have hy : y = [] := List.length_eq_zero_iff.1 (by simpa using this)
    subst hy
    simp
end Go.Proofs.YtpfjldlopeaniaaGreatX
namespace Go.Proofs.YtpfjldlopeaniaaGreatX
open Go Go.Proofs.YtpfjldlopeaniaaGreatT PT
set_option linter.all false
abbrev Rows := List (List Int)
structure BRows (x : List Rows) : Prop where
  len : x.length ≤ 1073741824
  tabs : ∀ t ∈ x, t.length ≤ 1073741824
  rows : ∀ t ∈ x, ∀ r ∈ t, r.length ≤ 1073741824
end Go.Proofs.YtpfjldlopeaniaaGreatX
namespace Go.Proofs.YtpfjldlopeaniaaGreatX
open Go Go.Proofs.YtpfjldlopeaniaaGreatT PT
set_option linter.all false
def holds (n : Nd) (v : Int) : Bool := if v = -2000000 then decide (n.2.2.2.1 = 3) else if n.2.2.2.1 = 0 then decide (v = n.2.2.2.2.1) else if n.2.2.2.1 = 1 then decide (v < n.2.2.2.2.1) else if n.2.2.2.1 = 2 then decide (v > n.2.2.2.2.1) else false
theorem V_spec_l02SameInts {a b : List Int} (h : a.length ≤ 1073741824) : F_spec_l02SameInts a b = some (decide (a = b)) := (U_spec_l02SameInts a b).out (by
  by_cases hl : a.length = b.length
  · have e := loop_chk (f := fun f z => L_spec_l02SameIntsx0 a b f z.1 z.2) (a.zip b) (fun _ p => decide (p.1 = p.2)) false
      (fun i p v g hp => by
        obtain ⟨x, y⟩ := p
        have l1 := (List.getElem?_eq_some_iff.1 hp).1
        simp only [List.length_zip] at l1
        obtain ⟨hx, hy⟩ := List.getElem?_zip_eq_some.1 hp
        simp only [L_spec_l02SameIntsx0, lt_nat hx, cond_true, ix_some hx, ix_some hy, Option.bind_some, wrap_nat (show i < 9223372036854775807 by omega), bne_dec]
        by_cases h : x = y <;> simp [h])
      (fun v g => by simp [L_spec_l02SameIntsx0, hl]) false
    rw [e, allI_const]
    have h3 : (a.zip b).all (fun p => decide (p.1 = p.2)) = decide (a = b) := by
      clear e h
      induction a generalizing b with
      | nil => cases b <;> simp at hl ⊢
      | cons x a ih =>
        cases b with
        | nil => simp at hl
        | cons y b =>
          simp only [List.zip_cons_cons, List.all_cons, ih (by simpa using hl)]
          by_cases h : x = y <;> simp [h]
    rw [h3, hl]
    cases decide (a = b) <;> simp [J_spec_l02SameIntsx0]
  · have : ((a.length : Int) != (b.length : Int)) = true := by simp; omega
    have h2 : a ≠ b := fun h => hl (by rw [h])
    simp [this, h2])
end Go.Proofs.YtpfjldlopeaniaaGreatX
namespace Go.Proofs.YtpfjldlopeaniaaGreatX
open Go Go.Proofs.YtpfjldlopeaniaaGreatT PT
set_option linter.all false
structure RW (w : Int) (x : Rows) : Prop where
  len : x.length ≤ 200
  row : ∀ r ∈ x, (r.length : Int) = w
end Go.Proofs.YtpfjldlopeaniaaGreatX
namespace Go.Proofs.YtpfjldlopeaniaaGreatX
open Go Go.Proofs.YtpfjldlopeaniaaGreatT PT
set_option linter.all false
structure SmallR (x : Rows) : Prop where
  len : x.length ≤ 200
  row : ∀ r ∈ x, r.length ≤ 64
theorem SmallR.nil : SmallR [] := ⟨by simp, by simp⟩
end Go.Proofs.YtpfjldlopeaniaaGreatX
namespace Go.Proofs.YtpfjldlopeaniaaGreatX
open Go Go.Proofs.YtpfjldlopeaniaaGreatT PT
set_option linter.all false
theorem remx_pos {a b : Int} (ha : 0 ≤ a) (hb : 0 < b) : remx a b = some (a % b) := by
  have : (b == 0) = false := by simp; omega
  rw [remx, this]
  simp only [cond_false]
  rw [Int.tmod_eq_emod_of_nonneg ha]
end Go.Proofs.YtpfjldlopeaniaaGreatX
namespace Go.Proofs.YtpfjldlopeaniaaGreatX
open Go Go.Proofs.YtpfjldlopeaniaaGreatT PT
set_option linter.all false
def vb (n : Nat) : List Int := if n < 128 then [(n : Int)] else ((128 + n % 128 : Nat) : Int) :: vb (n / 128)
termination_by n
decreasing_by omega
theorem vb_lt {n : Nat} (h : n < 128) : vb n = [(n : Int)] := by rw [vb, if_pos h]
theorem vb_ge {n : Nat} (h : 128 ≤ n) : vb n = ((128 + n % 128 : Nat) : Int) :: vb (n / 128) := by rw [vb, if_neg (by omega)]
theorem vb_len {n : Nat} (h : n < 2097152) : (vb n).length ≤ 3 := by
  by_cases h1 : n < 128
  · rw [vb_lt h1]; simp
  · rw [vb_ge (by omega)]
    by_cases h2 : n / 128 < 128
    · rw [vb_lt h2]; simp
    · rw [vb_ge (by omega), vb_lt (by omega)]; simp
def zig (x : Int) : Nat := if x < 0 then (-2 * x - 1).toNat else (2 * x).toNat
def numB (x : Int) : List Int := if okIn x (-1000000) 1000000 = true then vb (zig x) else []
theorem zig_lt {x : Int} (h : okIn x (-1000000) 1000000 = true) : zig x < 2097152 := by
  rw [okIn_iff] at h
  unfold zig
  split <;> omega
theorem numB_len (x : Int) : (numB x).length ≤ 3 := by
  unfold numB
  split
  · rename_i h; exact vb_len (zig_lt h)
  · simp
theorem vb_loop {S R : Type} {L : (S → Option (Ex R S)) → S → Option (Ex R S)} (st : List Int → Int → S) (μ : S → Nat) (hμ : ∀ v n, μ (st v n) = n.toNat)
    (h1 : ∀ g (v : List Int) (n : Nat), 128 ≤ n → n < 2097152 → v.length ≤ 3 → L g (st v (n : Int)) = g (st (v ++ [((128 + n % 128 : Nat) : Int)]) ((n / 128 : Nat) : Int)))
    (h2 : ∀ g v (n : Nat), n < 128 → L g (st v (n : Int)) = some (.go (st v (n : Int)))) {n : Nat} (hn : n < 2097152) :
    ∃ (l : List Int) (k : Nat), loopF L (st [] (n : Int)) = some (.go (st l (k : Int))) ∧ l ++ [(k : Int)] = vb n ∧ k < 128 := by
  obtain ⟨r, hr, l, k, rfl, h3, h4⟩ := loopF_tail (f := L) μ (fun s => ∃ (v : List Int) (m : Nat), s = st v m ∧ v ++ vb m = vb n ∧ m ≤ n) (fun r => ∃ (l : List Int) (k : Nat), r = .go (st l k) ∧ l ++ [(k : Int)] = vb n ∧ k < 128)
    (by
      rintro s ⟨v, m, rfl, hv, hm⟩
      have hvl : v.length ≤ 3 := by have := congrArg List.length hv; rw [List.length_append] at this; have := vb_len hn; omega
      by_cases hk : m < 128
      · refine .inl ⟨_, ⟨v, m, rfl, by rw [← hv, vb_lt hk], hk⟩, fun g => h2 g v m hk⟩
      · refine .inr ⟨_, ⟨_, m / 128, rfl, ?_, by omega⟩, ?_, fun g => h1 g v m (by omega) (by omega) hvl⟩
        · rw [← hv, vb_ge (show 128 ≤ m by omega)]; simp
        · rw [hμ, hμ]; omega)
    (st [] (n : Int)) ⟨[], n, rfl, rfl, Nat.le_refl _⟩
  exact ⟨l, k, hr, h3, h4⟩
theorem u8_nat {n : Nat} (h : n < 256) : IntKind.u8.wrap (n : Int) = n := by rw [IntKind.wrap_u8]; omega
theorem quox_nat {n m : Nat} (h : n ≤ 9223372036854775807) (hm : 1 ≤ m) : quox (n : Int) (m : Int) = some ((n / m : Nat) : Int) := by
  have := quox_some (a := (n : Int)) (b := (m : Int)) (by omega) (by omega) (by omega)
  rw [this]; simp
theorem remx_nat {n m : Nat} (hm : 0 < m) : remx (n : Int) (m : Int) = some ((n % m : Nat) : Int) := by
  rw [remx_pos (by omega) (by omega)]; simp
theorem zig_neg {x : Int} (h : okIn x (-1000000) 1000000 = true) (h0 : x < 0) : IntKind.i64.wrap (IntKind.i64.wrap ((-2) * x) - 1) = (zig x : Int) := by
  rw [okIn_iff] at h
  unfold zig
  rw [if_pos h0, wrap_in (x := -2 * x) (by omega) (by omega), wrap_in (by omega) (by omega)]
  omega
theorem zig_pos {x : Int} (h : okIn x (-1000000) 1000000 = true) (h0 : ¬ x < 0) : IntKind.i64.wrap (2 * x) = (zig x : Int) := by
  rw [okIn_iff] at h
  unfold zig
  rw [if_neg h0, wrap_in (by omega) (by omega)]
  omega
theorem V_spec_PutNum (x : Int) : F_spec_PutNum x = some (numB x) := (U_spec_PutNum x).out (by
  simp only [V_spec_l01Number, Option.bind_some, numB]
  cases hx : okIn x (-1000000) 1000000 with
  | false => simp
  | true =>
    obtain ⟨l, k, e, h3, h4⟩ := vb_loop (S := List Int × Int) (R := List Int) (L := fun f s => L_spec_PutNumx0 f s.1 s.2) (fun v n => (v, n)) (fun s => s.2.toNat) (fun _ _ => rfl)
      (fun g v n hn hn2 hv => by
        have d : decide ((n : Int) ≥ 128) = true := by simp; omega
        have e1 := remx_nat (n := n) (m := 128) (by omega)
        have e2 := quox_nat (n := n) (m := 128) (by omega) (by omega)
        have w : IntKind.u8.wrap (IntKind.i64.wrap (128 + ((n % 128 : Nat) : Int))) = ((128 + n % 128 : Nat) : Int) := by
          rw [wrap_in (by omega) (by omega), show (128 + ((n % 128 : Nat) : Int)) = ((128 + n % 128 : Nat) : Int) by omega, u8_nat (by omega)]
        simp only [L_spec_PutNumx0, d, cond_true]
        erw [e1, e2]
        simp only [Option.bind_some, w]
        rw [apx_some (by simp; omega)]
        rfl)
      (fun g v n hn => by
        have d : decide ((n : Int) ≥ 128) = false := by simp; omega
        simp only [L_spec_PutNumx0, d, cond_false])
      (zig_lt hx)
    have e' : loopF (fun f s => L_spec_PutNumx0 f s.1 s.2) ([], (zig x : Int)) = some (.go (l, (k : Int))) := e
    have hl : l.length ≤ 3 := by have := congrArg List.length h3; rw [List.length_append] at this; have := vb_len (zig_lt hx); omega
    by_cases h0 : x < 0
    · simp only [h0, decide_true, Bool.not_true, cond_false, cond_true, joinK_go, zig_neg hx h0, J_spec_PutNumx0, e', J_spec_PutNumx1, u8_nat (show k < 256 by omega), if_true]
      rw [apx_some (by simp; omega), h3]; rfl
    · simp only [h0, decide_false, Bool.not_true, cond_false, joinK_go, zig_pos hx h0, J_spec_PutNumx0, e', J_spec_PutNumx1, u8_nat (show k < 256 by omega), if_true]
      rw [apx_some (by simp; omega), h3]; rfl)
theorem V_impl_PutNum (x : Int) : F_impl_PutNum x = some (numB x) := (U_impl_PutNum x).out (by
  simp only [V_impl_isNum, Option.bind_some, numB]
  cases hx : okIn x (-1000000) 1000000 with
  | false => simp
  | true =>
    obtain ⟨l, k, e, h3, h4⟩ := vb_loop (S := Int × List Int) (R := List Int) (L := fun f s => L_impl_PutNumx0 f s.1 s.2) (fun v n => (n, v)) (fun s => s.1.toNat) (fun _ _ => rfl)
      (fun g v n hn hn2 hv => by
        have d : decide ((n : Int) ≥ 128) = true := by simp; omega
        have e1 := remx_nat (n := n) (m := 128) (by omega)
        have e2 := quox_nat (n := n) (m := 128) (by omega) (by omega)
        have w : IntKind.u8.wrap (IntKind.i64.wrap (((n % 128 : Nat) : Int) + 128)) = ((128 + n % 128 : Nat) : Int) := by
          rw [wrap_in (by omega) (by omega), show (((n % 128 : Nat) : Int) + 128) = ((128 + n % 128 : Nat) : Int) by omega, u8_nat (by omega)]
        simp only [L_impl_PutNumx0, d, cond_true]
        erw [e1, e2]
        simp only [Option.bind_some, w]
        rw [apx_some (by simp; omega)]
        rfl)
      (fun g v n hn => by
        have d : decide ((n : Int) ≥ 128) = false := by simp; omega
        simp only [L_impl_PutNumx0, d, cond_false])
      (zig_lt hx)
    have e' : loopF (fun f s => L_impl_PutNumx0 f s.1 s.2) ((zig x : Int), []) = some (.go ((k : Int), l)) := e
    have hl : l.length ≤ 3 := by have := congrArg List.length h3; rw [List.length_append] at this; have := vb_len (zig_lt hx); omega
    by_cases h0 : x < 0
    · simp only [h0, decide_true, Bool.not_true, cond_false, cond_true, joinK_go, zig_neg hx h0, J_impl_PutNumx0, e', J_impl_PutNumx1, u8_nat (show k < 256 by omega), if_true]
      rw [apx_some (by simp; omega), h3]; rfl
    · simp only [h0, decide_false, Bool.not_true, cond_false, joinK_go, zig_pos hx h0, J_impl_PutNumx0, e', J_impl_PutNumx1, u8_nat (show k < 256 by omega), if_true]
      rw [apx_some (by simp; omega), h3]; rfl)
end Go.Proofs.YtpfjldlopeaniaaGreatX
namespace Go.Proofs.YtpfjldlopeaniaaGreatX
open Go Go.Proofs.YtpfjldlopeaniaaGreatT PT
set_option linter.all false
theorem V_spec_l01Bytes {a : List Int} (h : a.length ≤ 1073741824) : F_spec_l01Bytes a = some a := (U_spec_l01Bytes a).out (by
  have e := loop_map (f := fun f s => L_spec_l01Bytesx0 a f s.1 s.2) a id (by omega)
    (fun i x v g hx hv => by
      have l1 := (List.getElem?_eq_some_iff.1 hx).1
      simp only [L_spec_l01Bytesx0, lt_nat hx, cond_true, ix_some hx, Option.bind_some, wrap_nat (show i < 9223372036854775807 by omega)]
      rw [apx_some (by simp; omega)]; rfl)
    (fun v g => by simp [L_spec_l01Bytesx0])
  rw [e]; simp)
theorem join_loop {R : Type} {L : (List Int × Int → Option (Ex R (List Int))) → List Int × Int → Option (Ex R (List Int))} {a b : List Int} (h : a.length + b.length ≤ 1073741824)
    (h1 : ∀ (i : Nat) x (v : List Int) g, b[i]? = some x → v.length + 1 ≤ 2147483648 → L g (v, (i : Int)) = g (v ++ [x], ((i + 1 : Nat) : Int)))
    (h2 : ∀ v g, L g (v, (b.length : Int)) = some (.go v)) : loopF L (a, 0) = some (.go (a ++ b)) := by
  have e := loop_fold (f := L) (fun i (v : List Int) => (v, (i : Int))) b (fun i v => v.length = a.length + i) (fun _ x v => v ++ [x])
    (fun i x v g hx hv => h1 i x v g hx (by have l1 := (List.getElem?_eq_some_iff.1 hx).1; omega))
    (fun i x v hx hv => by simp; omega) (fun v g _ => h2 v g) a rfl
  rw [foldI_const (fun x v => v ++ [x])] at e
  rw [show ((0 : Nat) : Int) = 0 from rfl] at e
  rw [e]
  congr 2
  have key : ∀ (l v : List Int), l.foldl (fun v x => v ++ [x]) v = v ++ l := by
    intro l
    induction l with
    | nil => simp
    | cons x xs ih => intro v; simp [ih]
  exact key b a
theorem V_spec_l01Join {a b : List Int} (h : a.length + b.length ≤ 1073741824) : F_spec_l01Join a b = some (a ++ b) := (U_spec_l01Join a b).out (by
  have e := join_loop (L := fun f s => L_spec_l01Joinx0 b f s.1 s.2) (a := a) (b := b) h
    (fun i x v g hx hv => by
      have l1 := (List.getElem?_eq_some_iff.1 hx).1
      simp only [L_spec_l01Joinx0, lt_nat hx, cond_true, ix_some hx, Option.bind_some, wrap_nat (show i < 9223372036854775807 by omega)]
      rw [apx_some (by simpa using hv)]; rfl)
    (fun v g => by simp [L_spec_l01Joinx0])
  simp only [V_spec_l01Bytes (show a.length ≤ 1073741824 by omega), Option.bind_some, e, joinK_go, J_spec_l01Joinx0])
theorem V_spec_l01Joinx1 {a b : List Int} (h : a.length + b.length ≤ 1073741824) : F_spec_l01Joinx1 a b = some (a ++ b) := (U_spec_l01Joinx1 a b).out (by
  have e := join_loop (L := fun f s => L_spec_l01Joinx1x0 b f s.1 s.2) (a := a) (b := b) h
    (fun i x v g hx hv => by
      have l1 := (List.getElem?_eq_some_iff.1 hx).1
      simp only [L_spec_l01Joinx1x0, lt_nat hx, cond_true, ix_some hx, Option.bind_some, wrap_nat (show i < 9223372036854775807 by omega)]
      rw [apx_some (by simpa using hv)]; rfl)
    (fun v g => by simp [L_spec_l01Joinx1x0])
  simp only [V_spec_l01Bytes (show a.length ≤ 1073741824 by omega), Option.bind_some, e, joinK_go, J_spec_l01Joinx1x0])
theorem flat_numB (l : List Int) : (l.flatMap numB).length ≤ 3 * l.length := by
  induction l with
  | nil => simp
  | cons x l ih => simp only [List.flatMap_cons, List.length_append, List.length_cons]; have := numB_len x; omega
theorem V_spec_l05Put {a l : List Int} (hl : l.length ≤ 1000) (ha : a.length ≤ 1000000) : F_spec_l05Put a l = some (a ++ l.flatMap numB) := (U_spec_l05Put a l).out (by
  have e := loop_fold (f := fun f s => L_spec_l05Putx0 l f s.1 s.2) (fun i (v : List Int) => (v, (i : Int))) l (fun i v => v.length ≤ a.length + 3 * i) (fun _ x v => v ++ numB x)
    (fun i x v g hx hv => by
      have l1 := (List.getElem?_eq_some_iff.1 hx).1
      have hn := numB_len x
      simp only [L_spec_l05Putx0, lt_nat hx, cond_true, ix_some hx, Option.bind_some, V_spec_PutNum, V_spec_l01Joinx1 (show v.length + (numB x).length ≤ 1073741824 by omega), wrap_nat (show i < 9223372036854775807 by omega)])
    (fun i x v hx hv => by have hn := numB_len x; simp; omega) (fun v g _ => by simp [L_spec_l05Putx0]) a (by simp)
  rw [foldI_const (fun x v => v ++ numB x), foldl_flat] at e
  rw [show ((0 : Nat) : Int) = 0 from rfl] at e
  rw [e]; simp)
theorem V_impl_putAll {l : List Int} (hl : l.length ≤ 1000) : F_impl_putAll l = some (l.flatMap numB) := (U_impl_putAll l).out (by
  have e := loop_fold (f := fun f s => L_impl_putAllx0 l f s.1 s.2) (fun i (v : List Int) => (v, (i : Int))) l (fun i v => v.length ≤ 3 * i) (fun _ x v => v ++ numB x)
    (fun i x v g hx hv => by
      have l1 := (List.getElem?_eq_some_iff.1 hx).1
      have hn := numB_len x
      simp only [L_impl_putAllx0, lt_nat hx, cond_true, ix_some hx, Option.bind_some, V_impl_PutNum, wrap_nat (show i < 9223372036854775807 by omega)]
      rw [apx_some (by omega)]; rfl)
    (fun i x v hx hv => by have hn := numB_len x; simp; omega) (fun v g _ => by simp [L_impl_putAllx0]) [] (by simp)
  rw [foldI_const (fun x v => v ++ numB x), foldl_flat] at e
  rw [show ((0 : Nat) : Int) = 0 from rfl] at e
  rw [e]; simp)
theorem bytesOf_bl (s : ByteArray) : bytesOf s = bl s := rfl
def wordB (w : ByteArray) : List Int := if wordOk w = true then numB w.size ++ bl w else []
theorem V_spec_PutWord {w : ByteArray} : F_spec_PutWord w = some (wordB w) := (U_spec_PutWord w).out (by
  simp only [V_spec_WordOk, Option.bind_some, wordB]
  cases h : wordOk w with
  | false => simp
  | true =>
    have hl := wordOk_len h
    have hn := numB_len w.size
    simp only [Bool.not_true, cond_false, V_spec_PutNum, Option.bind_some, s2x_some (show w.size ≤ 1073741824 by omega), bytesOf_bl, V_spec_l01Join (show (numB w.size).length + (bl w).length ≤ 1073741824 by rw [bl_len]; omega), if_true])
theorem V_impl_PutWord {w : ByteArray} (hw : w.size ≤ 2147483648) : F_impl_PutWord w = some (wordB w) := (U_impl_PutWord w).out (by
  simp only [V_impl_WordOk hw, Option.bind_some, wordB]
  cases h : wordOk w with
  | false => simp
  | true =>
    have hl := wordOk_len h
    have hn := numB_len w.size
    simp only [Bool.not_true, cond_false, V_impl_PutNum, Option.bind_some, bytesOf_bl, if_true]
    rw [apx_some (by rw [bl_len]; omega)]; rfl)
def numsB (l : List Int) : List Int := numB l.length ++ l.flatMap numB
theorem V_spec_PutNums {l : List Int} (hl : l.length ≤ 300) (hn : ∀ x ∈ l, okIn x (-1000000) 1000000 = true) : F_spec_PutNums l = some (numsB l) := (U_spec_PutNums l).out (by
  have d : decide ((l.length : Int) > 300) = false := by simp; omega
  have hb := numB_len l.length
  have e := loop_fold (f := fun f s => L_spec_PutNumsx0 l f s.1 s.2.1 s.2.2) (fun i (v : List Int × List Int) => (v.1, v.2, (i : Int))) l (fun i v => v.2.length ≤ 3 + 3 * i) (fun _ x v => (v.1, v.2 ++ numB x))
    (fun i x v g hx hv => by
      have l1 := (List.getElem?_eq_some_iff.1 hx).1
      have hn2 := numB_len x
      have := hn x (mem_of_get hx)
      simp only [L_spec_PutNumsx0, lt_nat hx, cond_true, ix_some hx, Option.bind_some, V_spec_l01Number, this, Bool.not_true, cond_false, V_spec_PutNum, V_spec_l01Join (show v.2.length + (numB x).length ≤ 1073741824 by omega), wrap_nat (show i < 9223372036854775807 by omega)])
    (fun i x v hx hv => by have hn := numB_len x; simp; omega) (fun v g _ => by simp [L_spec_PutNumsx0]) ([], numB l.length) (by simp; omega)
  have key : ∀ (l : List Int) (i : Nat) (v : List Int × List Int), foldI (fun (_ : Nat) x (v : List Int × List Int) => (v.1, v.2 ++ numB x)) l i v = (v.1, v.2 ++ l.flatMap numB) := by
    intro l
    induction l with
    | nil => intro i v; simp [foldI]
    | cons x l ih => intro i v; simp only [foldI, ih, List.flatMap_cons, List.append_assoc]
  rw [key] at e
  have e' : loopF (fun f s => L_spec_PutNumsx0 l f s.1 s.2.1 s.2.2) ([], numB l.length, 0) = some (.go ([], numB l.length ++ l.flatMap numB)) := e
  simp only [d, cond_false, V_spec_PutNum, Option.bind_some, e', joinK_go, J_spec_PutNumsx0, numsB])
theorem V_impl_PutNums {l : List Int} (hl : l.length ≤ 300) (hn : ∀ x ∈ l, okIn x (-1000000) 1000000 = true) : F_impl_PutNums l = some (numsB l) := (U_impl_PutNums l).out (by
  have d : decide ((l.length : Int) > 300) = false := by simp; omega
  have hb := numB_len l.length
  have e := loop_fold (f := fun f s => L_impl_PutNumsx0 l f s.1 s.2.1 s.2.2) (fun i (v : List Int × List Int) => (v.1, v.2, (i : Int))) l (fun i v => v.2.length ≤ 3 + 3 * i) (fun _ x v => (v.1, v.2 ++ numB x))
    (fun i x v g hx hv => by
      have l1 := (List.getElem?_eq_some_iff.1 hx).1
      have hn2 := numB_len x
      have := hn x (mem_of_get hx)
      simp only [L_impl_PutNumsx0, lt_nat hx, cond_true, ix_some hx, Option.bind_some, V_impl_isNum, this, Bool.not_true, cond_false, V_impl_PutNum, wrap_nat (show i < 9223372036854775807 by omega)]
      rw [apx_some (by omega)]; rfl)
    (fun i x v hx hv => by have hn := numB_len x; simp; omega) (fun v g _ => by simp [L_impl_PutNumsx0]) ([], numB l.length) (by simp; omega)
  have key : ∀ (l : List Int) (i : Nat) (v : List Int × List Int), foldI (fun (_ : Nat) x (v : List Int × List Int) => (v.1, v.2 ++ numB x)) l i v = (v.1, v.2 ++ l.flatMap numB) := by
    intro l
    induction l with
    | nil => intro i v; simp [foldI]
    | cons x l ih => intro i v; simp only [foldI, ih, List.flatMap_cons, List.append_assoc]
  rw [key] at e
  have e' : loopF (fun f s => L_impl_PutNumsx0 l f s.1 s.2.1 s.2.2) ([], numB l.length, 0) = some (.go ([], numB l.length ++ l.flatMap numB)) := e
  simp only [d, cond_false, V_impl_PutNum, Option.bind_some, e', joinK_go, J_impl_PutNumsx0, numsB])
end Go.Proofs.YtpfjldlopeaniaaGreatX
namespace Go.Proofs.YtpfjldlopeaniaaGreatX
open Go Go.Proofs.YtpfjldlopeaniaaGreatT PT
set_option linter.all false
def flagI (b : Bool) : Int := if b = true then 1 else 0
@[simp] theorem V_spec_l05Flag (b : Bool) : F_spec_l05Flag b = some (flagI b) := (U_spec_l05Flag b).out (by cases b <;> rfl)
@[simp] theorem V_impl_flag (b : Bool) : F_impl_flag b = some (flagI b) := (U_impl_flag b).out (by cases b <;> rfl)
def restB (n : Nd) : List Int :=
  if n.1 = 0 then wordB n.2.1
  else if n.1 = 1 then [n.2.2.1, n.2.2.2.1, flagI n.2.2.2.2.2.1, n.2.2.2.2.1].flatMap numB
  else if n.1 = 2 then numsB n.2.2.2.2.2.2.1
  else if n.1 = 3 then [n.2.2.1, n.2.2.2.2.1].flatMap numB
  else if n.1 = 5 then [n.2.2.1].flatMap numB
  else if n.1 = 6 then [flagI n.2.2.2.2.2.1, n.2.2.2.2.1].flatMap numB
  else []
def nodeB (n : Nd) : List Int := numB n.1 ++ restB n
theorem nodeOk_cols {n : Nd} (h : nodeOk n = true) : n.2.2.2.2.2.2.1.length ≤ 6 ∧ ∀ x ∈ n.2.2.2.2.2.2.1, okIn x (-1000000) 1000000 = true := by
  obtain ⟨k, name, col, op, num, slot, cols, u⟩ := n
  simp only [nodeOk] at h
  by_cases h2 : k = 2
  · subst h2
    simp only [Bool.and_eq_true] at h
    have h3 := h.2
    simp at h3
    obtain ⟨⟨⟨⟨h4, h5⟩, _⟩, _⟩, _⟩ := h3
    rw [okIn_iff] at h5
    refine ⟨by simp only; omega, fun x hx => ?_⟩
    have := h4 x hx
    rw [okIn_iff] at this ⊢
    omega
  · have : cols = [] := by
      simp only [Bool.and_eq_true, Bool.or_eq_true, decide_eq_true_eq] at h
      rcases h.1.1.1.2 with h | h
      · exact absurd h h2
      · exact h
    subst this
    simp
theorem wordB_len (w : ByteArray) : (wordB w).length ≤ 15 := by
  unfold wordB
  split
  · rename_i h
    have := wordOk_len h
    have h2 := numB_len w.size
    rw [List.length_append, bl_len]; omega
  · simp
theorem restB_len {n : Nd} (h : nodeOk n = true) : (restB n).length ≤ 21 := by
  have hc := (nodeOk_cols h).1
  unfold restB
  repeat' split
  · have := wordB_len n.2.1; omega
  · have := flat_numB [n.2.2.1, n.2.2.2.1, flagI n.2.2.2.2.2.1, n.2.2.2.2.1]; simp only [List.length_cons, List.length_nil] at this; omega
  · have := flat_numB n.2.2.2.2.2.2.1; have h2 := numB_len n.2.2.2.2.2.2.1.length; unfold numsB; rw [List.length_append]; omega
  · have := flat_numB [n.2.2.1, n.2.2.2.2.1]; simp only [List.length_cons, List.length_nil] at this; omega
  · have := flat_numB [n.2.2.1]; simp only [List.length_cons, List.length_nil] at this; omega
  · have := flat_numB [flagI n.2.2.2.2.2.1, n.2.2.2.2.1]; simp only [List.length_cons, List.length_nil] at this; omega
  · simp
theorem nodeB_len {n : Nd} (h : nodeOk n = true) : (nodeB n).length ≤ 24 := by
  have := restB_len h
  have h2 := numB_len n.1
  unfold nodeB; rw [List.length_append]; omega
theorem V_spec_PutNode {n : SNode} (hb : BNode n) (h : nodeOk n = true) : F_spec_PutNode n = some (nodeB n) := (U_spec_PutNode n).out (by
  have hc := nodeOk_cols h
  have hr := restB_len h
  have hn := numB_len n.1
  obtain ⟨k, name, col, op, num, slot, cols, u⟩ := n
  have hb' : BNode (k, name, col, op, num, slot, cols, ()) := hb
  simp only at hc hn
  have h' : nodeOk (k, name, col, op, num, slot, cols, ()) = true := h
  simp only [V_spec_NodeOk hb', h', Option.bind_some, Bool.not_true, cond_false, V_spec_PutNum, beq_dec, nodeB, V_spec_l05Flag]
  by_cases h0 : k = 0
  · subst h0
    simp only [decide_true, cond_true, V_spec_PutWord, Option.bind_some]
    have hw := wordB_len name
    rw [V_spec_l01Join (by omega)]
    simp [restB]
  by_cases h1 : k = 1
  · subst h1
    simp only [show decide ((1 : Int) = 0) = false from rfl, decide_true, cond_true, cond_false]
    rw [V_spec_l05Put (by simp) (by omega)]
    simp [restB]
  by_cases h2 : k = 2
  · subst h2
    simp only [show decide ((2 : Int) = 0) = false from rfl, show decide ((2 : Int) = 1) = false from rfl, decide_true, cond_true, cond_false]
    rw [V_spec_PutNums (by omega) hc.2]
    have hr2 : (numsB cols).length ≤ 21 := by simpa [restB] using hr
    simp only [Option.bind_some]
    rw [V_spec_l01Join (by omega)]
    simp [restB]
  by_cases h3 : k = 3
  · subst h3
    simp only [show decide ((3 : Int) = 0) = false from rfl, show decide ((3 : Int) = 1) = false from rfl, show decide ((3 : Int) = 2) = false from rfl, decide_true, cond_true, cond_false]
    rw [V_spec_l05Put (by simp) (by omega)]
    simp [restB]
  by_cases h5 : k = 5
  · subst h5
    simp only [show decide ((5 : Int) = 0) = false from rfl, show decide ((5 : Int) = 1) = false from rfl, show decide ((5 : Int) = 2) = false from rfl, show decide ((5 : Int) = 3) = false from rfl, decide_true, cond_true, cond_false]
    rw [V_spec_l05Put (by simp) (by omega)]
    simp [restB]
  by_cases h6 : k = 6
  · subst h6
    simp only [show decide ((6 : Int) = 0) = false from rfl, show decide ((6 : Int) = 1) = false from rfl, show decide ((6 : Int) = 2) = false from rfl, show decide ((6 : Int) = 3) = false from rfl, show decide ((6 : Int) = 5) = false from rfl, decide_true, cond_true, cond_false]
    rw [V_spec_l05Put (by simp) (by omega)]
    simp [restB]
  simp [restB, h0, h1, h2, h3, h5, h6])
theorem V_impl_PutNode {n : SNode} (hb : BNode n) (h : nodeOk n = true) : F_impl_PutNode n = some (nodeB n) := (U_impl_PutNode n).out (by
  have hc := nodeOk_cols h
  have hr := restB_len h
  have hn := numB_len n.1
  obtain ⟨k, name, col, op, num, slot, cols, u⟩ := n
  have hb' : BNode (k, name, col, op, num, slot, cols, ()) := hb
  simp only at hc hn
  have h' : nodeOk (k, name, col, op, num, slot, cols, ()) = true := h
  have hname : name.size ≤ 2147483648 := hb'.name
  simp only [V_impl_NodeOk hb', h', Option.bind_some, Bool.not_true, cond_false, V_impl_PutNum, beq_dec, nodeB, V_impl_flag]
  by_cases h0 : k = 0
  · subst h0
    simp only [decide_true, cond_true, V_impl_PutWord hname, Option.bind_some]
    have hw := wordB_len name
    rw [apx_some (by omega)]
    simp [restB]
  by_cases h1 : k = 1
  · subst h1
    simp only [show decide ((1 : Int) = 0) = false from rfl, decide_true, cond_true, cond_false]
    have hr2 : ([col, op, flagI slot, num].flatMap numB).length ≤ 21 := by simpa [restB] using hr
    rw [V_impl_putAll (by simp)]
    simp only [Option.bind_some]
    rw [apx_some (by omega)]
    simp [restB]
  by_cases h2 : k = 2
  · subst h2
    simp only [show decide ((2 : Int) = 0) = false from rfl, show decide ((2 : Int) = 1) = false from rfl, decide_true, cond_true, cond_false]
    rw [V_impl_PutNums (by omega) hc.2]
    have hr2 : (numsB cols).length ≤ 21 := by simpa [restB] using hr
    simp only [Option.bind_some]
    rw [apx_some (by omega)]
    simp [restB]
  by_cases h3 : k = 3
  · subst h3
    simp only [show decide ((3 : Int) = 0) = false from rfl, show decide ((3 : Int) = 1) = false from rfl, show decide ((3 : Int) = 2) = false from rfl, decide_true, cond_true, cond_false]
    have hr2 : ([col, num].flatMap numB).length ≤ 21 := by simpa [restB] using hr
    rw [V_impl_putAll (by simp)]
    simp only [Option.bind_some]
    rw [apx_some (by omega)]
    simp [restB]
  by_cases h5 : k = 5
  · subst h5
    simp only [show decide ((5 : Int) = 0) = false from rfl, show decide ((5 : Int) = 1) = false from rfl, show decide ((5 : Int) = 2) = false from rfl, show decide ((5 : Int) = 3) = false from rfl, decide_true, cond_true, cond_false]
    have hr2 : ([col].flatMap numB).length ≤ 21 := by simpa [restB] using hr
    rw [V_impl_putAll (by simp)]
    simp only [Option.bind_some]
    rw [apx_some (by omega)]
    simp [restB]
  by_cases h6 : k = 6
  · subst h6
    simp only [show decide ((6 : Int) = 0) = false from rfl, show decide ((6 : Int) = 1) = false from rfl, show decide ((6 : Int) = 2) = false from rfl, show decide ((6 : Int) = 3) = false from rfl, show decide ((6 : Int) = 5) = false from rfl, decide_true, cond_true, cond_false]
    have hr2 : ([flagI slot, num].flatMap numB).length ≤ 21 := by simpa [restB] using hr
    rw [V_impl_putAll (by simp)]
    simp only [Option.bind_some]
    rw [apx_some (by omega)]
    simp [restB]
  simp [restB, h0, h1, h2, h3, h5, h6])
def chkS (s c : Int) : Int := (IntKind.i64.wrap ((IntKind.i64.wrap (269 * s)) + (IntKind.i64.wrap c))).tmod 999983
def chk (b : List Int) : Int := b.foldl chkS 5
theorem V_spec_CheckOf {b : List Int} (hb : b.length ≤ 1073741824) : F_spec_CheckOf b = some (chk b) := (U_spec_CheckOf b).out (by
  have e := loop_fold (f := fun f s => L_spec_CheckOfx0 b f s.1 s.2) (fun i (v : Int) => (v, (i : Int))) b (fun _ _ => True) (fun _ x v => chkS v x)
    (fun i x v g hx _ => by
      have l1 := (List.getElem?_eq_some_iff.1 hx).1
      simp only [L_spec_CheckOfx0, lt_nat hx, cond_true, ix_some hx, Option.bind_some, wrap_nat (show i < 9223372036854775807 by omega)]
      rfl)
    (fun _ _ _ _ _ => trivial) (fun v g _ => by simp [L_spec_CheckOfx0]) 5 trivial
  rw [foldI_const (fun x v => chkS v x)] at e
  rw [show ((0 : Nat) : Int) = 0 from rfl] at e
  rw [e]; rfl)
theorem V_impl_CheckOf {b : List Int} (hb : b.length ≤ 1073741824) : F_impl_CheckOf b = some (chk b) := (U_impl_CheckOf b).out (by
  have e := loop_fold (f := fun f s => L_impl_CheckOfx0 b f s.1 s.2) (fun i (v : Int) => (v, (i : Int))) b (fun _ _ => True) (fun _ x v => chkS v x)
    (fun i x v g hx _ => by
      have l1 := (List.getElem?_eq_some_iff.1 hx).1
      simp only [L_impl_CheckOfx0, lt_nat hx, cond_true, ix_some hx, Option.bind_some, wrap_nat (show i < 9223372036854775807 by omega)]
      rfl)
    (fun _ _ _ _ _ => trivial) (fun v g _ => by simp [L_impl_CheckOfx0]) 5 trivial
  rw [foldI_const (fun x v => chkS v x)] at e
  rw [show ((0 : Nat) : Int) = 0 from rfl] at e
  rw [e]; rfl)
def frame (b : List Int) : List Int × Bool := if b.length ≤ 4000 then ([80, 83] ++ numB b.length ++ b ++ numB (chk b), true) else ([], false)
theorem V_spec_Frame {b : List Int} (hb : b.length ≤ 1073741824) : F_spec_Frame b = some (frame b) := (U_spec_Frame b).out (by
  unfold frame
  by_cases h : b.length ≤ 4000
  · have d : decide ((b.length : Int) > 4000) = false := by simp; omega
    have n1 := numB_len b.length
    have n2 := numB_len (chk b)
    simp only [d, cond_false, List.isEmpty_cons, Option.bind_some, V_spec_PutNum, V_spec_CheckOf hb, h, if_true]
    rw [V_spec_l01Join (by simp; omega)]
    simp only [Option.bind_some]
    rw [V_spec_l01Join (by simp; omega)]
    simp only [Option.bind_some]
    rw [V_spec_l01Join (by simp; omega)]
    simp
  · have d : decide ((b.length : Int) > 4000) = true := by simp; omega
    simp [d, h])
theorem V_slices_Grow_Lbyte {n : Nat} (h : n ≤ 2147483648) : F_slices_Grow_Lbyte n = some [] := (U_slices_Grow_Lbyte n).out (by
  have w : IntKind.i64.wrap ((n : Int) - IntKind.i64.wrap (0 - 0)) = n := by rw [show IntKind.i64.wrap (0 - 0) = 0 by rw [wrap_sml] <;> omega, wrap_sml] <;> omega
  rw [w, mkx_nat h]
  simp [tkx])
theorem V_slices_Concat_Lbyte {l : List (List Int)} (hl : l.length ≤ 1000) (hb : l.flatten.length ≤ 1073741824) : F_slices_Concat_Lbyte l = some l.flatten := (U_slices_Concat_Lbyte l).out (by
  have e0 := loop_fold (f := fun f s => L_slices_Concat_Lbytex0 l f s.1 s.2) (fun i (a : Int) => (a, (i : Int))) l (fun i a => 0 ≤ a ∧ a + (l.drop i).flatten.length = l.flatten.length) (fun _ x a => a + (x.length : Int))
    (fun i x a g hx hi => by
      have l1 := (List.getElem?_eq_some_iff.1 hx).1
      have : l.drop i = x :: l.drop (i + 1) := by rw [List.drop_eq_getElem_cons l1]; congr 1; exact (List.getElem?_eq_some_iff.1 hx).2
      rw [this] at hi
      simp only [List.flatten_cons, List.length_append] at hi
      have w : IntKind.i64.wrap (a + (x.length : Int)) = a + x.length := by rw [wrap_sml] <;> omega
      have d : decide (a + (x.length : Int) < 0) = false := by simp; omega
      simp only [L_slices_Concat_Lbytex0, lt_nat hx, cond_true, ix_some hx, Option.bind_some, wrap_nat (show i < 9223372036854775807 by omega), w, d, cond_false, joinK_go, J_slices_Concat_Lbytex1])
    (fun i x a hx hi => by
      have l1 := (List.getElem?_eq_some_iff.1 hx).1
      have : l.drop i = x :: l.drop (i + 1) := by rw [List.drop_eq_getElem_cons l1]; congr 1; exact (List.getElem?_eq_some_iff.1 hx).2
      rw [this] at hi
      simp only [List.flatten_cons, List.length_append] at hi
      omega) (fun a g _ => by simp [L_slices_Concat_Lbytex0]) 0 (by simp)
  rw [foldI_const (fun (x : List (Int)) (a : Int) => a + (x.length : Int))] at e0
  have hsum : ∀ (l : List (List (Int))) (a : Int), l.foldl (fun a x => a + (x.length : Int)) a = a + l.flatten.length := by
    intro l
    induction l with
    | nil => simp
    | cons x l ih => intro a; simp only [List.foldl_cons, ih, List.flatten_cons, List.length_append]; omega
  rw [hsum, Int.zero_add] at e0
  rw [show ((0 : Nat) : Int) = 0 from rfl] at e0
  rw [e0]
  simp only [joinK_go, J_slices_Concat_Lbytex0, V_slices_Grow_Lbyte (show l.flatten.length ≤ 2147483648 by omega), Option.bind_some]
  have e := loop_flat (f := fun f s => L_slices_Concat_Lbytex1 l f s.1 s.2) l (by omega)
    (fun i x a g hx ha => by
      have l1 := (List.getElem?_eq_some_iff.1 hx).1
      simp only [L_slices_Concat_Lbytex1, lt_nat hx, cond_true, ix_some hx, Option.bind_some, wrap_nat (show i < 9223372036854775807 by omega)]
      rw [apx_some (by omega)]; rfl)
    (fun a g => by simp [L_slices_Concat_Lbytex1])
  rw [e]; simp)
theorem V_impl_Frame {b : List Int} (hb : b.length ≤ 1073741824) : F_impl_Frame b = some (frame b) := (U_impl_Frame b).out (by
  unfold frame
  by_cases h : b.length ≤ 4000
  · have d : decide ((b.length : Int) > 4000) = false := by simp; omega
    have n1 := numB_len b.length
    have n2 := numB_len (chk b)
    simp only [d, cond_false, List.isEmpty_cons, Option.bind_some, V_impl_PutNum, V_impl_CheckOf hb, h, if_true]
    rw [V_slices_Concat_Lbyte (by simp) (by simp; omega)]
    simp
  · have d : decide ((b.length : Int) > 4000) = true := by simp; omega
    simp [d, h])
def encPlan (p : List Nd) : List Int × Bool := if planOk p = true then frame (numB p.length ++ p.flatMap nodeB) else ([], false)
theorem flat_nodeB : ∀ {p : List Nd} (_ : ∀ n ∈ p, nodeOk n = true), (p.flatMap nodeB).length ≤ 24 * p.length
  | [], _ => by simp
  | n :: p, h => by
    have h1 := nodeB_len (h n (by simp))
    have h2 := flat_nodeB (p := p) (fun m hm => h m (by simp [hm]))
    simp only [List.flatMap_cons, List.length_append, List.length_cons]; omega
theorem planOk_nodes {p : List Nd} (h : planOk p = true) : (∀ n ∈ p, nodeOk n = true) ∧ p.length ≤ 40 := by
  obtain ⟨t, ht, rfl⟩ := planOk_iff.1 h
  exact ⟨ht.nodes, by have := ht.size; simpa using this⟩
theorem V_spec_EncodePlan {p : List SNode} (hb : BPlan p) : F_spec_EncodePlan p = some (encPlan p) := (U_spec_EncodePlan p).out (by
  unfold encPlan
  simp only [V_spec_PlanOk hb, Option.bind_some]
  cases h : planOk p with
  | false => simp
  | true =>
    obtain ⟨hn, hl⟩ := planOk_nodes h
    have n1 := numB_len p.length
    have e := loop_fold (f := fun f s => L_spec_EncodePlanx0 p f s.1 s.2) (fun i (v : List Int) => (v, (i : Int))) p (fun i v => v.length ≤ 3 + 24 * i) (fun _ x v => v ++ nodeB x)
      (fun i x v g hx hv => by
        have l1 := (List.getElem?_eq_some_iff.1 hx).1
        have hm := mem_of_get hx
        have n2 := nodeB_len (hn x hm)
        simp only [L_spec_EncodePlanx0, lt_nat hx, cond_true, ix_some hx, Option.bind_some, V_spec_PutNode (hb.nodes x hm) (hn x hm), V_spec_l01Join (show v.length + (nodeB x).length ≤ 1073741824 by omega), wrap_nat (show i < 9223372036854775807 by omega)])
      (fun i x v hx hv => by have n2 := nodeB_len (hn x (mem_of_get hx)); simp; omega) (fun v g _ => by simp [L_spec_EncodePlanx0]) (numB p.length) (by omega)
    rw [foldI_const (fun x v => v ++ nodeB x), foldl_flat] at e
    rw [show ((0 : Nat) : Int) = 0 from rfl] at e
    have hf := flat_nodeB hn
    simp only [Bool.not_true, cond_false, V_spec_PutNum, Option.bind_some, e, joinK_go, J_spec_EncodePlanx0, if_true]
    rw [V_spec_Frame (by rw [List.length_append]; omega)]
    rfl)
theorem V_impl_EncodePlan {p : List SNode} (hb : BPlan p) : F_impl_EncodePlan p = some (encPlan p) := (U_impl_EncodePlan p).out (by
  unfold encPlan
  simp only [V_impl_PlanOk hb, Option.bind_some]
  cases h : planOk p with
  | false => simp
  | true =>
    obtain ⟨hn, hl⟩ := planOk_nodes h
    have n1 := numB_len p.length
    have e := loop_fold (f := fun f s => L_impl_EncodePlanx0 p f s.1 s.2) (fun i (v : List Int) => (v, (i : Int))) p (fun i v => v.length ≤ 3 + 24 * i) (fun _ x v => v ++ nodeB x)
      (fun i x v g hx hv => by
        have l1 := (List.getElem?_eq_some_iff.1 hx).1
        have hm := mem_of_get hx
        have n2 := nodeB_len (hn x hm)
        have hp := V_impl_PutNode (hb.nodes x hm) (hn x hm)
        simp only [L_impl_EncodePlanx0, lt_nat hx, cond_true, ix_some hx, Option.bind_some, wrap_nat (show i < 9223372036854775807 by omega)]
        erw [hp]
        simp only [Option.bind_some]
        rw [apx_some (by omega)]; rfl)
      (fun i x v hx hv => by have n2 := nodeB_len (hn x (mem_of_get hx)); simp; omega) (fun v g _ => by simp [L_impl_EncodePlanx0]) (numB p.length) (by omega)
    rw [foldI_const (fun x v => v ++ nodeB x), foldl_flat] at e
    rw [show ((0 : Nat) : Int) = 0 from rfl] at e
    have hf := flat_nodeB hn
    simp only [Bool.not_true, cond_false, V_impl_PutNum, Option.bind_some, e, joinK_go, J_impl_EncodePlanx0, if_true]
    rw [V_impl_Frame (by rw [List.length_append]; omega)]
    rfl)
def prS (s c : Int) : Int := (IntKind.i64.wrap ((IntKind.i64.wrap (31 * s)) + (IntKind.i64.wrap c))).tmod 251
def printM (p : List Nd) : Int := if (encPlan p).2 = true then (encPlan p).1.foldl prS 97 else -1
theorem encPlan_len {p : List Nd} : (encPlan p).1.length ≤ 10000 := by
  unfold encPlan
  split
  · unfold frame
    split
    · rename_i h1 h2
      have n1 := numB_len (numB p.length ++ p.flatMap nodeB).length
      have n2 := numB_len (chk (numB p.length ++ p.flatMap nodeB))
      simp only [List.length_append, List.length_cons, List.length_nil] at n1 n2 h2 ⊢
      omega
    · simp
  · simp
theorem V_spec_PrintOf {p : List SNode} (hb : BPlan p) : F_spec_PrintOf p = some (printM p) := (U_spec_PrintOf p).out (by
  have hl := encPlan_len (p := p)
  simp only [V_spec_EncodePlan hb, Option.bind_some, printM]
  generalize encPlan p = e0 at hl ⊢
  obtain ⟨b, ok⟩ := e0
  cases ok with
  | false => simp
  | true =>
    simp only at hl
    have e := loop_fold (f := fun f s => L_spec_PrintOfx0 (b, true) f s.1 s.2) (fun i (v : Int) => (v, (i : Int))) b (fun _ _ => True) (fun _ x v => prS v x)
      (fun i x v g hx _ => by
        have l1 := (List.getElem?_eq_some_iff.1 hx).1
        simp only [L_spec_PrintOfx0, lt_nat hx, cond_true, ix_some hx, Option.bind_some, wrap_nat (show i < 9223372036854775807 by omega)]
        rfl)
      (fun _ _ _ _ _ => trivial) (fun v g _ => by simp [L_spec_PrintOfx0]) 97 trivial
    rw [foldI_const (fun x v => prS v x)] at e
    rw [show ((0 : Nat) : Int) = 0 from rfl] at e
    simp only [Bool.not_true, cond_false, e, joinK_go, J_spec_PrintOfx0, if_true])
theorem V_impl_PrintOf {p : List SNode} (hb : BPlan p) : F_impl_PrintOf p = some (printM p) := (U_impl_PrintOf p).out (by
  have hl := encPlan_len (p := p)
  simp only [V_impl_EncodePlan hb, Option.bind_some, printM]
  generalize encPlan p = e0 at hl ⊢
  obtain ⟨b, ok⟩ := e0
  cases ok with
  | false => simp
  | true =>
    simp only at hl
    have e := loop_fold (f := fun f s => L_impl_PrintOfx0 (b, true) f s.1 s.2) (fun i (v : Int) => (v, (i : Int))) b (fun _ _ => True) (fun _ x v => prS v x)
      (fun i x v g hx _ => by
        have l1 := (List.getElem?_eq_some_iff.1 hx).1
        simp only [L_impl_PrintOfx0, lt_nat hx, cond_true, ix_some hx, Option.bind_some, wrap_nat (show i < 9223372036854775807 by omega)]
        rfl)
      (fun _ _ _ _ _ => trivial) (fun v g _ => by simp [L_impl_PrintOfx0]) 97 trivial
    rw [foldI_const (fun x v => prS v x)] at e
    rw [show ((0 : Nat) : Int) = 0 from rfl] at e
    simp only [Bool.not_true, cond_false, e, joinK_go, J_impl_PrintOfx0, if_true])
end Go.Proofs.YtpfjldlopeaniaaGreatX
namespace Go.Proofs.YtpfjldlopeaniaaGreatX
open Go Go.Proofs.YtpfjldlopeaniaaGreatT PT
set_option linter.all false
theorem V_spec_l02SameNode {a b : SNode} (ha : a.2.2.2.2.2.2.1.length ≤ 1073741824) : F_spec_l02SameNode a b = some (decide (a = b)) := (U_spec_l02SameNode a b).out (by
  obtain ⟨k, name, col, op, num, slot, cols, u⟩ := a
  obtain ⟨k', name', col', op', num', slot', cols', u'⟩ := b
  simp only [V_spec_l02SameInts ha, beq_toList]
  simp only [Prod.mk.injEq, beq_iff_eq]
  by_cases h1 : k = k' <;> by_cases h2 : name = name' <;> by_cases h3 : col = col' <;> by_cases h4 : op = op' <;> by_cases h5 : num = num' <;> cases slot <;> cases slot' <;> simp [h1, h2, h3, h4, h5, beq_dec])
theorem zip_eq {T : Type} [DecidableEq T] : ∀ {a b : List T}, a.length = b.length → (a.zip b).all (fun p => decide (p.1 = p.2)) = decide (a = b)
  | [], [], _ => rfl
  | [], _ :: _, h => by simp at h
  | _ :: _, [], h => by simp at h
  | x :: a, y :: b, h => by
    simp only [List.zip_cons_cons, List.all_cons, zip_eq (a := a) (b := b) (by simpa using h)]
    by_cases h : x = y <;> simp [h]
structure BP2 (p : List Nd) : Prop where
  len : p.length ≤ 1073741824
  cols : ∀ n ∈ p, n.2.2.2.2.2.2.1.length ≤ 1073741824
theorem V_spec_SamePlan {a b : List SNode} (h : BP2 a) : F_spec_SamePlan a b = some (decide (a = b)) := (U_spec_SamePlan a b).out (by
  by_cases hl : a.length = b.length
  · have e := loop_chk (f := fun f z => L_spec_SamePlanx0 a b f z.1 z.2) (a.zip b) (fun _ p => decide (p.1 = p.2)) false
      (fun i p v g hp => by
        obtain ⟨x, y⟩ := p
        have l1 := (List.getElem?_eq_some_iff.1 hp).1
        simp only [List.length_zip] at l1
        obtain ⟨hx, hy⟩ := List.getElem?_zip_eq_some.1 hp
        have h2 := h.len
        have h3 := h.cols x (mem_of_get hx)
        simp only [L_spec_SamePlanx0, lt_nat hx, cond_true, ix_some hx, ix_some hy, Option.bind_some, wrap_nat (show i < 9223372036854775807 by omega), V_spec_l02SameNode h3]
        by_cases h : x = y <;> simp [h])
      (fun v g => by simp [L_spec_SamePlanx0, hl]) false
    rw [e, allI_const, zip_eq hl, hl]
    cases decide (a = b) <;> simp [J_spec_SamePlanx0]
  · have : ((a.length : Int) != (b.length : Int)) = true := by simp; omega
    have h2 : a ≠ b := fun h => hl (by rw [h])
    simp [this, h2])
theorem V_impl_SamePlan {a b : List SNode} (h : BP2 a) : F_impl_SamePlan a b = some (decide (a = b)) := (U_impl_SamePlan a b).out (by
  have : F_slices_EqualFunc_LimplNode_impl_sameNode a b = some (decide (a = b)) := (U_slices_EqualFunc_LimplNode_impl_sameNode a b).out (by
    by_cases hl : a.length = b.length
    · have e := loop_chk (f := fun f z => L_slices_EqualFunc_LimplNode_impl_sameNodex0 a b f z.1 z.2) (a.zip b) (fun _ p => decide (p.1 = p.2)) false
        (fun i p v g hp => by
          obtain ⟨x, y⟩ := p
          have l1 := (List.getElem?_eq_some_iff.1 hp).1
          simp only [List.length_zip] at l1
          obtain ⟨hx, hy⟩ := List.getElem?_zip_eq_some.1 hp
          have h2 := h.len
          have h3 := h.cols x (mem_of_get hx)
          have h4 := V_impl_sameNode (a := x) (b := y) (by omega)
          simp only [L_slices_EqualFunc_LimplNode_impl_sameNodex0, lt_nat hx, cond_true, ix_some hx, ix_some hy, Option.bind_some, wrap_nat (show i < 9223372036854775807 by omega)]
          erw [h4]
          by_cases h : x = y <;> simp [h])
        (fun v g => by simp [L_slices_EqualFunc_LimplNode_impl_sameNodex0, hl]) false
      rw [e, allI_const, zip_eq hl, hl]
      cases decide (a = b) <;> simp [J_slices_EqualFunc_LimplNode_impl_sameNodex0]
    · have : ((a.length : Int) != (b.length : Int)) = true := by simp; omega
      have h2 : a ≠ b := fun h => hl (by rw [h])
      simp [this, h2])
  simp [this])
def slotsOk (p : List Nd) (n : Int) : Bool := planOk p && p.all fun x => !(x.2.2.2.2.2.1 && decide (x.2.2.2.2.1 ≥ n))
theorem V_spec_SlotsOk {p : List SNode} (hb : BPlan p) (n : Int) : F_spec_SlotsOk p n = some (slotsOk p n) := (U_spec_SlotsOk p n).out (by
  simp only [V_spec_PlanOk hb, Option.bind_some, slotsOk]
  cases planOk p with
  | false => simp
  | true =>
    have e := loop_chk (f := fun f z => L_spec_SlotsOkx0 p n f z.1 z.2) p (fun _ x => !(x.2.2.2.2.2.1 && decide (x.2.2.2.2.1 ≥ n))) false
      (fun i x v g hx => by
        have l1 := (List.getElem?_eq_some_iff.1 hx).1
        have h2 := hb.len
        have hw := wrap_nat (show i < 9223372036854775807 by omega)
        simp only [L_spec_SlotsOkx0, lt_nat hx, cond_true, ix_some hx, Option.bind_some, J_spec_SlotsOkx1]
        cases x.2.2.2.2.2.1 <;> by_cases h : x.2.2.2.2.1 ≥ n <;> simp [h, hw])
      (fun v g => by simp [L_spec_SlotsOkx0]) false
    simp only [Bool.not_true, cond_false, e, allI_const, Bool.true_and]
    cases p.all (fun x => !(x.2.2.2.2.2.1 && decide (x.2.2.2.2.1 ≥ n))) <;> simp)
theorem V_impl_SlotsOk {p : List SNode} (hb : BPlan p) (n : Int) : F_impl_SlotsOk p n = some (slotsOk p n) := (U_impl_SlotsOk p n).out (by
  simp only [V_impl_PlanOk hb, Option.bind_some, slotsOk]
  cases planOk p with
  | false => simp
  | true =>
    have hl := hb.len
    have h1 : F_slices_IndexFunc_LimplNode_impl_SlotsOk_1 p n = some (fint (findI (fun x => x.2.2.2.2.2.1 && decide (x.2.2.2.2.1 ≥ n)) p 0), n) := (U_slices_IndexFunc_LimplNode_impl_SlotsOk_1 p n).out (by
      have := loop_findC (f := fun f z => L_slices_IndexFunc_LimplNode_impl_SlotsOk_1x0 p f z.1 z.2.1 z.2.2) p (fun x => x.2.2.2.2.2.1 && decide (x.2.2.2.2.1 ≥ n)) n
        (fun i x a g hx => by
          have l1 := (List.getElem?_eq_some_iff.1 hx).1
          have e1 : F_impl_SlotsOk_1 x n = some (x.2.2.2.2.2.1 && decide (x.2.2.2.2.1 ≥ n), n) := (U_impl_SlotsOk_1 x n).out (by cases x.2.2.2.2.2.1 <;> simp)
          simp only [L_slices_IndexFunc_LimplNode_impl_SlotsOk_1x0, lt_nat hx, cond_true, ix_some hx, Option.bind_some, e1, wrap_nat (show i < 9223372036854775807 by omega)])
        (fun a g => by simp [L_slices_IndexFunc_LimplNode_impl_SlotsOk_1x0]) 0
      rw [this]
      cases findI (fun x : SNode => x.2.2.2.2.2.1 && decide (x.2.2.2.2.1 ≥ n)) p 0 <;> simp [fint])
    have h2 : F_slices_ContainsFunc_LimplNode_impl_SlotsOk_1 p n = some (p.any (fun x => x.2.2.2.2.2.1 && decide (x.2.2.2.2.1 ≥ n)), n) := (U_slices_ContainsFunc_LimplNode_impl_SlotsOk_1 p n).out (by
      simp only [h1, Option.bind_some, fint_ge])
    simp only [cond_true, h2, Option.bind_some, joinK_go, J_impl_SlotsOkx0, Bool.true_and, List.not_any_eq_all_not])
theorem asc_eq : ∀ {a b : List Int}, a.Pairwise (· < ·) → b.Pairwise (· < ·) → (∀ x, x ∈ a ↔ x ∈ b) → a = b
  | [], [], _, _, _ => rfl
  | [], y :: b, _, _, h => by have := (h y).2 (by simp); simp at this
  | x :: a, [], _, _, h => by have := (h x).1 (by simp); simp at this
  | x :: a, y :: b, ha, hb, h => by
    rw [List.pairwise_cons] at ha hb
    have hxy : x = y := by
      have h1 := (h x).1 (by simp)
      have h2 := (h y).2 (by simp)
      simp only [List.mem_cons] at h1 h2
      rcases h1 with h1 | h1
      · exact h1
      · rcases h2 with h2 | h2
        · exact h2.symm
        · have := hb.1 x h1
          have := ha.1 y h2
          omega
    subst hxy
    congr 1
    refine asc_eq ha.2 hb.2 (fun z => ⟨fun hz => ?_, fun hz => ?_⟩)
    · have h1 := (h z).1 (by simp [hz])
      simp only [List.mem_cons] at h1
      rcases h1 with h1 | h1
      · have := ha.1 z hz; omega
      · exact h1
    · have h1 := (h z).2 (by simp [hz])
      simp only [List.mem_cons] at h1
      rcases h1 with h1 | h1
      · have := hb.1 z hz; omega
      · exact h1
theorem compact_asc {zs : List Int} (hs : zs.Pairwise (· ≤ ·)) : (compI zs).Pairwise (· < ·) ∧ ∀ x, x ∈ compI zs ↔ x ∈ zs := by
  have hget : ∀ i j, i ≤ j → j < zs.length → zs.toArray[i]! ≤ zs.toArray[j]! := by
    intro i j hij hj
    rw [getElem!_pos _ i (by simp; omega), getElem!_pos _ j (by simpa using hj)]
    simp only [List.getElem_toArray]
    rcases Nat.lt_or_eq_of_le hij with h | h
    · exact List.pairwise_iff_getElem.1 hs i j (by omega) hj h
    · subst h; exact Int.le_refl _
  have key : ∀ m, m ≤ zs.length → (Go.Lib.compactUpTo zs.toArray m).Pairwise (· < ·) ∧ ∀ x, x ∈ Go.Lib.compactUpTo zs.toArray m ↔ ∃ j, j < m ∧ zs.toArray[j]! = x := by
    intro m
    induction m with
    | zero => intro _; exact ⟨by simp [Go.Lib.compactUpTo], by simp [Go.Lib.compactUpTo]⟩
    | succ m ih =>
      intro hm
      obtain ⟨h1, h2⟩ := ih (by omega)
      rw [Go.Lib.compactUpTo_succ]
      by_cases hk : Go.Lib.keeps zs.toArray m = true
      · rw [if_pos hk]
        constructor
        · rw [List.pairwise_append]
          refine ⟨h1, by simp, fun a ha b hb => ?_⟩
          simp only [List.mem_cons, List.not_mem_nil, or_false] at hb
          subst hb
          obtain ⟨j, hj, rfl⟩ := (h2 a).1 ha
          have hm0 : m ≠ 0 := by omega
          simp only [Go.Lib.keeps, decide_eq_true_eq] at hk
          have hne := hk.resolve_left hm0
          have h3 := hget j (m - 1) (by omega) (by omega)
          have h4 := hget (m - 1) m (by omega) (by omega)
          omega
        · intro x
          rw [List.mem_append, h2]
          constructor
          · rintro (⟨j, hj, rfl⟩ | hx)
            · exact ⟨j, by omega, rfl⟩
            · simp only [List.mem_cons, List.not_mem_nil, or_false] at hx
              exact ⟨m, by omega, hx.symm⟩
          · rintro ⟨j, hj, rfl⟩
            by_cases hjm : j = m
            · subst hjm; right; simp
            · left; exact ⟨j, by omega, rfl⟩
      · rw [if_neg hk, List.append_nil]
        refine ⟨h1, fun x => ?_⟩
        rw [h2]
        simp only [Go.Lib.keeps, decide_eq_true_eq, not_or, Decidable.not_not] at hk
        constructor
        · rintro ⟨j, hj, rfl⟩; exact ⟨j, by omega, rfl⟩
        · rintro ⟨j, hj, rfl⟩
          by_cases hjm : j = m
          · subst hjm; exact ⟨j - 1, by omega, hk.2.symm⟩
          · exact ⟨j, by omega, rfl⟩
  obtain ⟨h1, h2⟩ := key zs.length (Nat.le_refl _)
  refine ⟨h1, fun x => ?_⟩
  have : x ∈ compI zs ↔ ∃ j, j < zs.length ∧ zs.toArray[j]! = x := h2 x
  rw [this, List.mem_iff_getElem]
  constructor
  · rintro ⟨j, hj, rfl⟩; exact ⟨j, hj, by rw [getElem!_pos _ j (by simpa using hj)]; simp⟩
  · rintro ⟨j, hj, rfl⟩; exact ⟨j, hj, by rw [getElem!_pos _ j (by simpa using hj)]; simp⟩
theorem srtI_asc (xs : List Int) : (srtI xs).Pairwise (· ≤ ·) := by
  have := List.pairwise_mergeSort (le := fun x y : Int => decide (x ≤ y)) (fun a b c h1 h2 => by simp at h1 h2 ⊢; omega) (fun a b => by simp; omega) xs
  refine this.imp (fun h => by simpa using h)
theorem srtI_mem {xs : List Int} {x : Int} : x ∈ srtI xs ↔ x ∈ xs := by unfold srtI; exact List.mem_mergeSort
def nums (p : List Nd) : List Int := (p.filter fun n => n.2.2.2.2.2.1).map fun n => n.2.2.2.2.1
theorem slots_sort {p : List Nd} (h : planOk p = true) : compI (srtI (nums p)) = slots p := by
  obtain ⟨h1, h2⟩ := compact_asc (srtI_asc (nums p))
  unfold slots
  rw [if_pos h]
  refine asc_eq h1 ?_ (fun x => ?_)
  · rw [List.pairwise_map]
    exact (List.pairwise_lt_range.filter _).imp (fun h => by omega)
  · rw [h2, srtI_mem, nums, List.mem_map, List.mem_map]
    have hn := (planOk_nodes h).1
    constructor
    · rintro ⟨n, hm, rfl⟩
      rw [List.mem_filter] at hm
      have hr := nodeOk_slot (hn n hm.1) hm.2
      refine ⟨n.2.2.2.2.1.toNat, ?_, by omega⟩
      rw [List.mem_filter, List.mem_range]
      refine ⟨by omega, ?_⟩
      unfold slotAt
      rw [List.any_eq_true]
      exact ⟨n, hm.1, by simp [hm.2]; omega⟩
    · rintro ⟨k, hk, rfl⟩
      rw [List.mem_filter] at hk
      have h3 := hk.2
      unfold slotAt at h3
      rw [List.any_eq_true] at h3
      obtain ⟨n, hm, h4⟩ := h3
      simp only [Bool.and_eq_true, decide_eq_true_eq] at h4
      exact ⟨n, List.mem_filter.2 ⟨hm, h4.1⟩, h4.2⟩
theorem V_impl_SlotsOf {p : List SNode} (hb : BPlan p) : F_impl_SlotsOf p = some (slots p) := (U_impl_SlotsOf p).out (by
  simp only [V_impl_PlanOk hb, Option.bind_some]
  cases h : planOk p with
  | false => simp [slots, h]
  | true =>
    have hl := hb.len
    have e := loop_fold (f := fun f s => L_impl_SlotsOfx0 p f s.1 s.2) (fun i (v : List Int) => (v, (i : Int))) p (fun i v => v.length ≤ i) (fun _ x v => if x.2.2.2.2.2.1 = true then v ++ [x.2.2.2.2.1] else v)
      (fun i x v g hx hv => by
        have l1 := (List.getElem?_eq_some_iff.1 hx).1
        have hw := wrap_nat (show i < 9223372036854775807 by omega)
        simp only [L_impl_SlotsOfx0, lt_nat hx, cond_true, ix_some hx, Option.bind_some, J_impl_SlotsOfx1]
        cases hs : x.2.2.2.2.2.1 with
        | false => simp [hw]
        | true =>
          simp only [cond_true, if_true]
          rw [apx_some (by simp; omega)]
          simp [hw])
      (fun i x v hx hv => by
        show (if x.2.2.2.2.2.1 = true then v ++ [x.2.2.2.2.1] else v).length ≤ i + 1
        split
        · simp; omega
        · omega) (fun v g _ => by simp [L_impl_SlotsOfx0]) [] (by simp)
    rw [foldI_const (fun (x : Nd) (v : List Int) => if x.2.2.2.2.2.1 = true then v ++ [x.2.2.2.2.1] else v)] at e
    have key : ∀ (l : List Nd) (v : List Int), l.foldl (fun (v : List Int) (x : Nd) => if x.2.2.2.2.2.1 = true then v ++ [x.2.2.2.2.1] else v) v = v ++ nums l := by
      intro l
      induction l with
      | nil => simp [nums]
      | cons x l ih =>
        intro v
        simp only [List.foldl_cons, ih, nums, List.filter_cons]
        cases x.2.2.2.2.2.1 <;> simp
    rw [key, List.nil_append] at e
    rw [show ((0 : Nat) : Int) = 0 from rfl] at e
    have hnl : (nums p).length ≤ 40 := by
      have := (planOk_nodes h).2
      unfold nums
      rw [List.length_map]
      exact Nat.le_trans (List.length_filter_le _ _) this
    have e1 : F_slices_Sort_Lint (nums p) = some (srtI (nums p)) := (U_slices_Sort_Lint (nums p)).out (by
      unfold sortF
      have : Nat.blt (nums p).length 4611686018427387904 = true := by rw [Nat.blt_eq]; omega
      rw [this]; rfl)
    have e2 : F_slices_Compact_Lint (srtI (nums p)) = some (slots p) := (U_slices_Compact_Lint (srtI (nums p))).out (by rw [slots_sort h])
    simp only [Bool.not_true, cond_false, e, joinK_go, J_impl_SlotsOfx0, e1, e2, Option.bind_some])
end Go.Proofs.YtpfjldlopeaniaaGreatX
namespace Go.Proofs.YtpfjldlopeaniaaGreatX
open Go Go.Proofs.YtpfjldlopeaniaaGreatT PT
set_option linter.all false
abbrev En := Int × List Nd × List Nd × Int × Int × Unit
abbrev Shf := Int × List Tb × List En × Int × Int × Int × Int × Int × Int × Unit
structure BShelf (h : Shf) : Prop where
  sch : BSch h.2.1
  len : h.2.2.1.length ≤ 1073741824
  tpl : ∀ e ∈ h.2.2.1, BPlan e.2.1 ∧ BP2 e.2.1
  pln : ∀ e ∈ h.2.2.1, BPlan e.2.2.1
def entOk (h : Shf) (e : En) : Bool := typedOk h.2.1 e.2.1 && typedOk h.2.1 e.2.2.1 && decide (e.1 = printM e.2.1) && slotsOk e.2.2.1 (slots e.2.1).length && okIn e.2.2.2.1 0 h.2.2.2.1 && okIn e.2.2.2.2.1 0 h.2.2.2.2.1
def freshE (h : Shf) (i : Nat) (e : En) : Bool := !((h.2.2.1.take i).any fun f => decide (f.2.1 = e.2.1))
def headOk (h : Shf) : Bool := okIn h.1 1 16 && schemaOk h.2.1 && decide ((h.2.2.1.length : Int) ≤ h.1) && okIn h.2.2.2.1 0 1000 && okIn h.2.2.2.2.1 0 1000
def cntOk (h : Shf) : Bool := okIn h.2.2.2.2.2.1 0 1000000 && okIn h.2.2.2.2.2.2.1 0 1000000 && okIn h.2.2.2.2.2.2.2.1 0 1000000 && okIn h.2.2.2.2.2.2.2.2.1 0 1000000
def shelfOk (h : Shf) : Bool := headOk h && cntOk h && allI (fun i e => entOk h e && freshE h i e) h.2.2.1 0
@[simp] theorem V_impl_isCap (x : Int) : F_impl_isCap x = some (okIn x 1 16) := (U_impl_isCap x).out (by simp)
@[simp] theorem V_impl_isVersion (x : Int) : F_impl_isVersion x = some (okIn x 0 1000) := (U_impl_isVersion x).out (by simp)
@[simp] theorem V_spec_l10Version (x : Int) : F_spec_l10Version x = some (okIn x 0 1000) := (U_spec_l10Version x).out (by simp)
@[simp] theorem V_spec_l10Count (x : Int) : F_spec_l10Count x = some (okIn x 0 1000000) := (U_spec_l10Count x).out (by simp)
theorem take_get {T : Type} {l : List T} {i k : Nat} {x : T} (h : (l.take i)[k]? = some x) : l[k]? = some x ∧ k < i := by
  have h1 := (List.getElem?_eq_some_iff.1 h).1
  rw [List.length_take] at h1
  rw [List.getElem?_take_of_lt (by omega)] at h
  exact ⟨h, by omega⟩
theorem V_spec_ShelfOk {h : SShelf} (hb : BShelf h) : F_spec_ShelfOk h = some (shelfOk h) := (U_spec_ShelfOk h).out (by
  have hlen := hb.len
  have e := loop_chk (f := fun f s => L_spec_ShelfOkx0 h f s.1 s.2) h.2.2.1 (fun i e => entOk h e && freshE h i e) false
    (fun i x v g hx => by
      have l1 := (List.getElem?_eq_some_iff.1 hx).1
      have hm := mem_of_get hx
      have hw := wrap_nat (show i < 9223372036854775807 by omega)
      have inner := loop_chk (f := fun f s => L_spec_ShelfOkx1 h (i : Int) x f s.1 s.2) (h.2.2.1.take i) (fun _ f => !decide (f.2.1 = x.2.1)) (Ex.ret false : Ex Bool Bool)
        (fun k y v g hy => by
          obtain ⟨hy1, hy2⟩ := take_get hy
          have d : decide ((k : Int) < (i : Int)) = true := by simp; omega
          simp only [L_spec_ShelfOkx1, d, cond_true, ix_some hy1, Option.bind_some, V_spec_SamePlan (hb.tpl y (mem_of_get hy1)).2, wrap_nat (show k < 9223372036854775807 by omega)]
          by_cases h : y.2.1 = x.2.1 <;> simp [h])
        (fun v g => by
          have : (h.2.2.1.take i).length = i := by rw [List.length_take]; omega
          rw [this]
          simp [L_spec_ShelfOkx1]) v
      rw [allI_const] at inner
      have hfr : (h.2.2.1.take i).all (fun f => !decide (f.2.1 = x.2.1)) = freshE h i x := by unfold freshE; rw [List.not_any_eq_all_not]
      rw [hfr] at inner
      simp only [L_spec_ShelfOkx0, lt_nat hx, cond_true, ix_some hx, Option.bind_some, V_spec_TypedOk hb.sch (hb.tpl x hm).1, V_spec_TypedOk hb.sch (hb.pln x hm), V_spec_PrintOf (hb.tpl x hm).1, V_spec_SlotsOf (hb.tpl x hm).1, V_spec_SlotsOk (hb.pln x hm), V_spec_l01In, bne_dec, entOk, J_spec_ShelfOkx3, J_spec_ShelfOkx2]
      cases typedOk h.2.1 x.2.1 with
      | false => simp
      | true =>
      cases typedOk h.2.1 x.2.2.1 with
      | false => simp
      | true =>
      by_cases hp : x.1 = printM x.2.1
      case neg => simp [hp]
      cases hs : slotsOk x.2.2.1 (slots x.2.1).length with
      | false => simp [hp]
      | true =>
      cases okIn x.2.2.2.1 0 h.2.2.2.1 with
      | false => simp [hp]
      | true =>
      cases okIn x.2.2.2.2.1 0 h.2.2.2.2.1 with
      | false => simp [hp]
      | true =>
        simp only [hp, decide_true, Bool.not_true, cond_false, joinK_go, joinK_bif, Bool.and_true, Bool.true_and, inner]
        cases freshE h i x <;> simp [hw])
    (fun v g => by simp [L_spec_ShelfOkx0]) false
  have e' : loopF (fun f s => L_spec_ShelfOkx0 h f s.1 s.2) (false, 0) = some (bif allI (fun i e => entOk h e && freshE h i e) h.2.2.1 0 then .go false else .ret false) := e
  simp only [V_spec_l01In, V_spec_SchemaOk hb.sch, V_spec_l10Version, V_spec_l10Count, Option.bind_some, J_spec_ShelfOkx0, e', shelfOk, headOk, cntOk]
  have hd : decide ((h.2.2.1.length : Int) > h.1) = !decide ((h.2.2.1.length : Int) ≤ h.1) := by rw [← decide_not]; exact decide_eq_decide.2 (by omega)
  rw [hd]
  generalize allI (fun i e => entOk h e && freshE h i e) h.2.2.1 0 = A
  cases okIn h.1 1 16 <;> simp
  cases schemaOk h.2.1 <;> simp
  by_cases hc : (h.2.2.1.length : Int) ≤ h.1 <;> simp [hc]
  cases okIn h.2.2.2.1 0 1000 <;> simp
  cases okIn h.2.2.2.2.1 0 1000 <;> simp
  cases okIn h.2.2.2.2.2.1 0 1000000 <;> simp
  cases okIn h.2.2.2.2.2.2.1 0 1000000 <;> simp
  cases okIn h.2.2.2.2.2.2.2.1 0 1000000 <;> simp
  cases okIn h.2.2.2.2.2.2.2.2.1 0 1000000 <;> simp
  cases A <;> simp)
theorem slx_take {T : Type} {l : List T} {i : Nat} (h : i ≤ l.length) : slx l 0 (i : Int) = some (l.take i) := by
  unfold slx
  simp [h]
theorem V_impl_ShelfOk {h : SShelf} (hb : BShelf h) : F_impl_ShelfOk h = some (shelfOk h) := (U_impl_ShelfOk h).out (by
  have hlen := hb.len
  have e := loop_chk (f := fun f s => L_impl_ShelfOkx1 h f s.1 s.2) h.2.2.1 (fun i e => entOk h e && freshE h i e) false
    (fun i x v g hx => by
      have l1 := (List.getElem?_eq_some_iff.1 hx).1
      have hm := mem_of_get hx
      have hw := wrap_nat (show i < 9223372036854775807 by omega)
      have inner := loop_chk (f := fun f s => L_impl_ShelfOkx2 x (h.2.2.1.take i) f s.1 s.2) (h.2.2.1.take i) (fun _ f => !decide (f.2.1 = x.2.1)) (Ex.ret false : Ex Bool Bool)
        (fun k y v g hy => by
          obtain ⟨hy1, hy2⟩ := take_get hy
          simp only [L_impl_ShelfOkx2, lt_nat hy, cond_true, ix_some hy, Option.bind_some, V_impl_SamePlan (b := y.2.1) (hb.tpl x hm).2, wrap_nat (show k < 9223372036854775807 by omega), eq_comm (a := x.2.1)]
          by_cases h : y.2.1 = x.2.1 <;> simp [h])
        (fun v g => by simp [L_impl_ShelfOkx2]) v
      rw [allI_const] at inner
      have hfr : (h.2.2.1.take i).all (fun f => !decide (f.2.1 = x.2.1)) = freshE h i x := by unfold freshE; rw [List.not_any_eq_all_not]
      rw [hfr] at inner
      simp only [L_impl_ShelfOkx1, lt_nat hx, cond_true, ix_some hx, Option.bind_some, V_impl_TypedOk hb.sch (hb.tpl x hm).1, V_impl_TypedOk hb.sch (hb.pln x hm), V_impl_PrintOf (hb.tpl x hm).1, V_impl_SlotsOf (hb.tpl x hm).1, V_impl_SlotsOk (hb.pln x hm), V_impl_in, bne_dec, entOk, J_impl_ShelfOkx4, J_impl_ShelfOkx3, slx_take (show i ≤ h.2.2.1.length by omega)]
      cases typedOk h.2.1 x.2.1 with
      | false => simp
      | true =>
      cases typedOk h.2.1 x.2.2.1 with
      | false => simp
      | true =>
      by_cases hp : x.1 = printM x.2.1
      case neg => simp [hp]
      cases okIn x.2.2.2.1 0 h.2.2.2.1 with
      | false => simp [hp]
      | true =>
      cases okIn x.2.2.2.2.1 0 h.2.2.2.2.1 with
      | false => simp [hp]
      | true =>
      cases hs : slotsOk x.2.2.1 (slots x.2.1).length with
      | false => simp [hp]
      | true =>
        simp only [hp, decide_true, Bool.not_true, cond_false, joinK_go, joinK_bif, Bool.and_true, Bool.true_and, inner]
        cases freshE h i x <;> simp [hw])
    (fun v g => by simp [L_impl_ShelfOkx1]) false
  have e' : loopF (fun f s => L_impl_ShelfOkx1 h f s.1 s.2) (false, 0) = some (bif allI (fun i e => entOk h e && freshE h i e) h.2.2.1 0 then .go false else .ret false) := e
  have c := loop_chk (f := fun f s => L_impl_ShelfOkx0 h f s.1 s.2) [h.2.2.2.2.2.1, h.2.2.2.2.2.2.1, h.2.2.2.2.2.2.2.1, h.2.2.2.2.2.2.2.2.1] (fun _ x => okIn x 0 1000000) false
    (fun i x v g hx => by
      have l1 := (List.getElem?_eq_some_iff.1 hx).1
      simp only [List.length_cons, List.length_nil] at l1
      simp only [L_impl_ShelfOkx0, lt_nat hx, cond_true, ix_some hx, Option.bind_some, V_impl_in, wrap_nat (show i < 9223372036854775807 by omega)]
      cases okIn x 0 1000000 <;> simp)
    (fun v g => by simp [L_impl_ShelfOkx0]) false
  rw [allI_const] at c
  simp only [List.all_cons, List.all_nil, Bool.and_true] at c
  simp only [V_impl_isCap, V_impl_SchemaOk hb.sch, V_impl_isVersion, Option.bind_some, J_impl_ShelfOkx0, J_impl_ShelfOkx1, c, e', shelfOk, headOk, cntOk]
  have hd : decide ((h.2.2.1.length : Int) > h.1) = !decide ((h.2.2.1.length : Int) ≤ h.1) := by rw [← decide_not]; exact decide_eq_decide.2 (by omega)
  rw [hd]
  generalize allI (fun i e => entOk h e && freshE h i e) h.2.2.1 0 = A at e' ⊢
  cases okIn h.1 1 16 <;> simp
  cases schemaOk h.2.1 <;> simp
  by_cases hc : (h.2.2.1.length : Int) ≤ h.1 <;> simp [hc]
  cases okIn h.2.2.2.1 0 1000 <;> simp
  cases okIn h.2.2.2.2.1 0 1000 <;> simp
  cases okIn h.2.2.2.2.2.1 0 1000000 <;> cases okIn h.2.2.2.2.2.2.1 0 1000000 <;> cases okIn h.2.2.2.2.2.2.2.1 0 1000000 <;> cases okIn h.2.2.2.2.2.2.2.2.1 0 1000000 <;> cases A <;> simp [e'])
end Go.Proofs.YtpfjldlopeaniaaGreatX
namespace Go.Proofs.YtpfjldlopeaniaaGreatX
open Go Go.Proofs.YtpfjldlopeaniaaGreatT PT
set_option linter.all false
theorem shelf_len {h : Shf} (hs : shelfOk h = true) : h.2.2.1.length ≤ 16 := by
  simp only [shelfOk, headOk, Bool.and_eq_true, decide_eq_true_eq, okIn_iff] at hs
  omega
def recent (h : Shf) : List Int := if shelfOk h = true then h.2.2.1.map fun e => e.1 else []
theorem recent_len (h : Shf) : (recent h).length ≤ 16 := by
  unfold recent
  split
  · rename_i hs; have := shelf_len hs; simpa using this
  · simp
theorem V_spec_RecentPrints {h : SShelf} (hb : BShelf h) : F_spec_RecentPrints h = some (recent h) := (U_spec_RecentPrints h).out (by
  have hs : F_spec_ShelfOk (h.1, (h.2.1, (h.2.2.1, (h.2.2.2.1, (h.2.2.2.2.1, (h.2.2.2.2.2.1, (h.2.2.2.2.2.2.1, (h.2.2.2.2.2.2.2.1, (h.2.2.2.2.2.2.2.2.1, ()))))))))) = some (shelfOk h) := V_spec_ShelfOk hb
  have hlen := hb.len
  rw [hs]
  unfold recent
  cases hok : shelfOk h with
  | false => simp
  | true =>
    have e := loop_map (f := fun f s => L_spec_RecentPrintsx0 h f s.1 s.2) h.2.2.1 (fun e => e.1) (by omega)
      (fun i x v g hx hv => by
        have l1 := (List.getElem?_eq_some_iff.1 hx).1
        simp only [L_spec_RecentPrintsx0, lt_nat hx, cond_true, ix_some hx, Option.bind_some, wrap_nat (show i < 9223372036854775807 by omega)]
        rw [apx_some (by simp; omega)]; rfl)
      (fun v g => by simp [L_spec_RecentPrintsx0])
    simp only [Option.bind_some, Bool.not_true, cond_false, e, joinK_go, J_spec_RecentPrintsx0, if_true])
theorem V_impl_RecentPrints {h : SShelf} (hb : BShelf h) : F_impl_RecentPrints h = some (recent h) := (U_impl_RecentPrints h).out (by
  have hs : F_impl_ShelfOk (h.1, (h.2.1, (h.2.2.1, (h.2.2.2.1, (h.2.2.2.2.1, (h.2.2.2.2.2.1, (h.2.2.2.2.2.2.1, (h.2.2.2.2.2.2.2.1, (h.2.2.2.2.2.2.2.2.1, ()))))))))) = some (shelfOk h) := V_impl_ShelfOk hb
  have hlen := hb.len
  rw [hs]
  unfold recent
  cases hok : shelfOk h with
  | false => simp
  | true =>
    have e := loop_map (f := fun f s => L_impl_RecentPrintsx0 h f s.1 s.2) h.2.2.1 (fun e => e.1) (by omega)
      (fun i x v g hx hv => by
        have l1 := (List.getElem?_eq_some_iff.1 hx).1
        simp only [L_impl_RecentPrintsx0, lt_nat hx, cond_true, ix_some hx, Option.bind_some, wrap_nat (show i < 9223372036854775807 by omega)]
        rw [apx_some (by simp; omega)]; rfl)
      (fun v g => by simp [L_impl_RecentPrintsx0])
    simp only [Option.bind_some, Bool.not_true, cond_false, e, joinK_go, J_impl_RecentPrintsx0, if_true])
end Go.Proofs.YtpfjldlopeaniaaGreatX
namespace Go.Proofs.YtpfjldlopeaniaaGreatX
open Go Go.Proofs.YtpfjldlopeaniaaGreatT
set_option linter.all false
def WL {T : Type} (W : T → Prop) (l : List T) : Prop := l.length ≤ maxLen ∧ ∀ x ∈ l, W x
def zTb (t : Tb) : Nat := t.1.size
def zNd (n : Nd) : Nat := n.2.1.size + n.2.2.2.2.2.2.1.length
def WTb (t : Tb) : Prop := t.1.size ≤ maxLen
def WNd (n : Nd) : Prop := n.2.1.size ≤ maxLen ∧ n.2.2.2.2.2.2.1.length ≤ maxLen
theorem sz_IntS {a : List Int} (hw : a.length ≤ maxLen) {v : Int} (h0 : 0 ≤ v) (h1 : v ≤ 1048576) : F_laws_szIntS a v = some (if (a.length : Int) ≤ v then v - (a.length : Nat) else -1) := (U_laws_szIntS a v).out (by
  rw [wrap_sub h0 h1 hw, sub_neg]
  by_cases h : (a.length : Int) ≤ v <;> simp [h])
theorem sz_Table {a : STable} (hw : WTb a) {v : Int} (h0 : 0 ≤ v) (h1 : v ≤ 1048576) : F_laws_szTable a v = some (if (zTb a : Int) ≤ v then v - (zTb a : Nat) else -1) := (U_laws_szTable a v).out (by
  unfold WTb at hw
  rw [wrap_sub h0 h1 hw, sub_neg]
  unfold zTb
  by_cases h : (a.1.size : Int) ≤ v <;> simp [h])
theorem sz_Node {a : SNode} (hw : WNd a) {v : Int} (h0 : 0 ≤ v) (h1 : v ≤ 1048576) : F_laws_szNode a v = some (if (zNd a : Int) ≤ v then v - (zNd a : Nat) else -1) := (U_laws_szNode a v).out (by
  rw [wrap_sub h0 h1 hw.1, sub_neg]
  unfold zNd
  by_cases h : (a.2.1.size : Int) ≤ v
  · rw [sz_IntS hw.2 (by omega) (by omega)]
    by_cases h2 : (a.2.2.2.2.2.2.1.length : Int) ≤ v - (a.2.1.size : Nat)
    · rw [if_pos h2, if_pos (by omega)]
      have : decide (v - (a.2.1.size : Int) - (a.2.2.2.2.2.2.1.length : Int) < 0) = false := by simp; omega
      simp [h, this]; omega
    · rw [if_neg h2, if_neg (by omega)]
      simp [h]
  · rw [if_neg (by omega)]
    simp [h])
theorem sz_list {T : Type} {W : T → Prop} {z : T → Nat} {a : List T} (hw : WL W a) {v : Int} (h0 : 0 ≤ v) (h1 : v ≤ 1048576) {G : T → Int → Option Int}
    (hG : ∀ x, W x → ∀ v : Int, 0 ≤ v → v ≤ 1048576 → G x v = some (if (z x : Int) ≤ v then v - z x else -1))
    {L : (Int × Int × Int → Option (Ex Int (Int × Int))) → Int × Int × Int → Option (Ex Int (Int × Int))}
    (hL : ∀ f v u i, L f (v, u, i) = bif decide (i < (a.length : Int)) then (ix a i).bind fun x => (G x v).bind fun y => bif decide (y < 0) then some (.ret (-1)) else f (y, u, IntKind.i64.wrap (i + 1)) else some (.go (v, u)))
    {J : Int → Int → Option Int} (hJ : ∀ x y, J x y = some x) :
    (bif decide ((IntKind.i64.wrap (v - (a.length : Int))) < 0) then some (-1) else joinK (loopF L ((IntKind.i64.wrap (v - (a.length : Int))), 0, 0)) (fun s => J s.1 s.2)) = some (if (zL z a : Int) ≤ v then v - (zL z a : Nat) else -1) := by
  rw [wrap_sub h0 h1 hw.1, sub_neg]
  unfold zL
  by_cases h : (a.length : Int) ≤ v
  · rw [sz_loop (z := z) (fun x hx => hG x (hw.2 x hx)) (by omega) hL (by omega) (by omega)]
    by_cases h2 : (((a.map z).sum : Nat) : Int) ≤ v - (a.length : Nat)
    · rw [if_pos h2, if_pos (by omega)]
      simp [h, hJ]; omega
    · rw [if_neg h2, if_neg (by omega)]
      simp [h]
  · rw [if_neg (by omega)]
    simp [h]
theorem sz_TableS {a : List STable} (hw : WL WTb a) {v : Int} (h0 : 0 ≤ v) (h1 : v ≤ 1048576) : F_laws_szTableS a v = some (if (zL zTb a : Int) ≤ v then v - (zL zTb a : Nat) else -1) :=
  (U_laws_szTableS a v).out (sz_list hw h0 h1 (fun x hx v h0 h1 => sz_Table hx h0 h1) (fun f v u i => rfl) (fun _ _ => rfl))
theorem sz_NodeS {a : List SNode} (hw : WL WNd a) {v : Int} (h0 : 0 ≤ v) (h1 : v ≤ 1048576) : F_laws_szNodeS a v = some (if (zL zNd a : Int) ≤ v then v - (zL zNd a : Nat) else -1) :=
  (U_laws_szNodeS a v).out (sz_list hw h0 h1 (fun x hx v h0 h1 => sz_Node hx h0 h1) (fun f v u i => rfl) (fun _ _ => rfl))
theorem to_IntS {a : List Int} (h : a.length ≤ 1048576) : F_laws_toIntS a = some a := (U_laws_toIntS a).out (by
  rw [mkx_nat (by omega)]
  simp only [Option.bind_some]
  rw [to_loop (G := some) (fun _ _ => rfl) h (fun f v i => rfl) (by simp)]
  rfl)
theorem to_list {T : Type} {z : T → Nat} {a : List T} (h : zL z a ≤ 1048576) {G : T → Option T} (hG : ∀ x, z x ≤ 1048576 → G x = some x) {x0 : T} {L : (List T × Int → Option (Ex (List T) (List T))) → List T × Int → Option (Ex (List T) (List T))}
    (hL : ∀ f v i, L f (v, i) = bif decide (i < (a.length : Int)) then (ix a i).bind fun x => (G x).bind fun y => (ix v i).bind fun _ => (stx v i y).bind fun v' => f (v', IntKind.i64.wrap (i + 1)) else some (.go v))
    {J : List T → Option (List T)} (hJ : ∀ x, J x = some x) : (mkx (a.length : Int) x0).bind (fun z1 => joinK (loopF L (z1, 0)) (fun s => J s)) = some a := by
  have hl := zL_len (z := z) (l := a)
  rw [mkx_nat (by omega)]
  simp only [Option.bind_some]
  rw [to_loop (fun x hx => hG x (by have := zL_mem (z := z) hx; omega)) (by omega) hL (by simp)]
  simp [hJ]
theorem to_Table (a : STable) : F_laws_toTable a = some a := (U_laws_toTable a).out rfl
theorem to_Node {a : SNode} (h : zNd a ≤ 1048576) : F_laws_toNode a = some a := (U_laws_toNode a).out (by
  unfold zNd at h
  rw [to_IntS (by omega)]; rfl)
theorem to_TableS {a : List STable} (h : zL zTb a ≤ 1048576) : F_laws_toTableS a = some a :=
  (U_laws_toTableS a).out (to_list h (fun x _ => to_Table x) (fun f v i => rfl) (fun _ => rfl))
theorem to_NodeS {a : List SNode} (h : zL zNd a ≤ 1048576) : F_laws_toNodeS a = some a :=
  (U_laws_toNodeS a).out (to_list h (fun x hx => to_Node hx) (fun f v i => rfl) (fun _ => rfl))
theorem eq_IntS {a : List Int} (hl : a.length ≤ 1073741824) : F_laws_eqIntS a a = some true := (U_laws_eqIntS a a).out (by
  rw [eq_loop hl (fun f i x v hx _ => by
    have l1 := (List.getElem?_eq_some_iff.1 hx).1
    simp only [L_laws_eqIntSx0, lt_nat hx, cond_true, ix_some hx, Option.bind_some, wrap_nat (show i < 9223372036854775807 by omega)]
    simp) (fun f v => by simp [L_laws_eqIntSx0])]
  simp)
theorem eq_Table (a : STable) : F_laws_eqTable a a = some true := (U_laws_eqTable a a).out (by simp)
theorem eq_Node {a : SNode} (h : a.2.2.2.2.2.2.1.length ≤ 1073741824) : F_laws_eqNode a a = some true := (U_laws_eqNode a a).out (by simp [eq_IntS h])
theorem eq_TableS {a : List STable} (hl : a.length ≤ 1073741824) : F_laws_eqTableS a a = some true := (U_laws_eqTableS a a).out (by
  rw [eq_loop hl (fun f i x v hx _ => by
    have l1 := (List.getElem?_eq_some_iff.1 hx).1
    simp only [L_laws_eqTableSx0, lt_nat hx, cond_true, ix_some hx, Option.bind_some, wrap_nat (show i < 9223372036854775807 by omega), eq_Table]
    simp) (fun f v => by simp [L_laws_eqTableSx0])]
  simp)
def CNd (n : Nd) : Prop := n.2.2.2.2.2.2.1.length ≤ 1073741824
theorem eq_NodeS {a : List SNode} (hl : a.length ≤ 1073741824) (hc : ∀ n ∈ a, CNd n) : F_laws_eqNodeS a a = some true := (U_laws_eqNodeS a a).out (by
  rw [eq_loop hl (fun f i x v hx hm => by
    have l1 := (List.getElem?_eq_some_iff.1 hx).1
    simp only [L_laws_eqNodeSx0, lt_nat hx, cond_true, ix_some hx, Option.bind_some, wrap_nat (show i < 9223372036854775807 by omega), eq_Node (hc x hm)]
    simp) (fun f v => by simp [L_laws_eqNodeSx0])]
  simp)
end Go.Proofs.YtpfjldlopeaniaaGreatX
namespace Go.Proofs.YtpfjldlopeaniaaGreatX
open Go Go.Proofs.YtpfjldlopeaniaaGreatT
set_option linter.all false
theorem bsch_of {s : List Tb} (h : zL zTb s ≤ 1048576) : BSch s := ⟨by have := zL_len (z := zTb) (l := s); omega, fun t ht => by have := zL_mem (z := zTb) ht; have e : zTb t = t.1.size := rfl; omega⟩
theorem bplan_of {p : List Nd} (h : zL zNd p ≤ 1048576) : BPlan p := ⟨by have := zL_len (z := zNd) (l := p); omega, fun t ht => by
  have := zL_mem (z := zNd) ht; have e : zNd t = t.2.1.size + t.2.2.2.2.2.2.1.length := rfl; exact ⟨by omega, by omega⟩⟩
theorem cnd_of {p : List Nd} (h : zL zNd p ≤ 1048576) : ∀ n ∈ p, CNd n := fun t ht => by
  have := zL_mem (z := zNd) ht; have e : zNd t = t.2.1.size + t.2.2.2.2.2.2.1.length := rfl; unfold CNd; omega
theorem bne_self_int (a : Int) : (a != a) = false := by simp
end Go.Proofs.YtpfjldlopeaniaaGreatX
namespace Go.Proofs.YtpfjldlopeaniaaGreatX
open Go Go.Proofs.YtpfjldlopeaniaaGreatT
theorem wl_TableS {n : Nat} {x : List Tb} (h : wfT (.sl n (.pr .str (.pr (.int .i64) .un))) x) : WL WTb x := ⟨h.1, fun y hy => (h.2 y hy).1⟩
theorem wl_NodeS {n m : Nat} {x : List Nd} (h : wfT (.sl n (.pr (.int .i64) (.pr .str (.pr (.int .i64) (.pr (.int .i64) (.pr (.int .i64) (.pr .bool (.pr (.sl m (.int .i64)) .un)))))))) x) : WL WNd x :=
  ⟨h.1, fun y hy => ⟨(h.2 y hy).2.1, (h.2 y hy).2.2.2.2.2.2.1.1⟩⟩
end Go.Proofs.YtpfjldlopeaniaaGreatX
namespace Go.Proofs.YtpfjldlopeaniaaGreatX
open Go Go.Proofs.YtpfjldlopeaniaaGreatT
set_option linter.all false
theorem quo10 {v : Int} (h0 : 0 ≤ v) (h1 : v ≤ 4611686018427387904) : quox v 10 = some (v / 10) := quox_some h0 (by omega) (by omega)
theorem text_loop : ∀ (m : Nat) (v : Int) (s : ByteArray), v < 10 ^ m → v ≤ 4611686018427387904 → 0 ≤ v → s.size + m ≤ 1000 →
    ∃ s', (∀ n, m + 1 ≤ n → loopK (fun f z => L_laws_markTextx0 f z.1 z.2) n (v, s) = some (.go s')) ∧ s'.size ≤ 1000 := by
  intro m
  induction m with
  | zero =>
    intro v s hv _ h0 hs
    have : v = 0 := by simp at hv; omega
    subst this
    refine ⟨s, fun n hn => ?_, by omega⟩
    obtain ⟨k, rfl⟩ : ∃ k, n = k + 1 := ⟨n - 1, by omega⟩
    simp [loopK, L_laws_markTextx0]
  | succ m ih =>
    intro v s hv hmx h0 hs
    by_cases hp : v > 0
    · have hb : (bsOf [IntKind.u8.wrap (IntKind.i64.wrap (48 + v.tmod 10))]).size = 1 := rfl
      have hadd : addx (bsOf [IntKind.u8.wrap (IntKind.i64.wrap (48 + v.tmod 10))]) s = some (bsOf [IntKind.u8.wrap (IntKind.i64.wrap (48 + v.tmod 10))] ++ s) := by
        unfold addx
        rw [hb, show Nat.ble (1 + s.size) 4611686018427387904 = true by rw [Nat.ble_eq]; omega]; rfl
      have hlt : v / 10 < 10 ^ m := by
        have : (10 : Int) ^ (m + 1) = 10 ^ m * 10 := by rw [Int.pow_succ]
        rw [this] at hv
        exact Int.ediv_lt_of_lt_mul (by omega) hv
      obtain ⟨s', h1, h2⟩ := ih (v / 10) (bsOf [IntKind.u8.wrap (IntKind.i64.wrap (48 + v.tmod 10))] ++ s) hlt (by omega) (by omega) (by rw [ByteArray.size_append, hb]; omega)
      refine ⟨s', fun n hn => ?_, h2⟩
      obtain ⟨k, rfl⟩ : ∃ k, n = k + 1 := ⟨n - 1, by omega⟩
      have hr : remx v 10 = some (v.tmod 10) := rfl
      simp only [loopK, L_laws_markTextx0, show decide (v > 0) = true by simpa using hp, cond_true, hr, Option.bind_some, hadd, quo10 h0 hmx]
      exact h1 k (by omega)
    · refine ⟨s, fun n hn => ?_, by omega⟩
      obtain ⟨k, rfl⟩ : ∃ k, n = k + 1 := ⟨n - 1, by omega⟩
      simp only [loopK, L_laws_markTextx0, show decide (v > 0) = false by simpa using hp, cond_false]
noncomputable def textM (k : Int) : ByteArray := (F_laws_markText k).getD ByteArray.empty
theorem V_markText {k : Int} (h0 : 0 ≤ k) (h1 : k ≤ 4611686018427387904) : F_laws_markText k = some (textM k) := by
  suffices h : ∃ r, F_laws_markText k = some r by
    obtain ⟨r, hr⟩ := h
    simp [textM, hr]
  by_cases hk : k ≤ 0
  · exact ⟨_, (U_laws_markText k).out (by simp only [hk, decide_true, cond_true]; rfl)⟩
  · obtain ⟨s', h2, h3⟩ := text_loop 20 k ByteArray.empty (by omega) h1 h0 (by simp)
    refine ⟨(⟨#[109]⟩ : ByteArray) ++ s', (U_laws_markText k).out ?_⟩
    simp only [hk, decide_false, cond_false, loopF_of 21 h2, joinK_go, J_laws_markTextx0]
    unfold addx
    have h4 : (⟨#[109]⟩ : ByteArray).size = 1 := rfl
    rw [h4, show Nat.ble (1 + s'.size) 4611686018427387904 = true by rw [Nat.ble_eq]; omega]
    rfl
def wI (_ : Int) : Nat := 1
def mkI (_ k : Int) : Int := k
theorem mark_IntS {a : List Int} {k : Int} (hl : a.length ≤ 1073741824) (h0 : 0 ≤ k) (hB : k + wtL wI a ≤ 4611686018427387904) : F_laws_markIntS a k = some (k + wtL wI a, mkL mkI wI a k) := (U_laws_markIntS a k).out (by
  rw [mark_loop (mk := mkI) (w := wI) hl h0 hB
    (fun f v i x k hx hm hlen h0 hB => by
      have l1 := (List.getElem?_eq_some_iff.1 hx).1
      have hw : IntKind.i64.wrap (k + 1) = k + 1 := by unfold wI at hB; rw [wrap_sml] <;> omega
      simp only [L_laws_markIntSx0, lt_nat hx, cond_true, ix_some hx, Option.bind_some, stx_nat l1, hw, wrap_nat (show i < 9223372036854775807 by omega), wI, mkI]
      rfl)
    (fun f v k => by simp [L_laws_markIntSx0])]
  simp)
theorem held_IntS {a : List Int} {k : Int} (hl : a.length ≤ 1073741824) (h0 : 0 ≤ k) (hB : k + wtL wI a ≤ 4611686018427387904) : F_laws_heldIntS (mkL mkI wI a k) k = some (k + wtL wI a) := (U_laws_heldIntS _ k).out (by
  rw [held_loop (mk := mkI) (w := wI) (a := a) hl h0 hB
    (fun f i x k' u hx hm h0 hB => by
      have l1 := (List.getElem?_eq_some_iff.1 hx).1
      rw [mkL_len] at l1
      have hw : IntKind.i64.wrap (k' + 1) = k' + 1 := by unfold wI at hB; rw [wrap_sml] <;> omega
      simp only [L_laws_heldIntSx0, lt_nat hx, cond_true, ix_some hx, Option.bind_some, hw, wrap_nat (show i < 9223372036854775807 by omega), wI, mkI]
      simp)
    (fun f k u => by simp [L_laws_heldIntSx0])]
  simp)
def wTb (_ : Tb) : Nat := 2
noncomputable def mkTb (_ : Tb) (k : Int) : Tb := (textM k, k + 1, ())
theorem mark_TableS {a : List STable} {k : Int} (hl : a.length ≤ 1073741824) (h0 : 0 ≤ k) (hB : k + wtL wTb a ≤ 4611686018427387904) : F_laws_markTableS a k = some (k + wtL wTb a, mkL mkTb wTb a k) := (U_laws_markTableS a k).out (by
  rw [mark_loop (mk := mkTb) (w := wTb) hl h0 hB
    (fun f v i x k hx hm hlen h0 hB => by
      have l1 := (List.getElem?_eq_some_iff.1 hx).1
      have hB' : k + 2 ≤ 4611686018427387904 := hB
      have hw : IntKind.i64.wrap (k + 1) = k + 1 := by rw [wrap_sml] <;> omega
      have hw2 : IntKind.i64.wrap (k + 1 + 1) = k + 2 := by rw [wrap_sml] <;> omega
      simp only [L_laws_markTableSx0, lt_nat hx, cond_true, ix_some hx, Option.bind_some, V_markText h0 (show k ≤ 4611686018427387904 by omega), Int.toNat_natCast, ix_set l1, List.set_set, hw, hw2, wrap_nat (show i < 9223372036854775807 by omega), wTb, mkTb]
      rfl)
    (fun f v k => by simp [L_laws_markTableSx0])]
  simp)
def wNd (n : Nd) : Nat := 6 + wtL wI n.2.2.2.2.2.2.1
noncomputable def mkNd (n : Nd) (k : Int) : Nd := (k, textM (k + 1), k + 2, k + 3, k + 4, decide ((k + 5).tmod 3 = 0), mkL mkI wI n.2.2.2.2.2.2.1 (k + 6), ())
theorem remx3 (v : Int) : remx v 3 = some (v.tmod 3) := rfl
theorem mark_NodeS {a : List SNode} {k : Int} (hl : a.length ≤ 1073741824) (hc : ∀ n ∈ a, CNd n) (h0 : 0 ≤ k) (hB : k + wtL wNd a ≤ 4611686018427387904) : F_laws_markNodeS a k = some (k + wtL wNd a, mkL mkNd wNd a k) := (U_laws_markNodeS a k).out (by
  rw [mark_loop (mk := mkNd) (w := wNd) hl h0 hB
    (fun f v i x k hx hm hlen h0 hB => by
      have l1 := (List.getElem?_eq_some_iff.1 hx).1
      have hB' : k + (6 + wtL wI x.2.2.2.2.2.2.1 : Nat) ≤ 4611686018427387904 := hB
      have hw : IntKind.i64.wrap (k + 1) = k + 1 := by rw [wrap_sml] <;> omega
      have hw2 : IntKind.i64.wrap (k + 1 + 1) = k + 2 := by rw [wrap_sml] <;> omega
      have hw3 : IntKind.i64.wrap (k + 2 + 1) = k + 3 := by rw [wrap_sml] <;> omega
      have hw4 : IntKind.i64.wrap (k + 3 + 1) = k + 4 := by rw [wrap_sml] <;> omega
      have hw5 : IntKind.i64.wrap (k + 4 + 1) = k + 5 := by rw [wrap_sml] <;> omega
      have hw6 : IntKind.i64.wrap (k + 5 + 1) = k + 6 := by rw [wrap_sml] <;> omega
      simp only [L_laws_markNodeSx0, lt_nat hx, cond_true, ix_some hx, Option.bind_some, hw, hw2, hw3, hw4, hw5, hw6, V_markText (show 0 ≤ k + 1 by omega) (show k + 1 ≤ 4611686018427387904 by omega), Int.toNat_natCast, ix_set l1, List.set_set, remx3, bind2,
        mark_IntS (hc x hm) (show 0 ≤ k + 6 by omega) (show k + 6 + wtL wI x.2.2.2.2.2.2.1 ≤ 4611686018427387904 by omega), wrap_nat (show i < 9223372036854775807 by omega), wNd, mkNd, beq_dec]
      rw [show k + 6 + (wtL wI x.2.2.2.2.2.2.1 : Int) = k + ((6 + wtL wI x.2.2.2.2.2.2.1 : Nat) : Int) by omega])
    (fun f v k => by simp [L_laws_markNodeSx0])]
  simp)
theorem wtL_le {T : Type} {w z : T → Nat} {c : Nat} (h : ∀ x, w x ≤ c + c * z x) (l : List T) : wtL w l ≤ c * zL z l := by
  unfold wtL zL
  induction l with
  | nil => simp
  | cons x l ih =>
    have := h x
    simp only [List.map_cons, List.sum_cons, List.length_cons, Nat.mul_add, Nat.mul_one] at ih ⊢
    omega
theorem wtL_I (l : List Int) : wtL wI l = l.length := by
  unfold wtL wI
  induction l with
  | nil => rfl
  | cons x l ih => simp only [List.map_cons, List.sum_cons, ih, List.length_cons]; omega
theorem wtb_le (l : List Tb) : wtL wTb l ≤ 2 * zL zTb l := wtL_le (fun x => by unfold wTb; omega) l
theorem wnd_le (l : List Nd) : wtL wNd l ≤ 6 * zL zNd l := wtL_le (fun x => by unfold wNd zNd; rw [wtL_I]; omega) l
end Go.Proofs.YtpfjldlopeaniaaGreatX
namespace Go.Proofs.YtpfjldlopeaniaaGreatX
open Go Go.Proofs.YtpfjldlopeaniaaGreatT
set_option linter.all false
structure COp (o : Opn) : Prop where
  l1 : o.2.1.length ≤ 1073741824
  c1 : ∀ n ∈ o.2.1, CNd n
  l2 : o.2.2.1.length ≤ 1073741824
  c2 : ∀ n ∈ o.2.2.1, CNd n
  l3 : o.2.2.2.1.length ≤ 1073741824
end Go.Proofs.YtpfjldlopeaniaaGreatX
namespace Go.Proofs.YtpfjldlopeaniaaGreatX
open Go Go.Proofs.YtpfjldlopeaniaaGreatT
set_option linter.all false
def zEn (e : En) : Nat := zL zNd e.2.1 + zL zNd e.2.2.1
def zShf (h : Shf) : Nat := zL zTb h.2.1 + zL zEn h.2.2.1
def WEn (e : En) : Prop := WL WNd e.2.1 ∧ WL WNd e.2.2.1
def WShf (h : Shf) : Prop := WL WTb h.2.1 ∧ WL WEn h.2.2.1
theorem ite_neg2 {v : Int} {n : Nat} (h0 : 0 ≤ v) : decide ((if (n : Int) ≤ v then v - (n : Nat) else -1) < 0) = !decide ((n : Int) ≤ v) := by
  by_cases h : (n : Int) ≤ v
  · have : ¬ (v - (n : Int) < 0) := by omega
    simp [h, this]
  · simp [h]
theorem sz_Entry {a : SEntry} (hw : WEn a) {v : Int} (h0 : 0 ≤ v) (h1 : v ≤ 1048576) : F_laws_szEntry a v = some (if (zEn a : Int) ≤ v then v - (zEn a : Nat) else -1) := (U_laws_szEntry a v).out (by
  obtain ⟨w1, w2⟩ := hw
  have e : zEn a = zL zNd a.2.1 + zL zNd a.2.2.1 := rfl
  rw [sz_NodeS w1 h0 h1]
  simp only [Option.bind_some, ite_neg2 h0]
  by_cases g1 : (zL zNd a.2.1 : Int) ≤ v
  rotate_left
  · rw [if_neg (show ¬ (zEn a : Int) ≤ v by omega)]; simp [g1]
  simp only [g1, decide_true, Bool.not_true, cond_false, if_true]
  rw [sz_NodeS w2 (by omega) (by omega)]
  simp only [Option.bind_some, ite_neg2 (show 0 ≤ v - (zL zNd a.2.1 : Nat) by omega)]
  by_cases g2 : (zL zNd a.2.2.1 : Int) ≤ v - (zL zNd a.2.1 : Nat)
  rotate_left
  · rw [if_neg (show ¬ (zEn a : Int) ≤ v by omega)]; simp [g2]
  simp only [g2, decide_true, Bool.not_true, cond_false, if_true]
  rw [if_pos (by omega)]
  congr 1; omega)
theorem sz_EntryS {a : List SEntry} (hw : WL WEn a) {v : Int} (h0 : 0 ≤ v) (h1 : v ≤ 1048576) : F_laws_szEntryS a v = some (if (zL zEn a : Int) ≤ v then v - (zL zEn a : Nat) else -1) :=
  (U_laws_szEntryS a v).out (sz_list hw h0 h1 (fun x hx v h0 h1 => sz_Entry hx h0 h1) (fun f v u i => rfl) (fun _ _ => rfl))
theorem sz_Shelf {a : SShelf} (hw : WShf a) {v : Int} (h0 : 0 ≤ v) (h1 : v ≤ 1048576) : F_laws_szShelf a v = some (if (zShf a : Int) ≤ v then v - (zShf a : Nat) else -1) := (U_laws_szShelf a v).out (by
  obtain ⟨w1, w2⟩ := hw
  have e : zShf a = zL zTb a.2.1 + zL zEn a.2.2.1 := rfl
  rw [sz_TableS w1 h0 h1]
  simp only [Option.bind_some, ite_neg2 h0]
  by_cases g1 : (zL zTb a.2.1 : Int) ≤ v
  rotate_left
  · rw [if_neg (show ¬ (zShf a : Int) ≤ v by omega)]; simp [g1]
  simp only [g1, decide_true, Bool.not_true, cond_false, if_true]
  rw [sz_EntryS w2 (by omega) (by omega)]
  simp only [Option.bind_some, ite_neg2 (show 0 ≤ v - (zL zTb a.2.1 : Nat) by omega)]
  by_cases g2 : (zL zEn a.2.2.1 : Int) ≤ v - (zL zTb a.2.1 : Nat)
  rotate_left
  · rw [if_neg (show ¬ (zShf a : Int) ≤ v by omega)]; simp [g2]
  simp only [g2, decide_true, Bool.not_true, cond_false, if_true]
  rw [if_pos (by omega)]
  congr 1; omega)
theorem to_Entry {a : SEntry} (h : zEn a ≤ 1048576) : F_laws_toEntry a = some a := (U_laws_toEntry a).out (by
  have e : zEn a = zL zNd a.2.1 + zL zNd a.2.2.1 := rfl
  rw [to_NodeS (by omega), to_NodeS (by omega)]; rfl)
theorem to_EntryS {a : List SEntry} (h : zL zEn a ≤ 1048576) : F_laws_toEntryS a = some a :=
  (U_laws_toEntryS a).out (to_list h (fun x hx => to_Entry hx) (fun f v i => rfl) (fun _ => rfl))
theorem to_Shelf {a : SShelf} (h : zShf a ≤ 1048576) : F_laws_toShelf a = some a := (U_laws_toShelf a).out (by
  have e : zShf a = zL zTb a.2.1 + zL zEn a.2.2.1 := rfl
  rw [to_TableS (by omega), to_EntryS (by omega)]; rfl)
structure CEn (e : En) : Prop where
  l1 : e.2.1.length ≤ 1073741824
  c1 : ∀ n ∈ e.2.1, CNd n
  l2 : e.2.2.1.length ≤ 1073741824
  c2 : ∀ n ∈ e.2.2.1, CNd n
theorem cen_of {e : En} (h : zEn e ≤ 1048576) : CEn e := by
  have e1 : zEn e = zL zNd e.2.1 + zL zNd e.2.2.1 := rfl
  have h1 := zL_len (z := zNd) (l := e.2.1)
  have h2 := zL_len (z := zNd) (l := e.2.2.1)
  exact ⟨by omega, cnd_of (by omega), by omega, cnd_of (by omega)⟩
theorem cens_of {l : List En} (h : zL zEn l ≤ 1048576) : ∀ e ∈ l, CEn e := fun e he => cen_of (by have := zL_mem (z := zEn) he; omega)
theorem eq_Entry {a : SEntry} (h : CEn a) : F_laws_eqEntry a a = some true := (U_laws_eqEntry a a).out (by
  simp [eq_NodeS h.l1 h.c1, eq_NodeS h.l2 h.c2])
theorem eq_EntryS {a : List SEntry} (hl : a.length ≤ 1073741824) (hc : ∀ n ∈ a, CEn n) : F_laws_eqEntryS a a = some true := (U_laws_eqEntryS a a).out (by
  rw [eq_loop hl (fun f i x v hx hm => by
    have l1 := (List.getElem?_eq_some_iff.1 hx).1
    simp only [L_laws_eqEntrySx0, lt_nat hx, cond_true, ix_some hx, Option.bind_some, wrap_nat (show i < 9223372036854775807 by omega)]
    erw [eq_Entry (hc x hm)]
    simp) (fun f v => by simp [L_laws_eqEntrySx0])]
  simp)
theorem eq_Shelf {a : SShelf} (h : zShf a ≤ 1048576) : F_laws_eqShelf a a = some true := (U_laws_eqShelf a a).out (by
  have e : zShf a = zL zTb a.2.1 + zL zEn a.2.2.1 := rfl
  have h1 := zL_len (z := zTb) (l := a.2.1)
  have h2 := zL_len (z := zEn) (l := a.2.2.1)
  simp [eq_TableS (a := a.2.1) (by omega), eq_EntryS (a := a.2.2.1) (by omega) (cens_of (by omega))])
theorem bshelf_of {h : Shf} (hz : zShf h ≤ 1048576) : BShelf h := by
  have e : zShf h = zL zTb h.2.1 + zL zEn h.2.2.1 := rfl
  have h2 := zL_len (z := zEn) (l := h.2.2.1)
  refine ⟨bsch_of (by omega), by omega, fun x hx => ?_, fun x hx => ?_⟩
  · have h3 := zL_mem (z := zEn) hx
    have e1 : zEn x = zL zNd x.2.1 + zL zNd x.2.2.1 := rfl
    have h4 := zL_len (z := zNd) (l := x.2.1)
    exact ⟨bplan_of (by omega), by omega, fun n hn => cnd_of (by omega) n hn⟩
  · have h3 := zL_mem (z := zEn) hx
    have e1 : zEn x = zL zNd x.2.1 + zL zNd x.2.2.1 := rfl
    exact bplan_of (by omega)
def wEn (e : En) : Nat := 3 + wtL wNd e.2.1 + wtL wNd e.2.2.1
noncomputable def mkEn (e : En) (k : Int) : En := (k, mkL mkNd wNd e.2.1 (k + 1), mkL mkNd wNd e.2.2.1 (k + 1 + (wtL wNd e.2.1 : Nat)), k + 1 + (wtL wNd e.2.1 : Nat) + (wtL wNd e.2.2.1 : Nat), k + 1 + (wtL wNd e.2.1 : Nat) + (wtL wNd e.2.2.1 : Nat) + 1, ())
theorem mark_EntryS {a : List SEntry} {k : Int} (hl : a.length ≤ 1073741824) (hc : ∀ n ∈ a, CEn n) (h0 : 0 ≤ k) (hB : k + wtL wEn a ≤ 4611686018427387904) : F_laws_markEntryS a k = some (k + wtL wEn a, mkL mkEn wEn a k) := (U_laws_markEntryS a k).out (by
  rw [mark_loop (mk := mkEn) (w := wEn) hl h0 hB
    (fun f v i x k hx hm hlen h0 hB => by
      have l1 := (List.getElem?_eq_some_iff.1 hx).1
      have e : wEn x = 3 + wtL wNd x.2.1 + wtL wNd x.2.2.1 := rfl
      have hw : IntKind.i64.wrap (k + 1) = k + 1 := by rw [wrap_sml] <;> omega
      have hcx := hc x hm
      have m1 := mark_NodeS (a := x.2.1) (k := k + 1) hcx.l1 hcx.c1 (by omega) (by omega)
      have m2 := mark_NodeS (a := x.2.2.1) (k := k + 1 + (wtL wNd x.2.1 : Nat)) hcx.l2 hcx.c2 (by omega) (by omega)
      have hw2 : IntKind.i64.wrap (k + 1 + (wtL wNd x.2.1 : Int) + (wtL wNd x.2.2.1 : Int) + 1) = k + 1 + (wtL wNd x.2.1 : Int) + (wtL wNd x.2.2.1 : Int) + 1 := by rw [wrap_sml] <;> omega
      have hw3 : IntKind.i64.wrap (k + 1 + (wtL wNd x.2.1 : Int) + (wtL wNd x.2.2.1 : Int) + 1 + 1) = k + 1 + (wtL wNd x.2.1 : Int) + (wtL wNd x.2.2.1 : Int) + 1 + 1 := by rw [wrap_sml] <;> omega
      simp only [L_laws_markEntrySx0, lt_nat hx, cond_true, ix_some hx, Option.bind_some, hw, Int.toNat_natCast, ix_set l1, List.set_set, bind2, m1, m2, hw2, hw3, wrap_nat (show i < 9223372036854775807 by omega), mkEn]
      rw [show k + 1 + (wtL wNd x.2.1 : Int) + (wtL wNd x.2.2.1 : Int) + 1 + 1 = k + ((wEn x : Nat) : Int) by omega])
    (fun f v k => by simp [L_laws_markEntrySx0])]
  simp)
theorem wen_le (l : List En) : wtL wEn l ≤ 20 * zL zEn l := wtL_le (fun x => by
  have h1 := wnd_le x.2.1
  have h2 := wnd_le x.2.2.1
  have e1 : zEn x = zL zNd x.2.1 + zL zNd x.2.2.1 := rfl
  have e : wEn x = 3 + wtL wNd x.2.1 + wtL wNd x.2.2.1 := rfl
  omega) l
theorem mark_Shelf {a : SShelf} (h : zShf a ≤ 1048576) : ∃ k : Int, F_laws_markShelf a 1 = some k ∧ 0 ≤ k := by
  have e : zShf a = zL zTb a.2.1 + zL zEn a.2.2.1 := rfl
  have h1 := zL_len (z := zTb) (l := a.2.1)
  have h2 := zL_len (z := zEn) (l := a.2.2.1)
  have w1 := wtb_le a.2.1
  have w2 := wen_le a.2.2.1
  have m1 := mark_TableS (a := a.2.1) (k := 1) (by omega) (by omega) (by omega)
  have m2 := mark_EntryS (a := a.2.2.1) (k := 1 + (wtL wTb a.2.1 : Nat)) (by omega) (cens_of (by omega)) (by omega) (by omega)
  refine ⟨_, (U_laws_markShelf a 1).out (by rw [m1]; simp only [Option.bind_some]; rw [m2]; rfl), by omega⟩
theorem wl_Shelf {n m1 m2 m3 m4 m5 : Nat} {x : Shf} (h : wfT (.pr (.int .i64) (.pr (.sl n (.pr .str (.pr (.int .i64) .un))) (.pr (.sl m1 (.pr (.int .i64) (.pr (.sl m2 (.pr (.int .i64) (.pr .str (.pr (.int .i64) (.pr (.int .i64) (.pr (.int .i64) (.pr .bool (.pr (.sl m3 (.int .i64)) .un)))))))) (.pr (.sl m4 (.pr (.int .i64) (.pr .str (.pr (.int .i64) (.pr (.int .i64) (.pr (.int .i64) (.pr .bool (.pr (.sl m5 (.int .i64)) .un)))))))) (.pr (.int .i64) (.pr (.int .i64) .un)))))) (.pr (.int .i64) (.pr (.int .i64) (.pr (.int .i64) (.pr (.int .i64) (.pr (.int .i64) (.pr (.int .i64) .un))))))))) x) : WShf x :=
  ⟨wl_TableS h.2.1, ⟨h.2.2.1.1, fun y hy => ⟨wl_NodeS (h.2.2.1.2 y hy).2.1, wl_NodeS (h.2.2.1.2 y hy).2.2.1⟩⟩⟩
theorem pure_FnExactRecentPrints {a0 : SShelf} (w0 : WShf a0) : F_laws_FnExactRecentPrints a0 = some true := (U_laws_FnExactRecentPrints a0).out (by
  have sz : F_laws_szShelf (a0.1, (a0.2.1, (a0.2.2.1, (a0.2.2.2.1, (a0.2.2.2.2.1, (a0.2.2.2.2.2.1, (a0.2.2.2.2.2.2.1, (a0.2.2.2.2.2.2.2.1, (a0.2.2.2.2.2.2.2.2.1, ()))))))))) 1048576 = some (if (zShf a0 : Int) ≤ 1048576 then (1048576 : Int) - ((zShf a0 : Nat) : Int) else -1) := sz_Shelf w0 (by omega) (by omega)
  rw [sz]
  by_cases h0 : (zShf a0 : Int) ≤ (1048576 : Int)
  rotate_left
  · rw [if_neg h0]; simp
  rw [if_pos h0]
  have hn0 : decide ((1048576 : Int) - (zShf a0 : Nat) < 0) = false := by simp; omega
  have t0 : F_laws_toShelf (a0.1, (a0.2.1, (a0.2.2.1, (a0.2.2.2.1, (a0.2.2.2.2.1, (a0.2.2.2.2.2.1, (a0.2.2.2.2.2.2.1, (a0.2.2.2.2.2.2.2.1, (a0.2.2.2.2.2.2.2.2.1, ()))))))))) = some a0 := to_Shelf (a := a0) (by omega)
  have b0 := bshelf_of (h := a0) (by omega)
  have i1 := V_impl_RecentPrints b0
  have i0 : F_impl_RecentPrints (a0.1, (a0.2.1, (a0.2.2.1, (a0.2.2.2.1, (a0.2.2.2.2.1, (a0.2.2.2.2.2.1, (a0.2.2.2.2.2.2.1, (a0.2.2.2.2.2.2.2.1, (a0.2.2.2.2.2.2.2.2.1, ()))))))))) = some (recent a0) := i1
  have q0 : F_laws_eqShelf (a0.1, (a0.2.1, (a0.2.2.1, (a0.2.2.2.1, (a0.2.2.2.2.1, (a0.2.2.2.2.2.1, (a0.2.2.2.2.2.2.1, (a0.2.2.2.2.2.2.2.1, (a0.2.2.2.2.2.2.2.2.1, ()))))))))) a0 = some true := eq_Shelf (a := a0) (by omega)
  have hr := recent_len a0
  have qi := eq_IntS (a := recent a0) (by omega)
  obtain ⟨k, hk, hk0⟩ := mark_Shelf (a := a0) (by omega)
  have hk' : F_laws_markShelf (a0.1, (a0.2.1, (a0.2.2.1, (a0.2.2.2.1, (a0.2.2.2.2.1, (a0.2.2.2.2.2.1, (a0.2.2.2.2.2.2.1, (a0.2.2.2.2.2.2.2.1, (a0.2.2.2.2.2.2.2.2.1, ()))))))))) 1 = some k := hk
  have hkn : decide (k < 0) = false := by simp; omega
  have wl := wtL_I (recent a0)
  have gm := mark_IntS (a := recent a0) (k := 1) (by omega) (by omega) (by omega)
  have gh := held_IntS (a := recent a0) (k := 1) (by omega) (by omega) (by omega)
  have hgn : decide ((1 : Int) + (wtL wI (recent a0) : Nat) < 0) = false := by simp; omega
  simp only [Option.bind_some, hn0, cond_false, t0, V_spec_RecentPrints b0, i0, qi, q0, Bool.not_true, hk', hkn, joinK_go, J_laws_FnExactRecentPrintsx0, gm, gh, hgn, bne_self_int, i1])
end Go.Proofs.YtpfjldlopeaniaaGreatX
