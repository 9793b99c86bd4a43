/- The plain law: the plain functions answer as the statement says. -/
import Derived.Test.YtglbcdlplbomdaaGA
set_option linter.all false
namespace Go.Proofs.YtglbcdlplbomdaaX
open Go Go.Proofs.YtglbcdlplbomdaaT
set_option linter.all false
@[simp] theorem V_spec_l01In (x lo hi : Int) : F_spec_l01In x lo hi = some (okIn x lo hi) := (U_spec_l01In x lo hi).out (by
  simp [okIn]; grind)
@[simp] theorem V_impl_in (x lo hi : Int) : F_impl_in x lo hi = some (okIn x lo hi) := (U_impl_in x lo hi).out (by
  simp [okIn]; grind)
@[simp] theorem V_impl_isCol (x : Int) : F_impl_isCol x = some (okIn x 0 63) := (U_impl_isCol x).out (by simp)
@[simp] theorem V_impl_isSlot (x : Int) : F_impl_isSlot x = some (okIn x 0 39) := (U_impl_isSlot x).out (by simp)
@[simp] theorem V_impl_isNum (x : Int) : F_impl_isNum x = some (okIn x (-1000000) 1000000) := (U_impl_isNum x).out (by simp)
@[simp] theorem V_spec_l02Col (x : Int) : F_spec_l02Col x = some (okIn x 0 63) := (U_spec_l02Col x).out (by simp)
@[simp] theorem V_spec_l01Number (x : Int) : F_spec_l01Number x = some (okIn x (-1000000) 1000000) := (U_spec_l01Number x).out (by simp)
@[simp] theorem V_spec_l12Cut (x : Int) : F_spec_l12Cut x = some (if x > 1000000 then 1000000 else x) := (U_spec_l12Cut x).out (by simp; grind)
@[simp] theorem V_spec_ArityOf (k : Int) : F_spec_ArityOf k = some (arity k) := (U_spec_ArityOf k).out (by
  simp [arity]; grind)
@[simp] theorem V_impl_ArityOf (k : Int) : F_impl_ArityOf k = some (arity k) := (U_impl_ArityOf k).out (by
  simp [arity]; grind)
theorem V_impl_WordOk {w : ByteArray} (hw : w.size ≤ 2147483648) : F_impl_WordOk w = some (wordOk w) := (U_impl_WordOk w).out (by
  have e := loop_chk (f := fun f s => L_impl_WordOkx0 w f s.1 s.2) (bl w) (fun i c => okIn c 97 122 || (!(decide (i = 0)) && okIn c 48 57)) false
    (fun i x a g hx => by
      have hl := (List.getElem?_eq_some_iff.1 hx).1
      rw [bl_len] at hl
      have h1 : decide ((i : Int) < (w.size : Int)) = true := by simpa using hl
      simp only [L_impl_WordOkx0, h1, cond_true, bix_some hx, Option.bind_some, wrap_nat (show i < 9223372036854775807 by omega), okIn, J_impl_WordOkx1, J_impl_WordOkx2, joinK_bif, joinK_go, joinK_ret]
      grind)
    (fun a g => by simp [L_impl_WordOkx0, bl_len]) false
  rw [e]
  simp only [wordOk, wordOkL, bl_len]
  cases allI (fun i c => okIn c 97 122 || (!(decide (i = 0)) && okIn c 48 57)) (bl w) 0 <;> simp)
theorem V_spec_WordOk (w : ByteArray) : F_spec_WordOk w = some (wordOk w) := (U_spec_WordOk w).out (by
  by_cases hw : okIn w.size 1 12 = true
  · have hw' := okIn_iff.1 hw
    have hb : 0 < (bl w).length := by rw [bl_len]; omega
    have hx0 : (bl w)[0]? = some (bl w)[0] := List.getElem?_eq_getElem hb
    have e0 := bix_some hx0
    simp only [V_spec_l01In, Option.bind_some, hw, Bool.not_true, cond_false]
    rw [show (0 : Int) = ((0 : Nat) : Int) from rfl, e0]
    simp only [Option.bind_some, joinK_go, J_spec_WordOkx0]
    have e := loop_chk (f := fun f s => L_spec_WordOkx0 w f s.1 s.2) (bl w) (fun i c => okIn c 97 122 || okIn c 48 57) false
      (fun i x a g hx => by
        have hl := (List.getElem?_eq_some_iff.1 hx).1
        rw [bl_len] at hl
        have h1 : decide ((i : Int) < (w.size : Int)) = true := by simpa using hl
        simp only [L_spec_WordOkx0, h1, cond_true, bix_some hx, Option.bind_some, wrap_nat (show i < 9223372036854775807 by omega), okIn, J_spec_WordOkx2, joinK_bif, joinK_go, joinK_ret]
        grind)
      (fun a g => by simp [L_spec_WordOkx0, bl_len]) false
    rw [e]
    have hlen : okIn ((bl w).length : Int) 1 12 = true := by rw [bl_len]; exact hw
    simp only [wordOk, wordOkL, hlen, Bool.and_true]
    generalize bl w = l at hb
    match l, hb with
    | c :: l, _ =>
      have key : ∀ (l : List Int) (i : Nat), i ≠ 0 → allI (fun i c => okIn c 97 122 || (!(decide (i = 0)) && okIn c 48 57)) l i = allI (fun i c => okIn c 97 122 || okIn c 48 57) l i := by
        intro l
        induction l with
        | nil => intro i _; rfl
        | cons x xs ih => intro i hi; simp [allI, hi, ih (i + 1) (by omega)]
      simp only [allI, key l 1 (by omega), List.getElem_cons_zero]
      cases allI (fun i c => okIn c 97 122 || okIn c 48 57) l (0 + 1) <;> simp [okIn] <;> grind
  · have hw' : okIn w.size 1 12 = false := by simpa using hw
    simp [hw', wordOk, wordOkL, bl_len])
theorem V_spec_l01Less {a b : ByteArray} (ha : a.size ≤ 2147483648) : F_spec_l01Less a b = some (less a b) := (U_spec_l01Less a b).out (by
  have e := loop_brk (f := fun f s => L_spec_l01Lessx0 a b f s.1 s.2) ((bl a).zip (bl b)) (fun _ x => if x.1 = x.2 then none else some (decide (x.1 < x.2)))
    (fun i x v g hx => by
      obtain ⟨h1, h2⟩ := List.getElem?_zip_eq_some.1 hx
      have l1 := (List.getElem?_eq_some_iff.1 h1).1
      have l2 := (List.getElem?_eq_some_iff.1 h2).1
      rw [bl_len] at l1 l2
      have d1 : decide ((i : Int) < (a.size : Int)) = true := by simpa using l1
      have d2 : decide ((i : Int) < (b.size : Int)) = true := by simpa using l2
      simp only [L_spec_l01Lessx0, d1, d2, cond_true, bix_some h1, bix_some h2, Option.bind_some, joinK_go, J_spec_l01Lessx1, wrap_nat (show i < 9223372036854775807 by omega)]
      have hb : (x.1 != x.2) = !decide (x.1 = x.2) := rfl
      rw [hb]
      by_cases h : x.1 = x.2 <;> simp [h])
    (fun v g => by
      simp only [L_spec_l01Lessx0, List.length_zip, bl_len]
      by_cases h : a.size ≤ b.size
      · have h1 : decide (((min a.size b.size : Nat) : Int) < (a.size : Int)) = false := by simp only [decide_eq_false_iff_not]; omega
        simp only [h1, cond_false, joinK_go, J_spec_l01Lessx1]
      · have h1 : decide (((min a.size b.size : Nat) : Int) < (a.size : Int)) = true := by simp only [decide_eq_true_eq]; omega
        have h2 : decide (((min a.size b.size : Nat) : Int) < (b.size : Int)) = false := by simp only [decide_eq_false_iff_not]; omega
        simp only [h1, h2, cond_true, joinK_go, J_spec_l01Lessx1, cond_false]) false
  rw [e, less_lex]
  have key : ∀ (l : List (Int × Int)) (i : Nat), brkI (fun _ x => if x.1 = x.2 then none else some (decide (x.1 < x.2))) l i = lexE l := by
    intro l
    induction l with
    | nil => intro i; rfl
    | cons x xs ih =>
      intro i
      obtain ⟨x1, x2⟩ := x
      simp only [brkI, lexE]
      by_cases h : x1 = x2 <;> simp [h, ih]
  rw [key]
  cases lexE ((bl a).zip (bl b)) <;> simp [bl_len])
end Go.Proofs.YtglbcdlplbomdaaX
namespace Go.Proofs.YtglbcdlplbomdaaX
open Go Go.Proofs.YtglbcdlplbomdaaT
set_option linter.all false
theorem V_slices_Equal_Lint {a b : List Int} (ha : a.length ≤ 2147483648) : F_slices_Equal_Lint a b = some (decide (a = b)) := (U_slices_Equal_Lint a b).out (by
  by_cases hl : a.length = b.length
  · have h0 : ((a.length : Int) != (b.length : Int)) = false := by simp [hl]
    rw [h0]
    have e := loop_chk (f := fun f s => L_slices_Equal_Lintx0 a b f s.1 s.2) (a.zip b) (fun _ x => decide (x.1 = x.2)) false
      (fun i x v g hx => by
        obtain ⟨h1, h2⟩ := List.getElem?_zip_eq_some.1 hx
        have l1 := (List.getElem?_eq_some_iff.1 h1).1
        simp only [L_slices_Equal_Lintx0, lt_nat h1, cond_true, ix_some h1, ix_some h2, Option.bind_some, wrap_nat (show i < 9223372036854775807 by omega)]
        by_cases h : x.1 = x.2 <;> simp [h, bne_dec])
      (fun v g => by simp [L_slices_Equal_Lintx0, hl]) false
    rw [e, allI_const]
    have : (a.zip b).all (fun x => decide (x.1 = x.2)) = decide (a = b) := by
      clear e h0 ha
      induction a generalizing b with
      | nil => cases b <;> simp_all
      | cons x xs ih =>
        cases b with
        | nil => simp at hl
        | cons y ys =>
          simp only [List.length_cons, Nat.add_right_cancel_iff] at hl
          simp only [List.zip_cons_cons, List.all_cons, ih hl, List.cons.injEq]
          by_cases h1 : x = y <;> by_cases h2 : xs = ys <;> simp [h1, h2]
    rw [this]
    cases decide (a = b) <;> simp
  · have h0 : ((a.length : Int) != (b.length : Int)) = true := by simp [bne]; omega
    have : a ≠ b := fun e => hl (by rw [e])
    simp [h0, this])
theorem V_impl_sameNode {a b : SNode} (ha : a.2.2.2.2.2.2.1.length ≤ 2147483648) : F_impl_sameNode a b = some (decide (a = b)) := (U_impl_sameNode a b).out (by
  obtain ⟨k, name, col, op, num, slot, cols, u⟩ := a
  obtain ⟨k', name', col', op', num', slot', cols', u'⟩ := b
  simp only [V_slices_Equal_Lint ha, beq_toList]
  simp only [Prod.mk.injEq, beq_iff_eq]
  by_cases h1 : k = k' <;> by_cases h2 : name = name' <;> by_cases h3 : col = col' <;> by_cases h4 : op = op' <;> by_cases h5 : num = num' <;> cases slot <;> cases slot' <;> simp [h1, h2, h3, h4, h5, beq_dec])
@[simp] theorem V_impl_NodeOk_1 (x : Int) : F_impl_NodeOk_1 x = some (!okIn x 0 63) := (U_impl_NodeOk_1 x).out (by simp)
theorem findI_ge {T : Type} {p : T → Bool} {l : List T} : (match findI p l 0 with | some j => decide ((j : Int) ≥ 0) | none => decide ((-1 : Int) ≥ 0)) = l.any p := by
  cases h : findI p l 0 with
  | none => rw [findI_none.1 h]; rfl
  | some j =>
    have : l.any p = true := by
      cases ha : l.any p with
      | true => rfl
      | false => rw [findI_none.2 ha] at h; cases h
    rw [this]; simp
def fint (o : Option Nat) : Int := match o with | some j => j | none => -1
@[simp] theorem fint_neg (o : Option Nat) : decide (fint o < 0) = o.isNone := by
  cases o with
  | none => rfl
  | some j => exact nat_neg
@[simp] theorem fint_some (j : Nat) : fint (some j) = (j : Int) := rfl
@[simp] theorem fint_none : fint none = -1 := rfl
theorem V_slices_IndexFunc_Lint_impl_NodeOk_1 {l : List Int} (hl : l.length ≤ 2147483648) : F_slices_IndexFunc_Lint_impl_NodeOk_1 l = some (fint (findI (fun x => !okIn x 0 63) l 0)) := (U_slices_IndexFunc_Lint_impl_NodeOk_1 l).out (by
  have e := loop_find (f := fun f s => L_slices_IndexFunc_Lint_impl_NodeOk_1x0 l f s.1 s.2) l (fun x => !okIn x 0 63) (fun i => (i : Int))
    (fun i x v g hx => by
      have l1 := (List.getElem?_eq_some_iff.1 hx).1
      simp only [L_slices_IndexFunc_Lint_impl_NodeOk_1x0, lt_nat hx, cond_true, ix_some hx, Option.bind_some, V_impl_NodeOk_1, wrap_nat (show i < 9223372036854775807 by omega)])
    (fun v g => by simp [L_slices_IndexFunc_Lint_impl_NodeOk_1x0]) 0
  rw [e]
  cases findI (fun x => !okIn x 0 63) l 0 <;> simp [fint])
theorem fint_ge {T : Type} {p : T → Bool} {l : List T} : decide (fint (findI p l 0) ≥ 0) = l.any p := by
  rw [← findI_ge]
  cases findI p l 0 <;> rfl
theorem V_slices_ContainsFunc_Lint_impl_NodeOk_1 {l : List Int} (hl : l.length ≤ 2147483648) : F_slices_ContainsFunc_Lint_impl_NodeOk_1 l = some (l.any fun x => !okIn x 0 63) := (U_slices_ContainsFunc_Lint_impl_NodeOk_1 l).out (by
  simp only [V_slices_IndexFunc_Lint_impl_NodeOk_1 hl, Option.bind_some, fint_ge])
theorem all_not_any {T : Type} (p : T → Bool) : ∀ l : List T, (!l.any fun x => !p x) = l.all p
  | [] => rfl
  | x :: xs => by simp [← all_not_any p xs]
structure BNode (n : Nd) : Prop where
  name : n.2.1.size ≤ 2147483648
  cols : n.2.2.2.2.2.2.1.length ≤ 2147483648
theorem V_impl_NodeOk {n : SNode} (hb : BNode n) : F_impl_NodeOk n = some (nodeOk n) := (U_impl_NodeOk n).out (by
  obtain ⟨k, name, col, op, num, slot, cols, u⟩ := n
  obtain ⟨hn, hc⟩ := hb
  simp only at hn hc
  simp only [V_impl_WordOk hn, V_impl_isCol, V_impl_in, V_impl_isSlot, V_impl_isNum, V_slices_ContainsFunc_Lint_impl_NodeOk_1 hc, Option.bind_some, all_not_any]
  by_cases h0 : k = 0
  · subst h0
    simp only [nodeOk, beq_self_eq_true, cond_true, joinK_go, J_impl_NodeOkx0]
    simp only [V_impl_sameNode (a := (0, ByteArray.empty, col, op, num, slot, cols, ())) hc]
    cases wordOk name <;> cases slot <;> simp <;> grind
  have e0 : (k == 0) = false := by simpa using h0
  by_cases h1 : k = 1
  · subst h1
    simp only [nodeOk, e0, beq_self_eq_true, cond_true, cond_false, joinK_bif, joinK_go, J_impl_NodeOkx0, J_impl_NodeOkx1, J_impl_NodeOkx2, V_impl_isSlot, V_impl_isNum, Option.bind_some]
    simp only [V_impl_sameNode (a := (0, name, 0, 0, 0, false, cols, ())) hc]
    simp only [okIn, Prod.mk.injEq, Bool.decide_and]
    generalize decide (name = ByteArray.empty) = dn
    generalize decide (cols = []) = dc
    by_cases hz : num = 0
    · subst hz
      by_cases h2 : op = 3 <;> cases slot <;> cases dn <;> cases dc <;> simp [h2] <;> grind
    · by_cases h2 : op = 3 <;> cases slot <;> cases dn <;> cases dc <;> simp [h2, hz] <;> grind
  have e1 : (k == 1) = false := by simpa using h1
  by_cases h2 : k = 2
  · subst h2
    simp only [nodeOk, e0, e1, beq_self_eq_true, cond_true, cond_false, joinK_bif, joinK_go, J_impl_NodeOkx0, J_impl_NodeOkx3, Option.bind_some]
    simp only [V_impl_sameNode (a := (0, name, col, op, num, slot, [], ())) (by simp)]
    cases cols.all (fun c => okIn c 0 63) <;> cases okIn cols.length 1 6 <;> cases slot <;> simp <;> grind
  have e2 : (k == 2) = false := by simpa using h2
  by_cases h3 : k = 3
  · subst h3
    simp only [nodeOk, e0, e1, e2, beq_self_eq_true, cond_true, cond_false, joinK_bif, joinK_go, J_impl_NodeOkx0, J_impl_NodeOkx4, Option.bind_some]
    simp only [V_impl_sameNode (a := (0, name, 0, op, 0, slot, cols, ())) hc]
    cases okIn col 0 63 <;> cases okIn num 0 63 <;> cases slot <;> simp <;> grind
  have e3 : (k == 3) = false := by simpa using h3
  by_cases h5 : k = 5
  · subst h5
    simp only [nodeOk, e0, e1, e2, e3, beq_self_eq_true, cond_true, cond_false, joinK_bif, joinK_go, J_impl_NodeOkx0, Option.bind_some]
    simp only [V_impl_sameNode (a := (0, name, 0, op, num, slot, cols, ())) hc]
    cases okIn col 0 63 <;> cases slot <;> simp <;> grind
  have e5 : (k == 5) = false := by simpa using h5
  by_cases h6 : k = 6
  · subst h6
    simp only [nodeOk, e0, e1, e2, e3, e5, beq_self_eq_true, cond_true, cond_false, joinK_bif, joinK_go, J_impl_NodeOkx0, J_impl_NodeOkx5, Option.bind_some]
    simp only [V_impl_sameNode (a := (0, name, col, op, 0, false, cols, ())) hc]
    cases okIn num 0 1000000 <;> cases okIn num 0 39 <;> cases slot <;> simp <;> grind
  have e6 : (k == 6) = false := by simpa using h6
  simp only [nodeOk, e0, e1, e2, e3, e5, e6, h0, h1, h2, h3, h5, h6, cond_false, joinK_bif, joinK_go, J_impl_NodeOkx6, if_false]
  by_cases h4 : k = 4
  · subst h4
    simp only [beq_self_eq_true, cond_true, joinK_go, J_impl_NodeOkx0, V_impl_sameNode (a := (0, name, col, op, num, slot, cols, ())) hc]
    cases slot <;> simp <;> grind
  have e4 : (k == 4) = false := by simpa using h4
  by_cases h7 : k = 7
  · subst h7
    simp only [e4, beq_self_eq_true, cond_true, cond_false, joinK_go, J_impl_NodeOkx0, V_impl_sameNode (a := (0, name, col, op, num, slot, cols, ())) hc]
    cases slot <;> simp <;> grind
  have e7 : (k == 7) = false := by simpa using h7
  simp [e4, e7, h4, h7])
theorem V_spec_NodeOk {n : SNode} (hb : BNode n) : F_spec_NodeOk n = some (nodeOk n) := (U_spec_NodeOk n).out (by
  obtain ⟨k, name, col, op, num, slot, cols, u⟩ := n
  obtain ⟨hn, hc⟩ := hb
  simp only at hn hc
  have hlen : decide ((cols.length : Int) > 0) = !decide (cols = []) := by cases cols <;> simp <;> omega
  have e := loop_chk (f := fun f s => L_spec_NodeOkx0 (k, name, col, op, num, slot, cols, u) f s.1 s.2) cols (fun _ x => okIn x 0 63) (Ex.ret false)
      (fun i x v g hx => by
        have l1 := (List.getElem?_eq_some_iff.1 hx).1
        simp only [L_spec_NodeOkx0, lt_nat hx, cond_true, ix_some hx, Option.bind_some, V_spec_l02Col, wrap_nat (show i < 9223372036854775807 by omega)]
        cases okIn x 0 63 <;> rfl)
      (fun v g => by simp [L_spec_NodeOkx0]) false
  rw [allI_const] at e
  simp only [V_spec_l01In, Option.bind_some, beq_toList, hlen, J_spec_NodeOkx0, J_spec_NodeOkx4, V_spec_WordOk, V_spec_l02Col, V_spec_l01Number, e]
  simp only [nodeOk]
  have hne : ∀ a b : Int, (a != b) = !decide (a = b) := fun _ _ => rfl
  have heq : ∀ a b : Int, (a == b) = decide (a = b) := fun _ _ => rfl
  simp only [hne, heq]
  generalize decide (name = ByteArray.empty) = dn
  generalize decide (cols = []) = dc
  by_cases h0 : k = 0
  · subst h0
    cases dn <;> cases dc <;> cases slot <;> cases wordOk name <;> simp <;> grind
  by_cases h1 : k = 1
  · subst h1
    cases dn <;> cases dc <;> cases slot <;> simp [okIn] <;> grind
  by_cases h2 : k = 2
  · subst h2
    cases dn <;> cases dc <;> cases slot <;> cases cols.all (fun c => okIn c 0 63) <;> cases okIn cols.length 1 6 <;> simp <;> grind
  by_cases h3 : k = 3
  · subst h3
    cases dn <;> cases dc <;> cases slot <;> simp [okIn] <;> grind
  by_cases h5 : k = 5
  · subst h5
    cases dn <;> cases dc <;> cases slot <;> simp [okIn] <;> grind
  by_cases h6 : k = 6
  · subst h6
    cases dn <;> cases dc <;> cases slot <;> simp [okIn] <;> grind
  by_cases h4 : k = 4
  · subst h4
    cases dn <;> cases dc <;> cases slot <;> simp [okIn] <;> grind
  by_cases h7 : k = 7
  · subst h7
    cases dn <;> cases dc <;> cases slot <;> simp [okIn] <;> grind
  cases dn <;> cases dc <;> cases slot <;> simp [h0, h1, h2, h3, h4, h5, h6, h7] <;> grind)
end Go.Proofs.YtglbcdlplbomdaaX
namespace Go.Proofs.YtglbcdlplbomdaaX
open Go Go.Proofs.YtglbcdlplbomdaaT PT
set_option linter.all false
structure BPlan (p : List Nd) : Prop where
  len : p.length ≤ 1073741824
  nodes : ∀ n ∈ p, BNode n
theorem mem_of_get {T : Type} {l : List T} {i : Nat} {x : T} (h : l[i]? = some x) : x ∈ l := List.mem_of_getElem? h
theorem V_impl_PlanOk_1 {n : SNode} (hb : BNode n) : F_impl_PlanOk_1 n = some (!nodeOk n) := (U_impl_PlanOk_1 n).out (by
  obtain ⟨k, name, col, op, num, slot, cols, u⟩ := n
  have hb' : BNode (k, name, col, op, num, slot, cols, ()) := hb
  simp only [V_impl_NodeOk hb', Option.bind_some])
theorem V_slices_IndexFunc_LimplNode_impl_PlanOk_1 {l : List SNode} (hb : BPlan l) : F_slices_IndexFunc_LimplNode_impl_PlanOk_1 l = some (fint (findI (fun x => !nodeOk x) l 0)) := (U_slices_IndexFunc_LimplNode_impl_PlanOk_1 l).out (by
  have e := loop_find (f := fun f s => L_slices_IndexFunc_LimplNode_impl_PlanOk_1x0 l f s.1 s.2) l (fun x => !nodeOk x) (fun i => (i : Int))
    (fun i x v g hx => by
      have l1 := (List.getElem?_eq_some_iff.1 hx).1
      have := hb.len
      simp only [L_slices_IndexFunc_LimplNode_impl_PlanOk_1x0, lt_nat hx, cond_true, ix_some hx, Option.bind_some, V_impl_PlanOk_1 (hb.nodes x (mem_of_get hx)), wrap_nat (show i < 9223372036854775807 by omega)])
    (fun v g => by simp [L_slices_IndexFunc_LimplNode_impl_PlanOk_1x0]) 0
  rw [e]
  cases findI (fun x => !nodeOk x) l 0 <;> simp [fint])
theorem V_slices_ContainsFunc_LimplNode_impl_PlanOk_1 {l : List SNode} (hb : BPlan l) : F_slices_ContainsFunc_LimplNode_impl_PlanOk_1 l = some (l.any fun x => !nodeOk x) := (U_slices_ContainsFunc_LimplNode_impl_PlanOk_1 l).out (by
  simp only [V_slices_IndexFunc_LimplNode_impl_PlanOk_1 hb, Option.bind_some, fint_ge])
theorem parse_len : ∀ {r : Nat} {l : List Nd} {t : PT} {q : List Nd}, parse r l = some (t, q) → q.length < l.length
  | 0, _, _, _, h => by simp [parse] at h
  | r + 1, [], _, _, h => by simp [parse] at h
  | r + 1, n :: l, t, q, h => by
    simp only [parse] at h
    split at h
    · split at h
      · rename_i a q1 hp
        cases h
        have := parse_len hp
        simp; omega
      · cases h
    · split at h
      · split at h
        · rename_i a q1 hp
          have := parse_len hp
          split at h
          · rename_i b q2 hp2
            cases h
            have := parse_len hp2
            simp; omega
          · cases h
        · cases h
      · cases h; simp
theorem parse_drop {r : Nat} {l : List Nd} {t : PT} {q : List Nd} (h : parse r l = some (t, q)) : q = l.drop (l.length - q.length) := by
  suffices ∃ u, l = u ++ q by
    obtain ⟨u, rfl⟩ := this
    simp
  induction r generalizing l t q with
  | zero => simp [parse] at h
  | succ r ih =>
    cases l with
    | nil => simp [parse] at h
    | cons n l =>
      simp only [parse] at h
      split at h
      · split at h
        · rename_i a q1 hp
          cases h
          obtain ⟨u, rfl⟩ := ih hp
          exact ⟨n :: u, by simp⟩
        · cases h
      · split at h
        · split at h
          · rename_i a q1 hp
            split at h
            · rename_i b q2 hp2
              cases h
              obtain ⟨u, rfl⟩ := ih hp
              obtain ⟨v, rfl⟩ := ih hp2
              exact ⟨n :: (u ++ v), by simp⟩
            · cases h
          · cases h
        · cases h; exact ⟨[n], rfl⟩
def endM (p : List Nd) (r k : Nat) : Int := match parse r (p.drop k) with
  | some (_, q) => (p.length : Int) - q.length
  | none => -1
theorem endM_some {p : List Nd} {r k : Nat} {t : PT} {q : List Nd} (h : parse r (p.drop k) = some (t, q)) : ∃ j : Nat, endM p r k = (j : Int) ∧ k < j ∧ j ≤ p.length ∧ q = p.drop j := by
  have h1 := parse_len h
  have h2 := parse_drop h
  simp only [List.length_drop] at h1 h2
  refine ⟨p.length - q.length, ?_, by omega, by omega, ?_⟩
  · simp only [endM, h]; omega
  · rw [List.drop_drop, show k + (p.length - k - q.length) = p.length - q.length by omega] at h2
    exact h2
theorem wrap_sml {x : Int} (h : -9223372036854775808 ≤ x) (h' : x ≤ 9223372036854775807) : IntKind.i64.wrap x = x := by
  rw [IntKind.wrap_i64]; omega
theorem arity_cases {k : Int} (h : 0 ≤ arity k) : arity k = 0 ∨ arity k = 1 ∨ arity k = 2 := by
  revert h
  unfold arity
  repeat' split
  all_goals simp
theorem V_impl_end {p : List SNode} (hp : p.length ≤ 1073741824) (ha : ∀ n ∈ p, 0 ≤ arity n.1) : ∀ (r : Nat) (k : Nat) (d : Int), r ≤ 11 → d = 11 - r → F_impl_end p k d = some (endM p r k)
  | 0, k, d, _, hd => (U_impl_end p k d).out (by
    subst hd
    have : endM p 0 k = -1 := rfl
    rw [this]
    simp)
  | r + 1, k, d, hr, hd => (U_impl_end p k d).out (by
    have hd2 : decide (d > 10) = false := by simp; omega
    by_cases hk : k < p.length
    · have hx : p[k]? = some p[k] := List.getElem?_eq_getElem hk
      have h1 : decide ((k : Int) ≥ (p.length : Int)) = false := by simp; omega
      have hdr : p.drop k = p[k] :: p.drop (k + 1) := List.drop_eq_getElem_cons hk
      simp only [h1, cond_false, hd2, joinK_go, J_impl_endx0, ix_some hx, Option.bind_some, V_impl_ArityOf, wrap_nat (show k < 9223372036854775807 by omega)]
      have ha' := ha p[k] (mem_of_get hx)
      have ih := fun k => V_impl_end hp ha r k (IntKind.i64.wrap (d + 1)) (by omega) (by rw [wrap_sml (by omega) (by omega)]; omega)
      rcases arity_cases ha' with h | h | h
      · rw [h]
        rw [loopF_of (r := .go (0, ((k + 1 : Nat) : Int))) 1 (by
          intro n hn
          obtain ⟨m, rfl⟩ : ∃ m, n = m + 1 := ⟨n - 1, by omega⟩
          simp [loopK, L_impl_endx0])]
        simp only [joinK_go, J_impl_endx1, endM, hdr, parse, h]
        simp; omega
      · rw [h]
        cases hq : parse r (p.drop (k + 1)) with
        | none =>
          have e1 : endM p r (k + 1) = -1 := by simp only [endM, hq]
          rw [loopF_of (r := .ret (-1)) 1 (by
            intro n hn
            obtain ⟨m, rfl⟩ : ∃ m, n = m + 1 := ⟨n - 1, by omega⟩
            simp only [loopK, L_impl_endx0, ih, Option.bind_some, e1]
            simp)]
          simp only [joinK_ret, endM, hdr, parse, h, hq]
          simp
        | some x =>
          obtain ⟨t, q⟩ := x
          obtain ⟨j, e1, hj, hj2, hj3⟩ := endM_some hq
          rw [loopF_of (r := .go (0, (j : Int))) 2 (by
            intro n hn
            obtain ⟨m, rfl⟩ : ∃ m, n = m + 2 := ⟨n - 2, by omega⟩
            simp only [loopK, L_impl_endx0, ih, Option.bind_some, e1]
            simp)]
          simp only [joinK_go, J_impl_endx1, endM, hdr, parse, h, hq, if_true]
          rw [← e1]; simp only [endM, hq]
      · rw [h]
        cases hq : parse r (p.drop (k + 1)) with
        | none =>
          have e1 : endM p r (k + 1) = -1 := by simp only [endM, hq]
          rw [loopF_of (r := .ret (-1)) 1 (by
            intro n hn
            obtain ⟨m, rfl⟩ : ∃ m, n = m + 1 := ⟨n - 1, by omega⟩
            simp only [loopK, L_impl_endx0, ih, Option.bind_some, e1]
            simp)]
          simp only [joinK_ret, endM, hdr, parse, h, hq]
          simp
        | some x =>
          obtain ⟨t, q⟩ := x
          obtain ⟨j, e1, hj, hj2, hj3⟩ := endM_some hq
          subst hj3
          cases hq2 : parse r (p.drop j) with
          | none =>
            have e2 : endM p r j = -1 := by simp only [endM, hq2]
            rw [loopF_of (r := .ret (-1)) 2 (by
              intro n hn
              obtain ⟨m, rfl⟩ : ∃ m, n = m + 2 := ⟨n - 2, by omega⟩
              simp only [loopK, L_impl_endx0, ih, Option.bind_some, e1, e2]
              simp)]
            simp only [joinK_ret, endM, hdr, parse, h, hq, hq2]
            simp
          | some x =>
            obtain ⟨t2, q2⟩ := x
            obtain ⟨j2, e2, hj2, hj22, hj23⟩ := endM_some hq2
            rw [loopF_of (r := .go (0, (j2 : Int))) 3 (by
              intro n hn
              obtain ⟨m, rfl⟩ : ∃ m, n = m + 3 := ⟨n - 3, by omega⟩
              have w : IntKind.i64.wrap (1 + 1) = 2 := by rw [wrap_sml] <;> omega
              simp only [loopK, L_impl_endx0, ih, Option.bind_some, e1, e2]
              simp [w])]
            simp only [joinK_go, J_impl_endx1, endM, hdr, parse, h, hq, hq2, if_true]
            rw [← e2]; simp only [endM, hq2]
            simp
    · have h1 : decide ((k : Int) ≥ (p.length : Int)) = true := by simp; omega
      have hdr : p.drop k = [] := List.drop_eq_nil_of_le (by omega)
      simp only [h1, cond_true, joinK_go, J_impl_endx0, endM, hdr, parse])
end Go.Proofs.YtglbcdlplbomdaaX
namespace Go.Proofs.YtglbcdlplbomdaaX
open Go Go.Proofs.YtglbcdlplbomdaaT PT
set_option linter.all false
def endD (p : List Nd) (r k : Nat) : Int := match parse r (p.drop k) with
  | some (t, _) => t.depth
  | none => 0
theorem parse_depth : ∀ {r : Nat} {l : List Nd} {t : PT} {q : List Nd}, parse r l = some (t, q) → t.depth ≤ r
  | 0, _, _, _, h => by simp [parse] at h
  | r + 1, [], _, _, h => by simp [parse] at h
  | r + 1, n :: l, t, q, h => by
    simp only [parse] at h
    split at h
    · split at h
      · rename_i a q1 hp
        cases h
        have := parse_depth hp
        simp [PT.depth]; omega
      · cases h
    · split at h
      · split at h
        · rename_i a q1 hp
          have := parse_depth hp
          split at h
          · rename_i b q2 hp2
            cases h
            have := parse_depth hp2
            simp [PT.depth]; omega
          · cases h
        · cases h
      · cases h; simp [PT.depth]
theorem V_spec_l02End {p : List SNode} (hp : p.length ≤ 1073741824) (ha : ∀ n ∈ p, 0 ≤ arity n.1) : ∀ (r : Nat) (k : Nat) (d : Int), r ≤ 11 → d = r → F_spec_l02End p k d = some (endM p r k, endD p r k)
  | 0, k, d, _, hd => (U_spec_l02End p k d).out (by
    subst hd
    have h1 : endM p 0 k = -1 := rfl
    have h2 : endD p 0 k = 0 := rfl
    rw [h1, h2]
    simp)
  | r + 1, k, d, hr, hd => (U_spec_l02End p k d).out (by
    have hd2 : (d == 0) = false := by simp; omega
    by_cases hk : k < p.length
    · have hx : p[k]? = some p[k] := List.getElem?_eq_getElem hk
      have h1 : decide ((k : Int) ≥ (p.length : Int)) = false := by simp; omega
      have hdr : p.drop k = p[k] :: p.drop (k + 1) := List.drop_eq_getElem_cons hk
      simp only [h1, cond_false, hd2, joinK_go, J_spec_l02Endx0, wrap_nat (show k < 9223372036854775807 by omega)]
      have ha' := ha p[k] (mem_of_get hx)
      have ih := fun k => V_spec_l02End hp ha r k (IntKind.i64.wrap (d - 1)) (by omega) (by rw [wrap_sml (by omega) (by omega)]; omega)
      rcases arity_cases ha' with h | h | h
      · rw [loopF_of (r := .go (0, 0, ((k + 1 : Nat) : Int), 0)) 1 (by
          intro n hn
          obtain ⟨m, rfl⟩ : ∃ m, n = m + 1 := ⟨n - 1, by omega⟩
          simp only [loopK, L_spec_l02Endx0, ix_some hx, Option.bind_some, V_spec_ArityOf, h]
          simp)]
        simp only [joinK_go, J_spec_l02Endx1, endM, endD, hdr, parse, h]
        simp [PT.depth]; omega
      · cases hq : parse r (p.drop (k + 1)) with
        | none =>
          have e1 : endM p r (k + 1) = -1 := by simp only [endM, hq]
          rw [loopF_of (r := .ret ((-1), 0)) 1 (by
            intro n hn
            obtain ⟨m, rfl⟩ : ∃ m, n = m + 1 := ⟨n - 1, by omega⟩
            simp only [loopK, L_spec_l02Endx0, ix_some hx, Option.bind_some, V_spec_ArityOf, h, ih, e1]
            simp)]
          simp only [joinK_ret, endM, endD, hdr, parse, h, hq]
          simp
        | some x =>
          obtain ⟨t, q⟩ := x
          obtain ⟨j, e1, hj, hj2, hj3⟩ := endM_some hq
          have e1d : endD p r (k + 1) = (t.depth : Int) := by simp only [endD, hq]
          have hdp := parse_depth hq
          have hpos := t.depth_pos
          have hgt : decide ((t.depth : Int) > 0) = true := by simp; omega
          rw [loopF_of (r := .go (0, 0, (j : Int), (t.depth : Int))) 2 (by
            intro n hn
            obtain ⟨m, rfl⟩ : ∃ m, n = m + 2 := ⟨n - 2, by omega⟩
            simp only [loopK, L_spec_l02Endx0, ix_some hx, Option.bind_some, V_spec_ArityOf, h, ih, e1, e1d, hgt, cond_true]
            simp)]
          simp only [joinK_go, J_spec_l02Endx1, endM, endD, hdr, parse, h, hq, if_true, PT.depth]
          rw [← e1, wrap_nat (by omega)]; simp only [endM, hq]
      · cases hq : parse r (p.drop (k + 1)) with
        | none =>
          have e1 : endM p r (k + 1) = -1 := by simp only [endM, hq]
          rw [loopF_of (r := .ret ((-1), 0)) 1 (by
            intro n hn
            obtain ⟨m, rfl⟩ : ∃ m, n = m + 1 := ⟨n - 1, by omega⟩
            simp only [loopK, L_spec_l02Endx0, ix_some hx, Option.bind_some, V_spec_ArityOf, h, ih, e1]
            simp)]
          simp only [joinK_ret, endM, endD, hdr, parse, h, hq]
          simp
        | some x =>
          obtain ⟨t, q⟩ := x
          obtain ⟨j, e1, hj, hj2, hj3⟩ := endM_some hq
          have e1d : endD p r (k + 1) = (t.depth : Int) := by simp only [endD, hq]
          have hdp := parse_depth hq
          have hpos := t.depth_pos
          have hgt : decide ((t.depth : Int) > 0) = true := by simp; omega
          subst hj3
          cases hq2 : parse r (p.drop j) with
          | none =>
            have e2 : endM p r j = -1 := by simp only [endM, hq2]
            rw [loopF_of (r := .ret ((-1), 0)) 2 (by
              intro n hn
              obtain ⟨m, rfl⟩ : ∃ m, n = m + 2 := ⟨n - 2, by omega⟩
              simp only [loopK, L_spec_l02Endx0, ix_some hx, Option.bind_some, V_spec_ArityOf, h, ih, e1, e2, e1d, hgt, cond_true]
              simp [ih, e2])]
            simp only [joinK_ret, endM, endD, hdr, parse, h, hq, hq2]
            simp
          | some x =>
            obtain ⟨t2, q2⟩ := x
            obtain ⟨j2, e2, hj2, hj22, hj23⟩ := endM_some hq2
            have e2d : endD p r j = (t2.depth : Int) := by simp only [endD, hq2]
            have hdp2 := parse_depth hq2
            rw [loopF_of (r := .go (0, 0, (j2 : Int), ((max t.depth t2.depth : Nat) : Int))) 3 (by
              intro n hn
              obtain ⟨m, rfl⟩ : ∃ m, n = m + 3 := ⟨n - 3, by omega⟩
              have w : IntKind.i64.wrap (1 + 1) = 2 := by rw [wrap_sml] <;> omega
              simp only [loopK, L_spec_l02Endx0, ix_some hx, Option.bind_some, V_spec_ArityOf, h, ih, e1, e1d, hgt, cond_true]
              simp only [ih, e2, e2d, joinK_go, J_spec_l02Endx2, joinK_bind, joinK_bif, Option.bind_some, nat_neg, cond_false]
              by_cases hm : t2.depth > t.depth
              · have hmd : decide ((t2.depth : Int) > (t.depth : Int)) = true := by simp; omega
                rw [hmd, show max t.depth t2.depth = t2.depth by omega]
                simp [w]
              · have hmd : decide ((t2.depth : Int) > (t.depth : Int)) = false := by simp; omega
                rw [hmd, show max t.depth t2.depth = t.depth by omega]
                simp [w])]
            simp only [joinK_go, J_spec_l02Endx1, endM, endD, hdr, parse, h, hq, hq2, if_true, PT.depth]
            rw [← e2, wrap_nat (by omega)]; simp only [endM, hq2]
            simp [PT.depth]
    · have h1 : decide ((k : Int) ≥ (p.length : Int)) = true := by simp; omega
      have hdr : p.drop k = [] := List.drop_eq_nil_of_le (by omega)
      simp only [h1, cond_true, joinK_go, J_spec_l02Endx0, endM, endD, hdr, parse])
theorem planOk_eq (p : List Nd) (hn : p.all nodeOk = true) : (decide (endM p 10 0 = (p.length : Int)) && okIn p.length 1 40) = planOk p := by
  cases hl : okIn p.length 1 40 with
  | false => simp [planOk, planT, hl]
  | true =>
    simp only [planOk, planT, hl, hn, and_self, if_true, Bool.and_true, endM, List.drop_zero]
    have hl' := okIn_iff.1 hl
    cases h : parse 10 p with
    | none => simp
    | some x =>
      obtain ⟨t, q⟩ := x
      have := parse_len h
      cases q with
      | nil => simp
      | cons a q => simp at this ⊢; omega
theorem planOk_not {p : List Nd} (h : okIn p.length 1 40 = false ∨ p.all nodeOk = false) : planOk p = false := by
  rcases h with h | h <;> simp [planOk, planT, h]
theorem V_impl_PlanOk {p : List SNode} (hb : BPlan p) : F_impl_PlanOk p = some (planOk p) := (U_impl_PlanOk p).out (by
  simp only [V_impl_in, Option.bind_some, V_slices_ContainsFunc_LimplNode_impl_PlanOk_1 hb, joinK_bif, joinK_go, J_impl_PlanOkx0]
  cases hl : okIn p.length 1 40 with
  | false => simp [planOk_not (.inl hl)]
  | true =>
    rw [← Bool.not_not (p.any _), all_not_any]
    cases hn : p.all nodeOk with
    | false => simp [planOk_not (.inr hn)]
    | true =>
      have e := V_impl_end (p := p) hb.len (fun n hm => nodeOk_arity (by have := List.all_eq_true.1 hn n hm; simpa using this)) 10 0 1 (by omega) (by omega)
      rw [show ((0 : Nat) : Int) = 0 from rfl] at e
      simp only [e, Option.bind_some, Bool.not_true, cond_false, beq_dec, ← planOk_eq p hn, hl, Bool.and_true])
theorem V_spec_PlanOk {p : List SNode} (hb : BPlan p) : F_spec_PlanOk p = some (planOk p) := (U_spec_PlanOk p).out (by
  simp only [V_spec_l01In, Option.bind_some]
  have e := loop_chk (f := fun f s => L_spec_PlanOkx0 p f s.1 s.2) p (fun _ x => nodeOk x) false
    (fun i x v g hx => by
      have l1 := (List.getElem?_eq_some_iff.1 hx).1
      have := hb.len
      simp only [L_spec_PlanOkx0, lt_nat hx, cond_true, ix_some hx, Option.bind_some, V_spec_NodeOk (hb.nodes x (mem_of_get hx)), wrap_nat (show i < 9223372036854775807 by omega)]
      cases nodeOk x <;> rfl)
    (fun v g => by simp [L_spec_PlanOkx0]) false
  rw [e, allI_const]
  cases hl : okIn p.length 1 40 with
  | false => simp [planOk_not (.inl hl)]
  | true =>
    cases hn : p.all nodeOk with
    | false => simp [planOk_not (.inr hn)]
    | true =>
      have e := V_spec_l02End (p := p) hb.len (fun n hm => nodeOk_arity (by have := List.all_eq_true.1 hn n hm; simpa using this)) 10 0 10 (by omega) (by omega)
      rw [show ((0 : Nat) : Int) = 0 from rfl] at e
      simp only [e, Option.bind_some, Bool.not_true, cond_false, cond_true, joinK_go, J_spec_PlanOkx0, beq_dec, ← planOk_eq p hn, hl, Bool.and_true])
structure Good (t : PT) : Prop where
  ok : t.ok
  deep : t.depth ≤ 10
  nodes : ∀ n ∈ t.flat, nodeOk n = true
theorem PlanT.good {t : PT} (h : PlanT t) : Good t := ⟨h.ok, h.deep, h.nodes⟩
theorem Good.c1 {n : Nd} {a : PT} (h : Good (.n1 n a)) : Good a := ⟨h.ok.2, by have := h.deep; simp [PT.depth] at this; omega, fun m hm => h.nodes m (by simp [PT.flat, hm])⟩
theorem Good.l2 {n : Nd} {a b : PT} (h : Good (.n2 n a b)) : Good a := ⟨h.ok.2.1, by have := h.deep; simp [PT.depth] at this; omega, fun m hm => h.nodes m (by simp [PT.flat, hm])⟩
theorem Good.r2 {n : Nd} {a b : PT} (h : Good (.n2 n a b)) : Good b := ⟨h.ok.2.2, by have := h.deep; simp [PT.depth] at this; omega, fun m hm => h.nodes m (by simp [PT.flat, hm])⟩
theorem Good.hd {t : PT} (h : Good t) : nodeOk t.hd = true := h.nodes _ (by cases t <;> simp [PT.flat, PT.hd])
structure Pl (p : List Nd) : Prop where
  len : p.length ≤ 1073741824
  ar : ∀ n ∈ p, 0 ≤ arity n.1
theorem PlanT.pl {t : PT} (h : PlanT t) : Pl t.flat := ⟨by have := h.size; simp only [len_flat]; omega, fun n hn => nodeOk_arity (h.nodes n hn)⟩
theorem At.endM {p : List Nd} {k : Nat} {t : PT} (h : At p k t) (g : Good t) : endM p 10 k = ((k + t.size : Nat) : Int) := by
  have hp : parse 10 (p.drop k) = some (t, p.drop (k + t.size)) := by rw [h.rest]; exact flat_parse g.ok g.deep
  have := h.le
  simp only [_root_.Go.Proofs.YtglbcdlplbomdaaX.endM, hp, List.length_drop]
  omega
theorem At.endD {p : List Nd} {k : Nat} {t : PT} (h : At p k t) (g : Good t) : endD p 10 k = (t.depth : Int) := by
  have hp : parse 10 (p.drop k) = some (t, p.drop (k + t.size)) := by rw [h.rest]; exact flat_parse g.ok g.deep
  simp only [_root_.Go.Proofs.YtglbcdlplbomdaaX.endD, hp]
theorem At.V_end {p : List SNode} {k : Nat} {t : PT} (h : At p k t) (g : Good t) (hp : Pl p) : F_impl_end p k 1 = some ((k + t.size : Nat) : Int) := by
  rw [V_impl_end hp.len hp.ar 10 k 1 (by omega) (by omega), h.endM g]
theorem At.V_l02End {p : List SNode} {k : Nat} {t : PT} (h : At p k t) (g : Good t) (hp : Pl p) : F_spec_l02End p k 10 = some (((k + t.size : Nat) : Int), (t.depth : Int)) := by
  rw [V_spec_l02End hp.len hp.ar 10 k 10 (by omega) (by omega), h.endM g, h.endD g]
def kids (k : Nat) : PT → List Int
  | .n0 _ => []
  | .n1 _ _ => [((k + 1 : Nat) : Int)]
  | .n2 _ a _ => [((k + 1 : Nat) : Int), ((k + 1 + a.size : Nat) : Int)]
theorem At.V_children {p : List SNode} {k : Nat} {t : PT} (h : At p k t) (g : Good t) (hp : Pl p) : F_impl_children p k = some (kids k t) := (U_impl_children p k).out (by
  have hle := h.le
  have hl := hp.len
  have hx := h.hd
  simp only [ix_some hx, Option.bind_some, V_impl_ArityOf, wrap_nat (show k < 9223372036854775807 by omega)]
  cases t with
  | n0 n =>
    have ha : arity n.1 = 0 := g.ok
    simp only [PT.hd, ha]
    rw [loopF_of (r := .go []) 1 (by
      intro n hn
      obtain ⟨m, rfl⟩ : ∃ m, n = m + 1 := ⟨n - 1, by omega⟩
      simp [loopK, L_impl_childrenx0])]
    simp [kids]
  | n1 n a =>
    have ha : arity n.1 = 1 := g.ok.1
    have e := h.c1.V_end g.c1 hp
    simp only [PT.hd, ha]
    rw [loopF_of (r := .go [((k + 1 : Nat) : Int)]) 2 (by
      intro n hn
      obtain ⟨m, rfl⟩ : ∃ m, n = m + 2 := ⟨n - 2, by omega⟩
      simp only [loopK, L_impl_childrenx0, e, Option.bind_some]
      rw [apx_some (by simp)]
      simp [e])]
    simp [kids]
  | n2 n a b =>
    have ha : arity n.1 = 2 := g.ok.1
    have e := h.l2.V_end g.l2 hp
    have e2 := h.r2.V_end g.r2 hp
    simp only [PT.hd, ha]
    rw [loopF_of (r := .go [((k + 1 : Nat) : Int), ((k + 1 + a.size : Nat) : Int)]) 3 (by
      intro n hn
      obtain ⟨m, rfl⟩ : ∃ m, n = m + 3 := ⟨n - 3, by omega⟩
      have w : IntKind.i64.wrap (1 + 1) = 2 := by rw [wrap_sml] <;> omega
      simp only [loopK, L_impl_childrenx0, e, Option.bind_some]
      rw [apx_some (by simp)]
      simp only [Option.bind_some]
      rw [apx_some (by simp)]
      simp only [Option.bind_some, e, e2]
      simp [w])]
    simp [kids])
theorem At.V_l02Kids {p : List SNode} {k : Nat} {t : PT} (h : At p k t) (g : Good t) (hp : Pl p) : F_spec_l02Kids p k = some (kids k t) := (U_spec_l02Kids p k).out (by
  have hle := h.le
  have hl := hp.len
  have hx := h.hd
  simp only [wrap_nat (show k < 9223372036854775807 by omega)]
  cases t with
  | n0 n =>
    have ha : arity n.1 = 0 := g.ok
    rw [loopF_of (r := .go []) 1 (by
      intro n hn
      obtain ⟨m, rfl⟩ : ∃ m, n = m + 1 := ⟨n - 1, by omega⟩
      simp only [loopK, L_spec_l02Kidsx0, ix_some hx, Option.bind_some, V_spec_ArityOf, PT.hd, ha]
      simp)]
    simp [kids]
  | n1 n a =>
    have ha : arity n.1 = 1 := g.ok.1
    have e := h.c1.V_l02End g.c1 hp
    rw [loopF_of (r := .go [((k + 1 : Nat) : Int)]) 2 (by
      intro n hn
      obtain ⟨m, rfl⟩ : ∃ m, n = m + 2 := ⟨n - 2, by omega⟩
      simp only [loopK, L_spec_l02Kidsx0, e, Option.bind_some, ix_some hx, V_spec_ArityOf, PT.hd, ha]
      rw [apx_some (by simp)]
      simp [e])]
    simp [kids]
  | n2 n a b =>
    have ha : arity n.1 = 2 := g.ok.1
    have e := h.l2.V_l02End g.l2 hp
    have e2 := h.r2.V_l02End g.r2 hp
    rw [loopF_of (r := .go [((k + 1 : Nat) : Int), ((k + 1 + a.size : Nat) : Int)]) 3 (by
      intro n hn
      obtain ⟨m, rfl⟩ : ∃ m, n = m + 3 := ⟨n - 3, by omega⟩
      have w : IntKind.i64.wrap (1 + 1) = 2 := by rw [wrap_sml] <;> omega
      simp only [loopK, L_spec_l02Kidsx0, e, Option.bind_some, ix_some hx, V_spec_ArityOf, PT.hd, ha]
      rw [apx_some (by simp)]
      simp only [Option.bind_some]
      rw [apx_some (by simp)]
      simp only [Option.bind_some, e, e2]
      simp [w])]
    simp [kids])
end Go.Proofs.YtglbcdlplbomdaaX
namespace Go.Proofs.YtglbcdlplbomdaaX
open Go Go.Proofs.YtglbcdlplbomdaaT PT
set_option linter.all false
structure BSch (s : List Tb) : Prop where
  len : s.length ≤ 1073741824
  names : ∀ t ∈ s, t.1.size ≤ 2147483648
def schP (s : List Tb) (i : Nat) (x : Tb) : Bool := wordOk x.1 && okIn x.2.1 1 6 && (decide (i = 0) || match s[i - 1]? with | some y => less y.1 x.1 | none => true)
def schemaOk (s : List Tb) : Bool := allI (schP s) s 0 && decide (s.length ≤ 8)
theorem V_impl_SchemaOk {s : List STable} (hb : BSch s) : F_impl_SchemaOk s = some (schemaOk s) := (U_impl_SchemaOk s).out (by
  have e := loop_chk (f := fun f z => L_impl_SchemaOkx0 s f z.1 z.2) s (schP s) false
    (fun i x v g hx => by
      have l1 := (List.getElem?_eq_some_iff.1 hx).1
      have hl := hb.len
      have hw := hb.names x (mem_of_get hx)
      have hi : decide ((i : Int) > 0) = !decide (i = 0) := by
        by_cases h : i = 0
        · simp [h]
        · simp [h]; omega
      simp only [L_impl_SchemaOkx0, lt_nat hx, cond_true, ix_some hx, Option.bind_some, V_impl_WordOk hw, V_impl_in, hi, wrap_nat (show i < 9223372036854775807 by omega)]
      by_cases h : i = 0
      · subst h
        cases h1 : wordOk x.1 <;> cases h2 : okIn x.2.1 1 6 <;> simp [schP, h1, h2]
      · have hy : s[i - 1]? = some s[i - 1] := List.getElem?_eq_getElem (by omega)
        have hwr : IntKind.i64.wrap ((i : Int) - 1) = ((i - 1 : Nat) : Int) := by rw [wrap_sml] <;> omega
        have hw1 := wrap_nat (show i < 9223372036854775807 by omega)
        simp only [hwr, ix_some hy]
        cases h1 : wordOk x.1 <;> cases h2 : okIn x.2.1 1 6 <;> cases h3 : less s[i - 1].1 x.1 <;> simp [schP, h, hy, less_def, h1, h2, h3, hw1])
    (fun v g => by simp [L_impl_SchemaOkx0]) false
  rw [e]
  simp only [schemaOk]
  cases allI (schP s) s 0 <;> simp <;> omega)
theorem V_spec_SchemaOk {s : List STable} (hb : BSch s) : F_spec_SchemaOk s = some (schemaOk s) := (U_spec_SchemaOk s).out (by
  have e := loop_chk (f := fun f z => L_spec_SchemaOkx0 s f z.1 z.2) s (schP s) false
    (fun i x v g hx => by
      have l1 := (List.getElem?_eq_some_iff.1 hx).1
      have hl := hb.len
      have hw := hb.names x (mem_of_get hx)
      have hi : decide ((i : Int) > 0) = !decide (i = 0) := by
        by_cases h : i = 0
        · simp [h]
        · simp [h]; omega
      simp only [L_spec_SchemaOkx0, lt_nat hx, cond_true, ix_some hx, Option.bind_some, V_spec_WordOk, V_spec_l01In, hi, wrap_nat (show i < 9223372036854775807 by omega)]
      by_cases h : i = 0
      · subst h
        cases h1 : wordOk x.1 <;> cases h2 : okIn x.2.1 1 6 <;> simp [schP, h1, h2]
      · have hy : s[i - 1]? = some s[i - 1] := List.getElem?_eq_getElem (by omega)
        have hwr : IntKind.i64.wrap ((i : Int) - 1) = ((i - 1 : Nat) : Int) := by rw [wrap_sml] <;> omega
        have hw1 := wrap_nat (show i < 9223372036854775807 by omega)
        simp only [hwr, ix_some hy, V_spec_l01Less (hb.names _ (mem_of_get hy)), Option.bind_some]
        cases h1 : wordOk x.1 <;> cases h2 : okIn x.2.1 1 6 <;> cases h3 : less s[i - 1].1 x.1 <;> simp [schP, h, hy, h1, h2, h3, hw1])
    (fun v g => by simp [L_spec_SchemaOkx0]) false
  rw [e]
  simp only [schemaOk]
  by_cases h : s.length ≤ 8
  · have h' : decide ((s.length : Int) > 8) = false := by simp; omega
    rw [h']
    cases allI (schP s) s 0 <;> simp [h]
  · have h' : decide ((s.length : Int) > 8) = true := by simp; omega
    rw [h']
    simp [h])
theorem allI_get {T : Type} {p : Nat → T → Bool} : ∀ {l : List T} {k : Nat}, allI p l k = true → ∀ {i : Nat} {x : T}, l[i]? = some x → p (k + i) x = true
  | [], _, _, _, _, h => by simp at h
  | y :: l, k, h, i, x, hx => by
    simp only [allI, Bool.and_eq_true] at h
    cases i with
    | zero => simp at hx; subst hx; exact h.1
    | succ i =>
      have := allI_get h.2 (i := i) (x := x) (by simpa using hx)
      rw [show k + (i + 1) = k + 1 + i by omega]; exact this
theorem schemaOk_get {s : List Tb} (h : schemaOk s = true) {t : Tb} (ht : t ∈ s) : wordOk t.1 = true ∧ 1 ≤ t.2.1 ∧ t.2.1 ≤ 6 := by
  simp only [schemaOk, Bool.and_eq_true] at h
  obtain ⟨i, hi⟩ := List.mem_iff_getElem?.1 ht
  have := allI_get h.1 hi
  simp only [schP, Bool.and_eq_true, okIn_iff] at this
  exact ⟨this.1.1, this.1.2⟩
theorem schemaOk_len {s : List Tb} (h : schemaOk s = true) : s.length ≤ 8 := by
  simp only [schemaOk, Bool.and_eq_true, decide_eq_true_eq] at h
  exact h.2
def tabAt (s : List Tb) (name : ByteArray) : Option Nat := findI (fun t => decide (t.1 = name)) s 0
theorem V_impl_tableAt_1 (t : STable) (n : ByteArray) : F_impl_tableAt_1 t n = some (decide (t.1 = n), n) := (U_impl_tableAt_1 t n).out (by rw [beq_toList])
theorem V_slices_IndexFunc_LimplTable_impl_tableAt_1 {s : List STable} (hl : s.length ≤ 1073741824) (name : ByteArray) : F_slices_IndexFunc_LimplTable_impl_tableAt_1 s name = some (fint (tabAt s name), name) := (U_slices_IndexFunc_LimplTable_impl_tableAt_1 s name).out (by
  have := loop_findC (f := fun f z => L_slices_IndexFunc_LimplTable_impl_tableAt_1x0 s f z.1 z.2.1 z.2.2) s (fun t => decide (t.1 = name)) name
    (fun i x a g hx => by
      have l1 := (List.getElem?_eq_some_iff.1 hx).1
      simp only [L_slices_IndexFunc_LimplTable_impl_tableAt_1x0, lt_nat hx, cond_true, ix_some hx, Option.bind_some, V_impl_tableAt_1, wrap_nat (show i < 9223372036854775807 by omega)])
    (fun a g => by simp [L_slices_IndexFunc_LimplTable_impl_tableAt_1x0]) 0
  rw [this]
  simp only [tabAt]
  cases findI (fun t => decide (t.1 = name)) s 0 <;> simp [fint])
theorem V_impl_tableAt {s : List STable} (hl : s.length ≤ 1073741824) (name : ByteArray) : F_impl_tableAt s name = some (fint (tabAt s name)) := (U_impl_tableAt s name).out (by
  simp [V_slices_IndexFunc_LimplTable_impl_tableAt_1 hl])
theorem V_spec_l03Find {s : List STable} (hl : s.length ≤ 1073741824) (name : ByteArray) : F_spec_l03Find s name = some (fint (tabAt s name)) := (U_spec_l03Find s name).out (by
  have := loop_find (f := fun f z => L_spec_l03Findx0 s name f z.1 z.2) s (fun t => decide (t.1 = name)) (fun i => (i : Int))
    (fun i x a g hx => by
      have l1 := (List.getElem?_eq_some_iff.1 hx).1
      simp only [L_spec_l03Findx0, lt_nat hx, cond_true, ix_some hx, Option.bind_some, beq_toList, wrap_nat (show i < 9223372036854775807 by omega)])
    (fun a g => by simp [L_spec_l03Findx0]) 0
  rw [this]
  simp only [tabAt]
  cases findI (fun t => decide (t.1 = name)) s 0 <;> simp [fint])
theorem tabAt_some {s : List Tb} {name : ByteArray} {j : Nat} (h : tabAt s name = some j) : ∃ t, s[j]? = some t ∧ t.1 = name ∧ t ∈ s := by
  obtain ⟨_, t, h1, h2⟩ := findI_some h
  simp only [Nat.sub_zero, decide_eq_true_eq] at h1 h2
  exact ⟨t, h1, h2, mem_of_get h1⟩
def oint (o : Option Int) : Int := match o with | some x => x | none => -1
def wT (s : List Tb) : PT → Option Int
  | .n0 n => match tabAt s n.2.1 with
    | some j => match s[j]? with
      | some t => some t.2.1
      | none => none
    | none => none
  | .n1 n a => match wT s a with
    | none => none
    | some w => if n.1 = 2 then (if n.2.2.2.2.2.2.1.all (fun c => decide (c < w)) = true then some n.2.2.2.2.2.2.1.length else none)
      else if n.1 = 1 ∨ n.1 = 5 then (if n.2.2.1 < w then some w else none) else some w
  | .n2 n a b => match wT s a, wT s b with
    | some w, some v => if n.1 = 3 then (if n.2.2.1 < w ∧ n.2.2.2.2.1 < v ∧ w + v ≤ 64 then some (w + v) else none) else if w = v then some w else none
    | _, _ => none
theorem kind0 {n : Nd} (h : arity n.1 = 0) : n.1 = 0 := by
  revert h; unfold arity; repeat' split
  all_goals simp_all
theorem kind1 {n : Nd} (h : arity n.1 = 1) : n.1 = 1 ∨ n.1 = 2 ∨ n.1 = 5 ∨ n.1 = 6 ∨ n.1 = 7 := by
  revert h; unfold arity; repeat' split
  all_goals simp_all
theorem kind2 {n : Nd} (h : arity n.1 = 2) : n.1 = 3 ∨ n.1 = 4 := by
  revert h; unfold arity; repeat' split
  all_goals simp_all
theorem nodeOk_keep {n : Nd} (h : nodeOk n = true) (hk : n.1 = 2) : 1 ≤ n.2.2.2.2.2.2.1.length ∧ n.2.2.2.2.2.2.1.length ≤ 6 ∧ ∀ c ∈ n.2.2.2.2.2.2.1, 0 ≤ c ∧ c ≤ 63 := by
  obtain ⟨k, name, col, op, num, slot, cols, u⟩ := n
  simp only at hk
  subst hk
  simp [nodeOk, okIn] at h
  refine ⟨by simp only; omega, by simp only; omega, ?_⟩
  intro c hc
  exact h.2.1.1.1.1 c hc
theorem wT_range {s : List Tb} (hs : schemaOk s = true) : ∀ {t : PT} {w : Int}, Good t → wT s t = some w → 1 ≤ w ∧ w ≤ 64
  | .n0 n, w, g, h => by
    simp only [wT] at h
    split at h
    · rename_i j hj
      split at h
      · rename_i t ht
        cases h
        have := schemaOk_get hs (mem_of_get ht)
        omega
      · cases h
    · cases h
  | .n1 n a, w, g, h => by
    simp only [wT] at h
    split at h
    · cases h
    · rename_i w' hw
      have := wT_range hs g.c1 hw
      split at h
      · rename_i hk
        split at h
        · cases h
          have := nodeOk_keep g.hd hk
          simp only [PT.hd] at this
          omega
        · cases h
      · split at h
        · split at h
          · cases h; exact this
          · cases h
        · cases h; exact this
  | .n2 n a b, w, g, h => by
    simp only [wT] at h
    split at h
    · rename_i w' v hw hv
      have h1 := wT_range hs g.l2 hw
      have h2 := wT_range hs g.r2 hv
      split at h
      · split at h
        · cases h; omega
        · cases h
      · split at h
        · cases h; exact h1
        · cases h
    · cases h
theorem V_slices_Max_Lint {l : List Int} (h1 : 1 ≤ l.length) (h2 : l.length ≤ 1073741824) : ∃ m, F_slices_Max_Lint l = some m ∧ ∀ w, decide (m ≥ w) = !l.all (fun c => decide (c < w)) := by
  suffices h : ∃ m, F_slices_Max_Lint l = some m ∧ ∀ w, m ≥ w ↔ l.all (fun c => decide (c < w)) = false by
    obtain ⟨m, h1, h2⟩ := h
    refine ⟨m, h1, fun w => ?_⟩
    cases hb : l.all (fun c => decide (c < w)) with
    | false => simp [(h2 w).2 hb]
    | true => simp only [Bool.not_true, decide_eq_false_iff_not]; intro hc; rw [(h2 w).1 hc] at hb; cases hb
  match l, h1 with
  | x :: l, _ =>
    refine ⟨l.foldl (fun a x => mmx true a x) x, (U_slices_Max_Lint (x :: l)).out ?_, ?_⟩
    · have hd : decide (((x :: l).length : Int) < 1) = false := by simp; omega
      rw [hd]
      have e := loop_fold (f := fun f z => L_slices_Max_Lintx0 (x :: l) f z.1 z.2) (fun i a => (a, ((i + 1 : Nat) : Int))) l (fun _ _ => True) (fun _ x a => mmx true a x)
        (fun i y a g hy _ => by
          have l1 := (List.getElem?_eq_some_iff.1 hy).1
          have hx : (x :: l)[i + 1]? = some y := by simpa using hy
          simp only [List.length_cons] at h2
          simp only [L_slices_Max_Lintx0, lt_nat hx, cond_true, ix_some hx, Option.bind_some, wrap_nat (show i + 1 < 9223372036854775807 by omega)])
        (fun _ _ _ _ _ => trivial) (fun a g _ => by simp [L_slices_Max_Lintx0]) x trivial
      rw [foldI_const (fun x a => mmx true a x)] at e
      have h0 : ix (x :: l) 0 = some x := by rw [show (0 : Int) = ((0 : Nat) : Int) from rfl, ix_nat]; rfl
      simp only [cond_false, joinK_go, J_slices_Max_Lintx0, h0, Option.bind_some]
      rw [show ((0 + 1 : Nat) : Int) = 1 from rfl] at e
      rw [e]; simp
    · intro w
      clear h2
      induction l generalizing x with
      | nil => simp
      | cons y l ih =>
        have ih := ih (mmx true x y) (by simp)
        simp only [List.foldl_cons]
        rw [ih]
        simp only [List.all_cons, mmx, cond_true]
        by_cases h : y > x
        · simp only [h, decide_true, cond_true]
          by_cases h3 : y < w
          · have : x < w := by omega
            simp [h3, this]
          · simp [h3]
        · simp only [h, decide_false, cond_false]
          by_cases h3 : x < w
          · have : y < w := by omega
            simp [h3, this]
          · simp [h3]
theorem ix0 {T : Type} (x : T) (l : List T) : ix (x :: l) 0 = some x := by rw [show (0 : Int) = ((0 : Nat) : Int) from rfl, ix_nat]; rfl
theorem ix1 {T : Type} (x y : T) (l : List T) : ix (x :: y :: l) 1 = some y := by rw [show (1 : Int) = ((1 : Nat) : Int) from rfl, ix_nat]; rfl
theorem V_impl_width {s : List STable} (hs : schemaOk s = true) {p : List SNode} (hp : Pl p) : ∀ (t : PT) (k : Nat), At p k t → Good t → F_impl_width s p k = some (oint (wT s t))
  | .n0 n, k, h, g => (U_impl_width s p k).out (by
    have hk := kind0 (n := n) g.ok
    have hx : p[k]? = some n := h.hd
    have hl := schemaOk_len hs
    simp only [h.V_children g hp, kids, Option.bind_some]
    rw [loopF_of (r := .go (0, [])) 1 (by
      intro n hn
      obtain ⟨m, rfl⟩ : ∃ m, n = m + 1 := ⟨n - 1, by omega⟩
      simp [loopK, L_impl_widthx0])]
    simp only [joinK_go, J_impl_widthx0, ix_some hx, Option.bind_some, hk, V_impl_tableAt (show s.length ≤ 1073741824 by omega), wT, joinK_bind, joinK_bif, fint_neg, beq_dec, decide_true, cond_true]
    cases ht : tabAt s n.2.1 with
    | none => simp [fint, oint]
    | some j =>
      obtain ⟨t, h1, _, _⟩ := tabAt_some ht
      simp only [fint_some, ix_some h1, h1]
      simp [oint])
  | .n1 n a, k, h, g => (U_impl_width s p k).out (by
    have hk := kind1 (n := n) g.ok.1
    have hx : p[k]? = some n := h.hd
    have ih := V_impl_width hs hp a (k + 1) h.c1 g.c1
    simp only [h.V_children g hp, kids, Option.bind_some]
    generalize ((k + 1 : Nat) : Int) = j1 at *
    cases hw : wT s a with
    | none =>
      rw [hw] at ih
      rw [loopF_of (r := .ret (-1)) 1 (by
        intro n hn
        obtain ⟨m, rfl⟩ : ∃ m, n = m + 1 := ⟨n - 1, by omega⟩
        simp only [loopK, L_impl_widthx0, ix0, Option.bind_some, ih, oint]
        simp)]
      simp [wT, hw, oint]
    | some w =>
      rw [hw] at ih
      have hr := wT_range hs g.c1 hw
      have hneg : decide (w < 0) = false := by simp; omega
      rw [loopF_of (r := .go (0, [w])) 2 (by
        intro n hn
        obtain ⟨m, rfl⟩ : ∃ m, n = m + 2 := ⟨n - 2, by omega⟩
        simp only [loopK, L_impl_widthx0, ix0, Option.bind_some, ih, oint, hneg]
        rw [apx_some (by simp)]
        simp)]
      simp only [joinK_go, J_impl_widthx0, ix_some hx, Option.bind_some, wT, hw]
      rcases hk with hk | hk | hk | hk | hk
      · simp only [hk]
        by_cases hc : n.2.2.1 < w
        · have : decide (n.2.2.1 ≥ w) = false := by simp; omega
          simp [ix0, this, hc, oint, hk]
        · have : decide (n.2.2.1 ≥ w) = true := by simp; omega
          simp [ix0, this, hc, oint, hk]
      · have hn := nodeOk_keep g.hd hk
        simp only [PT.hd] at hn
        obtain ⟨m, hm, hm2⟩ := V_slices_Max_Lint hn.1 (by omega)
        simp only [hk, hm, Option.bind_some, ix0, J_impl_widthx2, hm2 w]
        cases hc : n.2.2.2.2.2.2.1.all (fun c => decide (c < w)) <;> simp [oint, ix0, hm, hm2, hc, hk]
      · simp only [hk]
        by_cases hc : n.2.2.1 < w
        · have : decide (n.2.2.1 ≥ w) = false := by simp; omega
          simp [ix0, this, hc, oint, hk]
        · have : decide (n.2.2.1 ≥ w) = true := by simp; omega
          simp [ix0, this, hc, oint, hk]
      · simp [hk, ix0, oint]
      · simp [hk, ix0, oint])
  | .n2 n a b, k, h, g => (U_impl_width s p k).out (by
    have hk := kind2 (n := n) g.ok.1
    have hx : p[k]? = some n := h.hd
    have ih := V_impl_width hs hp a (k + 1) h.l2 g.l2
    have ih2 := V_impl_width hs hp b (k + 1 + a.size) h.r2 g.r2
    simp only [h.V_children g hp, kids, Option.bind_some]
    generalize ((k + 1 : Nat) : Int) = j1 at *
    generalize ((k + 1 + a.size : Nat) : Int) = j2 at *
    cases hw : wT s a with
    | none =>
      rw [hw] at ih
      rw [loopF_of (r := .ret (-1)) 1 (by
        intro n hn
        obtain ⟨m, rfl⟩ : ∃ m, n = m + 1 := ⟨n - 1, by omega⟩
        simp only [loopK, L_impl_widthx0, ix0, Option.bind_some, ih, oint]
        simp)]
      simp [wT, hw, oint]
    | some w =>
      rw [hw] at ih
      have hr := wT_range hs g.l2 hw
      have hneg : decide (w < 0) = false := by simp; omega
      cases hv : wT s b with
      | none =>
        rw [hv] at ih2
        rw [loopF_of (r := .ret (-1)) 2 (by
          intro n hn
          obtain ⟨m, rfl⟩ : ∃ m, n = m + 2 := ⟨n - 2, by omega⟩
          simp only [loopK, L_impl_widthx0, ix0, Option.bind_some, ih, oint, hneg]
          rw [apx_some (by simp)]
          simp [ix1, ih2, oint])]
        simp [wT, hw, hv, oint]
      | some v =>
        rw [hv] at ih2
        have hr2 := wT_range hs g.r2 hv
        have hneg2 : decide (v < 0) = false := by simp; omega
        rw [loopF_of (r := .go (0, [w, v])) 3 (by
          intro n hn
          obtain ⟨m, rfl⟩ : ∃ m, n = m + 3 := ⟨n - 3, by omega⟩
          have ww : IntKind.i64.wrap (1 + 1) = 2 := by rw [wrap_sml] <;> omega
          simp only [loopK, L_impl_widthx0, ix0, Option.bind_some, ih, oint, hneg]
          rw [apx_some (by simp)]
          simp [ix1, ih2, oint, hneg2]
          rw [apx_some (by simp)]
          simp [ww])]
        simp only [joinK_go, J_impl_widthx0, ix_some hx, Option.bind_some, wT, hw, hv]
        rcases hk with hk | hk
        · simp only [hk]
          have hwr : IntKind.i64.wrap (w + v) = w + v := by rw [wrap_sml] <;> omega
          have d1 : decide (n.2.2.1 ≥ w) = !decide (n.2.2.1 < w) := by by_cases h : n.2.2.1 < w <;> simp [h] <;> omega
          have d2 : decide (n.2.2.2.2.1 ≥ v) = !decide (n.2.2.2.2.1 < v) := by by_cases h : n.2.2.2.2.1 < v <;> simp [h] <;> omega
          have d3 : decide (w + v > 64) = !decide (w + v ≤ 64) := by by_cases h : w + v ≤ 64 <;> simp [h] <;> omega
          by_cases h1 : n.2.2.1 < w <;> by_cases h2 : n.2.2.2.2.1 < v <;> by_cases h3 : w + v ≤ 64 <;> simp [ix0, ix1, hwr, d1, d2, d3, h1, h2, h3, oint, hk]
        · simp only [hk]
          by_cases h1 : w = v <;> simp [ix0, ix1, h1, oint, bne_dec, hk])
end Go.Proofs.YtglbcdlplbomdaaX
namespace Go.Proofs.YtglbcdlplbomdaaX
open Go Go.Proofs.YtglbcdlplbomdaaT PT
set_option linter.all false
theorem V_spec_l03Width {s : List STable} (hs : schemaOk s = true) {p : List SNode} (hp : Pl p) : ∀ (t : PT) (k : Nat), At p k t → Good t → F_spec_l03Width s p k = some (oint (wT s t))
  | .n0 n, k, h, g => (U_spec_l03Width s p k).out (by
    have hk := kind0 (n := n) g.ok
    have hx : p[k]? = some n := h.hd
    have hl := schemaOk_len hs
    simp only [ix_some hx, h.V_l02Kids g hp, kids, Option.bind_some]
    rw [loopF_of (r := .go (0, [])) 1 (by
      intro n hn
      obtain ⟨m, rfl⟩ : ∃ m, n = m + 1 := ⟨n - 1, by omega⟩
      simp [loopK, L_spec_l03Widthx0])]
    simp only [joinK_go, J_spec_l03Widthx0, ix_some hx, Option.bind_some, hk, V_spec_l03Find (show s.length ≤ 1073741824 by omega), wT, joinK_bind, joinK_bif, fint_neg, beq_dec, decide_true, cond_true]
    cases ht : tabAt s n.2.1 with
    | none => simp [fint, oint]
    | some j =>
      obtain ⟨t, h1, _, _⟩ := tabAt_some ht
      simp only [fint_some, ix_some h1, h1]
      simp [oint])
  | .n1 n a, k, h, g => (U_spec_l03Width s p k).out (by
    have hk := kind1 (n := n) g.ok.1
    have hx : p[k]? = some n := h.hd
    have ih := V_spec_l03Width hs hp a (k + 1) h.c1 g.c1
    simp only [ix_some hx, h.V_l02Kids g hp, kids, Option.bind_some]
    generalize ((k + 1 : Nat) : Int) = j1 at *
    cases hw : wT s a with
    | none =>
      rw [hw] at ih
      rw [loopF_of (r := .ret (-1)) 1 (by
        intro n hn
        obtain ⟨m, rfl⟩ : ∃ m, n = m + 1 := ⟨n - 1, by omega⟩
        simp only [loopK, L_spec_l03Widthx0, ix0, Option.bind_some, ih, oint]
        simp)]
      simp [wT, hw, oint]
    | some w =>
      rw [hw] at ih
      have hr := wT_range hs g.c1 hw
      have hneg : decide (w < 0) = false := by simp; omega
      rw [loopF_of (r := .go (0, [w])) 2 (by
        intro n hn
        obtain ⟨m, rfl⟩ : ∃ m, n = m + 2 := ⟨n - 2, by omega⟩
        simp only [loopK, L_spec_l03Widthx0, ix0, Option.bind_some, ih, oint, hneg]
        rw [apx_some (by simp)]
        simp)]
      simp only [joinK_go, J_spec_l03Widthx0, ix_some hx, Option.bind_some, wT, hw]
      rcases hk with hk | hk | hk | hk | hk
      · simp only [hk]
        by_cases hc : n.2.2.1 < w
        · have : decide (n.2.2.1 ≥ w) = false := by simp; omega
          simp [ix0, this, hc, oint, hk]
        · have : decide (n.2.2.1 ≥ w) = true := by simp; omega
          simp [ix0, this, hc, oint, hk]
      · have hn := nodeOk_keep g.hd hk
        simp only [PT.hd] at hn
        have e := loop_chk (f := fun f s => L_spec_l03Widthx1 n [w] f s.1 s.2) n.2.2.2.2.2.2.1 (fun _ c => decide (c < w)) (Ex.ret (-1))
          (fun i x v g hx => by
            have l1 := (List.getElem?_eq_some_iff.1 hx).1
            simp only [L_spec_l03Widthx1, lt_nat hx, cond_true, ix_some hx, Option.bind_some, ix0, wrap_nat (show i < 9223372036854775807 by omega)]
            by_cases h : x < w
            · have : decide (x ≥ w) = false := by simp; omega
              simp [h, this]
            · have : decide (x ≥ w) = true := by simp; omega
              simp [h, this])
          (fun v g => by simp [L_spec_l03Widthx1]) 0
        rw [allI_const] at e
        simp only [hk, joinK_bif, joinK_go, J_spec_l03Widthx2, e]
        cases hc : n.2.2.2.2.2.2.1.all (fun c => decide (c < w)) <;> simp [oint, ix0, hc, hk, e]
      · simp only [hk]
        by_cases hc : n.2.2.1 < w
        · have : decide (n.2.2.1 ≥ w) = false := by simp; omega
          simp [ix0, this, hc, oint, hk]
        · have : decide (n.2.2.1 ≥ w) = true := by simp; omega
          simp [ix0, this, hc, oint, hk]
      · simp [hk, ix0, oint]
      · simp [hk, ix0, oint])
  | .n2 n a b, k, h, g => (U_spec_l03Width s p k).out (by
    have hk := kind2 (n := n) g.ok.1
    have hx : p[k]? = some n := h.hd
    have ih := V_spec_l03Width hs hp a (k + 1) h.l2 g.l2
    have ih2 := V_spec_l03Width hs hp b (k + 1 + a.size) h.r2 g.r2
    simp only [ix_some hx, h.V_l02Kids g hp, kids, Option.bind_some]
    generalize ((k + 1 : Nat) : Int) = j1 at *
    generalize ((k + 1 + a.size : Nat) : Int) = j2 at *
    cases hw : wT s a with
    | none =>
      rw [hw] at ih
      rw [loopF_of (r := .ret (-1)) 1 (by
        intro n hn
        obtain ⟨m, rfl⟩ : ∃ m, n = m + 1 := ⟨n - 1, by omega⟩
        simp only [loopK, L_spec_l03Widthx0, ix0, Option.bind_some, ih, oint]
        simp)]
      simp [wT, hw, oint]
    | some w =>
      rw [hw] at ih
      have hr := wT_range hs g.l2 hw
      have hneg : decide (w < 0) = false := by simp; omega
      cases hv : wT s b with
      | none =>
        rw [hv] at ih2
        rw [loopF_of (r := .ret (-1)) 2 (by
          intro n hn
          obtain ⟨m, rfl⟩ : ∃ m, n = m + 2 := ⟨n - 2, by omega⟩
          simp only [loopK, L_spec_l03Widthx0, ix0, Option.bind_some, ih, oint, hneg]
          rw [apx_some (by simp)]
          simp [ix1, ih2, oint])]
        simp [wT, hw, hv, oint]
      | some v =>
        rw [hv] at ih2
        have hr2 := wT_range hs g.r2 hv
        have hneg2 : decide (v < 0) = false := by simp; omega
        rw [loopF_of (r := .go (0, [w, v])) 3 (by
          intro n hn
          obtain ⟨m, rfl⟩ : ∃ m, n = m + 3 := ⟨n - 3, by omega⟩
          have ww : IntKind.i64.wrap (1 + 1) = 2 := by rw [wrap_sml] <;> omega
          simp only [loopK, L_spec_l03Widthx0, ix0, Option.bind_some, ih, oint, hneg]
          rw [apx_some (by simp)]
          simp [ix1, ih2, oint, hneg2]
          rw [apx_some (by simp)]
          simp [ww])]
        simp only [joinK_go, J_spec_l03Widthx0, ix_some hx, Option.bind_some, wT, hw, hv]
        rcases hk with hk | hk
        · simp only [hk]
          have hwr : IntKind.i64.wrap (w + v) = w + v := by rw [wrap_sml] <;> omega
          have d1 : decide (n.2.2.1 ≥ w) = !decide (n.2.2.1 < w) := by by_cases h : n.2.2.1 < w <;> simp [h] <;> omega
          have d2 : decide (n.2.2.2.2.1 ≥ v) = !decide (n.2.2.2.2.1 < v) := by by_cases h : n.2.2.2.2.1 < v <;> simp [h] <;> omega
          have d3 : decide (w + v > 64) = !decide (w + v ≤ 64) := by by_cases h : w + v ≤ 64 <;> simp [h] <;> omega
          by_cases h1 : n.2.2.1 < w <;> by_cases h2 : n.2.2.2.2.1 < v <;> by_cases h3 : w + v ≤ 64 <;> simp [ix0, ix1, hwr, d1, d2, d3, h1, h2, h3, oint, hk]
        · simp only [hk]
          by_cases h1 : w = v <;> simp [ix0, ix1, h1, oint, bne_dec, hk])
def widthOf (s : List Tb) (p : List Nd) : Option Int := if schemaOk s = true then (planT p).bind (wT s) else none
theorem V_impl_WidthOf {s : List STable} (hs : BSch s) {p : List SNode} (hp : BPlan p) : F_impl_WidthOf s p = some (oint (widthOf s p)) := (U_impl_WidthOf s p).out (by
  simp only [V_impl_SchemaOk hs, V_impl_PlanOk hp, Option.bind_some]
  unfold widthOf
  cases h1 : schemaOk s with
  | false => simp [oint]
  | true =>
    cases h2 : planT p with
    | none => simp [planOk, h2, oint]
    | some t =>
      obtain ⟨ht, rfl⟩ := planT_some h2
      have := V_impl_width h1 ht.pl t 0 (At.root t) ht.good
      rw [show ((0 : Nat) : Int) = 0 from rfl] at this
      simp [planOk, h2, this])
theorem V_spec_WidthOf {s : List STable} (hs : BSch s) {p : List SNode} (hp : BPlan p) : F_spec_WidthOf s p = some (oint (widthOf s p)) := (U_spec_WidthOf s p).out (by
  simp only [V_spec_SchemaOk hs, V_spec_PlanOk hp, Option.bind_some]
  unfold widthOf
  cases h1 : schemaOk s with
  | false => simp [oint]
  | true =>
    cases h2 : planT p with
    | none => simp [planOk, h2, oint]
    | some t =>
      obtain ⟨ht, rfl⟩ := planT_some h2
      have := V_spec_l03Width h1 ht.pl t 0 (At.root t) ht.good
      rw [show ((0 : Nat) : Int) = 0 from rfl] at this
      simp [planOk, h2, this])
def typedOk (s : List Tb) (p : List Nd) : Bool := (widthOf s p).isSome
theorem widthOf_range {s : List Tb} {p : List Nd} {w : Int} (h : widthOf s p = some w) : 1 ≤ w ∧ w ≤ 64 := by
  unfold widthOf at h
  split at h
  · rename_i hs
    cases hp : planT p with
    | none => simp [hp] at h
    | some t =>
      simp only [hp, Option.bind_some] at h
      exact wT_range hs (planT_some hp).1.good h
  · cases h
theorem V_impl_TypedOk {s : List STable} (hs : BSch s) {p : List SNode} (hp : BPlan p) : F_impl_TypedOk s p = some (typedOk s p) := (U_impl_TypedOk s p).out (by
  simp only [V_impl_WidthOf hs hp, Option.bind_some, typedOk]
  cases h : widthOf s p with
  | none => simp [oint]
  | some w => have := widthOf_range h; simp [oint]; omega)
theorem V_spec_TypedOk {s : List STable} (hs : BSch s) {p : List SNode} (hp : BPlan p) : F_spec_TypedOk s p = some (typedOk s p) := (U_spec_TypedOk s p).out (by
  simp only [V_spec_WidthOf hs hp, Option.bind_some, typedOk]
  cases h : widthOf s p with
  | none => simp [oint]
  | some w => have := widthOf_range h; simp [oint, bne_dec]; omega)
structure Typed (s : List Tb) (t : PT) : Prop where
  plan : PlanT t
  sch : schemaOk s = true
  w : (wT s t).isSome = true
theorem typedOk_iff {s : List Tb} {p : List Nd} : typedOk s p = true ↔ ∃ t, p = t.flat ∧ Typed s t := by
  unfold typedOk widthOf
  constructor
  · intro h
    split at h
    · rename_i hs
      cases hp : planT p with
      | none => simp [hp] at h
      | some t =>
        simp only [hp, Option.bind_some] at h
        exact ⟨t, (planT_some hp).2, (planT_some hp).1, hs, h⟩
    · cases h
  · rintro ⟨t, rfl, h1, h2, h3⟩
    rw [if_pos h2, planT_flat h1]
    exact h3
end Go.Proofs.YtglbcdlplbomdaaX
namespace Go.Proofs.YtglbcdlplbomdaaX
open Go Go.Proofs.YtglbcdlplbomdaaT PT
set_option linter.all false
def sizesOk (s : List Tb) (sizes : List Int) : Bool := decide (sizes.length = s.length) && sizes.all (fun x => okIn x 0 1000)
@[simp] theorem V_impl_sizesOk_1 (x : Int) : F_impl_sizesOk_1 x = some (!okIn x 0 1000) := (U_impl_sizesOk_1 x).out (by simp)
theorem V_slices_IndexFunc_Lint_impl_sizesOk_1 {l : List Int} (hl : l.length ≤ 2147483648) : F_slices_IndexFunc_Lint_impl_sizesOk_1 l = some (fint (findI (fun x => !okIn x 0 1000) l 0)) := (U_slices_IndexFunc_Lint_impl_sizesOk_1 l).out (by
  have e := loop_find (f := fun f s => L_slices_IndexFunc_Lint_impl_sizesOk_1x0 l f s.1 s.2) l (fun x => !okIn x 0 1000) (fun i => (i : Int))
    (fun i x v g hx => by
      have l1 := (List.getElem?_eq_some_iff.1 hx).1
      simp only [L_slices_IndexFunc_Lint_impl_sizesOk_1x0, lt_nat hx, cond_true, ix_some hx, Option.bind_some, V_impl_sizesOk_1, wrap_nat (show i < 9223372036854775807 by omega)])
    (fun v g => by simp [L_slices_IndexFunc_Lint_impl_sizesOk_1x0]) 0
  rw [e]
  cases findI (fun x => !okIn x 0 1000) l 0 <;> simp)
theorem V_slices_ContainsFunc_Lint_impl_sizesOk_1 {l : List Int} (hl : l.length ≤ 2147483648) : F_slices_ContainsFunc_Lint_impl_sizesOk_1 l = some (l.any fun x => !okIn x 0 1000) := (U_slices_ContainsFunc_Lint_impl_sizesOk_1 l).out (by
  simp only [V_slices_IndexFunc_Lint_impl_sizesOk_1 hl, Option.bind_some, fint_ge])
theorem int_len_eq {a b : Nat} : ((a : Int) == (b : Int)) = decide (a = b) := by
  by_cases h : a = b <;> simp [h] <;> omega
theorem int_len_ne {a b : Nat} : ((a : Int) != (b : Int)) = !decide (a = b) := by
  by_cases h : a = b <;> simp [h, bne_dec] <;> omega
theorem V_impl_sizesOk {s : List STable} {l : List Int} (hl : l.length ≤ 2147483648) : F_impl_sizesOk s l = some (sizesOk s l) := (U_impl_sizesOk s l).out (by
  simp only [V_slices_ContainsFunc_Lint_impl_sizesOk_1 hl, Option.bind_some, all_not_any, int_len_eq, sizesOk]
  cases decide (l.length = s.length) <;> simp)
def good (s : List Tb) (sizes : List Int) (p : List Nd) : Bool := typedOk s p && sizesOk s sizes
theorem V_spec_l12Good {s : List STable} (hs : BSch s) {l : List Int} (hl : l.length ≤ 2147483648) {p : List SNode} (hp : BPlan p) : F_spec_l12Good s l p = some (good s l p) := (U_spec_l12Good s l p).out (by
  have e := loop_chk (f := fun f s => L_spec_l12Goodx0 l f s.1 s.2) l (fun _ x => okIn x 0 1000) false
    (fun i x v g hx => by
      have l1 := (List.getElem?_eq_some_iff.1 hx).1
      simp only [L_spec_l12Goodx0, lt_nat hx, cond_true, ix_some hx, Option.bind_some, V_spec_l01In, wrap_nat (show i < 9223372036854775807 by omega)]
      cases okIn x 0 1000 <;> rfl)
    (fun v g => by simp [L_spec_l12Goodx0]) false
  rw [allI_const] at e
  simp only [V_spec_TypedOk hs hp, Option.bind_some, int_len_ne, good, sizesOk, joinK_bif, joinK_go, J_spec_l12Goodx0, e]
  cases typedOk s p <;> cases decide (l.length = s.length) <;> cases l.all (fun x => okIn x 0 1000) <;> simp)
def gT (s : List Tb) (sz : List Int) : PT → Int
  | .n0 n => match tabAt s n.2.1 with
    | some j => (sz[j]?).getD 0
    | none => 0
  | .n1 n a => if n.1 = 1 then (gT s sz a + 1) / 2 else if n.1 = 6 then min (gT s sz a) (if n.2.2.2.2.2.1 = true then 10 else n.2.2.2.2.1) else gT s sz a
  | .n2 n a b => if n.1 = 3 then min ((gT s sz a * gT s sz b + 3) / 4) 1000000 else min (gT s sz a + gT s sz b) 1000000
def cT (s : List Tb) (sz : List Int) : PT → Int
  | .n0 n => gT s sz (.n0 n)
  | .n1 n a => cT s sz a + gT s sz (.n1 n a)
  | .n2 n a b => cT s sz a + cT s sz b + gT s sz (.n2 n a b)
theorem wT_c1 {s : List Tb} {n : Nd} {a : PT} (h : (wT s (.n1 n a)).isSome = true) : (wT s a).isSome = true := by
  simp only [wT] at h
  split at h
  · cases h
  · rename_i h'; rw [h']; rfl
theorem wT_l2 {s : List Tb} {n : Nd} {a b : PT} (h : (wT s (.n2 n a b)).isSome = true) : (wT s a).isSome = true := by
  simp only [wT] at h
  split at h
  · rename_i h' _; rw [h']; rfl
  · cases h
theorem wT_r2 {s : List Tb} {n : Nd} {a b : PT} (h : (wT s (.n2 n a b)).isSome = true) : (wT s b).isSome = true := by
  simp only [wT] at h
  split at h
  · rename_i _ h'; rw [h']; rfl
  · cases h
theorem wT_n0 {s : List Tb} {n : Nd} (h : (wT s (.n0 n)).isSome = true) : ∃ j t, tabAt s n.2.1 = some j ∧ s[j]? = some t := by
  simp only [wT] at h
  split at h
  · rename_i j hj
    obtain ⟨t, ht, _⟩ := tabAt_some hj
    exact ⟨j, t, hj, ht⟩
  · cases h
theorem nodeOk_limit {n : Nd} (h : nodeOk n = true) (hk : n.1 = 6) : 0 ≤ n.2.2.2.2.1 ∧ n.2.2.2.2.1 ≤ 1000000 := by
  obtain ⟨k, name, col, op, num, slot, cols, u⟩ := n
  simp only at hk
  subst hk
  simp [nodeOk, okIn] at h
  simp only
  omega
theorem gT_range {s : List Tb} {sz : List Int} (hz : sizesOk s sz = true) : ∀ {t : PT}, Good t → (wT s t).isSome = true → 0 ≤ gT s sz t ∧ gT s sz t ≤ 1000000
  | .n0 n, g, h => by
    obtain ⟨j, t, h1, h2⟩ := wT_n0 h
    simp only [sizesOk, Bool.and_eq_true, decide_eq_true_eq, List.all_eq_true] at hz
    have hj := (List.getElem?_eq_some_iff.1 h2).1
    have hx : sz[j]? = some sz[j] := List.getElem?_eq_getElem (by omega)
    have := okIn_iff.1 (hz.2 sz[j] (mem_of_get hx))
    simp only [gT, h1, hx, Option.getD_some]
    omega
  | .n1 n a, g, h => by
    have := gT_range hz g.c1 (wT_c1 h)
    simp only [gT]
    split
    · omega
    · split
      · rename_i hk
        have := nodeOk_limit g.hd hk
        simp only [PT.hd] at this
        split <;> omega
      · exact this
  | .n2 n a b, g, h => by
    have h1 := gT_range hz g.l2 (wT_l2 h)
    have h2 := gT_range hz g.r2 (wT_r2 h)
    simp only [gT]
    have : 0 ≤ gT s sz a * gT s sz b := Int.mul_nonneg h1.1 h2.1
    split <;> omega
theorem cT_range {s : List Tb} {sz : List Int} (hz : sizesOk s sz = true) : ∀ {t : PT}, Good t → (wT s t).isSome = true → 0 ≤ cT s sz t ∧ cT s sz t ≤ 1000000 * t.size
  | .n0 n, g, h => by
    have := gT_range hz g h
    simp only [cT, PT.size]; omega
  | .n1 n a, g, h => by
    have := gT_range hz g h
    have := cT_range hz g.c1 (wT_c1 h)
    simp only [cT, PT.size]; omega
  | .n2 n a b, g, h => by
    have := gT_range hz g h
    have := cT_range hz g.l2 (wT_l2 h)
    have := cT_range hz g.r2 (wT_r2 h)
    simp only [cT, PT.size]; omega
theorem quox_some {a b : Int} (h0 : 0 ≤ a) (h1 : a ≤ 9223372036854775807) (hb : 1 ≤ b) : quox a b = some (a / b) := by
  unfold quox
  have hb0 : (b == 0) = false := by simp; omega
  rw [hb0, Int.tdiv_eq_ediv_of_nonneg h0]
  have : 0 ≤ a / b := Int.ediv_nonneg h0 (by omega)
  have : a / b ≤ a := Int.ediv_le_self _ h0
  rw [wrap_sml (by omega) (by omega)]
  rfl
theorem mmx_min (a b : Int) : mmx false a b = min a b := by
  unfold mmx
  by_cases h : b < a <;> simp [h] <;> omega
theorem sizes_at {s : List Tb} {sz : List Int} (hz : sizesOk s sz = true) {n : Nd} (h : (wT s (.n0 n)).isSome = true) : ∃ j : Nat, tabAt s n.2.1 = some j ∧ sz[j]? = some (gT s sz (.n0 n)) := by
  obtain ⟨j, t, h1, h2⟩ := wT_n0 h
  simp only [sizesOk, Bool.and_eq_true, decide_eq_true_eq, List.all_eq_true] at hz
  have hj := (List.getElem?_eq_some_iff.1 h2).1
  have hx : sz[j]? = some sz[j] := List.getElem?_eq_getElem (by omega)
  exact ⟨j, h1, by simp only [gT, h1, hx, Option.getD_some]⟩
theorem V_spec_l12Guess {s : List STable} (hs : schemaOk s = true) {sz : List Int} (hz : sizesOk s sz = true) {p : List SNode} (hp : Pl p) : ∀ (t : PT) (k : Nat), At p k t → Good t → (wT s t).isSome = true → F_spec_l12Guess s sz p k = some (gT s sz t)
  | .n0 n, k, h, g, w => (U_spec_l12Guess s sz p k).out (by
    have hk := kind0 (n := n) g.ok
    have hx : p[k]? = some n := h.hd
    have hl := schemaOk_len hs
    obtain ⟨j, h1, h2⟩ := sizes_at hz w
    simp only [ix_some hx, h.V_l02Kids g hp, kids, Option.bind_some]
    rw [loopF_of (r := .go []) 1 (by
      intro n hn
      obtain ⟨m, rfl⟩ : ∃ m, n = m + 1 := ⟨n - 1, by omega⟩
      simp [loopK, L_spec_l12Guessx0])]
    simp [hk, V_spec_l03Find (show s.length ≤ 1073741824 by omega), h1, ix_some h2])
  | .n1 n a, k, h, g, w => (U_spec_l12Guess s sz p k).out (by
    have hk := kind1 (n := n) g.ok.1
    have hx : p[k]? = some n := h.hd
    have ih := V_spec_l12Guess hs hz hp a (k + 1) h.c1 g.c1 (wT_c1 w)
    have hr := gT_range hz g.c1 (wT_c1 w)
    simp only [ix_some hx, h.V_l02Kids g hp, kids, Option.bind_some]
    generalize ((k + 1 : Nat) : Int) = j1 at *
    rw [loopF_of (r := .go [gT s sz a]) 2 (by
      intro n hn
      obtain ⟨m, rfl⟩ : ∃ m, n = m + 2 := ⟨n - 2, by omega⟩
      simp only [loopK, L_spec_l12Guessx0, ix0, Option.bind_some, ih]
      rw [apx_some (by simp)]
      simp)]
    simp only [joinK_go, J_spec_l12Guessx0, gT]
    rcases hk with hk | hk | hk | hk | hk
    · simp [hk, ix0, wrap_sml (show -9223372036854775808 ≤ gT s sz a + 1 by omega) (by omega), quox_some (show 0 ≤ gT s sz a + 1 by omega) (by omega) (show (1 : Int) ≤ 2 by omega)]
    · simp [hk, ix0]
    · simp [hk, ix0]
    · simp only [hk, ix0]
      cases n.2.2.2.2.2.1 with
      | true =>
        by_cases hc : 10 < gT s sz a
        · simp [hc, ix0]; omega
        · simp [hc, ix0]; omega
      | false =>
        by_cases hc : n.2.2.2.2.1 < gT s sz a
        · simp [hc, ix0]; omega
        · simp [hc, ix0]; omega
    · simp [hk, ix0])
  | .n2 n a b, k, h, g, w => (U_spec_l12Guess s sz p k).out (by
    have hk := kind2 (n := n) g.ok.1
    have hx : p[k]? = some n := h.hd
    have ih := V_spec_l12Guess hs hz hp a (k + 1) h.l2 g.l2 (wT_l2 w)
    have ih2 := V_spec_l12Guess hs hz hp b (k + 1 + a.size) h.r2 g.r2 (wT_r2 w)
    have hr := gT_range hz g.l2 (wT_l2 w)
    have hr2 := gT_range hz g.r2 (wT_r2 w)
    simp only [ix_some hx, h.V_l02Kids g hp, kids, Option.bind_some]
    generalize ((k + 1 : Nat) : Int) = j1 at *
    generalize ((k + 1 + a.size : Nat) : Int) = j2 at *
    rw [loopF_of (r := .go [gT s sz a, gT s sz b]) 3 (by
      intro n hn
      obtain ⟨m, rfl⟩ : ∃ m, n = m + 3 := ⟨n - 3, by omega⟩
      have ww : IntKind.i64.wrap (1 + 1) = 2 := by rw [wrap_sml] <;> omega
      simp only [loopK, L_spec_l12Guessx0, ix0, Option.bind_some, ih]
      rw [apx_some (by simp)]
      simp [ix1, ih2]
      rw [apx_some (by simp)]
      simp [ww])]
    simp only [joinK_go, J_spec_l12Guessx0, gT]
    have hm0 : 0 ≤ gT s sz a * gT s sz b := Int.mul_nonneg hr.1 hr2.1
    have hm1 : gT s sz a * gT s sz b ≤ 1000000 * 1000000 := Int.mul_le_mul hr.2 hr2.2 hr2.1 (by omega)
    rcases hk with hk | hk
    · have e1 : IntKind.i64.wrap (gT s sz a * gT s sz b) = gT s sz a * gT s sz b := wrap_sml (by omega) (by omega)
      have e2 : IntKind.i64.wrap (gT s sz a * gT s sz b + 3) = gT s sz a * gT s sz b + 3 := wrap_sml (by omega) (by omega)
      simp [hk, ix0, ix1, e1, e2, quox_some (show 0 ≤ gT s sz a * gT s sz b + 3 by omega) (by omega) (show (1 : Int) ≤ 4 by omega)]
      split <;> omega
    · have e1 : IntKind.i64.wrap (gT s sz a + gT s sz b) = gT s sz a + gT s sz b := wrap_sml (by omega) (by omega)
      simp [hk, ix0, ix1, e1]
      split <;> omega)
theorem V_impl_guess {s : List STable} (hs : schemaOk s = true) {sz : List Int} (hz : sizesOk s sz = true) {p : List SNode} (hp : Pl p) : ∀ (t : PT) (k : Nat) (c : Int), At p k t → Good t → (wT s t).isSome = true → 0 ≤ c → c + 1000000 * t.size ≤ 1000000000000 → F_impl_guess s sz p k c = some (gT s sz t, c + cT s sz t)
  | .n0 n, k, c, h, g, w, hc, hc2 => (U_impl_guess s sz p k c).out (by
    have hk := kind0 (n := n) g.ok
    have hx : p[k]? = some n := h.hd
    have hl := schemaOk_len hs
    have hr := gT_range hz g w
    obtain ⟨j, h1, h2⟩ := sizes_at hz w
    simp only [h.V_children g hp, kids, Option.bind_some]
    simp only [PT.size] at hc2
    rw [loopF_of (r := .go ([], c)) 1 (by
      intro n hn
      obtain ⟨m, rfl⟩ : ∃ m, n = m + 1 := ⟨n - 1, by omega⟩
      simp [loopK, L_impl_guessx0])]
    have e1 : min (gT s sz (.n0 n)) 1000000 = gT s sz (.n0 n) := by omega
    have e2 : IntKind.i64.wrap (c + gT s sz (.n0 n)) = c + gT s sz (.n0 n) := wrap_sml (by omega) (by omega)
    simp [hk, ix_some hx, V_impl_tableAt (show s.length ≤ 1073741824 by omega), h1, ix_some h2, mmx_min, e1, e2, cT])
  | .n1 n a, k, c, h, g, w, hc, hc2 => (U_impl_guess s sz p k c).out (by
    have hk := kind1 (n := n) g.ok.1
    have hx : p[k]? = some n := h.hd
    simp only [PT.size] at hc2
    have ih := V_impl_guess hs hz hp a (k + 1) c h.c1 g.c1 (wT_c1 w) hc (by omega)
    have hr := gT_range hz g.c1 (wT_c1 w)
    have hrr := gT_range hz g w
    have hcr := cT_range hz g.c1 (wT_c1 w)
    simp only [h.V_children g hp, kids, Option.bind_some]
    generalize ((k + 1 : Nat) : Int) = j1 at *
    rw [loopF_of (r := .go ([gT s sz a], c + cT s sz a)) 2 (by
      intro n hn
      obtain ⟨m, rfl⟩ : ∃ m, n = m + 2 := ⟨n - 2, by omega⟩
      simp only [loopK, L_impl_guessx0, ix0, Option.bind_some, ih]
      rw [apx_some (by simp)]
      simp)]
    simp only [joinK_go, J_impl_guessx0, ix_some hx, Option.bind_some]
    have fin : ∀ x, x = gT s sz (.n1 n a) → J_impl_guessx1 (c + cT s sz a) x = some (gT s sz (.n1 n a), c + cT s sz (.n1 n a)) := by
      intro x hx
      subst hx
      have e1 : min (gT s sz (.n1 n a)) 1000000 = gT s sz (.n1 n a) := by omega
      simp only [J_impl_guessx1, mmx_min, e1, cT]
      rw [wrap_sml (by omega) (by omega)]
      simp only [Int.add_assoc]
    rcases hk with hk | hk | hk | hk | hk
    · have e1 : IntKind.i64.wrap (gT s sz a + 1) = gT s sz a + 1 := wrap_sml (by omega) (by omega)
      simp only [hk, ix0, Option.bind_some, e1, quox_some (show 0 ≤ gT s sz a + 1 by omega) (by omega) (show (1 : Int) ≤ 2 by omega), beq_dec, decide_true, cond_true, joinK_go, show decide ((1 : Int) = 0) = false from rfl, cond_false]
      exact fin _ (by simp only [gT, hk, if_true])
    · simp only [hk, ix0, Option.bind_some, beq_dec, decide_true, cond_true, joinK_go, show decide ((2 : Int) = 0) = false from rfl, show decide ((2 : Int) = 1) = false from rfl, show decide ((2 : Int) = 3) = false from rfl, show decide ((2 : Int) = 4) = false from rfl, show decide ((2 : Int) = 6) = false from rfl, cond_false]
      exact fin _ (by simp [gT, hk])
    · simp only [hk, ix0, Option.bind_some, beq_dec, decide_true, cond_true, joinK_go, show decide ((5 : Int) = 0) = false from rfl, show decide ((5 : Int) = 1) = false from rfl, show decide ((5 : Int) = 3) = false from rfl, show decide ((5 : Int) = 4) = false from rfl, show decide ((5 : Int) = 6) = false from rfl, cond_false]
      exact fin _ (by simp [gT, hk])
    · simp only [hk, ix0, Option.bind_some, beq_dec, decide_true, cond_true, joinK_go, show decide ((6 : Int) = 0) = false from rfl, show decide ((6 : Int) = 1) = false from rfl, show decide ((6 : Int) = 3) = false from rfl, show decide ((6 : Int) = 4) = false from rfl, cond_false, joinK_bif, J_impl_guessx2, mmx_min]
      cases hsl : n.2.2.2.2.2.1 with
      | true => exact fin _ (by simp [gT, hk, hsl])
      | false => exact fin _ (by simp [gT, hk, hsl])
    · simp only [hk, ix0, Option.bind_some, beq_dec, decide_true, cond_true, joinK_go, show decide ((7 : Int) = 0) = false from rfl, show decide ((7 : Int) = 1) = false from rfl, show decide ((7 : Int) = 3) = false from rfl, show decide ((7 : Int) = 4) = false from rfl, show decide ((7 : Int) = 6) = false from rfl, cond_false]
      exact fin _ (by simp [gT, hk]))
  | .n2 n a b, k, c, h, g, w, hc, hc2 => (U_impl_guess s sz p k c).out (by
    have hk := kind2 (n := n) g.ok.1
    have hx : p[k]? = some n := h.hd
    simp only [PT.size] at hc2
    have hr := gT_range hz g.l2 (wT_l2 w)
    have hr2 := gT_range hz g.r2 (wT_r2 w)
    have hrr := gT_range hz g w
    have hcr := cT_range hz g.l2 (wT_l2 w)
    have hcr2 := cT_range hz g.r2 (wT_r2 w)
    have ih := V_impl_guess hs hz hp a (k + 1) c h.l2 g.l2 (wT_l2 w) hc (by omega)
    have ih2 := V_impl_guess hs hz hp b (k + 1 + a.size) (c + cT s sz a) h.r2 g.r2 (wT_r2 w) (by omega) (by omega)
    simp only [h.V_children g hp, kids, Option.bind_some]
    generalize ((k + 1 : Nat) : Int) = j1 at *
    generalize ((k + 1 + a.size : Nat) : Int) = j2 at *
    rw [loopF_of (r := .go ([gT s sz a, gT s sz b], c + cT s sz a + cT s sz b)) 3 (by
      intro n hn
      obtain ⟨m, rfl⟩ : ∃ m, n = m + 3 := ⟨n - 3, by omega⟩
      have ww : IntKind.i64.wrap (1 + 1) = 2 := by rw [wrap_sml] <;> omega
      simp only [loopK, L_impl_guessx0, ix0, Option.bind_some, ih]
      rw [apx_some (by simp)]
      simp [ix1, ih2]
      rw [apx_some (by simp)]
      simp [ww])]
    simp only [joinK_go, J_impl_guessx0, ix_some hx, Option.bind_some]
    have fin : ∀ x, min x 1000000 = gT s sz (.n2 n a b) → J_impl_guessx1 (c + cT s sz a + cT s sz b) x = some (gT s sz (.n2 n a b), c + cT s sz (.n2 n a b)) := by
      intro x hx
      simp only [J_impl_guessx1, mmx_min, hx, cT]
      rw [wrap_sml (by omega) (by omega)]
      simp only [Int.add_assoc]
    have hm0 : 0 ≤ gT s sz a * gT s sz b := Int.mul_nonneg hr.1 hr2.1
    have hm1 : gT s sz a * gT s sz b ≤ 1000000 * 1000000 := Int.mul_le_mul hr.2 hr2.2 hr2.1 (by omega)
    rcases hk with hk | hk
    · have e1 : IntKind.i64.wrap (gT s sz a * gT s sz b) = gT s sz a * gT s sz b := wrap_sml (by omega) (by omega)
      have e2 : IntKind.i64.wrap (gT s sz a * gT s sz b + 3) = gT s sz a * gT s sz b + 3 := wrap_sml (by omega) (by omega)
      simp only [hk, ix0, ix1, e1, e2, quox_some (show 0 ≤ gT s sz a * gT s sz b + 3 by omega) (by omega) (show (1 : Int) ≤ 4 by omega), Option.bind_some, beq_dec, decide_true, cond_true, joinK_go, show decide ((3 : Int) = 0) = false from rfl, show decide ((3 : Int) = 1) = false from rfl, cond_false]
      exact fin _ (by simp only [gT, hk, if_true])
    · have e1 : IntKind.i64.wrap (gT s sz a + gT s sz b) = gT s sz a + gT s sz b := wrap_sml (by omega) (by omega)
      simp only [hk, ix0, ix1, e1, Option.bind_some, beq_dec, decide_true, cond_true, joinK_go, show decide ((4 : Int) = 0) = false from rfl, show decide ((4 : Int) = 1) = false from rfl, show decide ((4 : Int) = 3) = false from rfl, cond_false]
      exact fin _ (by simp [gT, hk]))
end Go.Proofs.YtglbcdlplbomdaaX
namespace Go.Proofs.YtglbcdlplbomdaaX
open Go Go.Proofs.YtglbcdlplbomdaaT PT
set_option linter.all false
def subs : PT → List PT
  | .n0 n => [.n0 n]
  | .n1 n a => .n1 n a :: subs a
  | .n2 n a b => .n2 n a b :: (subs a ++ subs b)
@[simp] theorem subs_len : ∀ t : PT, (subs t).length = t.size
  | .n0 _ => rfl
  | .n1 _ a => by simp [subs, PT.size, subs_len a]
  | .n2 _ a b => by simp [subs, PT.size, subs_len a, subs_len b]
theorem subs_at {p : List Nd} : ∀ {t : PT} {k : Nat}, At p k t → ∀ {i : Nat} {u : PT}, (subs t)[i]? = some u → At p (k + i) u
  | .n0 n, k, h, i, u, hu => by
    cases i with
    | zero => simp [subs] at hu; subst hu; exact h
    | succ i => simp [subs] at hu
  | .n1 n a, k, h, i, u, hu => by
    cases i with
    | zero => simp [subs] at hu; subst hu; exact h
    | succ i =>
      have := subs_at h.c1 (i := i) (u := u) (by simpa [subs] using hu)
      rwa [show k + (i + 1) = k + 1 + i by omega]
  | .n2 n a b, k, h, i, u, hu => by
    cases i with
    | zero => simp [subs] at hu; subst hu; exact h
    | succ i =>
      have hu : (subs a ++ subs b)[i]? = some u := by simpa [subs] using hu
      by_cases hi : i < a.size
      · rw [List.getElem?_append_left (by simpa using hi)] at hu
        have := subs_at h.l2 hu
        rwa [show k + (i + 1) = k + 1 + i by omega]
      · rw [List.getElem?_append_right (by simp; omega)] at hu
        have := subs_at h.r2 hu
        rw [subs_len] at this
        rwa [show k + (i + 1) = k + 1 + a.size + (i - a.size) by omega]
theorem subs_good : ∀ {t : PT}, Good t → ∀ {u : PT}, u ∈ subs t → Good u
  | .n0 n, g, u, hu => by simp [subs] at hu; subst hu; exact g
  | .n1 n a, g, u, hu => by
    simp only [subs, List.mem_cons] at hu
    rcases hu with rfl | hu
    · exact g
    · exact subs_good g.c1 hu
  | .n2 n a b, g, u, hu => by
    simp only [subs, List.mem_cons, List.mem_append] at hu
    rcases hu with rfl | hu | hu
    · exact g
    · exact subs_good g.l2 hu
    · exact subs_good g.r2 hu
theorem subs_w {s : List Tb} : ∀ {t : PT}, (wT s t).isSome = true → ∀ {u : PT}, u ∈ subs t → (wT s u).isSome = true
  | .n0 n, g, u, hu => by simp [subs] at hu; subst hu; exact g
  | .n1 n a, g, u, hu => by
    simp only [subs, List.mem_cons] at hu
    rcases hu with rfl | hu
    · exact g
    · exact subs_w (wT_c1 g) hu
  | .n2 n a b, g, u, hu => by
    simp only [subs, List.mem_cons, List.mem_append] at hu
    rcases hu with rfl | hu | hu
    · exact g
    · exact subs_w (wT_l2 g) hu
    · exact subs_w (wT_r2 g) hu
theorem subs_cost (s : List Tb) (sz : List Int) : ∀ t : PT, ((subs t).map (gT s sz)).sum = cT s sz t
  | .n0 n => by simp [subs, cT]
  | .n1 n a => by simp only [subs, List.map_cons, List.sum_cons, subs_cost s sz a, cT]; omega
  | .n2 n a b => by simp only [subs, List.map_cons, List.sum_cons, List.map_append, List.sum_append, subs_cost s sz a, subs_cost s sz b, cT]; omega
theorem cut_fold (f : PT → Int) : ∀ (l : List PT) (a : Int), (∀ u ∈ l, 0 ≤ f u) → 0 ≤ a → l.foldl (fun a u => min (a + f u) 1000000) (min a 1000000) = min (a + (l.map f).sum) 1000000
  | [], a, _, _ => by simp
  | u :: l, a, h, ha => by
    have hu := h u (by simp)
    simp only [List.foldl_cons, List.map_cons, List.sum_cons]
    rw [show min (min a 1000000 + f u) 1000000 = min (a + f u) 1000000 by omega, cut_fold f l (a + f u) (fun v hv => h v (by simp [hv])) (by omega)]
    rw [Int.add_assoc]
def rowsGuess (s : List Tb) (sz : List Int) (p : List Nd) : Int := if good s sz p = true then (match planT p with | some t => gT s sz t | none => -1) else -1
def costOf (s : List Tb) (sz : List Int) (p : List Nd) : Int := if good s sz p = true then (match planT p with | some t => min (cT s sz t) 1000000 | none => -1) else -1
theorem good_iff {s : List Tb} {sz : List Int} {p : List Nd} : good s sz p = true ↔ sizesOk s sz = true ∧ ∃ t, p = t.flat ∧ Typed s t := by
  simp only [good, Bool.and_eq_true, typedOk_iff]
  exact And.comm
theorem V_impl_reckon {s : List STable} (hs : BSch s) {l : List Int} (hl : l.length ≤ 2147483648) {p : List SNode} (hp : BPlan p) : F_impl_reckon s l p = some (rowsGuess s l p, costOf s l p) := (U_impl_reckon s l p).out (by
  simp only [V_impl_TypedOk hs hp, V_impl_sizesOk hl, Option.bind_some, rowsGuess, costOf]
  cases h1 : good s l p with
  | false =>
    simp only [good] at h1
    cases h2 : typedOk s p with
    | false => simp
    | true => rw [h2] at h1; simp at h1; simp [h1]
  | true =>
    have h1' := h1
    simp only [good, Bool.and_eq_true] at h1'
    obtain ⟨hz, t, rfl, ht⟩ := good_iff.1 h1
    have hsz := ht.plan.size
    have e := V_impl_guess ht.sch hz ht.plan.pl t 0 0 (At.root t) ht.plan.good ht.w (by omega) (by omega)
    rw [show ((0 : Nat) : Int) = 0 from rfl] at e
    simp [h1'.1, hz, e, planT_flat ht.plan, mmx_min])
theorem V_impl_CostOf {s : List STable} (hs : BSch s) {l : List Int} (hl : l.length ≤ 2147483648) {p : List SNode} (hp : BPlan p) : F_impl_CostOf s l p = some (costOf s l p) := (U_impl_CostOf s l p).out (by simp [V_impl_reckon hs hl hp])
theorem V_spec_CostOf {s : List STable} (hs : BSch s) {l : List Int} (hl : l.length ≤ 2147483648) {p : List SNode} (hp : BPlan p) : F_spec_CostOf s l p = some (costOf s l p) := (U_spec_CostOf s l p).out (by
  simp only [V_spec_l12Good hs hl hp, Option.bind_some, costOf]
  cases h1 : good s l p with
  | false => simp
  | true =>
    obtain ⟨hz, t, rfl, ht⟩ := good_iff.1 h1
    have hsz := ht.plan.size
    have hr : ∀ u ∈ subs t, 0 ≤ gT s l u ∧ gT s l u ≤ 1000000 := fun u hu => gT_range hz (subs_good ht.plan.good hu) (subs_w ht.w hu)
    have e := loop_fold (f := fun f z => L_spec_CostOfx0 s l t.flat f z.1 z.2) (fun i a => (a, (i : Int))) (subs t) (fun _ a => 0 ≤ a ∧ a ≤ 1000000) (fun _ u a => min (a + gT s l u) 1000000)
      (fun i u a g hu ha => by
        have l1 := (List.getElem?_eq_some_iff.1 hu).1
        rw [subs_len] at l1
        have d1 : decide ((i : Int) < (t.flat.length : Int)) = true := by simpa using l1
        have hu' := mem_of_get hu
        have hr' := hr u hu'
        have e := V_spec_l12Guess ht.sch hz ht.plan.pl u (0 + i) (subs_at (At.root t) hu) (subs_good ht.plan.good hu') (subs_w ht.w hu')
        rw [Nat.zero_add] at e
        simp only [L_spec_CostOfx0, d1, cond_true, e, Option.bind_some, V_spec_l12Cut]
        rw [wrap_sml (x := a + gT s l u) (by omega) (by omega), wrap_nat (by omega)]
        congr 2
        split <;> omega)
      (fun i u a hu ha => by
        have hr' := hr u (mem_of_get hu)
        constructor <;> omega)
      (fun a g _ => by simp [L_spec_CostOfx0]) 0 (by omega)
    rw [foldI_const (fun u a => min (a + gT s l u) 1000000)] at e
    rw [show ((0 : Nat) : Int) = 0 from rfl] at e
    have cf := cut_fold (gT s l) (subs t) 0 (fun u hu => (hr u hu).1) (by omega)
    rw [show min (0 : Int) 1000000 = 0 from rfl, subs_cost] at cf
    rw [e, cf]
    simp [planT_flat ht.plan])
end Go.Proofs.YtglbcdlplbomdaaX
namespace Go.Proofs.YtglbcdlplbomdaaX
open Go Go.Proofs.YtglbcdlplbomdaaT
set_option linter.all false
def WL {T : Type} (W : T → Prop) (l : List T) : Prop := l.length ≤ maxLen ∧ ∀ x ∈ l, W x
def zTb (t : Tb) : Nat := t.1.size
def zNd (n : Nd) : Nat := n.2.1.size + n.2.2.2.2.2.2.1.length
def WTb (t : Tb) : Prop := t.1.size ≤ maxLen
def WNd (n : Nd) : Prop := n.2.1.size ≤ maxLen ∧ n.2.2.2.2.2.2.1.length ≤ maxLen
theorem sz_IntS {a : List Int} (hw : a.length ≤ maxLen) {v : Int} (h0 : 0 ≤ v) (h1 : v ≤ 1048576) : F_laws_szIntS a v = some (if (a.length : Int) ≤ v then v - (a.length : Nat) else -1) := (U_laws_szIntS a v).out (by
  rw [wrap_sub h0 h1 hw, sub_neg]
  by_cases h : (a.length : Int) ≤ v <;> simp [h])
theorem sz_Table {a : STable} (hw : WTb a) {v : Int} (h0 : 0 ≤ v) (h1 : v ≤ 1048576) : F_laws_szTable a v = some (if (zTb a : Int) ≤ v then v - (zTb a : Nat) else -1) := (U_laws_szTable a v).out (by
  unfold WTb at hw
  rw [wrap_sub h0 h1 hw, sub_neg]
  unfold zTb
  by_cases h : (a.1.size : Int) ≤ v <;> simp [h])
theorem sz_Node {a : SNode} (hw : WNd a) {v : Int} (h0 : 0 ≤ v) (h1 : v ≤ 1048576) : F_laws_szNode a v = some (if (zNd a : Int) ≤ v then v - (zNd a : Nat) else -1) := (U_laws_szNode a v).out (by
  rw [wrap_sub h0 h1 hw.1, sub_neg]
  unfold zNd
  by_cases h : (a.2.1.size : Int) ≤ v
  · rw [sz_IntS hw.2 (by omega) (by omega)]
    by_cases h2 : (a.2.2.2.2.2.2.1.length : Int) ≤ v - (a.2.1.size : Nat)
    · rw [if_pos h2, if_pos (by omega)]
      have : decide (v - (a.2.1.size : Int) - (a.2.2.2.2.2.2.1.length : Int) < 0) = false := by simp; omega
      simp [h, this]; omega
    · rw [if_neg h2, if_neg (by omega)]
      simp [h]
  · rw [if_neg (by omega)]
    simp [h])
theorem sz_list {T : Type} {W : T → Prop} {z : T → Nat} {a : List T} (hw : WL W a) {v : Int} (h0 : 0 ≤ v) (h1 : v ≤ 1048576) {G : T → Int → Option Int}
    (hG : ∀ x, W x → ∀ v : Int, 0 ≤ v → v ≤ 1048576 → G x v = some (if (z x : Int) ≤ v then v - z x else -1))
    {L : (Int × Int × Int → Option (Ex Int (Int × Int))) → Int × Int × Int → Option (Ex Int (Int × Int))}
    (hL : ∀ f v u i, L f (v, u, i) = bif decide (i < (a.length : Int)) then (ix a i).bind fun x => (G x v).bind fun y => bif decide (y < 0) then some (.ret (-1)) else f (y, u, IntKind.i64.wrap (i + 1)) else some (.go (v, u)))
    {J : Int → Int → Option Int} (hJ : ∀ x y, J x y = some x) :
    (bif decide ((IntKind.i64.wrap (v - (a.length : Int))) < 0) then some (-1) else joinK (loopF L ((IntKind.i64.wrap (v - (a.length : Int))), 0, 0)) (fun s => J s.1 s.2)) = some (if (zL z a : Int) ≤ v then v - (zL z a : Nat) else -1) := by
  rw [wrap_sub h0 h1 hw.1, sub_neg]
  unfold zL
  by_cases h : (a.length : Int) ≤ v
  · rw [sz_loop (z := z) (fun x hx => hG x (hw.2 x hx)) (by omega) hL (by omega) (by omega)]
    by_cases h2 : (((a.map z).sum : Nat) : Int) ≤ v - (a.length : Nat)
    · rw [if_pos h2, if_pos (by omega)]
      simp [h, hJ]; omega
    · rw [if_neg h2, if_neg (by omega)]
      simp [h]
  · rw [if_neg (by omega)]
    simp [h]
theorem sz_TableS {a : List STable} (hw : WL WTb a) {v : Int} (h0 : 0 ≤ v) (h1 : v ≤ 1048576) : F_laws_szTableS a v = some (if (zL zTb a : Int) ≤ v then v - (zL zTb a : Nat) else -1) :=
  (U_laws_szTableS a v).out (sz_list hw h0 h1 (fun x hx v h0 h1 => sz_Table hx h0 h1) (fun f v u i => rfl) (fun _ _ => rfl))
theorem sz_NodeS {a : List SNode} (hw : WL WNd a) {v : Int} (h0 : 0 ≤ v) (h1 : v ≤ 1048576) : F_laws_szNodeS a v = some (if (zL zNd a : Int) ≤ v then v - (zL zNd a : Nat) else -1) :=
  (U_laws_szNodeS a v).out (sz_list hw h0 h1 (fun x hx v h0 h1 => sz_Node hx h0 h1) (fun f v u i => rfl) (fun _ _ => rfl))
theorem to_IntS {a : List Int} (h : a.length ≤ 1048576) : F_laws_toIntS a = some a := (U_laws_toIntS a).out (by
  rw [mkx_nat (by omega)]
  simp only [Option.bind_some]
  rw [to_loop (G := some) (fun _ _ => rfl) h (fun f v i => rfl) (by simp)]
  rfl)
theorem to_list {T : Type} {z : T → Nat} {a : List T} (h : zL z a ≤ 1048576) {G : T → Option T} (hG : ∀ x, z x ≤ 1048576 → G x = some x) {x0 : T} {L : (List T × Int → Option (Ex (List T) (List T))) → List T × Int → Option (Ex (List T) (List T))}
    (hL : ∀ f v i, L f (v, i) = bif decide (i < (a.length : Int)) then (ix a i).bind fun x => (G x).bind fun y => (ix v i).bind fun _ => (stx v i y).bind fun v' => f (v', IntKind.i64.wrap (i + 1)) else some (.go v))
    {J : List T → Option (List T)} (hJ : ∀ x, J x = some x) : (mkx (a.length : Int) x0).bind (fun z1 => joinK (loopF L (z1, 0)) (fun s => J s)) = some a := by
  have hl := zL_len (z := z) (l := a)
  rw [mkx_nat (by omega)]
  simp only [Option.bind_some]
  rw [to_loop (fun x hx => hG x (by have := zL_mem (z := z) hx; omega)) (by omega) hL (by simp)]
  simp [hJ]
theorem to_Table (a : STable) : F_laws_toTable a = some a := (U_laws_toTable a).out rfl
theorem to_Node {a : SNode} (h : zNd a ≤ 1048576) : F_laws_toNode a = some a := (U_laws_toNode a).out (by
  unfold zNd at h
  rw [to_IntS (by omega)]; rfl)
theorem to_TableS {a : List STable} (h : zL zTb a ≤ 1048576) : F_laws_toTableS a = some a :=
  (U_laws_toTableS a).out (to_list h (fun x _ => to_Table x) (fun f v i => rfl) (fun _ => rfl))
theorem to_NodeS {a : List SNode} (h : zL zNd a ≤ 1048576) : F_laws_toNodeS a = some a :=
  (U_laws_toNodeS a).out (to_list h (fun x hx => to_Node hx) (fun f v i => rfl) (fun _ => rfl))
theorem eq_IntS {a : List Int} (hl : a.length ≤ 1073741824) : F_laws_eqIntS a a = some true := (U_laws_eqIntS a a).out (by
  rw [eq_loop hl (fun f i x v hx _ => by
    have l1 := (List.getElem?_eq_some_iff.1 hx).1
    simp only [L_laws_eqIntSx0, lt_nat hx, cond_true, ix_some hx, Option.bind_some, wrap_nat (show i < 9223372036854775807 by omega)]
    simp) (fun f v => by simp [L_laws_eqIntSx0])]
  simp)
theorem eq_Table (a : STable) : F_laws_eqTable a a = some true := (U_laws_eqTable a a).out (by simp)
theorem eq_Node {a : SNode} (h : a.2.2.2.2.2.2.1.length ≤ 1073741824) : F_laws_eqNode a a = some true := (U_laws_eqNode a a).out (by simp [eq_IntS h])
theorem eq_TableS {a : List STable} (hl : a.length ≤ 1073741824) : F_laws_eqTableS a a = some true := (U_laws_eqTableS a a).out (by
  rw [eq_loop hl (fun f i x v hx _ => by
    have l1 := (List.getElem?_eq_some_iff.1 hx).1
    simp only [L_laws_eqTableSx0, lt_nat hx, cond_true, ix_some hx, Option.bind_some, wrap_nat (show i < 9223372036854775807 by omega), eq_Table]
    simp) (fun f v => by simp [L_laws_eqTableSx0])]
  simp)
def CNd (n : Nd) : Prop := n.2.2.2.2.2.2.1.length ≤ 1073741824
theorem eq_NodeS {a : List SNode} (hl : a.length ≤ 1073741824) (hc : ∀ n ∈ a, CNd n) : F_laws_eqNodeS a a = some true := (U_laws_eqNodeS a a).out (by
  rw [eq_loop hl (fun f i x v hx hm => by
    have l1 := (List.getElem?_eq_some_iff.1 hx).1
    simp only [L_laws_eqNodeSx0, lt_nat hx, cond_true, ix_some hx, Option.bind_some, wrap_nat (show i < 9223372036854775807 by omega), eq_Node (hc x hm)]
    simp) (fun f v => by simp [L_laws_eqNodeSx0])]
  simp)
end Go.Proofs.YtglbcdlplbomdaaX
namespace Go.Proofs.YtglbcdlplbomdaaX
open Go Go.Proofs.YtglbcdlplbomdaaT
set_option linter.all false
theorem bsch_of {s : List Tb} (h : zL zTb s ≤ 1048576) : BSch s := ⟨by have := zL_len (z := zTb) (l := s); omega, fun t ht => by have := zL_mem (z := zTb) ht; have e : zTb t = t.1.size := rfl; omega⟩
theorem bplan_of {p : List Nd} (h : zL zNd p ≤ 1048576) : BPlan p := ⟨by have := zL_len (z := zNd) (l := p); omega, fun t ht => by
  have := zL_mem (z := zNd) ht; have e : zNd t = t.2.1.size + t.2.2.2.2.2.2.1.length := rfl; exact ⟨by omega, by omega⟩⟩
theorem cnd_of {p : List Nd} (h : zL zNd p ≤ 1048576) : ∀ n ∈ p, CNd n := fun t ht => by
  have := zL_mem (z := zNd) ht; have e : zNd t = t.2.1.size + t.2.2.2.2.2.2.1.length := rfl; unfold CNd; omega
theorem bne_self_int (a : Int) : (a != a) = false := by simp
theorem pure_FnExactCostOf {a0 : List STable} {a1 : List Int} {a2 : List SNode} (w0 : WL WTb a0) (w1 : a1.length ≤ maxLen) (w2 : WL WNd a2) : F_laws_FnExactCostOf a0 a1 a2 = some true := (U_laws_FnExactCostOf a0 a1 a2).out (by
  by_cases h1 : (a1.length : Int) > 1048576
  · simp [h1]
  simp only [h1, decide_false, cond_false]
  rw [sz_TableS w0 (by omega) (by omega)]
  by_cases h0 : (zL zTb a0 : Int) ≤ 1048576
  rotate_left
  · rw [if_neg h0]; simp
  rw [if_pos h0]
  simp only [Option.bind_some, sub_neg, h0, decide_true, Bool.not_true, cond_false]
  rw [sz_NodeS w2 (by omega) (by omega)]
  by_cases h2 : (zL zNd a2 : Int) ≤ 1048576 - (zL zTb a0 : Nat)
  rotate_left
  · rw [if_neg h2]; simp
  rw [if_pos h2]
  have hn : decide (1048576 - (zL zTb a0 : Int) - (zL zNd a2 : Int) < 0) = false := by simp; omega
  have b0 := bsch_of (s := a0) (by omega)
  have b2 := bplan_of (p := a2) (by omega)
  simp only [Option.bind_some, hn, cond_false, to_TableS (a := a0) (by omega), to_IntS (a := a1) (by omega), to_NodeS (a := a2) (by omega), V_spec_CostOf b0 (l := a1) (by omega) b2, V_impl_CostOf b0 (l := a1) (by omega) b2,
    bne_self_int, eq_TableS (a := a0) (by have := zL_len (z := zTb) (l := a0); omega), eq_IntS (a := a1) (by omega), eq_NodeS (a := a2) (by have := zL_len (z := zNd) (l := a2); omega) (cnd_of (by omega)), Bool.not_true])
end Go.Proofs.YtglbcdlplbomdaaX
namespace Go.Proofs.YtglbcdlplbomdaaX
open Go Go.Proofs.YtglbcdlplbomdaaT
theorem wl_IntS {n : Nat} {x : List Int} (h : wfT (.sl n (.int .i64)) x) : x.length ≤ maxLen := h.1
theorem wl_TableS {n : Nat} {x : List Tb} (h : wfT (.sl n (.pr .str (.pr (.int .i64) .un))) x) : WL WTb x := ⟨h.1, fun y hy => (h.2 y hy).1⟩
theorem wl_NodeS {n m : Nat} {x : List Nd} (h : wfT (.sl n (.pr (.int .i64) (.pr .str (.pr (.int .i64) (.pr (.int .i64) (.pr (.int .i64) (.pr .bool (.pr (.sl m (.int .i64)) .un)))))))) x) : WL WNd x :=
  ⟨h.1, fun y hy => ⟨(h.2 y hy).2.1, (h.2 y hy).2.2.2.2.2.2.1.1⟩⟩
end Go.Proofs.YtglbcdlplbomdaaX
