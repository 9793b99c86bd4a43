/- The plain law: the plain functions answer as the statement says. -/
import Derived.Test.YtglbcdlplbomdaaGA
set_option linter.all false
namespace Go.Proofs.YtglbcdlplbomdaaX
open Go Go.Proofs.YtglbcdlplbomdaaT
set_option linter.all false
@[simp] theorem V_spec_l01In (x lo hi : Int) : F_spec_l01In x lo hi = some (okIn x lo hi) := (U_spec_l01In x lo hi).out (by
  simp [okIn]; grind)
@[simp] theorem V_impl_in (x lo hi : Int) : F_impl_in x lo hi = some (okIn x lo hi) := (U_impl_in x lo hi).out (by
  simp [okIn]; grind)
@[simp] theorem V_impl_isCol (x : Int) : F_impl_isCol x = some (okIn x 0 63) := (U_impl_isCol x).out (by simp)
@[simp] theorem V_impl_isSlot (x : Int) : F_impl_isSlot x = some (okIn x 0 39) := (U_impl_isSlot x).out (by simp)
@[simp] theorem V_impl_isNum (x : Int) : F_impl_isNum x = some (okIn x (-1000000) 1000000) := (U_impl_isNum x).out (by simp)
@[simp] theorem V_spec_l02Col (x : Int) : F_spec_l02Col x = some (okIn x 0 63) := (U_spec_l02Col x).out (by simp)
@[simp] theorem V_spec_l01Number (x : Int) : F_spec_l01Number x = some (okIn x (-1000000) 1000000) := (U_spec_l01Number x).out (by simp)
@[simp] theorem V_spec_l12Cut (x : Int) : F_spec_l12Cut x = some (if x > 1000000 then 1000000 else x) := (U_spec_l12Cut x).out (by simp; grind)
@[simp] theorem V_spec_ArityOf (k : Int) : F_spec_ArityOf k = some (arity k) := (U_spec_ArityOf k).out (by
  simp [arity]; grind)
@[simp] theorem V_impl_ArityOf (k : Int) : F_impl_ArityOf k = some (arity k) := (U_impl_ArityOf k).out (by
  simp [arity]; grind)
theorem V_impl_WordOk {w : ByteArray} (hw : w.size ≤ 2147483648) : F_impl_WordOk w = some (wordOk w) := (U_impl_WordOk w).out (by
  have e := loop_chk (f := fun f s => L_impl_WordOkx0 w f s.1 s.2) (bl w) (fun i c => okIn c 97 122 || (!(decide (i = 0)) && okIn c 48 57)) false
    (fun i x a g hx => by
      have hl := (List.getElem?_eq_some_iff.1 hx).1
      rw [bl_len] at hl
      have h1 : decide ((i : Int) < (w.size : Int)) = true := by simpa using hl
      simp only [L_impl_WordOkx0, h1, cond_true, bix_some hx, Option.bind_some, wrap_nat (show i < 9223372036854775807 by omega), okIn, J_impl_WordOkx1, J_impl_WordOkx2, joinK_bif, joinK_go, joinK_ret]
      grind)
    (fun a g => by simp [L_impl_WordOkx0, bl_len]) false
  rw [e]
  simp only [wordOk, wordOkL, bl_len]
  cases allI (fun i c => okIn c 97 122 || (!(decide (i = 0)) && okIn c 48 57)) (bl w) 0 <;> simp)
theorem wordOk_len {w : ByteArray} (h : wordOk w = true) : 1 ≤ w.size ∧ w.size ≤ 12 := by
  simp only [wordOk, wordOkL, Bool.and_eq_true, bl_len, okIn_iff] at h
  omega
theorem V_spec_WordOk (w : ByteArray) : F_spec_WordOk w = some (wordOk w) := (U_spec_WordOk w).out (by
  by_cases hw : okIn w.size 1 12 = true
  · have hw' := okIn_iff.1 hw
    have hb : 0 < (bl w).length := by rw [bl_len]; omega
    have hx0 : (bl w)[0]? = some (bl w)[0] := List.getElem?_eq_getElem hb
    have e0 := bix_some hx0
    simp only [V_spec_l01In, Option.bind_some, hw, Bool.not_true, cond_false]
    rw [show (0 : Int) = ((0 : Nat) : Int) from rfl, e0]
    simp only [Option.bind_some, joinK_go, J_spec_WordOkx0]
    have e := loop_chk (f := fun f s => L_spec_WordOkx0 w f s.1 s.2) (bl w) (fun i c => okIn c 97 122 || okIn c 48 57) false
      (fun i x a g hx => by
        have hl := (List.getElem?_eq_some_iff.1 hx).1
        rw [bl_len] at hl
        have h1 : decide ((i : Int) < (w.size : Int)) = true := by simpa using hl
        simp only [L_spec_WordOkx0, h1, cond_true, bix_some hx, Option.bind_some, wrap_nat (show i < 9223372036854775807 by omega), okIn, J_spec_WordOkx2, joinK_bif, joinK_go, joinK_ret]
        grind)
      (fun a g => by simp [L_spec_WordOkx0, bl_len]) false
    rw [e]
    have hlen : okIn ((bl w).length : Int) 1 12 = true := by rw [bl_len]; exact hw
    simp only [wordOk, wordOkL, hlen, Bool.and_true]
    generalize bl w = l at hb
    match l, hb with
    | c :: l, _ =>
      have key : ∀ (l : List Int) (i : Nat), i ≠ 0 → allI (fun i c => okIn c 97 122 || (!(decide (i = 0)) && okIn c 48 57)) l i = allI (fun i c => okIn c 97 122 || okIn c 48 57) l i := by
        intro l
        induction l with
        | nil => intro i _; rfl
        | cons x xs ih => intro i hi; simp [allI, hi, ih (i + 1) (by omega)]
      simp only [allI, key l 1 (by omega), List.getElem_cons_zero]
      cases allI (fun i c => okIn c 97 122 || okIn c 48 57) l (0 + 1) <;> simp [okIn] <;> grind
  · have hw' : okIn w.size 1 12 = false := by simpa using hw
    simp [hw', wordOk, wordOkL, bl_len])
theorem V_spec_l01Less {a b : ByteArray} (ha : a.size ≤ 2147483648) : F_spec_l01Less a b = some (less a b) := (U_spec_l01Less a b).out (by
  have e := loop_brk (f := fun f s => L_spec_l01Lessx0 a b f s.1 s.2) ((bl a).zip (bl b)) (fun _ x => if x.1 = x.2 then none else some (decide (x.1 < x.2)))
    (fun i x v g hx => by
      obtain ⟨h1, h2⟩ := List.getElem?_zip_eq_some.1 hx
      have l1 := (List.getElem?_eq_some_iff.1 h1).1
      have l2 := (List.getElem?_eq_some_iff.1 h2).1
      rw [bl_len] at l1 l2
      have d1 : decide ((i : Int) < (a.size : Int)) = true := by simpa using l1
      have d2 : decide ((i : Int) < (b.size : Int)) = true := by simpa using l2
      simp only [L_spec_l01Lessx0, d1, d2, cond_true, bix_some h1, bix_some h2, Option.bind_some, joinK_go, J_spec_l01Lessx1, wrap_nat (show i < 9223372036854775807 by omega)]
      have hb : (x.1 != x.2) = !decide (x.1 = x.2) := rfl
      rw [hb]
      by_cases h : x.1 = x.2 <;> simp [h])
    (fun v g => by
      simp only [L_spec_l01Lessx0, List.length_zip, bl_len]
      by_cases h : a.size ≤ b.size
      · have h1 : decide (((min a.size b.size : Nat) : Int) < (a.size : Int)) = false := by simp only [decide_eq_false_iff_not]; omega
        simp only [h1, cond_false, joinK_go, J_spec_l01Lessx1]
      · have h1 : decide (((min a.size b.size : Nat) : Int) < (a.size : Int)) = true := by simp only [decide_eq_true_eq]; omega
        have h2 : decide (((min a.size b.size : Nat) : Int) < (b.size : Int)) = false := by simp only [decide_eq_false_iff_not]; omega
        simp only [h1, h2, cond_true, joinK_go, J_spec_l01Lessx1, cond_false]) false
  rw [e, less_lex]
  have key : ∀ (l : List (Int × Int)) (i : Nat), brkI (fun _ x => if x.1 = x.2 then none else some (decide (x.1 < x.2))) l i = lexE l := by
    intro l
    induction l with
    | nil => intro i; rfl
    | cons x xs ih =>
      intro i
      obtain ⟨x1, x2⟩ := x
      simp only [brkI, lexE]
      by_cases h : x1 = x2 <;> simp [h, ih]
  rw [key]
  cases lexE ((bl a).zip (bl b)) <;> simp [bl_len])
end Go.Proofs.YtglbcdlplbomdaaX
namespace Go.Proofs.YtglbcdlplbomdaaX
open Go Go.Proofs.YtglbcdlplbomdaaT
set_option linter.all false
theorem V_slices_Equal_Lint {a b : List Int} (ha : a.length ≤ 2147483648) : F_slices_Equal_Lint a b = some (decide (a = b)) := (U_slices_Equal_Lint a b).out (by
  by_cases hl : a.length = b.length
  · have h0 : ((a.length : Int) != (b.length : Int)) = false := by simp [hl]
    rw [h0]
    have e := loop_chk (f := fun f s => L_slices_Equal_Lintx0 a b f s.1 s.2) (a.zip b) (fun _ x => decide (x.1 = x.2)) false
      (fun i x v g hx => by
        obtain ⟨h1, h2⟩ := List.getElem?_zip_eq_some.1 hx
        have l1 := (List.getElem?_eq_some_iff.1 h1).1
        simp only [L_slices_Equal_Lintx0, lt_nat h1, cond_true, ix_some h1, ix_some h2, Option.bind_some, wrap_nat (show i < 9223372036854775807 by omega)]
        by_cases h : x.1 = x.2 <;> simp [h, bne_dec])
      (fun v g => by simp [L_slices_Equal_Lintx0, hl]) false
    rw [e, allI_const]
    have : (a.zip b).all (fun x => decide (x.1 = x.2)) = decide (a = b) := by
      clear e h0 ha
      induction a generalizing b with
      | nil => cases b <;> simp_all
      | cons x xs ih =>
        cases b with
        | nil => simp at hl
        | cons y ys =>
          simp only [List.length_cons, Nat.add_right_cancel_iff] at hl
          simp only [List.zip_cons_cons, List.all_cons, ih hl, List.cons.injEq]
          by_cases h1 : x = y <;> by_cases h2 : xs = ys <;> simp [h1, h2]
    rw [this]
    cases decide (a = b) <;> simp
  · have h0 : ((a.length : Int) != (b.length : Int)) = true := by simp [bne]; omega
    have : a ≠ b := fun e => hl (by rw [e])
    simp [h0, this])
theorem V_impl_sameNode {a b : SNode} (ha : a.2.2.2.2.2.2.1.length ≤ 2147483648) : F_impl_sameNode a b = some (decide (a = b)) := (U_impl_sameNode a b).out (by
  obtain ⟨k, name, col, op, num, slot, cols, u⟩ := a
  obtain ⟨k', name', col', op', num', slot', cols', u'⟩ := b
  simp only [V_slices_Equal_Lint ha, beq_toList]
  simp only [Prod.mk.injEq, beq_iff_eq]
  by_cases h1 : k = k' <;> by_cases h2 : name = name' <;> by_cases h3 : col = col' <;> by_cases h4 : op = op' <;> by_cases h5 : num = num' <;> cases slot <;> cases slot' <;> simp [h1, h2, h3, h4, h5, beq_dec])
@[simp] theorem V_impl_NodeOk_1 (x : Int) : F_impl_NodeOk_1 x = some (!okIn x 0 63) := (U_impl_NodeOk_1 x).out (by simp)
theorem findI_ge {T : Type} {p : T → Bool} {l : List T} : (match findI p l 0 with | some j => decide ((j : Int) ≥ 0) | none => decide ((-1 : Int) ≥ 0)) = l.any p := by
  cases h : findI p l 0 with
  | none => rw [findI_none.1 h]; rfl
  | some j =>
    have : l.any p = true := by
      cases ha : l.any p with
      | true => rfl
      | false => rw [findI_none.2 ha] at h; cases h
    rw [this]; simp
def fint (o : Option Nat) : Int := match o with | some j => j | none => -1
@[simp] theorem fint_neg (o : Option Nat) : decide (fint o < 0) = o.isNone := by
  cases o with
  | none => rfl
  | some j => exact nat_neg
@[simp] theorem fint_some (j : Nat) : fint (some j) = (j : Int) := rfl
@[simp] theorem fint_none : fint none = -1 := rfl
theorem V_slices_IndexFunc_Lint_impl_NodeOk_1 {l : List Int} (hl : l.length ≤ 2147483648) : F_slices_IndexFunc_Lint_impl_NodeOk_1 l = some (fint (findI (fun x => !okIn x 0 63) l 0)) := (U_slices_IndexFunc_Lint_impl_NodeOk_1 l).out (by
  have e := loop_find (f := fun f s => L_slices_IndexFunc_Lint_impl_NodeOk_1x0 l f s.1 s.2) l (fun x => !okIn x 0 63) (fun i => (i : Int))
    (fun i x v g hx => by
      have l1 := (List.getElem?_eq_some_iff.1 hx).1
      simp only [L_slices_IndexFunc_Lint_impl_NodeOk_1x0, lt_nat hx, cond_true, ix_some hx, Option.bind_some, V_impl_NodeOk_1, wrap_nat (show i < 9223372036854775807 by omega)])
    (fun v g => by simp [L_slices_IndexFunc_Lint_impl_NodeOk_1x0]) 0
  rw [e]
  cases findI (fun x => !okIn x 0 63) l 0 <;> simp [fint])
theorem fint_ge {T : Type} {p : T → Bool} {l : List T} : decide (fint (findI p l 0) ≥ 0) = l.any p := by
  rw [← findI_ge]
  cases findI p l 0 <;> rfl
theorem V_slices_ContainsFunc_Lint_impl_NodeOk_1 {l : List Int} (hl : l.length ≤ 2147483648) : F_slices_ContainsFunc_Lint_impl_NodeOk_1 l = some (l.any fun x => !okIn x 0 63) := (U_slices_ContainsFunc_Lint_impl_NodeOk_1 l).out (by
  simp only [V_slices_IndexFunc_Lint_impl_NodeOk_1 hl, Option.bind_some, fint_ge])
theorem all_not_any {T : Type} (p : T → Bool) : ∀ l : List T, (!l.any fun x => !p x) = l.all p
  | [] => rfl
  | x :: xs => by simp [← all_not_any p xs]
structure BNode (n : Nd) : Prop where
  name : n.2.1.size ≤ 2147483648
  cols : n.2.2.2.2.2.2.1.length ≤ 2147483648
theorem V_impl_NodeOk {n : SNode} (hb : BNode n) : F_impl_NodeOk n = some (nodeOk n) := (U_impl_NodeOk n).out (by
  obtain ⟨k, name, col, op, num, slot, cols, u⟩ := n
  obtain ⟨hn, hc⟩ := hb
  simp only at hn hc
  simp only [V_impl_WordOk hn, V_impl_isCol, V_impl_in, V_impl_isSlot, V_impl_isNum, V_slices_ContainsFunc_Lint_impl_NodeOk_1 hc, Option.bind_some, all_not_any]
  by_cases h0 : k = 0
  · subst h0
    simp only [nodeOk, beq_self_eq_true, cond_true, joinK_go, J_impl_NodeOkx0]
    simp only [V_impl_sameNode (a := (0, ByteArray.empty, col, op, num, slot, cols, ())) hc]
    cases wordOk name <;> cases slot <;> simp <;> grind
  have e0 : (k == 0) = false := by simpa using h0
  by_cases h1 : k = 1
  · subst h1
    simp only [nodeOk, e0, beq_self_eq_true, cond_true, cond_false, joinK_bif, joinK_go, J_impl_NodeOkx0, J_impl_NodeOkx1, J_impl_NodeOkx2, V_impl_isSlot, V_impl_isNum, Option.bind_some]
    simp only [V_impl_sameNode (a := (0, name, 0, 0, 0, false, cols, ())) hc]
    simp only [okIn, Prod.mk.injEq, Bool.decide_and]
    generalize decide (name = ByteArray.empty) = dn
    generalize decide (cols = []) = dc
    by_cases hz : num = 0
    · subst hz
      by_cases h2 : op = 3 <;> cases slot <;> cases dn <;> cases dc <;> simp [h2] <;> grind
    · by_cases h2 : op = 3 <;> cases slot <;> cases dn <;> cases dc <;> simp [h2, hz] <;> grind
  have e1 : (k == 1) = false := by simpa using h1
  by_cases h2 : k = 2
  · subst h2
    simp only [nodeOk, e0, e1, beq_self_eq_true, cond_true, cond_false, joinK_bif, joinK_go, J_impl_NodeOkx0, J_impl_NodeOkx3, Option.bind_some]
    simp only [V_impl_sameNode (a := (0, name, col, op, num, slot, [], ())) (by simp)]
    cases cols.all (fun c => okIn c 0 63) <;> cases okIn cols.length 1 6 <;> cases slot <;> simp <;> grind
  have e2 : (k == 2) = false := by simpa using h2
  by_cases h3 : k = 3
  · subst h3
    simp only [nodeOk, e0, e1, e2, beq_self_eq_true, cond_true, cond_false, joinK_bif, joinK_go, J_impl_NodeOkx0, J_impl_NodeOkx4, Option.bind_some]
    simp only [V_impl_sameNode (a := (0, name, 0, op, 0, slot, cols, ())) hc]
    cases okIn col 0 63 <;> cases okIn num 0 63 <;> cases slot <;> simp <;> grind
  have e3 : (k == 3) = false := by simpa using h3
  by_cases h5 : k = 5
  · subst h5
    simp only [nodeOk, e0, e1, e2, e3, beq_self_eq_true, cond_true, cond_false, joinK_bif, joinK_go, J_impl_NodeOkx0, Option.bind_some]
    simp only [V_impl_sameNode (a := (0, name, 0, op, num, slot, cols, ())) hc]
    cases okIn col 0 63 <;> cases slot <;> simp <;> grind
  have e5 : (k == 5) = false := by simpa using h5
  by_cases h6 : k = 6
  · subst h6
    simp only [nodeOk, e0, e1, e2, e3, e5, beq_self_eq_true, cond_true, cond_false, joinK_bif, joinK_go, J_impl_NodeOkx0, J_impl_NodeOkx5, Option.bind_some]
    simp only [V_impl_sameNode (a := (0, name, col, op, 0, false, cols, ())) hc]
    cases okIn num 0 1000000 <;> cases okIn num 0 39 <;> cases slot <;> simp <;> grind
  have e6 : (k == 6) = false := by simpa using h6
  simp only [nodeOk, e0, e1, e2, e3, e5, e6, h0, h1, h2, h3, h5, h6, cond_false, joinK_bif, joinK_go, J_impl_NodeOkx6, if_false]
  by_cases h4 : k = 4
  · subst h4
    simp only [beq_self_eq_true, cond_true, joinK_go, J_impl_NodeOkx0, V_impl_sameNode (a := (0, name, col, op, num, slot, cols, ())) hc]
    cases slot <;> simp <;> grind
  have e4 : (k == 4) = false := by simpa using h4
  by_cases h7 : k = 7
  · subst h7
    simp only [e4, beq_self_eq_true, cond_true, cond_false, joinK_go, J_impl_NodeOkx0, V_impl_sameNode (a := (0, name, col, op, num, slot, cols, ())) hc]
    cases slot <;> simp <;> grind
  have e7 : (k == 7) = false := by simpa using h7
  simp [e4, e7, h4, h7])
theorem V_spec_NodeOk {n : SNode} (hb : BNode n) : F_spec_NodeOk n = some (nodeOk n) := (U_spec_NodeOk n).out (by
  obtain ⟨k, name, col, op, num, slot, cols, u⟩ := n
  obtain ⟨hn, hc⟩ := hb
  simp only at hn hc
  have hlen : decide ((cols.length : Int) > 0) = !decide (cols = []) := by cases cols <;> simp <;> omega
  have e := loop_chk (f := fun f s => L_spec_NodeOkx0 (k, name, col, op, num, slot, cols, u) f s.1 s.2) cols (fun _ x => okIn x 0 63) (Ex.ret false)
      (fun i x v g hx => by
        have l1 := (List.getElem?_eq_some_iff.1 hx).1
        simp only [L_spec_NodeOkx0, lt_nat hx, cond_true, ix_some hx, Option.bind_some, V_spec_l02Col, wrap_nat (show i < 9223372036854775807 by omega)]
        cases okIn x 0 63 <;> rfl)
      (fun v g => by simp [L_spec_NodeOkx0]) false
  rw [allI_const] at e
  simp only [V_spec_l01In, Option.bind_some, beq_toList, hlen, J_spec_NodeOkx0, J_spec_NodeOkx4, V_spec_WordOk, V_spec_l02Col, V_spec_l01Number, e]
  simp only [nodeOk]
  have hne : ∀ a b : Int, (a != b) = !decide (a = b) := fun _ _ => rfl
  have heq : ∀ a b : Int, (a == b) = decide (a = b) := fun _ _ => rfl
  simp only [hne, heq]
  generalize decide (name = ByteArray.empty) = dn
  generalize decide (cols = []) = dc
  by_cases h0 : k = 0
  · subst h0
    cases dn <;> cases dc <;> cases slot <;> cases wordOk name <;> simp <;> grind
  by_cases h1 : k = 1
  · subst h1
    cases dn <;> cases dc <;> cases slot <;> simp [okIn] <;> grind
  by_cases h2 : k = 2
  · subst h2
    cases dn <;> cases dc <;> cases slot <;> cases cols.all (fun c => okIn c 0 63) <;> cases okIn cols.length 1 6 <;> simp <;> grind
  by_cases h3 : k = 3
  · subst h3
    cases dn <;> cases dc <;> cases slot <;> simp [okIn] <;> grind
  by_cases h5 : k = 5
  · subst h5
    cases dn <;> cases dc <;> cases slot <;> simp [okIn] <;> grind
  by_cases h6 : k = 6
  · subst h6
    cases dn <;> cases dc <;> cases slot <;> simp [okIn] <;> grind
  by_cases h4 : k = 4
  · subst h4
    cases dn <;> cases dc <;> cases slot <;> simp [okIn] <;> grind
  by_cases h7 : k = 7
  · subst h7
    cases dn <;> cases dc <;> cases slot <;> simp [okIn] <;> grind
  cases dn <;> cases dc <;> cases slot <;> simp [h0, h1, h2, h3, h4, h5, h6, h7] <;> grind)
end Go.Proofs.YtglbcdlplbomdaaX
namespace Go.Proofs.YtglbcdlplbomdaaX
open Go Go.Proofs.YtglbcdlplbomdaaT PT
set_option linter.all false
structure BPlan (p : List Nd) : Prop where
  len : p.length ≤ 1073741824
  nodes : ∀ n ∈ p, BNode n
theorem mem_of_get {T : Type} {l : List T} {i : Nat} {x : T} (h : l[i]? = some x) : x ∈ l := List.mem_of_getElem? h
theorem V_impl_PlanOk_1 {n : SNode} (hb : BNode n) : F_impl_PlanOk_1 n = some (!nodeOk n) := (U_impl_PlanOk_1 n).out (by
  obtain ⟨k, name, col, op, num, slot, cols, u⟩ := n
  have hb' : BNode (k, name, col, op, num, slot, cols, ()) := hb
  simp only [V_impl_NodeOk hb', Option.bind_some])
theorem V_slices_IndexFunc_LimplNode_impl_PlanOk_1 {l : List SNode} (hb : BPlan l) : F_slices_IndexFunc_LimplNode_impl_PlanOk_1 l = some (fint (findI (fun x => !nodeOk x) l 0)) := (U_slices_IndexFunc_LimplNode_impl_PlanOk_1 l).out (by
  have e := loop_find (f := fun f s => L_slices_IndexFunc_LimplNode_impl_PlanOk_1x0 l f s.1 s.2) l (fun x => !nodeOk x) (fun i => (i : Int))
    (fun i x v g hx => by
      have l1 := (List.getElem?_eq_some_iff.1 hx).1
      have := hb.len
      simp only [L_slices_IndexFunc_LimplNode_impl_PlanOk_1x0, lt_nat hx, cond_true, ix_some hx, Option.bind_some, V_impl_PlanOk_1 (hb.nodes x (mem_of_get hx)), wrap_nat (show i < 9223372036854775807 by omega)])
    (fun v g => by simp [L_slices_IndexFunc_LimplNode_impl_PlanOk_1x0]) 0
  rw [e]
  cases findI (fun x => !nodeOk x) l 0 <;> simp [fint])
theorem V_slices_ContainsFunc_LimplNode_impl_PlanOk_1 {l : List SNode} (hb : BPlan l) : F_slices_ContainsFunc_LimplNode_impl_PlanOk_1 l = some (l.any fun x => !nodeOk x) := (U_slices_ContainsFunc_LimplNode_impl_PlanOk_1 l).out (by
  simp only [V_slices_IndexFunc_LimplNode_impl_PlanOk_1 hb, Option.bind_some, fint_ge])
theorem parse_len : ∀ {r : Nat} {l : List Nd} {t : PT} {q : List Nd}, parse r l = some (t, q) → q.length < l.length
  | 0, _, _, _, h => by simp [parse] at h
  | r + 1, [], _, _, h => by simp [parse] at h
  | r + 1, n :: l, t, q, h => by
    simp only [parse] at h
    split at h
    · split at h
      · rename_i a q1 hp
        cases h
        have := parse_len hp
        simp; omega
      · cases h
    · split at h
      · split at h
        · rename_i a q1 hp
          have := parse_len hp
          split at h
          · rename_i b q2 hp2
            cases h
            have := parse_len hp2
            simp; omega
          · cases h
        · cases h
      · cases h; simp
theorem parse_drop {r : Nat} {l : List Nd} {t : PT} {q : List Nd} (h : parse r l = some (t, q)) : q = l.drop (l.length - q.length) := by
  suffices ∃ u, l = u ++ q by
    obtain ⟨u, rfl⟩ := this
    simp
  induction r generalizing l t q with
  | zero => simp [parse] at h
  | succ r ih =>
    cases l with
    | nil => simp [parse] at h
    | cons n l =>
      simp only [parse] at h
      split at h
      · split at h
        · rename_i a q1 hp
          cases h
          obtain ⟨u, rfl⟩ := ih hp
          exact ⟨n :: u, by simp⟩
        · cases h
      · split at h
        · split at h
          · rename_i a q1 hp
            split at h
            · rename_i b q2 hp2
              cases h
              obtain ⟨u, rfl⟩ := ih hp
              obtain ⟨v, rfl⟩ := ih hp2
              exact ⟨n :: (u ++ v), by simp⟩
            · cases h
          · cases h
        · cases h; exact ⟨[n], rfl⟩
def endM (p : List Nd) (r k : Nat) : Int := match parse r (p.drop k) with
  | some (_, q) => (p.length : Int) - q.length
  | none => -1
theorem endM_some {p : List Nd} {r k : Nat} {t : PT} {q : List Nd} (h : parse r (p.drop k) = some (t, q)) : ∃ j : Nat, endM p r k = (j : Int) ∧ k < j ∧ j ≤ p.length ∧ q = p.drop j := by
  have h1 := parse_len h
  have h2 := parse_drop h
  simp only [List.length_drop] at h1 h2
  refine ⟨p.length - q.length, ?_, by omega, by omega, ?_⟩
  · simp only [endM, h]; omega
  · rw [List.drop_drop, show k + (p.length - k - q.length) = p.length - q.length by omega] at h2
    exact h2
theorem wrap_sml {x : Int} (h : -9223372036854775808 ≤ x) (h' : x ≤ 9223372036854775807) : IntKind.i64.wrap x = x := by
  rw [IntKind.wrap_i64]; omega
theorem arity_cases {k : Int} (h : 0 ≤ arity k) : arity k = 0 ∨ arity k = 1 ∨ arity k = 2 := by
  revert h
  unfold arity
  repeat' split
  all_goals simp
theorem V_impl_end {p : List SNode} (hp : p.length ≤ 1073741824) (ha : ∀ n ∈ p, 0 ≤ arity n.1) : ∀ (r : Nat) (k : Nat) (d : Int), r ≤ 11 → d = 11 - r → F_impl_end p k d = some (endM p r k)
  | 0, k, d, _, hd => (U_impl_end p k d).out (by
    subst hd
    have : endM p 0 k = -1 := rfl
    rw [this]
    simp)
  | r + 1, k, d, hr, hd => (U_impl_end p k d).out (by
    have hd2 : decide (d > 10) = false := by simp; omega
    by_cases hk : k < p.length
    · have hx : p[k]? = some p[k] := List.getElem?_eq_getElem hk
      have h1 : decide ((k : Int) ≥ (p.length : Int)) = false := by simp; omega
      have hdr : p.drop k = p[k] :: p.drop (k + 1) := List.drop_eq_getElem_cons hk
      simp only [h1, cond_false, hd2, joinK_go, J_impl_endx0, ix_some hx, Option.bind_some, V_impl_ArityOf, wrap_nat (show k < 9223372036854775807 by omega)]
      have ha' := ha p[k] (mem_of_get hx)
      have ih := fun k => V_impl_end hp ha r k (IntKind.i64.wrap (d + 1)) (by omega) (by rw [wrap_sml (by omega) (by omega)]; omega)
      rcases arity_cases ha' with h | h | h
      · rw [h]
        rw [loopF_of (r := .go (0, ((k + 1 : Nat) : Int))) 1 (by
          intro n hn
          obtain ⟨m, rfl⟩ : ∃ m, n = m + 1 := ⟨n - 1, by omega⟩
          simp [loopK, L_impl_endx0])]
        simp only [joinK_go, J_impl_endx1, endM, hdr, parse, h]
        simp; omega
      · rw [h]
        cases hq : parse r (p.drop (k + 1)) with
        | none =>
          have e1 : endM p r (k + 1) = -1 := by simp only [endM, hq]
          rw [loopF_of (r := .ret (-1)) 1 (by
            intro n hn
            obtain ⟨m, rfl⟩ : ∃ m, n = m + 1 := ⟨n - 1, by omega⟩
            simp only [loopK, L_impl_endx0, ih, Option.bind_some, e1]
            simp)]
          simp only [joinK_ret, endM, hdr, parse, h, hq]
          simp
        | some x =>
          obtain ⟨t, q⟩ := x
          obtain ⟨j, e1, hj, hj2, hj3⟩ := endM_some hq
          rw [loopF_of (r := .go (0, (j : Int))) 2 (by
            intro n hn
            obtain ⟨m, rfl⟩ : ∃ m, n = m + 2 := ⟨n - 2, by omega⟩
            simp only [loopK, L_impl_endx0, ih, Option.bind_some, e1]
            simp)]
          simp only [joinK_go, J_impl_endx1, endM, hdr, parse, h, hq, if_true]
          rw [← e1]; simp only [endM, hq]
      · rw [h]
        cases hq : parse r (p.drop (k + 1)) with
        | none =>
          have e1 : endM p r (k + 1) = -1 := by simp only [endM, hq]
          rw [loopF_of (r := .ret (-1)) 1 (by
            intro n hn
            obtain ⟨m, rfl⟩ : ∃ m, n = m + 1 := ⟨n - 1, by omega⟩
            simp only [loopK, L_impl_endx0, ih, Option.bind_some, e1]
            simp)]
          simp only [joinK_ret, endM, hdr, parse, h, hq]
          simp
        | some x =>
          obtain ⟨t, q⟩ := x
          obtain ⟨j, e1, hj, hj2, hj3⟩ := endM_some hq
          subst hj3
          cases hq2 : parse r (p.drop j) with
          | none =>
            have e2 : endM p r j = -1 := by simp only [endM, hq2]
            rw [loopF_of (r := .ret (-1)) 2 (by
              intro n hn
              obtain ⟨m, rfl⟩ : ∃ m, n = m + 2 := ⟨n - 2, by omega⟩
              simp only [loopK, L_impl_endx0, ih, Option.bind_some, e1, e2]
              simp)]
            simp only [joinK_ret, endM, hdr, parse, h, hq, hq2]
            simp
          | some x =>
            obtain ⟨t2, q2⟩ := x
            obtain ⟨j2, e2, hj2, hj22, hj23⟩ := endM_some hq2
            rw [loopF_of (r := .go (0, (j2 : Int))) 3 (by
              intro n hn
              obtain ⟨m, rfl⟩ : ∃ m, n = m + 3 := ⟨n - 3, by omega⟩
              have w : IntKind.i64.wrap (1 + 1) = 2 := by rw [wrap_sml] <;> omega
              simp only [loopK, L_impl_endx0, ih, Option.bind_some, e1, e2]
              simp [w])]
            simp only [joinK_go, J_impl_endx1, endM, hdr, parse, h, hq, hq2, if_true]
            rw [← e2]; simp only [endM, hq2]
            simp
    · have h1 : decide ((k : Int) ≥ (p.length : Int)) = true := by simp; omega
      have hdr : p.drop k = [] := List.drop_eq_nil_of_le (by omega)
      simp only [h1, cond_true, joinK_go, J_impl_endx0, endM, hdr, parse])
end Go.Proofs.YtglbcdlplbomdaaX
namespace Go.Proofs.YtglbcdlplbomdaaX
open Go Go.Proofs.YtglbcdlplbomdaaT PT
set_option linter.all false
def endD (p : List Nd) (r k : Nat) : Int := match parse r (p.drop k) with
  | some (t, _) => t.depth
  | none => 0
theorem parse_depth : ∀ {r : Nat} {l : List Nd} {t : PT} {q : List Nd}, parse r l = some (t, q) → t.depth ≤ r
  | 0, _, _, _, h => by simp [parse] at h
  | r + 1, [], _, _, h => by simp [parse] at h
  | r + 1, n :: l, t, q, h => by
    simp only [parse] at h
    split at h
    · split at h
      · rename_i a q1 hp
        cases h
        have := parse_depth hp
        simp [PT.depth]; omega
      · cases h
    · split at h
      · split at h
        · rename_i a q1 hp
          have := parse_depth hp
          split at h
          · rename_i b q2 hp2
            cases h
            have := parse_depth hp2
            simp [PT.depth]; omega
          · cases h
        · cases h
      · cases h; simp [PT.depth]
theorem V_spec_l02End {p : List SNode} (hp : p.length ≤ 1073741824) (ha : ∀ n ∈ p, 0 ≤ arity n.1) : ∀ (r : Nat) (k : Nat) (d : Int), r ≤ 11 → d = r → F_spec_l02End p k d = some (endM p r k, endD p r k)
  | 0, k, d, _, hd => (U_spec_l02End p k d).out (by
    subst hd
    have h1 : endM p 0 k = -1 := rfl
    have h2 : endD p 0 k = 0 := rfl
    rw [h1, h2]
    simp)
  | r + 1, k, d, hr, hd => (U_spec_l02End p k d).out (by
    have hd2 : (d == 0) = false := by simp; omega
    by_cases hk : k < p.length
    · have hx : p[k]? = some p[k] := List.getElem?_eq_getElem hk
      have h1 : decide ((k : Int) ≥ (p.length : Int)) = false := by simp; omega
      have hdr : p.drop k = p[k] :: p.drop (k + 1) := List.drop_eq_getElem_cons hk
      simp only [h1, cond_false, hd2, joinK_go, J_spec_l02Endx0, wrap_nat (show k < 9223372036854775807 by omega)]
      have ha' := ha p[k] (mem_of_get hx)
      have ih := fun k => V_spec_l02End hp ha r k (IntKind.i64.wrap (d - 1)) (by omega) (by rw [wrap_sml (by omega) (by omega)]; omega)
      rcases arity_cases ha' with h | h | h
      · rw [loopF_of (r := .go (0, 0, ((k + 1 : Nat) : Int), 0)) 1 (by
          intro n hn
          obtain ⟨m, rfl⟩ : ∃ m, n = m + 1 := ⟨n - 1, by omega⟩
          simp only [loopK, L_spec_l02Endx0, ix_some hx, Option.bind_some, V_spec_ArityOf, h]
          simp)]
        simp only [joinK_go, J_spec_l02Endx1, endM, endD, hdr, parse, h]
        simp [PT.depth]; omega
      · cases hq : parse r (p.drop (k + 1)) with
        | none =>
          have e1 : endM p r (k + 1) = -1 := by simp only [endM, hq]
          rw [loopF_of (r := .ret ((-1), 0)) 1 (by
            intro n hn
            obtain ⟨m, rfl⟩ : ∃ m, n = m + 1 := ⟨n - 1, by omega⟩
            simp only [loopK, L_spec_l02Endx0, ix_some hx, Option.bind_some, V_spec_ArityOf, h, ih, e1]
            simp)]
          simp only [joinK_ret, endM, endD, hdr, parse, h, hq]
          simp
        | some x =>
          obtain ⟨t, q⟩ := x
          obtain ⟨j, e1, hj, hj2, hj3⟩ := endM_some hq
          have e1d : endD p r (k + 1) = (t.depth : Int) := by simp only [endD, hq]
          have hdp := parse_depth hq
          have hpos := t.depth_pos
          have hgt : decide ((t.depth : Int) > 0) = true := by simp; omega
          rw [loopF_of (r := .go (0, 0, (j : Int), (t.depth : Int))) 2 (by
            intro n hn
            obtain ⟨m, rfl⟩ : ∃ m, n = m + 2 := ⟨n - 2, by omega⟩
            simp only [loopK, L_spec_l02Endx0, ix_some hx, Option.bind_some, V_spec_ArityOf, h, ih, e1, e1d, hgt, cond_true]
            simp)]
          simp only [joinK_go, J_spec_l02Endx1, endM, endD, hdr, parse, h, hq, if_true, PT.depth]
          rw [← e1, wrap_nat (by omega)]; simp only [endM, hq]
      · cases hq : parse r (p.drop (k + 1)) with
        | none =>
          have e1 : endM p r (k + 1) = -1 := by simp only [endM, hq]
          rw [loopF_of (r := .ret ((-1), 0)) 1 (by
            intro n hn
            obtain ⟨m, rfl⟩ : ∃ m, n = m + 1 := ⟨n - 1, by omega⟩
            simp only [loopK, L_spec_l02Endx0, ix_some hx, Option.bind_some, V_spec_ArityOf, h, ih, e1]
            simp)]
          simp only [joinK_ret, endM, endD, hdr, parse, h, hq]
          simp
        | some x =>
          obtain ⟨t, q⟩ := x
          obtain ⟨j, e1, hj, hj2, hj3⟩ := endM_some hq
          have e1d : endD p r (k + 1) = (t.depth : Int) := by simp only [endD, hq]
          have hdp := parse_depth hq
          have hpos := t.depth_pos
          have hgt : decide ((t.depth : Int) > 0) = true := by simp; omega
          subst hj3
          cases hq2 : parse r (p.drop j) with
          | none =>
            have e2 : endM p r j = -1 := by simp only [endM, hq2]
            rw [loopF_of (r := .ret ((-1), 0)) 2 (by
              intro n hn
              obtain ⟨m, rfl⟩ : ∃ m, n = m + 2 := ⟨n - 2, by omega⟩
              simp only [loopK, L_spec_l02Endx0, ix_some hx, Option.bind_some, V_spec_ArityOf, h, ih, e1, e2, e1d, hgt, cond_true]
              simp [ih, e2])]
            simp only [joinK_ret, endM, endD, hdr, parse, h, hq, hq2]
            simp
          | some x =>
            obtain ⟨t2, q2⟩ := x
            obtain ⟨j2, e2, hj2, hj22, hj23⟩ := endM_some hq2
            have e2d : endD p r j = (t2.depth : Int) := by simp only [endD, hq2]
            have hdp2 := parse_depth hq2
            rw [loopF_of (r := .go (0, 0, (j2 : Int), ((max t.depth t2.depth : Nat) : Int))) 3 (by
              intro n hn
              obtain ⟨m, rfl⟩ : ∃ m, n = m + 3 := ⟨n - 3, by omega⟩
              have w : IntKind.i64.wrap (1 + 1) = 2 := by rw [wrap_sml] <;> omega
              simp only [loopK, L_spec_l02Endx0, ix_some hx, Option.bind_some, V_spec_ArityOf, h, ih, e1, e1d, hgt, cond_true]
              simp only [ih, e2, e2d, joinK_go, J_spec_l02Endx2, joinK_bind, joinK_bif, Option.bind_some, nat_neg, cond_false]
              by_cases hm : t2.depth > t.depth
              · have hmd : decide ((t2.depth : Int) > (t.depth : Int)) = true := by simp; omega
                rw [hmd, show max t.depth t2.depth = t2.depth by omega]
                simp [w]
              · have hmd : decide ((t2.depth : Int) > (t.depth : Int)) = false := by simp; omega
                rw [hmd, show max t.depth t2.depth = t.depth by omega]
                simp [w])]
            simp only [joinK_go, J_spec_l02Endx1, endM, endD, hdr, parse, h, hq, hq2, if_true, PT.depth]
            rw [← e2, wrap_nat (by omega)]; simp only [endM, hq2]
            simp [PT.depth]
    · have h1 : decide ((k : Int) ≥ (p.length : Int)) = true := by simp; omega
      have hdr : p.drop k = [] := List.drop_eq_nil_of_le (by omega)
      simp only [h1, cond_true, joinK_go, J_spec_l02Endx0, endM, endD, hdr, parse])
theorem planOk_eq (p : List Nd) (hn : p.all nodeOk = true) : (decide (endM p 10 0 = (p.length : Int)) && okIn p.length 1 40) = planOk p := by
  cases hl : okIn p.length 1 40 with
  | false => simp [planOk, planT, hl]
  | true =>
    simp only [planOk, planT, hl, hn, and_self, if_true, Bool.and_true, endM, List.drop_zero]
    have hl' := okIn_iff.1 hl
    cases h : parse 10 p with
    | none => simp
    | some x =>
      obtain ⟨t, q⟩ := x
      have := parse_len h
      cases q with
      | nil => simp
      | cons a q => simp at this ⊢; omega
theorem planOk_not {p : List Nd} (h : okIn p.length 1 40 = false ∨ p.all nodeOk = false) : planOk p = false := by
  rcases h with h | h <;> simp [planOk, planT, h]
theorem V_impl_PlanOk {p : List SNode} (hb : BPlan p) : F_impl_PlanOk p = some (planOk p) := (U_impl_PlanOk p).out (by
  simp only [V_impl_in, Option.bind_some, V_slices_ContainsFunc_LimplNode_impl_PlanOk_1 hb, joinK_bif, joinK_go, J_impl_PlanOkx0]
  cases hl : okIn p.length 1 40 with
  | false => simp [planOk_not (.inl hl)]
  | true =>
    rw [← Bool.not_not (p.any _), all_not_any]
    cases hn : p.all nodeOk with
    | false => simp [planOk_not (.inr hn)]
    | true =>
      have e := V_impl_end (p := p) hb.len (fun n hm => nodeOk_arity (by have := List.all_eq_true.1 hn n hm; simpa using this)) 10 0 1 (by omega) (by omega)
      rw [show ((0 : Nat) : Int) = 0 from rfl] at e
      simp only [e, Option.bind_some, Bool.not_true, cond_false, beq_dec, ← planOk_eq p hn, hl, Bool.and_true])
theorem V_spec_PlanOk {p : List SNode} (hb : BPlan p) : F_spec_PlanOk p = some (planOk p) := (U_spec_PlanOk p).out (by
  simp only [V_spec_l01In, Option.bind_some]
  have e := loop_chk (f := fun f s => L_spec_PlanOkx0 p f s.1 s.2) p (fun _ x => nodeOk x) false
    (fun i x v g hx => by
      have l1 := (List.getElem?_eq_some_iff.1 hx).1
      have := hb.len
      simp only [L_spec_PlanOkx0, lt_nat hx, cond_true, ix_some hx, Option.bind_some, V_spec_NodeOk (hb.nodes x (mem_of_get hx)), wrap_nat (show i < 9223372036854775807 by omega)]
      cases nodeOk x <;> rfl)
    (fun v g => by simp [L_spec_PlanOkx0]) false
  rw [e, allI_const]
  cases hl : okIn p.length 1 40 with
  | false => simp [planOk_not (.inl hl)]
  | true =>
    cases hn : p.all nodeOk with
    | false => simp [planOk_not (.inr hn)]
    | true =>
      have e := V_spec_l02End (p := p) hb.len (fun n hm => nodeOk_arity (by have := List.all_eq_true.1 hn n hm; simpa using this)) 10 0 10 (by omega) (by omega)
      rw [show ((0 : Nat) : Int) = 0 from rfl] at e
      simp only [e, Option.bind_some, Bool.not_true, cond_false, cond_true, joinK_go, J_spec_PlanOkx0, beq_dec, ← planOk_eq p hn, hl, Bool.and_true])
structure Good (t : PT) : Prop where
  ok : t.ok
  deep : t.depth ≤ 10
  nodes : ∀ n ∈ t.flat, nodeOk n = true
theorem PlanT.good {t : PT} (h : PlanT t) : Good t := ⟨h.ok, h.deep, h.nodes⟩
theorem Good.c1 {n : Nd} {a : PT} (h : Good (.n1 n a)) : Good a := ⟨h.ok.2, by have := h.deep; simp [PT.depth] at this; omega, fun m hm => h.nodes m (by simp [PT.flat, hm])⟩
theorem Good.l2 {n : Nd} {a b : PT} (h : Good (.n2 n a b)) : Good a := ⟨h.ok.2.1, by have := h.deep; simp [PT.depth] at this; omega, fun m hm => h.nodes m (by simp [PT.flat, hm])⟩
theorem Good.r2 {n : Nd} {a b : PT} (h : Good (.n2 n a b)) : Good b := ⟨h.ok.2.2, by have := h.deep; simp [PT.depth] at this; omega, fun m hm => h.nodes m (by simp [PT.flat, hm])⟩
theorem Good.hd {t : PT} (h : Good t) : nodeOk t.hd = true := h.nodes _ (by cases t <;> simp [PT.flat, PT.hd])
structure Pl (p : List Nd) : Prop where
  len : p.length ≤ 1073741824
  ar : ∀ n ∈ p, 0 ≤ arity n.1
theorem PlanT.pl {t : PT} (h : PlanT t) : Pl t.flat := ⟨by have := h.size; simp only [len_flat]; omega, fun n hn => nodeOk_arity (h.nodes n hn)⟩
theorem At.endM {p : List Nd} {k : Nat} {t : PT} (h : At p k t) (g : Good t) : endM p 10 k = ((k + t.size : Nat) : Int) := by
  have hp : parse 10 (p.drop k) = some (t, p.drop (k + t.size)) := by rw [h.rest]; exact flat_parse g.ok g.deep
  have := h.le
  simp only [_root_.Go.Proofs.YtglbcdlplbomdaaX.endM, hp, List.length_drop]
  omega
theorem At.endD {p : List Nd} {k : Nat} {t : PT} (h : At p k t) (g : Good t) : endD p 10 k = (t.depth : Int) := by
  have hp : parse 10 (p.drop k) = some (t, p.drop (k + t.size)) := by rw [h.rest]; exact flat_parse g.ok g.deep
  simp only [_root_.Go.Proofs.YtglbcdlplbomdaaX.endD, hp]
theorem At.V_end {p : List SNode} {k : Nat} {t : PT} (h : At p k t) (g : Good t) (hp : Pl p) : F_impl_end p k 1 = some ((k + t.size : Nat) : Int) := by
  rw [V_impl_end hp.len hp.ar 10 k 1 (by omega) (by omega), h.endM g]
theorem At.V_l02End {p : List SNode} {k : Nat} {t : PT} (h : At p k t) (g : Good t) (hp : Pl p) : F_spec_l02End p k 10 = some (((k + t.size : Nat) : Int), (t.depth : Int)) := by
  rw [V_spec_l02End hp.len hp.ar 10 k 10 (by omega) (by omega), h.endM g, h.endD g]
def kids (k : Nat) : PT → List Int
  | .n0 _ => []
  | .n1 _ _ => [((k + 1 : Nat) : Int)]
  | .n2 _ a _ => [((k + 1 : Nat) : Int), ((k + 1 + a.size : Nat) : Int)]
theorem At.V_children {p : List SNode} {k : Nat} {t : PT} (h : At p k t) (g : Good t) (hp : Pl p) : F_impl_children p k = some (kids k t) := (U_impl_children p k).out (by
  have hle := h.le
  have hl := hp.len
  have hx := h.hd
  simp only [ix_some hx, Option.bind_some, V_impl_ArityOf, wrap_nat (show k < 9223372036854775807 by omega)]
  cases t with
  | n0 n =>
    have ha : arity n.1 = 0 := g.ok
    simp only [PT.hd, ha]
    rw [loopF_of (r := .go []) 1 (by
      intro n hn
      obtain ⟨m, rfl⟩ : ∃ m, n = m + 1 := ⟨n - 1, by omega⟩
      simp [loopK, L_impl_childrenx0])]
    simp [kids]
  | n1 n a =>
    have ha : arity n.1 = 1 := g.ok.1
    have e := h.c1.V_end g.c1 hp
    simp only [PT.hd, ha]
    rw [loopF_of (r := .go [((k + 1 : Nat) : Int)]) 2 (by
      intro n hn
      obtain ⟨m, rfl⟩ : ∃ m, n = m + 2 := ⟨n - 2, by omega⟩
      simp only [loopK, L_impl_childrenx0, e, Option.bind_some]
      rw [apx_some (by simp)]
      simp [e])]
    simp [kids]
  | n2 n a b =>
    have ha : arity n.1 = 2 := g.ok.1
    have e := h.l2.V_end g.l2 hp
    have e2 := h.r2.V_end g.r2 hp
    simp only [PT.hd, ha]
    rw [loopF_of (r := .go [((k + 1 : Nat) : Int), ((k + 1 + a.size : Nat) : Int)]) 3 (by
      intro n hn
      obtain ⟨m, rfl⟩ : ∃ m, n = m + 3 := ⟨n - 3, by omega⟩
      have w : IntKind.i64.wrap (1 + 1) = 2 := by rw [wrap_sml] <;> omega
      simp only [loopK, L_impl_childrenx0, e, Option.bind_some]
      rw [apx_some (by simp)]
      simp only [Option.bind_some]
      rw [apx_some (by simp)]
      simp only [Option.bind_some, e, e2]
      simp [w])]
    simp [kids])
theorem At.V_l02Kids {p : List SNode} {k : Nat} {t : PT} (h : At p k t) (g : Good t) (hp : Pl p) : F_spec_l02Kids p k = some (kids k t) := (U_spec_l02Kids p k).out (by
  have hle := h.le
  have hl := hp.len
  have hx := h.hd
  simp only [wrap_nat (show k < 9223372036854775807 by omega)]
  cases t with
  | n0 n =>
    have ha : arity n.1 = 0 := g.ok
    rw [loopF_of (r := .go []) 1 (by
      intro n hn
      obtain ⟨m, rfl⟩ : ∃ m, n = m + 1 := ⟨n - 1, by omega⟩
      simp only [loopK, L_spec_l02Kidsx0, ix_some hx, Option.bind_some, V_spec_ArityOf, PT.hd, ha]
      simp)]
    simp [kids]
  | n1 n a =>
    have ha : arity n.1 = 1 := g.ok.1
    have e := h.c1.V_l02End g.c1 hp
    rw [loopF_of (r := .go [((k + 1 : Nat) : Int)]) 2 (by
      intro n hn
      obtain ⟨m, rfl⟩ : ∃ m, n = m + 2 := ⟨n - 2, by omega⟩
      simp only [loopK, L_spec_l02Kidsx0, e, Option.bind_some, ix_some hx, V_spec_ArityOf, PT.hd, ha]
      rw [apx_some (by simp)]
      simp [e])]
    simp [kids]
  | n2 n a b =>
    have ha : arity n.1 = 2 := g.ok.1
    have e := h.l2.V_l02End g.l2 hp
    have e2 := h.r2.V_l02End g.r2 hp
    rw [loopF_of (r := .go [((k + 1 : Nat) : Int), ((k + 1 + a.size : Nat) : Int)]) 3 (by
      intro n hn
      obtain ⟨m, rfl⟩ : ∃ m, n = m + 3 := ⟨n - 3, by omega⟩
      have w : IntKind.i64.wrap (1 + 1) = 2 := by rw [wrap_sml] <;> omega
      simp only [loopK, L_spec_l02Kidsx0, e, Option.bind_some, ix_some hx, V_spec_ArityOf, PT.hd, ha]
      rw [apx_some (by simp)]
      simp only [Option.bind_some]
      rw [apx_some (by simp)]
      simp only [Option.bind_some, e, e2]
      simp [w])]
    simp [kids])
end Go.Proofs.YtglbcdlplbomdaaX
namespace Go.Proofs.YtglbcdlplbomdaaX
open Go Go.Proofs.YtglbcdlplbomdaaT PT
set_option linter.all false
structure BSch (s : List Tb) : Prop where
  len : s.length ≤ 1073741824
  names : ∀ t ∈ s, t.1.size ≤ 2147483648
def schP (s : List Tb) (i : Nat) (x : Tb) : Bool := wordOk x.1 && okIn x.2.1 1 6 && (decide (i = 0) || match s[i - 1]? with | some y => less y.1 x.1 | none => true)
def schemaOk (s : List Tb) : Bool := allI (schP s) s 0 && decide (s.length ≤ 8)
theorem V_impl_SchemaOk {s : List STable} (hb : BSch s) : F_impl_SchemaOk s = some (schemaOk s) := (U_impl_SchemaOk s).out (by
  have e := loop_chk (f := fun f z => L_impl_SchemaOkx0 s f z.1 z.2) s (schP s) false
    (fun i x v g hx => by
      have l1 := (List.getElem?_eq_some_iff.1 hx).1
      have hl := hb.len
      have hw := hb.names x (mem_of_get hx)
      have hi : decide ((i : Int) > 0) = !decide (i = 0) := by
        by_cases h : i = 0
        · simp [h]
        · simp [h]; omega
      simp only [L_impl_SchemaOkx0, lt_nat hx, cond_true, ix_some hx, Option.bind_some, V_impl_WordOk hw, V_impl_in, hi, wrap_nat (show i < 9223372036854775807 by omega)]
      by_cases h : i = 0
      · subst h
        cases h1 : wordOk x.1 <;> cases h2 : okIn x.2.1 1 6 <;> simp [schP, h1, h2]
      · have hy : s[i - 1]? = some s[i - 1] := List.getElem?_eq_getElem (by omega)
        have hwr : IntKind.i64.wrap ((i : Int) - 1) = ((i - 1 : Nat) : Int) := by rw [wrap_sml] <;> omega
        have hw1 := wrap_nat (show i < 9223372036854775807 by omega)
        simp only [hwr, ix_some hy]
        cases h1 : wordOk x.1 <;> cases h2 : okIn x.2.1 1 6 <;> cases h3 : less s[i - 1].1 x.1 <;> simp [schP, h, hy, less_def, h1, h2, h3, hw1])
    (fun v g => by simp [L_impl_SchemaOkx0]) false
  rw [e]
  simp only [schemaOk]
  cases allI (schP s) s 0 <;> simp <;> omega)
theorem V_spec_SchemaOk {s : List STable} (hb : BSch s) : F_spec_SchemaOk s = some (schemaOk s) := (U_spec_SchemaOk s).out (by
  have e := loop_chk (f := fun f z => L_spec_SchemaOkx0 s f z.1 z.2) s (schP s) false
    (fun i x v g hx => by
      have l1 := (List.getElem?_eq_some_iff.1 hx).1
      have hl := hb.len
      have hw := hb.names x (mem_of_get hx)
      have hi : decide ((i : Int) > 0) = !decide (i = 0) := by
        by_cases h : i = 0
        · simp [h]
        · simp [h]; omega
      simp only [L_spec_SchemaOkx0, lt_nat hx, cond_true, ix_some hx, Option.bind_some, V_spec_WordOk, V_spec_l01In, hi, wrap_nat (show i < 9223372036854775807 by omega)]
      by_cases h : i = 0
      · subst h
        cases h1 : wordOk x.1 <;> cases h2 : okIn x.2.1 1 6 <;> simp [schP, h1, h2]
      · have hy : s[i - 1]? = some s[i - 1] := List.getElem?_eq_getElem (by omega)
        have hwr : IntKind.i64.wrap ((i : Int) - 1) = ((i - 1 : Nat) : Int) := by rw [wrap_sml] <;> omega
        have hw1 := wrap_nat (show i < 9223372036854775807 by omega)
        simp only [hwr, ix_some hy, V_spec_l01Less (hb.names _ (mem_of_get hy)), Option.bind_some]
        cases h1 : wordOk x.1 <;> cases h2 : okIn x.2.1 1 6 <;> cases h3 : less s[i - 1].1 x.1 <;> simp [schP, h, hy, h1, h2, h3, hw1])
    (fun v g => by simp [L_spec_SchemaOkx0]) false
  rw [e]
  simp only [schemaOk]
  by_cases h : s.length ≤ 8
  · have h' : decide ((s.length : Int) > 8) = false := by simp; omega
    rw [h']
    cases allI (schP s) s 0 <;> simp [h]
  · have h' : decide ((s.length : Int) > 8) = true := by simp; omega
    rw [h']
    simp [h])
theorem allI_get {T : Type} {p : Nat → T → Bool} : ∀ {l : List T} {k : Nat}, allI p l k = true → ∀ {i : Nat} {x : T}, l[i]? = some x → p (k + i) x = true
  | [], _, _, _, _, h => by simp at h
  | y :: l, k, h, i, x, hx => by
    simp only [allI, Bool.and_eq_true] at h
    cases i with
    | zero => simp at hx; subst hx; exact h.1
    | succ i =>
      have := allI_get h.2 (i := i) (x := x) (by simpa using hx)
      rw [show k + (i + 1) = k + 1 + i by omega]; exact this
theorem schemaOk_get {s : List Tb} (h : schemaOk s = true) {t : Tb} (ht : t ∈ s) : wordOk t.1 = true ∧ 1 ≤ t.2.1 ∧ t.2.1 ≤ 6 := by
  simp only [schemaOk, Bool.and_eq_true] at h
  obtain ⟨i, hi⟩ := List.mem_iff_getElem?.1 ht
  have := allI_get h.1 hi
  simp only [schP, Bool.and_eq_true, okIn_iff] at this
  exact ⟨this.1.1, this.1.2⟩
theorem schemaOk_len {s : List Tb} (h : schemaOk s = true) : s.length ≤ 8 := by
  simp only [schemaOk, Bool.and_eq_true, decide_eq_true_eq] at h
  exact h.2
def tabAt (s : List Tb) (name : ByteArray) : Option Nat := findI (fun t => decide (t.1 = name)) s 0
theorem V_impl_tableAt_1 (t : STable) (n : ByteArray) : F_impl_tableAt_1 t n = some (decide (t.1 = n), n) := (U_impl_tableAt_1 t n).out (by rw [beq_toList])
theorem V_slices_IndexFunc_LimplTable_impl_tableAt_1 {s : List STable} (hl : s.length ≤ 1073741824) (name : ByteArray) : F_slices_IndexFunc_LimplTable_impl_tableAt_1 s name = some (fint (tabAt s name), name) := (U_slices_IndexFunc_LimplTable_impl_tableAt_1 s name).out (by
  have := loop_findC (f := fun f z => L_slices_IndexFunc_LimplTable_impl_tableAt_1x0 s f z.1 z.2.1 z.2.2) s (fun t => decide (t.1 = name)) name
    (fun i x a g hx => by
      have l1 := (List.getElem?_eq_some_iff.1 hx).1
      simp only [L_slices_IndexFunc_LimplTable_impl_tableAt_1x0, lt_nat hx, cond_true, ix_some hx, Option.bind_some, V_impl_tableAt_1, wrap_nat (show i < 9223372036854775807 by omega)])
    (fun a g => by simp [L_slices_IndexFunc_LimplTable_impl_tableAt_1x0]) 0
  rw [this]
  simp only [tabAt]
  cases findI (fun t => decide (t.1 = name)) s 0 <;> simp [fint])
theorem V_impl_tableAt {s : List STable} (hl : s.length ≤ 1073741824) (name : ByteArray) : F_impl_tableAt s name = some (fint (tabAt s name)) := (U_impl_tableAt s name).out (by
  simp [V_slices_IndexFunc_LimplTable_impl_tableAt_1 hl])
theorem V_spec_l03Find {s : List STable} (hl : s.length ≤ 1073741824) (name : ByteArray) : F_spec_l03Find s name = some (fint (tabAt s name)) := (U_spec_l03Find s name).out (by
  have := loop_find (f := fun f z => L_spec_l03Findx0 s name f z.1 z.2) s (fun t => decide (t.1 = name)) (fun i => (i : Int))
    (fun i x a g hx => by
      have l1 := (List.getElem?_eq_some_iff.1 hx).1
      simp only [L_spec_l03Findx0, lt_nat hx, cond_true, ix_some hx, Option.bind_some, beq_toList, wrap_nat (show i < 9223372036854775807 by omega)])
    (fun a g => by simp [L_spec_l03Findx0]) 0
  rw [this]
  simp only [tabAt]
  cases findI (fun t => decide (t.1 = name)) s 0 <;> simp [fint])
theorem tabAt_some {s : List Tb} {name : ByteArray} {j : Nat} (h : tabAt s name = some j) : ∃ t, s[j]? = some t ∧ t.1 = name ∧ t ∈ s := by
  obtain ⟨_, t, h1, h2⟩ := findI_some h
  simp only [Nat.sub_zero, decide_eq_true_eq] at h1 h2
  exact ⟨t, h1, h2, mem_of_get h1⟩
def oint (o : Option Int) : Int := match o with | some x => x | none => -1
def wT (s : List Tb) : PT → Option Int
  | .n0 n => match tabAt s n.2.1 with
    | some j => match s[j]? with
      | some t => some t.2.1
      | none => none
    | none => none
  | .n1 n a => match wT s a with
    | none => none
    | some w => if n.1 = 2 then (if n.2.2.2.2.2.2.1.all (fun c => decide (c < w)) = true then some n.2.2.2.2.2.2.1.length else none)
      else if n.1 = 1 ∨ n.1 = 5 then (if n.2.2.1 < w then some w else none) else some w
  | .n2 n a b => match wT s a, wT s b with
    | some w, some v => if n.1 = 3 then (if n.2.2.1 < w ∧ n.2.2.2.2.1 < v ∧ w + v ≤ 64 then some (w + v) else none) else if w = v then some w else none
    | _, _ => none
theorem kind0 {n : Nd} (h : arity n.1 = 0) : n.1 = 0 := by
  revert h; unfold arity; repeat' split
  all_goals simp_all
theorem kind1 {n : Nd} (h : arity n.1 = 1) : n.1 = 1 ∨ n.1 = 2 ∨ n.1 = 5 ∨ n.1 = 6 ∨ n.1 = 7 := by
  revert h; unfold arity; repeat' split
  all_goals simp_all
theorem kind2 {n : Nd} (h : arity n.1 = 2) : n.1 = 3 ∨ n.1 = 4 := by
  revert h; unfold arity; repeat' split
  all_goals simp_all
theorem nodeOk_keep {n : Nd} (h : nodeOk n = true) (hk : n.1 = 2) : 1 ≤ n.2.2.2.2.2.2.1.length ∧ n.2.2.2.2.2.2.1.length ≤ 6 ∧ ∀ c ∈ n.2.2.2.2.2.2.1, 0 ≤ c ∧ c ≤ 63 := by
  obtain ⟨k, name, col, op, num, slot, cols, u⟩ := n
  simp only at hk
  subst hk
  simp [nodeOk, okIn] at h
  refine ⟨by simp only; omega, by simp only; omega, ?_⟩
  intro c hc
  exact h.2.1.1.1.1 c hc
theorem wT_range {s : List Tb} (hs : schemaOk s = true) : ∀ {t : PT} {w : Int}, Good t → wT s t = some w → 1 ≤ w ∧ w ≤ 64
  | .n0 n, w, g, h => by
    simp only [wT] at h
    split at h
    · rename_i j hj
      split at h
      · rename_i t ht
        cases h
        have := schemaOk_get hs (mem_of_get ht)
        omega
      · cases h
    · cases h
  | .n1 n a, w, g, h => by
    simp only [wT] at h
    split at h
    · cases h
    · rename_i w' hw
      have := wT_range hs g.c1 hw
      split at h
      · rename_i hk
        split at h
        · cases h
          have := nodeOk_keep g.hd hk
          simp only [PT.hd] at this
          omega
        · cases h
      · split at h
        · split at h
          · cases h; exact this
          · cases h
        · cases h; exact this
  | .n2 n a b, w, g, h => by
    simp only [wT] at h
    split at h
    · rename_i w' v hw hv
      have h1 := wT_range hs g.l2 hw
      have h2 := wT_range hs g.r2 hv
      split at h
      · split at h
        · cases h; omega
        · cases h
      · split at h
        · cases h; exact h1
        · cases h
    · cases h
theorem V_slices_Max_Lint {l : List Int} (h1 : 1 ≤ l.length) (h2 : l.length ≤ 1073741824) : ∃ m, F_slices_Max_Lint l = some m ∧ ∀ w, decide (m ≥ w) = !l.all (fun c => decide (c < w)) := by
  suffices h : ∃ m, F_slices_Max_Lint l = some m ∧ ∀ w, m ≥ w ↔ l.all (fun c => decide (c < w)) = false by
    obtain ⟨m, h1, h2⟩ := h
    refine ⟨m, h1, fun w => ?_⟩
    cases hb : l.all (fun c => decide (c < w)) with
    | false => simp [(h2 w).2 hb]
    | true => simp only [Bool.not_true, decide_eq_false_iff_not]; intro hc; rw [(h2 w).1 hc] at hb; cases hb
  match l, h1 with
  | x :: l, _ =>
    refine ⟨l.foldl (fun a x => mmx true a x) x, (U_slices_Max_Lint (x :: l)).out ?_, ?_⟩
    · have hd : decide (((x :: l).length : Int) < 1) = false := by simp; omega
      rw [hd]
      have e := loop_fold (f := fun f z => L_slices_Max_Lintx0 (x :: l) f z.1 z.2) (fun i a => (a, ((i + 1 : Nat) : Int))) l (fun _ _ => True) (fun _ x a => mmx true a x)
        (fun i y a g hy _ => by
          have l1 := (List.getElem?_eq_some_iff.1 hy).1
          have hx : (x :: l)[i + 1]? = some y := by simpa using hy
          simp only [List.length_cons] at h2
          simp only [L_slices_Max_Lintx0, lt_nat hx, cond_true, ix_some hx, Option.bind_some, wrap_nat (show i + 1 < 9223372036854775807 by omega)])
        (fun _ _ _ _ _ => trivial) (fun a g _ => by simp [L_slices_Max_Lintx0]) x trivial
      rw [foldI_const (fun x a => mmx true a x)] at e
      have h0 : ix (x :: l) 0 = some x := by rw [show (0 : Int) = ((0 : Nat) : Int) from rfl, ix_nat]; rfl
      simp only [cond_false, joinK_go, J_slices_Max_Lintx0, h0, Option.bind_some]
      rw [show ((0 + 1 : Nat) : Int) = 1 from rfl] at e
      rw [e]; simp
    · intro w
      clear h2
      induction l generalizing x with
      | nil => simp
      | cons y l ih =>
        have ih := ih (mmx true x y) (by simp)
        simp only [List.foldl_cons]
        rw [ih]
        simp only [List.all_cons, mmx, cond_true]
        by_cases h : y > x
        · simp only [h, decide_true, cond_true]
          by_cases h3 : y < w
          · have : x < w := by omega
            simp [h3, this]
          · simp [h3]
        · simp only [h, decide_false, cond_false]
          by_cases h3 : x < w
          · have : y < w := by omega
            simp [h3, this]
          · simp [h3]
theorem ix0 {T : Type} (x : T) (l : List T) : ix (x :: l) 0 = some x := by rw [show (0 : Int) = ((0 : Nat) : Int) from rfl, ix_nat]; rfl
theorem ix1 {T : Type} (x y : T) (l : List T) : ix (x :: y :: l) 1 = some y := by rw [show (1 : Int) = ((1 : Nat) : Int) from rfl, ix_nat]; rfl
theorem V_impl_width {s : List STable} (hs : schemaOk s = true) {p : List SNode} (hp : Pl p) : ∀ (t : PT) (k : Nat), At p k t → Good t → F_impl_width s p k = some (oint (wT s t))
  | .n0 n, k, h, g => (U_impl_width s p k).out (by
    have hk := kind0 (n := n) g.ok
    have hx : p[k]? = some n := h.hd
    have hl := schemaOk_len hs
    simp only [h.V_children g hp, kids, Option.bind_some]
    rw [loopF_of (r := .go (0, [])) 1 (by
      intro n hn
      obtain ⟨m, rfl⟩ : ∃ m, n = m + 1 := ⟨n - 1, by omega⟩
      simp [loopK, L_impl_widthx0])]
    simp only [joinK_go, J_impl_widthx0, ix_some hx, Option.bind_some, hk, V_impl_tableAt (show s.length ≤ 1073741824 by omega), wT, joinK_bind, joinK_bif, fint_neg, beq_dec, decide_true, cond_true]
    cases ht : tabAt s n.2.1 with
    | none => simp [fint, oint]
    | some j =>
      obtain ⟨t, h1, _, _⟩ := tabAt_some ht
      simp only [fint_some, ix_some h1, h1]
      simp [oint])
  | .n1 n a, k, h, g => (U_impl_width s p k).out (by
    have hk := kind1 (n := n) g.ok.1
    have hx : p[k]? = some n := h.hd
    have ih := V_impl_width hs hp a (k + 1) h.c1 g.c1
    simp only [h.V_children g hp, kids, Option.bind_some]
    generalize ((k + 1 : Nat) : Int) = j1 at *
    cases hw : wT s a with
    | none =>
      rw [hw] at ih
      rw [loopF_of (r := .ret (-1)) 1 (by
        intro n hn
        obtain ⟨m, rfl⟩ : ∃ m, n = m + 1 := ⟨n - 1, by omega⟩
        simp only [loopK, L_impl_widthx0, ix0, Option.bind_some, ih, oint]
        simp)]
      simp [wT, hw, oint]
    | some w =>
      rw [hw] at ih
      have hr := wT_range hs g.c1 hw
      have hneg : decide (w < 0) = false := by simp; omega
      rw [loopF_of (r := .go (0, [w])) 2 (by
        intro n hn
        obtain ⟨m, rfl⟩ : ∃ m, n = m + 2 := ⟨n - 2, by omega⟩
        simp only [loopK, L_impl_widthx0, ix0, Option.bind_some, ih, oint, hneg]
        rw [apx_some (by simp)]
        simp)]
      simp only [joinK_go, J_impl_widthx0, ix_some hx, Option.bind_some, wT, hw]
      rcases hk with hk | hk | hk | hk | hk
      · simp only [hk]
        by_cases hc : n.2.2.1 < w
        · have : decide (n.2.2.1 ≥ w) = false := by simp; omega
          simp [ix0, this, hc, oint, hk]
        · have : decide (n.2.2.1 ≥ w) = true := by simp; omega
          simp [ix0, this, hc, oint, hk]
      · have hn := nodeOk_keep g.hd hk
        simp only [PT.hd] at hn
        obtain ⟨m, hm, hm2⟩ := V_slices_Max_Lint hn.1 (by omega)
        simp only [hk, hm, Option.bind_some, ix0, J_impl_widthx2, hm2 w]
        cases hc : n.2.2.2.2.2.2.1.all (fun c => decide (c < w)) <;> simp [oint, ix0, hm, hm2, hc, hk]
      · simp only [hk]
        by_cases hc : n.2.2.1 < w
        · have : decide (n.2.2.1 ≥ w) = false := by simp; omega
          simp [ix0, this, hc, oint, hk]
        · have : decide (n.2.2.1 ≥ w) = true := by simp; omega
          simp [ix0, this, hc, oint, hk]
      · simp [hk, ix0, oint]
      · simp [hk, ix0, oint])
  | .n2 n a b, k, h, g => (U_impl_width s p k).out (by
    have hk := kind2 (n := n) g.ok.1
    have hx : p[k]? = some n := h.hd
    have ih := V_impl_width hs hp a (k + 1) h.l2 g.l2
    have ih2 := V_impl_width hs hp b (k + 1 + a.size) h.r2 g.r2
    simp only [h.V_children g hp, kids, Option.bind_some]
    generalize ((k + 1 : Nat) : Int) = j1 at *
    generalize ((k + 1 + a.size : Nat) : Int) = j2 at *
    cases hw : wT s a with
    | none =>
      rw [hw] at ih
      rw [loopF_of (r := .ret (-1)) 1 (by
        intro n hn
        obtain ⟨m, rfl⟩ : ∃ m, n = m + 1 := ⟨n - 1, by omega⟩
        simp only [loopK, L_impl_widthx0, ix0, Option.bind_some, ih, oint]
        simp)]
      simp [wT, hw, oint]
    | some w =>
      rw [hw] at ih
      have hr := wT_range hs g.l2 hw
      have hneg : decide (w < 0) = false := by simp; omega
      cases hv : wT s b with
      | none =>
        rw [hv] at ih2
        rw [loopF_of (r := .ret (-1)) 2 (by
          intro n hn
          obtain ⟨m, rfl⟩ : ∃ m, n = m + 2 := ⟨n - 2, by omega⟩
          simp only [loopK, L_impl_widthx0, ix0, Option.bind_some, ih, oint, hneg]
          rw [apx_some (by simp)]
          simp [ix1, ih2, oint])]
        simp [wT, hw, hv, oint]
      | some v =>
        rw [hv] at ih2
        have hr2 := wT_range hs g.r2 hv
        have hneg2 : decide (v < 0) = false := by simp; omega
        rw [loopF_of (r := .go (0, [w, v])) 3 (by
          intro n hn
          obtain ⟨m, rfl⟩ : ∃ m, n = m + 3 := ⟨n - 3, by omega⟩
          have ww : IntKind.i64.wrap (1 + 1) = 2 := by rw [wrap_sml] <;> omega
          simp only [loopK, L_impl_widthx0, ix0, Option.bind_some, ih, oint, hneg]
          rw [apx_some (by simp)]
          simp [ix1, ih2, oint, hneg2]
          rw [apx_some (by simp)]
          simp [ww])]
        simp only [joinK_go, J_impl_widthx0, ix_some hx, Option.bind_some, wT, hw, hv]
        rcases hk with hk | hk
        · simp only [hk]
          have hwr : IntKind.i64.wrap (w + v) = w + v := by rw [wrap_sml] <;> omega
          have d1 : decide (n.2.2.1 ≥ w) = !decide (n.2.2.1 < w) := by by_cases h : n.2.2.1 < w <;> simp [h] <;> omega
          have d2 : decide (n.2.2.2.2.1 ≥ v) = !decide (n.2.2.2.2.1 < v) := by by_cases h : n.2.2.2.2.1 < v <;> simp [h] <;> omega
          have d3 : decide (w + v > 64) = !decide (w + v ≤ 64) := by by_cases h : w + v ≤ 64 <;> simp [h] <;> omega
          by_cases h1 : n.2.2.1 < w <;> by_cases h2 : n.2.2.2.2.1 < v <;> by_cases h3 : w + v ≤ 64 <;> simp [ix0, ix1, hwr, d1, d2, d3, h1, h2, h3, oint, hk]
        · simp only [hk]
          by_cases h1 : w = v <;> simp [ix0, ix1, h1, oint, bne_dec, hk])
end Go.Proofs.YtglbcdlplbomdaaX
namespace Go.Proofs.YtglbcdlplbomdaaX
open Go Go.Proofs.YtglbcdlplbomdaaT PT
set_option linter.all false
theorem V_spec_l03Width {s : List STable} (hs : schemaOk s = true) {p : List SNode} (hp : Pl p) : ∀ (t : PT) (k : Nat), At p k t → Good t → F_spec_l03Width s p k = some (oint (wT s t))
  | .n0 n, k, h, g => (U_spec_l03Width s p k).out (by
    have hk := kind0 (n := n) g.ok
    have hx : p[k]? = some n := h.hd
    have hl := schemaOk_len hs
    simp only [ix_some hx, h.V_l02Kids g hp, kids, Option.bind_some]
    rw [loopF_of (r := .go (0, [])) 1 (by
      intro n hn
      obtain ⟨m, rfl⟩ : ∃ m, n = m + 1 := ⟨n - 1, by omega⟩
      simp [loopK, L_spec_l03Widthx0])]
    simp only [joinK_go, J_spec_l03Widthx0, ix_some hx, Option.bind_some, hk, V_spec_l03Find (show s.length ≤ 1073741824 by omega), wT, joinK_bind, joinK_bif, fint_neg, beq_dec, decide_true, cond_true]
    cases ht : tabAt s n.2.1 with
    | none => simp [fint, oint]
    | some j =>
      obtain ⟨t, h1, _, _⟩ := tabAt_some ht
      simp only [fint_some, ix_some h1, h1]
      simp [oint])
  | .n1 n a, k, h, g => (U_spec_l03Width s p k).out (by
    have hk := kind1 (n := n) g.ok.1
    have hx : p[k]? = some n := h.hd
    have ih := V_spec_l03Width hs hp a (k + 1) h.c1 g.c1
    simp only [ix_some hx, h.V_l02Kids g hp, kids, Option.bind_some]
    generalize ((k + 1 : Nat) : Int) = j1 at *
    cases hw : wT s a with
    | none =>
      rw [hw] at ih
      rw [loopF_of (r := .ret (-1)) 1 (by
        intro n hn
        obtain ⟨m, rfl⟩ : ∃ m, n = m + 1 := ⟨n - 1, by omega⟩
        simp only [loopK, L_spec_l03Widthx0, ix0, Option.bind_some, ih, oint]
        simp)]
      simp [wT, hw, oint]
    | some w =>
      rw [hw] at ih
      have hr := wT_range hs g.c1 hw
      have hneg : decide (w < 0) = false := by simp; omega
      rw [loopF_of (r := .go (0, [w])) 2 (by
        intro n hn
        obtain ⟨m, rfl⟩ : ∃ m, n = m + 2 := ⟨n - 2, by omega⟩
        simp only [loopK, L_spec_l03Widthx0, ix0, Option.bind_some, ih, oint, hneg]
        rw [apx_some (by simp)]
        simp)]
      simp only [joinK_go, J_spec_l03Widthx0, ix_some hx, Option.bind_some, wT, hw]
      rcases hk with hk | hk | hk | hk | hk
      · simp only [hk]
        by_cases hc : n.2.2.1 < w
        · have : decide (n.2.2.1 ≥ w) = false := by simp; omega
          simp [ix0, this, hc, oint, hk]
        · have : decide (n.2.2.1 ≥ w) = true := by simp; omega
          simp [ix0, this, hc, oint, hk]
      · have hn := nodeOk_keep g.hd hk
        simp only [PT.hd] at hn
        have e := loop_chk (f := fun f s => L_spec_l03Widthx1 n [w] f s.1 s.2) n.2.2.2.2.2.2.1 (fun _ c => decide (c < w)) (Ex.ret (-1))
          (fun i x v g hx => by
            have l1 := (List.getElem?_eq_some_iff.1 hx).1
            simp only [L_spec_l03Widthx1, lt_nat hx, cond_true, ix_some hx, Option.bind_some, ix0, wrap_nat (show i < 9223372036854775807 by omega)]
            by_cases h : x < w
            · have : decide (x ≥ w) = false := by simp; omega
              simp [h, this]
            · have : decide (x ≥ w) = true := by simp; omega
              simp [h, this])
          (fun v g => by simp [L_spec_l03Widthx1]) 0
        rw [allI_const] at e
        simp only [hk, joinK_bif, joinK_go, J_spec_l03Widthx2, e]
        cases hc : n.2.2.2.2.2.2.1.all (fun c => decide (c < w)) <;> simp [oint, ix0, hc, hk, e]
      · simp only [hk]
        by_cases hc : n.2.2.1 < w
        · have : decide (n.2.2.1 ≥ w) = false := by simp; omega
          simp [ix0, this, hc, oint, hk]
        · have : decide (n.2.2.1 ≥ w) = true := by simp; omega
          simp [ix0, this, hc, oint, hk]
      · simp [hk, ix0, oint]
      · simp [hk, ix0, oint])
  | .n2 n a b, k, h, g => (U_spec_l03Width s p k).out (by
    have hk := kind2 (n := n) g.ok.1
    have hx : p[k]? = some n := h.hd
    have ih := V_spec_l03Width hs hp a (k + 1) h.l2 g.l2
    have ih2 := V_spec_l03Width hs hp b (k + 1 + a.size) h.r2 g.r2
    simp only [ix_some hx, h.V_l02Kids g hp, kids, Option.bind_some]
    generalize ((k + 1 : Nat) : Int) = j1 at *
    generalize ((k + 1 + a.size : Nat) : Int) = j2 at *
    cases hw : wT s a with
    | none =>
      rw [hw] at ih
      rw [loopF_of (r := .ret (-1)) 1 (by
        intro n hn
        obtain ⟨m, rfl⟩ : ∃ m, n = m + 1 := ⟨n - 1, by omega⟩
        simp only [loopK, L_spec_l03Widthx0, ix0, Option.bind_some, ih, oint]
        simp)]
      simp [wT, hw, oint]
    | some w =>
      rw [hw] at ih
      have hr := wT_range hs g.l2 hw
      have hneg : decide (w < 0) = false := by simp; omega
      cases hv : wT s b with
      | none =>
        rw [hv] at ih2
        rw [loopF_of (r := .ret (-1)) 2 (by
          intro n hn
          obtain ⟨m, rfl⟩ : ∃ m, n = m + 2 := ⟨n - 2, by omega⟩
          simp only [loopK, L_spec_l03Widthx0, ix0, Option.bind_some, ih, oint, hneg]
          rw [apx_some (by simp)]
          simp [ix1, ih2, oint])]
        simp [wT, hw, hv, oint]
      | some v =>
        rw [hv] at ih2
        have hr2 := wT_range hs g.r2 hv
        have hneg2 : decide (v < 0) = false := by simp; omega
        rw [loopF_of (r := .go (0, [w, v])) 3 (by
          intro n hn
          obtain ⟨m, rfl⟩ : ∃ m, n = m + 3 := ⟨n - 3, by omega⟩
          have ww : IntKind.i64.wrap (1 + 1) = 2 := by rw [wrap_sml] <;> omega
          simp only [loopK, L_spec_l03Widthx0, ix0, Option.bind_some, ih, oint, hneg]
          rw [apx_some (by simp)]
          simp [ix1, ih2, oint, hneg2]
          rw [apx_some (by simp)]
          simp [ww])]
        simp only [joinK_go, J_spec_l03Widthx0, ix_some hx, Option.bind_some, wT, hw, hv]
        rcases hk with hk | hk
        · simp only [hk]
          have hwr : IntKind.i64.wrap (w + v) = w + v := by rw [wrap_sml] <;> omega
          have d1 : decide (n.2.2.1 ≥ w) = !decide (n.2.2.1 < w) := by by_cases h : n.2.2.1 < w <;> simp [h] <;> omega
          have d2 : decide (n.2.2.2.2.1 ≥ v) = !decide (n.2.2.2.2.1 < v) := by by_cases h : n.2.2.2.2.1 < v <;> simp [h] <;> omega
          have d3 : decide (w + v > 64) = !decide (w + v ≤ 64) := by by_cases h : w + v ≤ 64 <;> simp [h] <;> omega
          by_cases h1 : n.2.2.1 < w <;> by_cases h2 : n.2.2.2.2.1 < v <;> by_cases h3 : w + v ≤ 64 <;> simp [ix0, ix1, hwr, d1, d2, d3, h1, h2, h3, oint, hk]
        · simp only [hk]
          by_cases h1 : w = v <;> simp [ix0, ix1, h1, oint, bne_dec, hk])
def widthOf (s : List Tb) (p : List Nd) : Option Int := if schemaOk s = true then (planT p).bind (wT s) else none
theorem V_impl_WidthOf {s : List STable} (hs : BSch s) {p : List SNode} (hp : BPlan p) : F_impl_WidthOf s p = some (oint (widthOf s p)) := (U_impl_WidthOf s p).out (by
  simp only [V_impl_SchemaOk hs, V_impl_PlanOk hp, Option.bind_some]
  unfold widthOf
  cases h1 : schemaOk s with
  | false => simp [oint]
  | true =>
    cases h2 : planT p with
    | none => simp [planOk, h2, oint]
    | some t =>
      obtain ⟨ht, rfl⟩ := planT_some h2
      have := V_impl_width h1 ht.pl t 0 (At.root t) ht.good
      rw [show ((0 : Nat) : Int) = 0 from rfl] at this
      simp [planOk, h2, this])
theorem V_spec_WidthOf {s : List STable} (hs : BSch s) {p : List SNode} (hp : BPlan p) : F_spec_WidthOf s p = some (oint (widthOf s p)) := (U_spec_WidthOf s p).out (by
  simp only [V_spec_SchemaOk hs, V_spec_PlanOk hp, Option.bind_some]
  unfold widthOf
  cases h1 : schemaOk s with
  | false => simp [oint]
  | true =>
    cases h2 : planT p with
    | none => simp [planOk, h2, oint]
    | some t =>
      obtain ⟨ht, rfl⟩ := planT_some h2
      have := V_spec_l03Width h1 ht.pl t 0 (At.root t) ht.good
      rw [show ((0 : Nat) : Int) = 0 from rfl] at this
      simp [planOk, h2, this])
def typedOk (s : List Tb) (p : List Nd) : Bool := (widthOf s p).isSome
theorem widthOf_range {s : List Tb} {p : List Nd} {w : Int} (h : widthOf s p = some w) : 1 ≤ w ∧ w ≤ 64 := by
  unfold widthOf at h
  split at h
  · rename_i hs
    cases hp : planT p with
    | none => simp [hp] at h
    | some t =>
      simp only [hp, Option.bind_some] at h
      exact wT_range hs (planT_some hp).1.good h
  · cases h
theorem V_impl_TypedOk {s : List STable} (hs : BSch s) {p : List SNode} (hp : BPlan p) : F_impl_TypedOk s p = some (typedOk s p) := (U_impl_TypedOk s p).out (by
  simp only [V_impl_WidthOf hs hp, Option.bind_some, typedOk]
  cases h : widthOf s p with
  | none => simp [oint]
  | some w => have := widthOf_range h; simp [oint]; omega)
theorem V_spec_TypedOk {s : List STable} (hs : BSch s) {p : List SNode} (hp : BPlan p) : F_spec_TypedOk s p = some (typedOk s p) := (U_spec_TypedOk s p).out (by
  simp only [V_spec_WidthOf hs hp, Option.bind_some, typedOk]
  cases h : widthOf s p with
  | none => simp [oint]
  | some w => have := widthOf_range h; simp [oint, bne_dec]; omega)
structure Typed (s : List Tb) (t : PT) : Prop where
  plan : PlanT t
  sch : schemaOk s = true
  w : (wT s t).isSome = true
theorem typedOk_iff {s : List Tb} {p : List Nd} : typedOk s p = true ↔ ∃ t, p = t.flat ∧ Typed s t := by
  unfold typedOk widthOf
  constructor
  · intro h
    split at h
    · rename_i hs
      cases hp : planT p with
      | none => simp [hp] at h
      | some t =>
        simp only [hp, Option.bind_some] at h
        exact ⟨t, (planT_some hp).2, (planT_some hp).1, hs, h⟩
    · cases h
  · rintro ⟨t, rfl, h1, h2, h3⟩
    rw [if_pos h2, planT_flat h1]
    exact h3
end Go.Proofs.YtglbcdlplbomdaaX
namespace Go.Proofs.YtglbcdlplbomdaaX
open Go Go.Proofs.YtglbcdlplbomdaaT PT
set_option linter.all false
def sizesOk (s : List Tb) (sizes : List Int) : Bool := decide (sizes.length = s.length) && sizes.all (fun x => okIn x 0 1000)
@[simp] theorem V_impl_sizesOk_1 (x : Int) : F_impl_sizesOk_1 x = some (!okIn x 0 1000) := (U_impl_sizesOk_1 x).out (by simp)
theorem V_slices_IndexFunc_Lint_impl_sizesOk_1 {l : List Int} (hl : l.length ≤ 2147483648) : F_slices_IndexFunc_Lint_impl_sizesOk_1 l = some (fint (findI (fun x => !okIn x 0 1000) l 0)) := (U_slices_IndexFunc_Lint_impl_sizesOk_1 l).out (by
  have e := loop_find (f := fun f s => L_slices_IndexFunc_Lint_impl_sizesOk_1x0 l f s.1 s.2) l (fun x => !okIn x 0 1000) (fun i => (i : Int))
    (fun i x v g hx => by
      have l1 := (List.getElem?_eq_some_iff.1 hx).1
      simp only [L_slices_IndexFunc_Lint_impl_sizesOk_1x0, lt_nat hx, cond_true, ix_some hx, Option.bind_some, V_impl_sizesOk_1, wrap_nat (show i < 9223372036854775807 by omega)])
    (fun v g => by simp [L_slices_IndexFunc_Lint_impl_sizesOk_1x0]) 0
  rw [e]
  cases findI (fun x => !okIn x 0 1000) l 0 <;> simp)
theorem V_slices_ContainsFunc_Lint_impl_sizesOk_1 {l : List Int} (hl : l.length ≤ 2147483648) : F_slices_ContainsFunc_Lint_impl_sizesOk_1 l = some (l.any fun x => !okIn x 0 1000) := (U_slices_ContainsFunc_Lint_impl_sizesOk_1 l).out (by
  simp only [V_slices_IndexFunc_Lint_impl_sizesOk_1 hl, Option.bind_some, fint_ge])
theorem int_len_eq {a b : Nat} : ((a : Int) == (b : Int)) = decide (a = b) := by
  by_cases h : a = b <;> simp [h] <;> omega
theorem int_len_ne {a b : Nat} : ((a : Int) != (b : Int)) = !decide (a = b) := by
  by_cases h : a = b <;> simp [h, bne_dec] <;> omega
theorem V_impl_sizesOk {s : List STable} {l : List Int} (hl : l.length ≤ 2147483648) : F_impl_sizesOk s l = some (sizesOk s l) := (U_impl_sizesOk s l).out (by
  simp only [V_slices_ContainsFunc_Lint_impl_sizesOk_1 hl, Option.bind_some, all_not_any, int_len_eq, sizesOk]
  cases decide (l.length = s.length) <;> simp)
def good (s : List Tb) (sizes : List Int) (p : List Nd) : Bool := typedOk s p && sizesOk s sizes
theorem V_spec_l12Good {s : List STable} (hs : BSch s) {l : List Int} (hl : l.length ≤ 2147483648) {p : List SNode} (hp : BPlan p) : F_spec_l12Good s l p = some (good s l p) := (U_spec_l12Good s l p).out (by
  have e := loop_chk (f := fun f s => L_spec_l12Goodx0 l f s.1 s.2) l (fun _ x => okIn x 0 1000) false
    (fun i x v g hx => by
      have l1 := (List.getElem?_eq_some_iff.1 hx).1
      simp only [L_spec_l12Goodx0, lt_nat hx, cond_true, ix_some hx, Option.bind_some, V_spec_l01In, wrap_nat (show i < 9223372036854775807 by omega)]
      cases okIn x 0 1000 <;> rfl)
    (fun v g => by simp [L_spec_l12Goodx0]) false
  rw [allI_const] at e
  simp only [V_spec_TypedOk hs hp, Option.bind_some, int_len_ne, good, sizesOk, joinK_bif, joinK_go, J_spec_l12Goodx0, e]
  cases typedOk s p <;> cases decide (l.length = s.length) <;> cases l.all (fun x => okIn x 0 1000) <;> simp)
def gT (s : List Tb) (sz : List Int) : PT → Int
  | .n0 n => match tabAt s n.2.1 with
    | some j => (sz[j]?).getD 0
    | none => 0
  | .n1 n a => if n.1 = 1 then (gT s sz a + 1) / 2 else if n.1 = 6 then min (gT s sz a) (if n.2.2.2.2.2.1 = true then 10 else n.2.2.2.2.1) else gT s sz a
  | .n2 n a b => if n.1 = 3 then min ((gT s sz a * gT s sz b + 3) / 4) 1000000 else min (gT s sz a + gT s sz b) 1000000
def cT (s : List Tb) (sz : List Int) : PT → Int
  | .n0 n => gT s sz (.n0 n)
  | .n1 n a => cT s sz a + gT s sz (.n1 n a)
  | .n2 n a b => cT s sz a + cT s sz b + gT s sz (.n2 n a b)
theorem wT_c1 {s : List Tb} {n : Nd} {a : PT} (h : (wT s (.n1 n a)).isSome = true) : (wT s a).isSome = true := by
  simp only [wT] at h
  split at h
  · cases h
  · rename_i h'; rw [h']; rfl
theorem wT_l2 {s : List Tb} {n : Nd} {a b : PT} (h : (wT s (.n2 n a b)).isSome = true) : (wT s a).isSome = true := by
  simp only [wT] at h
  split at h
  · rename_i h' _; rw [h']; rfl
  · cases h
theorem wT_r2 {s : List Tb} {n : Nd} {a b : PT} (h : (wT s (.n2 n a b)).isSome = true) : (wT s b).isSome = true := by
  simp only [wT] at h
  split at h
  · rename_i _ h'; rw [h']; rfl
  · cases h
theorem wT_n0 {s : List Tb} {n : Nd} (h : (wT s (.n0 n)).isSome = true) : ∃ j t, tabAt s n.2.1 = some j ∧ s[j]? = some t := by
  simp only [wT] at h
  split at h
  · rename_i j hj
    obtain ⟨t, ht, _⟩ := tabAt_some hj
    exact ⟨j, t, hj, ht⟩
  · cases h
theorem nodeOk_limit {n : Nd} (h : nodeOk n = true) (hk : n.1 = 6) : 0 ≤ n.2.2.2.2.1 ∧ n.2.2.2.2.1 ≤ 1000000 := by
  obtain ⟨k, name, col, op, num, slot, cols, u⟩ := n
  simp only at hk
  subst hk
  simp [nodeOk, okIn] at h
  simp only
  omega
theorem gT_range {s : List Tb} {sz : List Int} (hz : sizesOk s sz = true) : ∀ {t : PT}, Good t → (wT s t).isSome = true → 0 ≤ gT s sz t ∧ gT s sz t ≤ 1000000
  | .n0 n, g, h => by
    obtain ⟨j, t, h1, h2⟩ := wT_n0 h
    simp only [sizesOk, Bool.and_eq_true, decide_eq_true_eq, List.all_eq_true] at hz
    have hj := (List.getElem?_eq_some_iff.1 h2).1
    have hx : sz[j]? = some sz[j] := List.getElem?_eq_getElem (by omega)
    have := okIn_iff.1 (hz.2 sz[j] (mem_of_get hx))
    simp only [gT, h1, hx, Option.getD_some]
    omega
  | .n1 n a, g, h => by
    have := gT_range hz g.c1 (wT_c1 h)
    simp only [gT]
    split
    · omega
    · split
      · rename_i hk
        have := nodeOk_limit g.hd hk
        simp only [PT.hd] at this
        split <;> omega
      · exact this
  | .n2 n a b, g, h => by
    have h1 := gT_range hz g.l2 (wT_l2 h)
    have h2 := gT_range hz g.r2 (wT_r2 h)
    simp only [gT]
    have : 0 ≤ gT s sz a * gT s sz b := Int.mul_nonneg h1.1 h2.1
    split <;> omega
theorem cT_range {s : List Tb} {sz : List Int} (hz : sizesOk s sz = true) : ∀ {t : PT}, Good t → (wT s t).isSome = true → 0 ≤ cT s sz t ∧ cT s sz t ≤ 1000000 * t.size
  | .n0 n, g, h => by
    have := gT_range hz g h
    simp only [cT, PT.size]; omega
  | .n1 n a, g, h => by
    have := gT_range hz g h
    have := cT_range hz g.c1 (wT_c1 h)
    simp only [cT, PT.size]; omega
  | .n2 n a b, g, h => by
    have := gT_range hz g h
    have := cT_range hz g.l2 (wT_l2 h)
    have := cT_range hz g.r2 (wT_r2 h)
    simp only [cT, PT.size]; omega
theorem quox_some {a b : Int} (h0 : 0 ≤ a) (h1 : a ≤ 9223372036854775807) (hb : 1 ≤ b) : quox a b = some (a / b) := by
  unfold quox
  have hb0 : (b == 0) = false := by simp; omega
  rw [hb0, Int.tdiv_eq_ediv_of_nonneg h0]
  have : 0 ≤ a / b := Int.ediv_nonneg h0 (by omega)
  have : a / b ≤ a := Int.ediv_le_self _ h0
  rw [wrap_sml (by omega) (by omega)]
  rfl
theorem mmx_min (a b : Int) : mmx false a b = min a b := by
  unfold mmx
  by_cases h : b < a <;> simp [h] <;> omega
theorem sizes_at {s : List Tb} {sz : List Int} (hz : sizesOk s sz = true) {n : Nd} (h : (wT s (.n0 n)).isSome = true) : ∃ j : Nat, tabAt s n.2.1 = some j ∧ sz[j]? = some (gT s sz (.n0 n)) := by
  obtain ⟨j, t, h1, h2⟩ := wT_n0 h
  simp only [sizesOk, Bool.and_eq_true, decide_eq_true_eq, List.all_eq_true] at hz
  have hj := (List.getElem?_eq_some_iff.1 h2).1
  have hx : sz[j]? = some sz[j] := List.getElem?_eq_getElem (by omega)
  exact ⟨j, h1, by simp only [gT, h1, hx, Option.getD_some]⟩
theorem V_spec_l12Guess {s : List STable} (hs : schemaOk s = true) {sz : List Int} (hz : sizesOk s sz = true) {p : List SNode} (hp : Pl p) : ∀ (t : PT) (k : Nat), At p k t → Good t → (wT s t).isSome = true → F_spec_l12Guess s sz p k = some (gT s sz t)
  | .n0 n, k, h, g, w => (U_spec_l12Guess s sz p k).out (by
    have hk := kind0 (n := n) g.ok
    have hx : p[k]? = some n := h.hd
    have hl := schemaOk_len hs
    obtain ⟨j, h1, h2⟩ := sizes_at hz w
    simp only [ix_some hx, h.V_l02Kids g hp, kids, Option.bind_some]
    rw [loopF_of (r := .go []) 1 (by
      intro n hn
      obtain ⟨m, rfl⟩ : ∃ m, n = m + 1 := ⟨n - 1, by omega⟩
      simp [loopK, L_spec_l12Guessx0])]
    simp [hk, V_spec_l03Find (show s.length ≤ 1073741824 by omega), h1, ix_some h2])
  | .n1 n a, k, h, g, w => (U_spec_l12Guess s sz p k).out (by
    have hk := kind1 (n := n) g.ok.1
    have hx : p[k]? = some n := h.hd
    have ih := V_spec_l12Guess hs hz hp a (k + 1) h.c1 g.c1 (wT_c1 w)
    have hr := gT_range hz g.c1 (wT_c1 w)
    simp only [ix_some hx, h.V_l02Kids g hp, kids, Option.bind_some]
    generalize ((k + 1 : Nat) : Int) = j1 at *
    rw [loopF_of (r := .go [gT s sz a]) 2 (by
      intro n hn
      obtain ⟨m, rfl⟩ : ∃ m, n = m + 2 := ⟨n - 2, by omega⟩
      simp only [loopK, L_spec_l12Guessx0, ix0, Option.bind_some, ih]
      rw [apx_some (by simp)]
      simp)]
    simp only [joinK_go, J_spec_l12Guessx0, gT]
    rcases hk with hk | hk | hk | hk | hk
    · simp [hk, ix0, wrap_sml (show -9223372036854775808 ≤ gT s sz a + 1 by omega) (by omega), quox_some (show 0 ≤ gT s sz a + 1 by omega) (by omega) (show (1 : Int) ≤ 2 by omega)]
    · simp [hk, ix0]
    · simp [hk, ix0]
    · simp only [hk, ix0]
      cases n.2.2.2.2.2.1 with
      | true =>
        by_cases hc : 10 < gT s sz a
        · simp [hc, ix0]; omega
        · simp [hc, ix0]; omega
      | false =>
        by_cases hc : n.2.2.2.2.1 < gT s sz a
        · simp [hc, ix0]; omega
        · simp [hc, ix0]; omega
    · simp [hk, ix0])
  | .n2 n a b, k, h, g, w => (U_spec_l12Guess s sz p k).out (by
    have hk := kind2 (n := n) g.ok.1
    have hx : p[k]? = some n := h.hd
    have ih := V_spec_l12Guess hs hz hp a (k + 1) h.l2 g.l2 (wT_l2 w)
    have ih2 := V_spec_l12Guess hs hz hp b (k + 1 + a.size) h.r2 g.r2 (wT_r2 w)
    have hr := gT_range hz g.l2 (wT_l2 w)
    have hr2 := gT_range hz g.r2 (wT_r2 w)
    simp only [ix_some hx, h.V_l02Kids g hp, kids, Option.bind_some]
    generalize ((k + 1 : Nat) : Int) = j1 at *
    generalize ((k + 1 + a.size : Nat) : Int) = j2 at *
    rw [loopF_of (r := .go [gT s sz a, gT s sz b]) 3 (by
      intro n hn
      obtain ⟨m, rfl⟩ : ∃ m, n = m + 3 := ⟨n - 3, by omega⟩
      have ww : IntKind.i64.wrap (1 + 1) = 2 := by rw [wrap_sml] <;> omega
      simp only [loopK, L_spec_l12Guessx0, ix0, Option.bind_some, ih]
      rw [apx_some (by simp)]
      simp [ix1, ih2]
      rw [apx_some (by simp)]
      simp [ww])]
    simp only [joinK_go, J_spec_l12Guessx0, gT]
    have hm0 : 0 ≤ gT s sz a * gT s sz b := Int.mul_nonneg hr.1 hr2.1
    have hm1 : gT s sz a * gT s sz b ≤ 1000000 * 1000000 := Int.mul_le_mul hr.2 hr2.2 hr2.1 (by omega)
    rcases hk with hk | hk
    · have e1 : IntKind.i64.wrap (gT s sz a * gT s sz b) = gT s sz a * gT s sz b := wrap_sml (by omega) (by omega)
      have e2 : IntKind.i64.wrap (gT s sz a * gT s sz b + 3) = gT s sz a * gT s sz b + 3 := wrap_sml (by omega) (by omega)
      simp [hk, ix0, ix1, e1, e2, quox_some (show 0 ≤ gT s sz a * gT s sz b + 3 by omega) (by omega) (show (1 : Int) ≤ 4 by omega)]
      split <;> omega
    · have e1 : IntKind.i64.wrap (gT s sz a + gT s sz b) = gT s sz a + gT s sz b := wrap_sml (by omega) (by omega)
      simp [hk, ix0, ix1, e1]
      split <;> omega)
theorem V_impl_guess {s : List STable} (hs : schemaOk s = true) {sz : List Int} (hz : sizesOk s sz = true) {p : List SNode} (hp : Pl p) : ∀ (t : PT) (k : Nat) (c : Int), At p k t → Good t → (wT s t).isSome = true → 0 ≤ c → c + 1000000 * t.size ≤ 1000000000000 → F_impl_guess s sz p k c = some (gT s sz t, c + cT s sz t)
  | .n0 n, k, c, h, g, w, hc, hc2 => (U_impl_guess s sz p k c).out (by
    have hk := kind0 (n := n) g.ok
    have hx : p[k]? = some n := h.hd
    have hl := schemaOk_len hs
    have hr := gT_range hz g w
    obtain ⟨j, h1, h2⟩ := sizes_at hz w
    simp only [h.V_children g hp, kids, Option.bind_some]
    simp only [PT.size] at hc2
    rw [loopF_of (r := .go ([], c)) 1 (by
      intro n hn
      obtain ⟨m, rfl⟩ : ∃ m, n = m + 1 := ⟨n - 1, by omega⟩
      simp [loopK, L_impl_guessx0])]
    have e1 : min (gT s sz (.n0 n)) 1000000 = gT s sz (.n0 n) := by omega
    have e2 : IntKind.i64.wrap (c + gT s sz (.n0 n)) = c + gT s sz (.n0 n) := wrap_sml (by omega) (by omega)
    simp [hk, ix_some hx, V_impl_tableAt (show s.length ≤ 1073741824 by omega), h1, ix_some h2, mmx_min, e1, e2, cT])
  | .n1 n a, k, c, h, g, w, hc, hc2 => (U_impl_guess s sz p k c).out (by
    have hk := kind1 (n := n) g.ok.1
    have hx : p[k]? = some n := h.hd
    simp only [PT.size] at hc2
    have ih := V_impl_guess hs hz hp a (k + 1) c h.c1 g.c1 (wT_c1 w) hc (by omega)
    have hr := gT_range hz g.c1 (wT_c1 w)
    have hrr := gT_range hz g w
    have hcr := cT_range hz g.c1 (wT_c1 w)
    simp only [h.V_children g hp, kids, Option.bind_some]
    generalize ((k + 1 : Nat) : Int) = j1 at *
    rw [loopF_of (r := .go ([gT s sz a], c + cT s sz a)) 2 (by
      intro n hn
      obtain ⟨m, rfl⟩ : ∃ m, n = m + 2 := ⟨n - 2, by omega⟩
      simp only [loopK, L_impl_guessx0, ix0, Option.bind_some, ih]
      rw [apx_some (by simp)]
      simp)]
    simp only [joinK_go, J_impl_guessx0, ix_some hx, Option.bind_some]
    have fin : ∀ x, x = gT s sz (.n1 n a) → J_impl_guessx1 (c + cT s sz a) x = some (gT s sz (.n1 n a), c + cT s sz (.n1 n a)) := by
      intro x hx
      subst hx
      have e1 : min (gT s sz (.n1 n a)) 1000000 = gT s sz (.n1 n a) := by omega
      simp only [J_impl_guessx1, mmx_min, e1, cT]
      rw [wrap_sml (by omega) (by omega)]
      simp only [Int.add_assoc]
    rcases hk with hk | hk | hk | hk | hk
    · have e1 : IntKind.i64.wrap (gT s sz a + 1) = gT s sz a + 1 := wrap_sml (by omega) (by omega)
      simp only [hk, ix0, Option.bind_some, e1, quox_some (show 0 ≤ gT s sz a + 1 by omega) (by omega) (show (1 : Int) ≤ 2 by omega), beq_dec, decide_true, cond_true, joinK_go, show decide ((1 : Int) = 0) = false from rfl, cond_false]
      exact fin _ (by simp only [gT, hk, if_true])
    · simp only [hk, ix0, Option.bind_some, beq_dec, decide_true, cond_true, joinK_go, show decide ((2 : Int) = 0) = false from rfl, show decide ((2 : Int) = 1) = false from rfl, show decide ((2 : Int) = 3) = false from rfl, show decide ((2 : Int) = 4) = false from rfl, show decide ((2 : Int) = 6) = false from rfl, cond_false]
      exact fin _ (by simp [gT, hk])
    · simp only [hk, ix0, Option.bind_some, beq_dec, decide_true, cond_true, joinK_go, show decide ((5 : Int) = 0) = false from rfl, show decide ((5 : Int) = 1) = false from rfl, show decide ((5 : Int) = 3) = false from rfl, show decide ((5 : Int) = 4) = false from rfl, show decide ((5 : Int) = 6) = false from rfl, cond_false]
      exact fin _ (by simp [gT, hk])
    · simp only [hk, ix0, Option.bind_some, beq_dec, decide_true, cond_true, joinK_go, show decide ((6 : Int) = 0) = false from rfl, show decide ((6 : Int) = 1) = false from rfl, show decide ((6 : Int) = 3) = false from rfl, show decide ((6 : Int) = 4) = false from rfl, cond_false, joinK_bif, J_impl_guessx2, mmx_min]
      cases hsl : n.2.2.2.2.2.1 with
      | true => exact fin _ (by simp [gT, hk, hsl])
      | false => exact fin _ (by simp [gT, hk, hsl])
    · simp only [hk, ix0, Option.bind_some, beq_dec, decide_true, cond_true, joinK_go, show decide ((7 : Int) = 0) = false from rfl, show decide ((7 : Int) = 1) = false from rfl, show decide ((7 : Int) = 3) = false from rfl, show decide ((7 : Int) = 4) = false from rfl, show decide ((7 : Int) = 6) = false from rfl, cond_false]
      exact fin _ (by simp [gT, hk]))
  | .n2 n a b, k, c, h, g, w, hc, hc2 => (U_impl_guess s sz p k c).out (by
    have hk := kind2 (n := n) g.ok.1
    have hx : p[k]? = some n := h.hd
    simp only [PT.size] at hc2
    have hr := gT_range hz g.l2 (wT_l2 w)
    have hr2 := gT_range hz g.r2 (wT_r2 w)
    have hrr := gT_range hz g w
    have hcr := cT_range hz g.l2 (wT_l2 w)
    have hcr2 := cT_range hz g.r2 (wT_r2 w)
    have ih := V_impl_guess hs hz hp a (k + 1) c h.l2 g.l2 (wT_l2 w) hc (by omega)
    have ih2 := V_impl_guess hs hz hp b (k + 1 + a.size) (c + cT s sz a) h.r2 g.r2 (wT_r2 w) (by omega) (by omega)
    simp only [h.V_children g hp, kids, Option.bind_some]
    generalize ((k + 1 : Nat) : Int) = j1 at *
    generalize ((k + 1 + a.size : Nat) : Int) = j2 at *
    rw [loopF_of (r := .go ([gT s sz a, gT s sz b], c + cT s sz a + cT s sz b)) 3 (by
      intro n hn
      obtain ⟨m, rfl⟩ : ∃ m, n = m + 3 := ⟨n - 3, by omega⟩
      have ww : IntKind.i64.wrap (1 + 1) = 2 := by rw [wrap_sml] <;> omega
      simp only [loopK, L_impl_guessx0, ix0, Option.bind_some, ih]
      rw [apx_some (by simp)]
      simp [ix1, ih2]
      rw [apx_some (by simp)]
      simp [ww])]
    simp only [joinK_go, J_impl_guessx0, ix_some hx, Option.bind_some]
    have fin : ∀ x, min x 1000000 = gT s sz (.n2 n a b) → J_impl_guessx1 (c + cT s sz a + cT s sz b) x = some (gT s sz (.n2 n a b), c + cT s sz (.n2 n a b)) := by
      intro x hx
      simp only [J_impl_guessx1, mmx_min, hx, cT]
      rw [wrap_sml (by omega) (by omega)]
      simp only [Int.add_assoc]
    have hm0 : 0 ≤ gT s sz a * gT s sz b := Int.mul_nonneg hr.1 hr2.1
    have hm1 : gT s sz a * gT s sz b ≤ 1000000 * 1000000 := Int.mul_le_mul hr.2 hr2.2 hr2.1 (by omega)
    rcases hk with hk | hk
    · have e1 : IntKind.i64.wrap (gT s sz a * gT s sz b) = gT s sz a * gT s sz b := wrap_sml (by omega) (by omega)
      have e2 : IntKind.i64.wrap (gT s sz a * gT s sz b + 3) = gT s sz a * gT s sz b + 3 := wrap_sml (by omega) (by omega)
      simp only [hk, ix0, ix1, e1, e2, quox_some (show 0 ≤ gT s sz a * gT s sz b + 3 by omega) (by omega) (show (1 : Int) ≤ 4 by omega), Option.bind_some, beq_dec, decide_true, cond_true, joinK_go, show decide ((3 : Int) = 0) = false from rfl, show decide ((3 : Int) = 1) = false from rfl, cond_false]
      exact fin _ (by simp only [gT, hk, if_true])
    · have e1 : IntKind.i64.wrap (gT s sz a + gT s sz b) = gT s sz a + gT s sz b := wrap_sml (by omega) (by omega)
      simp only [hk, ix0, ix1, e1, Option.bind_some, beq_dec, decide_true, cond_true, joinK_go, show decide ((4 : Int) = 0) = false from rfl, show decide ((4 : Int) = 1) = false from rfl, show decide ((4 : Int) = 3) = false from rfl, cond_false]
      exact fin _ (by simp [gT, hk]))
end Go.Proofs.YtglbcdlplbomdaaX
namespace Go.Proofs.YtglbcdlplbomdaaX
open Go Go.Proofs.YtglbcdlplbomdaaT PT
set_option linter.all false
def subs : PT → List PT
  | .n0 n => [.n0 n]
  | .n1 n a => .n1 n a :: subs a
  | .n2 n a b => .n2 n a b :: (subs a ++ subs b)
@[simp] theorem subs_len : ∀ t : PT, (subs t).length = t.size
  | .n0 _ => rfl
  | .n1 _ a => by simp [subs, PT.size, subs_len a]
  | .n2 _ a b => by simp [subs, PT.size, subs_len a, subs_len b]
theorem subs_at {p : List Nd} : ∀ {t : PT} {k : Nat}, At p k t → ∀ {i : Nat} {u : PT}, (subs t)[i]? = some u → At p (k + i) u
  | .n0 n, k, h, i, u, hu => by
    cases i with
    | zero => simp [subs] at hu; subst hu; exact h
    | succ i => simp [subs] at hu
  | .n1 n a, k, h, i, u, hu => by
    cases i with
    | zero => simp [subs] at hu; subst hu; exact h
    | succ i =>
      have := subs_at h.c1 (i := i) (u := u) (by simpa [subs] using hu)
      rwa [show k + (i + 1) = k + 1 + i by omega]
  | .n2 n a b, k, h, i, u, hu => by
    cases i with
    | zero => simp [subs] at hu; subst hu; exact h
    | succ i =>
      have hu : (subs a ++ subs b)[i]? = some u := by simpa [subs] using hu
      by_cases hi : i < a.size
      · rw [List.getElem?_append_left (by simpa using hi)] at hu
        have := subs_at h.l2 hu
        rwa [show k + (i + 1) = k + 1 + i by omega]
      · rw [List.getElem?_append_right (by simp; omega)] at hu
        have := subs_at h.r2 hu
        rw [subs_len] at this
        rwa [show k + (i + 1) = k + 1 + a.size + (i - a.size) by omega]
theorem subs_good : ∀ {t : PT}, Good t → ∀ {u : PT}, u ∈ subs t → Good u
  | .n0 n, g, u, hu => by simp [subs] at hu; subst hu; exact g
  | .n1 n a, g, u, hu => by
    simp only [subs, List.mem_cons] at hu
    rcases hu with rfl | hu
    · exact g
    · exact subs_good g.c1 hu
  | .n2 n a b, g, u, hu => by
    simp only [subs, List.mem_cons, List.mem_append] at hu
    rcases hu with rfl | hu | hu
    · exact g
    · exact subs_good g.l2 hu
    · exact subs_good g.r2 hu
theorem subs_w {s : List Tb} : ∀ {t : PT}, (wT s t).isSome = true → ∀ {u : PT}, u ∈ subs t → (wT s u).isSome = true
  | .n0 n, g, u, hu => by simp [subs] at hu; subst hu; exact g
  | .n1 n a, g, u, hu => by
    simp only [subs, List.mem_cons] at hu
    rcases hu with rfl | hu
    · exact g
    · exact subs_w (wT_c1 g) hu
  | .n2 n a b, g, u, hu => by
    simp only [subs, List.mem_cons, List.mem_append] at hu
    rcases hu with rfl | hu | hu
    · exact g
    · exact subs_w (wT_l2 g) hu
    · exact subs_w (wT_r2 g) hu
theorem subs_cost (s : List Tb) (sz : List Int) : ∀ t : PT, ((subs t).map (gT s sz)).sum = cT s sz t
  | .n0 n => by simp [subs, cT]
  | .n1 n a => by simp only [subs, List.map_cons, List.sum_cons, subs_cost s sz a, cT]; omega
  | .n2 n a b => by simp only [subs, List.map_cons, List.sum_cons, List.map_append, List.sum_append, subs_cost s sz a, subs_cost s sz b, cT]; omega
theorem cut_fold (f : PT → Int) : ∀ (l : List PT) (a : Int), (∀ u ∈ l, 0 ≤ f u) → 0 ≤ a → l.foldl (fun a u => min (a + f u) 1000000) (min a 1000000) = min (a + (l.map f).sum) 1000000
  | [], a, _, _ => by simp
  | u :: l, a, h, ha => by
    have hu := h u (by simp)
    simp only [List.foldl_cons, List.map_cons, List.sum_cons]
    rw [show min (min a 1000000 + f u) 1000000 = min (a + f u) 1000000 by omega, cut_fold f l (a + f u) (fun v hv => h v (by simp [hv])) (by omega)]
    rw [Int.add_assoc]
def rowsGuess (s : List Tb) (sz : List Int) (p : List Nd) : Int := if good s sz p = true then (match planT p with | some t => gT s sz t | none => -1) else -1
def costOf (s : List Tb) (sz : List Int) (p : List Nd) : Int := if good s sz p = true then (match planT p with | some t => min (cT s sz t) 1000000 | none => -1) else -1
theorem good_iff {s : List Tb} {sz : List Int} {p : List Nd} : good s sz p = true ↔ sizesOk s sz = true ∧ ∃ t, p = t.flat ∧ Typed s t := by
  simp only [good, Bool.and_eq_true, typedOk_iff]
  exact And.comm
theorem V_impl_reckon {s : List STable} (hs : BSch s) {l : List Int} (hl : l.length ≤ 2147483648) {p : List SNode} (hp : BPlan p) : F_impl_reckon s l p = some (rowsGuess s l p, costOf s l p) := (U_impl_reckon s l p).out (by
  simp only [V_impl_TypedOk hs hp, V_impl_sizesOk hl, Option.bind_some, rowsGuess, costOf]
  cases h1 : good s l p with
  | false =>
    simp only [good] at h1
    cases h2 : typedOk s p with
    | false => simp
    | true => rw [h2] at h1; simp at h1; simp [h1]
  | true =>
    have h1' := h1
    simp only [good, Bool.and_eq_true] at h1'
    obtain ⟨hz, t, rfl, ht⟩ := good_iff.1 h1
    have hsz := ht.plan.size
    have e := V_impl_guess ht.sch hz ht.plan.pl t 0 0 (At.root t) ht.plan.good ht.w (by omega) (by omega)
    rw [show ((0 : Nat) : Int) = 0 from rfl] at e
    simp [h1'.1, hz, e, planT_flat ht.plan, mmx_min])
theorem V_impl_CostOf {s : List STable} (hs : BSch s) {l : List Int} (hl : l.length ≤ 2147483648) {p : List SNode} (hp : BPlan p) : F_impl_CostOf s l p = some (costOf s l p) := (U_impl_CostOf s l p).out (by simp [V_impl_reckon hs hl hp])
theorem V_spec_CostOf {s : List STable} (hs : BSch s) {l : List Int} (hl : l.length ≤ 2147483648) {p : List SNode} (hp : BPlan p) : F_spec_CostOf s l p = some (costOf s l p) := (U_spec_CostOf s l p).out (by
  simp only [V_spec_l12Good hs hl hp, Option.bind_some, costOf]
  cases h1 : good s l p with
  | false => simp
  | true =>
    obtain ⟨hz, t, rfl, ht⟩ := good_iff.1 h1
    have hsz := ht.plan.size
    have hr : ∀ u ∈ subs t, 0 ≤ gT s l u ∧ gT s l u ≤ 1000000 := fun u hu => gT_range hz (subs_good ht.plan.good hu) (subs_w ht.w hu)
    have e := loop_fold (f := fun f z => L_spec_CostOfx0 s l t.flat f z.1 z.2) (fun i a => (a, (i : Int))) (subs t) (fun _ a => 0 ≤ a ∧ a ≤ 1000000) (fun _ u a => min (a + gT s l u) 1000000)
      (fun i u a g hu ha => by
        have l1 := (List.getElem?_eq_some_iff.1 hu).1
        rw [subs_len] at l1
        have d1 : decide ((i : Int) < (t.flat.length : Int)) = true := by simpa using l1
        have hu' := mem_of_get hu
        have hr' := hr u hu'
        have e := V_spec_l12Guess ht.sch hz ht.plan.pl u (0 + i) (subs_at (At.root t) hu) (subs_good ht.plan.good hu') (subs_w ht.w hu')
        rw [Nat.zero_add] at e
        simp only [L_spec_CostOfx0, d1, cond_true, e, Option.bind_some, V_spec_l12Cut]
        rw [wrap_sml (x := a + gT s l u) (by omega) (by omega), wrap_nat (by omega)]
        congr 2
        split <;> omega)
      (fun i u a hu ha => by
        have hr' := hr u (mem_of_get hu)
        constructor <;> omega)
      (fun a g _ => by simp [L_spec_CostOfx0]) 0 (by omega)
    rw [foldI_const (fun u a => min (a + gT s l u) 1000000)] at e
    rw [show ((0 : Nat) : Int) = 0 from rfl] at e
    have cf := cut_fold (gT s l) (subs t) 0 (fun u hu => (hr u hu).1) (by omega)
    rw [show min (0 : Int) 1000000 = 0 from rfl, subs_cost] at cf
    rw [e, cf]
    simp [planT_flat ht.plan])
end Go.Proofs.YtglbcdlplbomdaaX
namespace Go.Proofs.YtglbcdlplbomdaaX
open Go Go.Proofs.YtglbcdlplbomdaaT PT
set_option linter.all false
theorem V_spec_l01Copy {l : List Int} (h : l.length ≤ 2147483648) : F_spec_l01Copy l = some l := (U_spec_l01Copy l).out (by
  have e := loop_map (f := fun f s => L_spec_l01Copyx0 l f s.1 s.2) l id h
    (fun i x a g hx ha => by
      have l1 := (List.getElem?_eq_some_iff.1 hx).1
      simp only [L_spec_l01Copyx0, lt_nat hx, cond_true, ix_some hx, Option.bind_some, wrap_nat (show i < 9223372036854775807 by omega)]
      rw [apx_some (by simp [ha]; omega)]; rfl)
    (fun a g => by simp [L_spec_l01Copyx0])
  rw [e]; simp)
theorem V_slices_Clone_Lint {l : List Int} (h : l.length ≤ 2147483648) : F_slices_Clone_Lint l = some l := (U_slices_Clone_Lint l).out (by
  rw [apx_some (by simpa using h)]
  cases l <;> simp [nilx, bothEq])
theorem V_spec_l02Copy {p : List SNode} (hb : BPlan p) : F_spec_l02Copy p = some p := (U_spec_l02Copy p).out (by
  have e := loop_map (f := fun f s => L_spec_l02Copyx0 p f s.1 s.2) p id (by have := hb.len; omega)
    (fun i x a g hx ha => by
      have l1 := (List.getElem?_eq_some_iff.1 hx).1
      have := hb.len
      have hc := (hb.nodes x (mem_of_get hx)).cols
      obtain ⟨k, name, col, op, num, slot, cols, u⟩ := x
      simp only at hc
      simp only [L_spec_l02Copyx0, lt_nat hx, cond_true, ix_some hx, Option.bind_some, wrap_nat (show i < 9223372036854775807 by omega), V_spec_l01Copy hc, joinK_bif, joinK_go, J_spec_l02Copyx1]
      rw [apx_some (by simp [ha]; omega), apx_some (by simp [ha]; omega)]
      cases cols <;> simp)
    (fun a g => by simp [L_spec_l02Copyx0])
  rw [e]; simp)
theorem V_impl_own {p : List SNode} (hb : BPlan p) : F_impl_own p = some p := (U_impl_own p).out (by
  have e := loop_map (f := fun f s => L_impl_ownx0 p f s.1 s.2) p id (by have := hb.len; omega)
    (fun i x a g hx ha => by
      have l1 := (List.getElem?_eq_some_iff.1 hx).1
      have := hb.len
      have hc := (hb.nodes x (mem_of_get hx)).cols
      simp only [L_impl_ownx0, lt_nat hx, cond_true, ix_some hx, Option.bind_some, wrap_nat (show i < 9223372036854775807 by omega), V_slices_Clone_Lint hc]
      rw [apx_some (by simp [ha]; omega)]; rfl)
    (fun a g => by simp [L_impl_ownx0])
  rw [e]; simp)
theorem loop_flat {R T : Type} {f : (List T × Int → Option (Ex R (List T))) → List T × Int → Option (Ex R (List T))} (l : List (List T)) (hl : l.length ≤ 1073741824)
    (h1 : ∀ (i : Nat) x (a : List T) (g : List T × Int → Option (Ex R (List T))), l[i]? = some x → a.length + x.length ≤ l.flatten.length → f g (a, (i : Int)) = g (a ++ x, ((i + 1 : Nat) : Int)))
    (h2 : ∀ a (g : List T × Int → Option (Ex R (List T))), f g (a, (l.length : Int)) = some (.go a)) :
    loopF f ([], 0) = some (.go l.flatten) := by
  have := loop_fold (f := f) (fun i a => (a, (i : Int))) l (fun i a => a.length + (l.drop i).flatten.length = l.flatten.length) (fun i x a => a ++ x)
    (fun i x a g hx hi => h1 i x a g hx (by
      have l1 := (List.getElem?_eq_some_iff.1 hx).1
      have : l.drop i = x :: l.drop (i + 1) := by rw [List.drop_eq_getElem_cons l1]; congr 1; exact (List.getElem?_eq_some_iff.1 hx).2
      rw [this] at hi
      simp only [List.flatten_cons, List.length_append] at hi
      omega))
    (fun i x a hx hi => by
      have l1 := (List.getElem?_eq_some_iff.1 hx).1
      have : l.drop i = x :: l.drop (i + 1) := by rw [List.drop_eq_getElem_cons l1]; congr 1; exact (List.getElem?_eq_some_iff.1 hx).2
      rw [this] at hi
      simp only [List.flatten_cons, List.length_append] at hi ⊢
      omega) (fun a g _ => h2 a g) [] (by simp)
  rw [foldI_const (fun x a => a ++ x)] at this
  rw [show ((0 : Nat) : Int) = 0 from rfl] at this
  rw [this]
  congr 2
  have := foldl_flat (fun x : List T => x) l []
  simpa [List.flatMap] using this
theorem V_spec_l02Joined {l : List (List SNode)} (hl : l.length ≤ 1000) (hb : BPlan l.flatten) : F_spec_l02Joined l = some l.flatten := (U_spec_l02Joined l).out (by
  have e := loop_flat (f := fun f s => L_spec_l02Joinedx0 l f s.1 s.2) l (by omega)
    (fun i x a g hx ha => by
      have l1 := (List.getElem?_eq_some_iff.1 hx).1
      have h1 := hb.len
      have hx' : BPlan x := ⟨by omega, fun n hn => hb.nodes n (List.mem_flatten.2 ⟨x, mem_of_get hx, hn⟩)⟩
      simp only [L_spec_l02Joinedx0, lt_nat hx, cond_true, ix_some hx, Option.bind_some, wrap_nat (show i < 9223372036854775807 by omega), V_spec_l02Copy hx']
      rw [apx_some (by omega)]; rfl)
    (fun a g => by simp [L_spec_l02Joinedx0])
  rw [e]; simp)
theorem V_slices_Grow_LimplNode {n : Nat} (h : n ≤ 2147483648) : F_slices_Grow_LimplNode n = some [] := (U_slices_Grow_LimplNode n).out (by
  have w : IntKind.i64.wrap ((n : Int) - IntKind.i64.wrap (0 - 0)) = n := by rw [show IntKind.i64.wrap (0 - 0) = 0 by rw [wrap_sml] <;> omega, wrap_sml] <;> omega
  rw [w, mkx_nat h]
  simp [tkx])
theorem V_slices_Concat_LimplNode {l : List (List SNode)} (hl : l.length ≤ 1000) (hb : l.flatten.length ≤ 1073741824) : F_slices_Concat_LimplNode l = some l.flatten := (U_slices_Concat_LimplNode l).out (by
  have e0 := loop_fold (f := fun f s => L_slices_Concat_LimplNodex0 l f s.1 s.2) (fun i (a : Int) => (a, (i : Int))) l (fun i a => 0 ≤ a ∧ a + (l.drop i).flatten.length = l.flatten.length) (fun i x a => a + x.length)
    (fun i x a g hx hi => by
      have l1 := (List.getElem?_eq_some_iff.1 hx).1
      have : l.drop i = x :: l.drop (i + 1) := by rw [List.drop_eq_getElem_cons l1]; congr 1; exact (List.getElem?_eq_some_iff.1 hx).2
      rw [this] at hi
      simp only [List.flatten_cons, List.length_append] at hi
      have w : IntKind.i64.wrap (a + (x.length : Int)) = a + x.length := by rw [wrap_sml] <;> omega
      have d : decide (a + (x.length : Int) < 0) = false := by simp; omega
      simp only [L_slices_Concat_LimplNodex0, lt_nat hx, cond_true, ix_some hx, Option.bind_some, wrap_nat (show i < 9223372036854775807 by omega), w, d, cond_false, joinK_go, J_slices_Concat_LimplNodex1])
    (fun i x a hx hi => by
      have l1 := (List.getElem?_eq_some_iff.1 hx).1
      have : l.drop i = x :: l.drop (i + 1) := by rw [List.drop_eq_getElem_cons l1]; congr 1; exact (List.getElem?_eq_some_iff.1 hx).2
      rw [this] at hi
      simp only [List.flatten_cons, List.length_append] at hi
      omega) (fun a g _ => by simp [L_slices_Concat_LimplNodex0]) 0 (by simp)
  rw [foldI_const (fun (x : List SNode) (a : Int) => a + (x.length : Int))] at e0
  have hsum : ∀ (l : List (List SNode)) (a : Int), l.foldl (fun a x => a + (x.length : Int)) a = a + l.flatten.length := by
    intro l
    induction l with
    | nil => simp
    | cons x l ih => intro a; simp only [List.foldl_cons, ih, List.flatten_cons, List.length_append]; omega
  rw [hsum, Int.zero_add] at e0
  rw [show ((0 : Nat) : Int) = 0 from rfl] at e0
  rw [e0]
  simp only [joinK_go, J_slices_Concat_LimplNodex0, V_slices_Grow_LimplNode (show l.flatten.length ≤ 2147483648 by omega), Option.bind_some]
  have e := loop_flat (f := fun f s => L_slices_Concat_LimplNodex1 l f s.1 s.2) l (by omega)
    (fun i x a g hx ha => by
      have l1 := (List.getElem?_eq_some_iff.1 hx).1
      simp only [L_slices_Concat_LimplNodex1, lt_nat hx, cond_true, ix_some hx, Option.bind_some, wrap_nat (show i < 9223372036854775807 by omega)]
      rw [apx_some (by omega)]; rfl)
    (fun a g => by simp [L_slices_Concat_LimplNodex1])
  rw [e]; simp)
theorem slx_nat {T : Type} {l : List T} {i j : Nat} (h1 : i ≤ j) (h2 : j ≤ l.length) : slx l (i : Int) (j : Int) = some ((l.take j).drop i) := by
  unfold slx
  have : (decide (0 ≤ (i : Int)) && decide ((i : Int) ≤ (j : Int)) && decide ((j : Int) ≤ (l.length : Int))) = true := by simp; omega
  rw [this, List.drop_take]
  simp
end Go.Proofs.YtglbcdlplbomdaaX
namespace Go.Proofs.YtglbcdlplbomdaaX
open Go Go.Proofs.YtglbcdlplbomdaaT PT
set_option linter.all false
def ovr (r : Int) : Int × Int := if r = 0 then (1, 1) else if r = 1 then (1, 5) else if r = 2 then (6, 6) else if r = 3 then (5, 5) else if r = 4 then (1, 4) else if r = 5 ∨ r = 6 then (1, 3) else if r = 7 then (7, 7) else if r = 8 then (2, 2) else if r = 9 then (6, 2) else if r = 10 then (1, 2) else if r = 11 then (7, 5) else (-1, -1)
theorem rules {r : Int} (h : okIn r 0 11 = true) : r = 0 ∨ r = 1 ∨ r = 2 ∨ r = 3 ∨ r = 4 ∨ r = 5 ∨ r = 6 ∨ r = 7 ∨ r = 8 ∨ r = 9 ∨ r = 10 ∨ r = 11 := by
  have := okIn_iff.1 h; omega
theorem ovr_out {r : Int} (h : okIn r 0 11 = false) : ovr r = (-1, -1) := by
  have h : ¬ (0 ≤ r ∧ r ≤ 11) := fun h' => by rw [okIn_iff.2 h'] at h; cases h
  unfold ovr
  repeat' split
  all_goals first
    | rfl
    | omega
@[simp] theorem V_impl_over (r : Int) : F_impl_over r = some (ovr r) := (U_impl_over r).out (by
  cases h : okIn r 0 11 with
  | true => rcases rules h with rfl | rfl | rfl | rfl | rfl | rfl | rfl | rfl | rfl | rfl | rfl | rfl <;> rfl
  | false =>
    rw [ovr_out h]
    have h : ¬ (0 ≤ r ∧ r ≤ 11) := fun h' => by rw [okIn_iff.2 h'] at h; cases h
    have e : ∀ k : Int, 0 ≤ k → k ≤ 11 → (r == k) = false := fun k h0 h1 => by simp; omega
    simp [e])
theorem V_spec_l08Two {r : Int} (h : okIn r 0 11 = true) : F_spec_l08Two r = some (ovr r) := (U_spec_l08Two r).out (by
  rcases rules h with rfl | rfl | rfl | rfl | rfl | rfl | rfl | rfl | rfl | rfl | rfl | rfl <;> rfl)
def limN (n m : Nd) : Nd := (n.1, n.2.1, n.2.2.1, n.2.2.2.1, min n.2.2.2.2.1 m.2.2.2.2.1, n.2.2.2.2.2.1, n.2.2.2.2.2.2.1, ())
def colN (n : Nd) (c : Int) : Nd := (n.1, n.2.1, c, n.2.2.2.1, n.2.2.2.2.1, n.2.2.2.2.2.1, n.2.2.2.2.2.2.1, ())
def colsN (n : Nd) (cs : List Int) : Nd := (n.1, n.2.1, n.2.2.1, n.2.2.2.1, n.2.2.2.2.1, n.2.2.2.2.2.1, cs, ())
def pick (l : List Int) (c : Int) : Int := (l[c.toNat]?).getD 0
def turnC (s : List Tb) (r : Int) (n : Nd) : PT → Option PT
  | .n0 _ => none
  | .n1 m d => if r = 2 then (if n.2.2.2.2.2.1 = true ∨ m.2.2.2.2.2.1 = true then none else some (.n1 (limN n m) d))
    else if r = 3 then (if n.2.2.1 = m.2.2.1 then some (.n1 m d) else none)
    else if r = 7 then some (.n1 m d)
    else if r = 8 then some (.n1 (colsN m (n.2.2.2.2.2.2.1.map (pick m.2.2.2.2.2.2.1))) d)
    else if r = 10 then some (.n1 m (.n1 (colN n (pick m.2.2.2.2.2.2.1 n.2.2.1)) d))
    else some (.n1 m (.n1 n d))
  | .n2 m d e => if r = 4 then some (.n2 m (.n1 n d) (.n1 n e))
    else if r = 5 then (if n.2.2.1 < oint (wT s d) then some (.n2 m (.n1 n d) e) else none)
    else if n.2.2.1 < oint (wT s d) then none else some (.n2 m d (.n1 (colN n (n.2.2.1 - oint (wT s d))) e))
def turn (s : List Tb) (r : Int) : PT → Option PT
  | .n1 n c => if n.1 = (ovr r).1 ∧ c.hd.1 = (ovr r).2 then turnC s r n c else none
  | _ => none
theorem slx_pre {T : Type} {p l q : List T} {i : Nat} (h : p.drop i = l ++ q) (hi : i ≤ p.length) : slx p (i : Int) ((i + l.length : Nat) : Int) = some l := by
  have h1 := congrArg List.length h
  simp only [List.length_drop, List.length_append] at h1
  unfold slx
  have : (decide (0 ≤ (i : Int)) && decide ((i : Int) ≤ ((i + l.length : Nat) : Int)) && decide (((i + l.length : Nat) : Int) ≤ (p.length : Int))) = true := by simp; omega
  rw [this]
  simp only [cond_true, Int.toNat_natCast, h]
  rw [List.take_append_of_le_length (by omega), List.take_of_length_le (by omega)]
theorem kind_good {u : PT} (g : Good u) : 0 ≤ arity u.hd.1 := nodeOk_arity g.hd
theorem nodeOk_limitF {n : Nd} (h : nodeOk n = true) (hk : n.1 = 6) : n.2.1 = ByteArray.empty ∧ n.2.2.1 = 0 ∧ n.2.2.2.1 = 0 ∧ n.2.2.2.2.2.2.1 = [] := by
  obtain ⟨k, name, col, op, num, slot, cols, u⟩ := n
  simp only at hk
  subst hk
  simp [nodeOk] at h
  exact ⟨h.1.1.1.1, h.2.1, h.1.1.2, h.1.1.1.2⟩
theorem nodeOk_keepF {n : Nd} (h : nodeOk n = true) (hk : n.1 = 2) : n.2.1 = ByteArray.empty ∧ n.2.2.1 = 0 ∧ n.2.2.2.1 = 0 ∧ n.2.2.2.2.1 = 0 ∧ n.2.2.2.2.2.1 = false := by
  obtain ⟨k, name, col, op, num, slot, cols, u⟩ := n
  simp only at hk
  subst hk
  simp [nodeOk] at h
  exact ⟨h.1.1.1, h.2.1.1.2, h.1.1.2, h.2.1.2, h.2.2⟩
theorem nodeOk_filter {n : Nd} (h : nodeOk n = true) (hk : n.1 = 1) : 0 ≤ n.2.2.1 ∧ n.2.2.1 ≤ 63 := by
  obtain ⟨k, name, col, op, num, slot, cols, u⟩ := n
  simp only at hk
  subst hk
  simp [nodeOk, okIn] at h
  simp only
  omega
theorem pick_some {l : List Int} {c : Int} (h0 : 0 ≤ c) (h1 : c < l.length) : ix l c = some (pick l c) := by
  obtain ⟨k, rfl⟩ : ∃ k : Nat, c = k := ⟨c.toNat, by omega⟩
  rw [ix_nat]
  unfold pick
  simp only [Int.toNat_natCast]
  rw [List.getElem?_eq_getElem (by omega)]; rfl
theorem ovr_one {r : Int} (h : okIn r 0 11 = true) (h4 : r ≠ 4) (h5 : r ≠ 5) (h6 : r ≠ 6) : arity (ovr r).2 = 1 := by
  rcases rules h with rfl | rfl | rfl | rfl | rfl | rfl | rfl | rfl | rfl | rfl | rfl | rfl <;> first
    | rfl
    | omega
theorem ovr_two {r : Int} (h : r = 4 ∨ r = 5 ∨ r = 6) : arity (ovr r).2 = 2 := by
  rcases h with rfl | rfl | rfl <;> rfl
theorem ovr_up {r : Int} (h : okIn r 0 11 = true) : arity (ovr r).1 = 1 := by
  rcases rules h with rfl | rfl | rfl | rfl | rfl | rfl | rfl | rfl | rfl | rfl | rfl | rfl <;> rfl
theorem shapes {n : Nd} {c : PT} (g : Good (.n1 n c)) : (∃ m, c = .n0 m ∧ arity m.1 = 0) ∨ (∃ m d, c = .n1 m d ∧ arity m.1 = 1) ∨ (∃ m d e, c = .n2 m d e ∧ arity m.1 = 2) := by
  cases c with
  | n0 m => exact .inl ⟨m, rfl, g.c1.ok⟩
  | n1 m d => exact .inr (.inl ⟨m, d, rfl, g.c1.ok.1⟩)
  | n2 m d e => exact .inr (.inr ⟨m, d, e, rfl, g.c1.ok.1⟩)
theorem wT_keep {s : List Tb} {n : Nd} {c : PT} (h : (wT s (.n1 n c)).isSome = true) (hk : n.1 = 2) : ∀ x ∈ n.2.2.2.2.2.2.1, x < oint (wT s c) := by
  simp only [wT] at h
  split at h
  · cases h
  · rename_i w hw
    rw [if_pos hk] at h
    split at h
    · rename_i ha
      intro x hx
      rw [hw]
      simpa [oint] using List.all_eq_true.1 ha x hx
    · cases h
theorem wT_col {s : List Tb} {n : Nd} {c : PT} (h : (wT s (.n1 n c)).isSome = true) (hk : n.1 = 1) : n.2.2.1 < oint (wT s c) := by
  simp only [wT] at h
  split at h
  · cases h
  · rename_i w hw
    rw [if_neg (by omega), if_pos (by omega)] at h
    split at h
    · rename_i ha; rw [hw]; exact ha
    · cases h
theorem wT_keepw {s : List Tb} {m : Nd} {d : PT} (h : (wT s (.n1 m d)).isSome = true) (hk : m.1 = 2) : oint (wT s (.n1 m d)) = m.2.2.2.2.2.2.1.length := by
  simp only [wT] at h ⊢
  split at h
  · cases h
  · rename_i w hw
    rw [if_pos hk] at h ⊢
    split at h
    · rename_i ha; rw [if_pos ha]; rfl
    · cases h
end Go.Proofs.YtglbcdlplbomdaaX
namespace Go.Proofs.YtglbcdlplbomdaaX
open Go Go.Proofs.YtglbcdlplbomdaaT PT
set_option linter.all false
theorem At.drop2 {p : List Nd} {k : Nat} {n m : Nd} {d e : PT} (h : At p k (.n1 n (.n2 m d e))) : ∃ q, p.drop (k + 2) = (d.flat ++ e.flat) ++ q := by
  obtain ⟨q, h⟩ := h
  refine ⟨q, ?_⟩
  have := congrArg (·.drop 2) h
  simpa [List.drop_drop, flat] using this
theorem At.drop1 {p : List Nd} {k : Nat} {n m : Nd} {d : PT} (h : At p k (.n1 n (.n1 m d))) : ∃ q, p.drop (k + 2) = d.flat ++ q := by
  obtain ⟨q, h⟩ := h
  refine ⟨q, ?_⟩
  have := congrArg (·.drop 2) h
  simpa [List.drop_drop, flat] using this
theorem nd_eta (n : Nd) : ((n.1, (n.2.1, (n.2.2.1, (n.2.2.2.1, (n.2.2.2.2.1, (n.2.2.2.2.2.1, (n.2.2.2.2.2.2.1, ()))))))) : Nd) = n := rfl
theorem neg_kind {u : PT} (g : Good u) : u.hd.1 ≠ -1 := by
  intro h
  have := kind_good g
  rw [h] at this
  revert this
  decide
theorem turn_none {s : List Tb} {r : Int} {u : PT} (h : ∀ n c, u = .n1 n c → ¬ (n.1 = (ovr r).1 ∧ c.hd.1 = (ovr r).2)) : turn s r u = none := by
  cases u with
  | n0 n => rfl
  | n2 n a b => rfl
  | n1 n c => simp only [turn, if_neg (h n c rfl)]
theorem V_impl_turned {s : List STable} (hs : schemaOk s = true) {p : List SNode} (hp : Pl p) (hl : p.length ≤ 40) {u : PT} {k : Nat} (h : At p k u) (g : Good u) (w : (wT s u).isSome = true) (r : Int) :
    ∃ l, F_impl_turned s p (r, (k : Int), ()) = some (l, (turn s r u).isSome) ∧ ∀ u', turn s r u = some u' → l = u'.flat := by
  have hx := h.hd
  have hle := h.le
  have hw1 : IntKind.i64.wrap ((k : Int) + 1) = ((k + 1 : Nat) : Int) := wrap_nat (by omega)
  have hw2 : IntKind.i64.wrap ((k : Int) + 2) = ((k + 2 : Nat) : Int) := by rw [wrap_sml] <;> omega
  cases hr : okIn r 0 11 with
  | false =>
    have hn := ovr_out hr
    have ht : turn s r u = none := turn_none (by rintro n c rfl ⟨h1, _⟩; rw [hn] at h1; exact neg_kind g h1)
    refine ⟨[], (U_impl_turned s p _).out ?_, by rw [ht]; intro _ h; cases h⟩
    rw [ht]
    simp [hn]
  | true =>
    have h0 : decide ((ovr r).1 < 0) = false := by rcases rules hr with rfl | rfl | rfl | rfl | rfl | rfl | rfl | rfl | rfl | rfl | rfl | rfl <;> rfl
    by_cases hm : u.hd.1 = (ovr r).1
    rotate_left
    · have ht : turn s r u = none := turn_none (by rintro n c rfl ⟨h1, _⟩; exact hm h1)
      refine ⟨[], (U_impl_turned s p _).out ?_, by rw [ht]; intro _ h; cases h⟩
      rw [ht]
      simp [h0, ix_some hx, bne_dec, hm]
    have ha := ovr_up hr
    rw [← hm] at ha
    match u, h, g, w, hx, hle, hm, ha with
    | .n0 n, h, g, w, hx, hle, hm, ha => have := g.ok; simp only [PT.ok, PT.hd] at this ha; omega
    | .n2 n a b, h, g, w, hx, hle, hm, ha => have := g.ok.1; simp only [PT.hd] at this ha; omega
    | .n1 n c, h, g, w, hx, hle, hm, ha =>
    have hc := h.c1.hd
    simp only [PT.hd] at hx hm ha
    by_cases hm2 : c.hd.1 = (ovr r).2
    rotate_left
    · have ht : turn s r (.n1 n c) = none := turn_none (by rintro n' c' e ⟨_, h1⟩; cases e; exact hm2 h1)
      refine ⟨[], (U_impl_turned s p _).out ?_, by rw [ht]; intro _ h; cases h⟩
      rw [ht]
      have hixc := ix_some hc
      generalize ((k + 1 : Nat) : Int) = i1 at *
      simp [h0, ix_some hx, hw1, hixc, bne_dec, hm, hm2]
    have ht : turn s r (.n1 n c) = turnC s r n c := by simp only [turn, if_pos (And.intro hm hm2)]
    rw [ht]
    have hsz : (PT.n1 n c).size = c.size + 1 := rfl
    have e0 : ∀ (l : List SNode) (b : Bool), (J_impl_turnedx0 s p (r, (k : Int), ()) false = some (l, b)) → F_impl_turned s p (r, (k : Int), ()) = some (l, b) := by
      intro l b e
      refine (U_impl_turned s p _).out ?_
      simp only [V_impl_over, Option.bind_some, h0, cond_false, ix_some hx, bne_dec, hm, decide_true, Bool.not_true, hw1, ix_some hc, hm2, joinK_bif, joinK_go]
      exact e
    have hend := h.V_end g hp
    rw [hsz] at hend
    have hch := h.c1.V_children g.c1 hp
    have hixc := ix_some hc
    have hixn := ix_some hx
    rcases shapes g with ⟨m, rfl, har⟩ | ⟨m, d, rfl, har⟩ | ⟨m, d, e, rfl, har⟩
    · exfalso
      simp only [PT.hd] at hm2
      rw [hm2] at har
      rcases rules hr with rfl | rfl | rfl | rfl | rfl | rfl | rfl | rfl | rfl | rfl | rfl | rfl <;> cases har
    · obtain ⟨q, hq⟩ := h.drop1
      have hsl := slx_pre hq (by simp only [PT.size] at hle; omega)
      rw [len_flat, show k + 2 + d.size = k + ((PT.n1 m d).size + 1) by simp only [PT.size]; omega] at hsl
      have hlen : d.flat.length ≤ 40 := by simp only [len_flat, PT.size] at hle ⊢; omega
      simp only [PT.hd] at hm2 hixc
      generalize ((k + ((PT.n1 m d).size + 1) : Nat) : Int) = i3 at *
      generalize ((k + 2 : Nat) : Int) = i2 at *
      generalize ((k + 1 : Nat) : Int) = i1 at *
      have hcat : ∀ (l : List Nd), l.length ≤ 40 → F_slices_Concat_LimplNode [l, d.flat] = some (l ++ d.flat) := fun l hll => by
        rw [V_slices_Concat_LimplNode (by simp) (by simp only [List.flatten_cons, List.flatten_nil, List.append_nil, List.length_append]; omega)]; simp
      have hcat3 : ∀ (l l' : List Nd), l.length ≤ 40 → l'.length ≤ 40 → F_slices_Concat_LimplNode [l, l', d.flat] = some (l ++ (l' ++ d.flat)) := fun l l' hll hll' => by
        rw [V_slices_Concat_LimplNode (by simp) (by simp only [List.flatten_cons, List.flatten_nil, List.append_nil, List.length_append]; omega)]; simp
      rcases rules hr with rfl | rfl | rfl | rfl | rfl | rfl | rfl | rfl | rfl | rfl | rfl | rfl
      · refine ⟨m :: n :: d.flat, e0 _ _ ?_, fun u' hu' => by cases hu'; rfl⟩
        simp [hixn, hw1, hw2, hixc, hch, hend, hsl, nd_eta, hcat3, turnC]
      · refine ⟨m :: n :: d.flat, e0 _ _ ?_, fun u' hu' => by cases hu'; rfl⟩
        simp [hixn, hw1, hw2, hixc, hch, hend, hsl, nd_eta, hcat3, turnC]
      · cases h1 : n.2.2.2.2.2.1 with
        | true =>
          refine ⟨[], e0 _ _ ?_, fun u' hu' => by simp [turnC, h1] at hu'⟩
          simp [hixn, hw1, hw2, hixc, hch, hend, hsl, nd_eta, hcat3, turnC, h1]
        | false => cases h2 : m.2.2.2.2.2.1 with
          | true =>
            refine ⟨[], e0 _ _ ?_, fun u' hu' => by simp [turnC, h2] at hu'⟩
            simp [hixn, hw1, hw2, hixc, hch, hend, hsl, nd_eta, hcat3, turnC, h1, h2]
          | false =>
            refine ⟨limN n m :: d.flat, e0 _ _ ?_, fun u' hu' => by simp [turnC, h1, h2] at hu'; subst hu'; rfl⟩
            simp [hixn, hw1, hw2, hixc, hch, hend, hsl, nd_eta, hcat, turnC, h1, h2, mmx_min, limN]
      · refine ⟨m :: d.flat, e0 _ _ ?_, fun u' hu' => by simp [turnC] at hu'; obtain ⟨_, rfl⟩ := hu'; rfl⟩
        simp [hixn, hw1, hw2, hixc, hch, hend, hsl, nd_eta, hcat, turnC, beq_dec]
        by_cases hcc : n.2.2.1 = m.2.2.1 <;> simp [hcc]
      · have := ovr_two (r := 4) (by simp); rw [← hm2] at this; omega
      · have := ovr_two (r := 5) (by simp); rw [← hm2] at this; omega
      · have := ovr_two (r := 6) (by simp); rw [← hm2] at this; omega
      · refine ⟨m :: d.flat, e0 _ _ ?_, fun u' hu' => by cases hu'; rfl⟩
        simp [hixn, hw1, hw2, hixc, hch, hend, hsl, nd_eta, hcat, turnC]
      · refine ⟨colsN m (n.2.2.2.2.2.2.1.map (pick m.2.2.2.2.2.2.1)) :: d.flat, e0 _ _ ?_, fun u' hu' => by cases hu'; rfl⟩
        have hk : n.1 = 2 := hm
        have hk2 : m.1 = 2 := hm2
        have hn := nodeOk_keep g.hd hk
        have hty := wT_keep w hk
        rw [wT_keepw (wT_c1 w) hk2] at hty
        have e := loop_map (f := fun f z => L_impl_turnedx0 n m f z.1 z.2) n.2.2.2.2.2.2.1 (pick m.2.2.2.2.2.2.1) (by have := hn.2.1; simp only [PT.hd] at this; omega)
          (fun i x a g hx ha => by
            have l1 := (List.getElem?_eq_some_iff.1 hx).1
            have hn2 := hn.2.1
            simp only [PT.hd] at hn2 hn
            simp only [L_impl_turnedx0, lt_nat hx, cond_true, ix_some hx, Option.bind_some, pick_some (hn.2.2 x (mem_of_get hx)).1 (hty x (mem_of_get hx)), wrap_nat (show i < 9223372036854775807 by omega)]
            rw [apx_some (by simp [ha]; omega)]; rfl)
          (fun a g => by simp [L_impl_turnedx0])
        simp [hixn, hw1, hw2, hixc, hch, hend, hsl, nd_eta, hcat, turnC, e, colsN]
      · refine ⟨m :: n :: d.flat, e0 _ _ ?_, fun u' hu' => by cases hu'; rfl⟩
        simp [hixn, hw1, hw2, hixc, hch, hend, hsl, nd_eta, hcat3, turnC]
      · refine ⟨m :: colN n (pick m.2.2.2.2.2.2.1 n.2.2.1) :: d.flat, e0 _ _ ?_, fun u' hu' => by cases hu'; rfl⟩
        have hk : n.1 = 1 := hm
        have hk2 : m.1 = 2 := hm2
        have hty := wT_col w hk
        rw [wT_keepw (wT_c1 w) hk2] at hty
        have hpk := pick_some (nodeOk_filter g.hd hk).1 hty
        simp only [PT.hd] at hpk
        simp [hixn, hw1, hw2, hixc, hch, hend, hsl, nd_eta, hcat3, turnC, hpk, colN]
      · refine ⟨m :: n :: d.flat, e0 _ _ ?_, fun u' hu' => by cases hu'; rfl⟩
        simp [hixn, hw1, hw2, hixc, hch, hend, hsl, nd_eta, hcat3, turnC]
    · obtain ⟨q, hq⟩ := h.drop2
      have hsl := slx_pre hq (by simp only [PT.size] at hle; omega)
      have hsd := slx_pre (show p.drop (k + 2) = d.flat ++ (e.flat ++ q) by rw [hq]; simp) (by simp only [PT.size] at hle; omega)
      have hq2 : p.drop (k + 2 + d.size) = e.flat ++ q := by rw [← List.drop_drop, hq, List.append_assoc]; rw [← len_flat d]; simp
      have hse := slx_pre hq2 (by simp only [PT.size] at hle; omega)
      rw [List.length_append, len_flat, len_flat, show k + 2 + (d.size + e.size) = k + ((PT.n2 m d e).size + 1) by simp only [PT.size]; omega] at hsl
      rw [len_flat] at hsd
      rw [len_flat, show k + 2 + d.size + e.size = k + ((PT.n2 m d e).size + 1) by simp only [PT.size]; omega] at hse
      have hld : d.flat.length ≤ 40 := by simp only [len_flat, PT.size] at hle ⊢; omega
      have hle' : e.flat.length ≤ 40 := by simp only [len_flat, PT.size] at hle ⊢; omega
      simp only [PT.hd] at hm2 hixc
      have hcat3 : ∀ (l l' l3 : List Nd), l.length ≤ 100 → l'.length ≤ 100 → l3.length ≤ 100 → F_slices_Concat_LimplNode [l, l', l3] = some (l ++ (l' ++ l3)) := fun l l' l3 hll hll' hll3 => by
        rw [V_slices_Concat_LimplNode (by simp) (by simp only [List.flatten_cons, List.flatten_nil, List.append_nil, List.length_append]; omega)]; simp
      have hcat4 : ∀ (l l' l3 l4 : List Nd), l.length ≤ 100 → l'.length ≤ 100 → l3.length ≤ 100 → l4.length ≤ 100 → F_slices_Concat_LimplNode [l, l', l3, l4] = some (l ++ (l' ++ (l3 ++ l4))) := fun l l' l3 l4 hll hll' hll3 hll4 => by
        rw [V_slices_Concat_LimplNode (by simp) (by simp only [List.flatten_cons, List.flatten_nil, List.append_nil, List.length_append]; omega)]; simp
      have hcat5 : ∀ (l l' l3 l4 l5 : List Nd), l.length ≤ 100 → l'.length ≤ 100 → l3.length ≤ 100 → l4.length ≤ 100 → l5.length ≤ 100 → F_slices_Concat_LimplNode [l, l', l3, l4, l5] = some (l ++ (l' ++ (l3 ++ (l4 ++ l5)))) := fun l l' l3 l4 l5 hll hll' hll3 hll4 hll5 => by
        rw [V_slices_Concat_LimplNode (by simp) (by simp only [List.flatten_cons, List.flatten_nil, List.append_nil, List.length_append]; omega)]; simp
      have hwd := V_impl_width hs hp d (k + 2) (h.c1.l2) g.c1.l2
      have hk2 : kids (k + 1) (.n2 m d e) = [((k + 2 : Nat) : Int), ((k + 2 + d.size : Nat) : Int)] := rfl
      rw [hk2] at hch
      generalize ((k + ((PT.n2 m d e).size + 1) : Nat) : Int) = i3 at *
      generalize ((k + 2 : Nat) : Int) = j1 at *
      generalize ((k + 2 + d.size : Nat) : Int) = j2 at *
      generalize ((k + 1 : Nat) : Int) = i1 at *
      rcases rules hr with rfl | rfl | rfl | rfl | rfl | rfl | rfl | rfl | rfl | rfl | rfl | rfl
      · have := ovr_one (r := 0) rfl (by simp) (by simp) (by simp); rw [← hm2] at this; omega
      · have := ovr_one (r := 1) rfl (by simp) (by simp) (by simp); rw [← hm2] at this; omega
      · have := ovr_one (r := 2) rfl (by simp) (by simp) (by simp); rw [← hm2] at this; omega
      · have := ovr_one (r := 3) rfl (by simp) (by simp) (by simp); rw [← hm2] at this; omega
      · refine ⟨m :: n :: (d.flat ++ n :: e.flat), e0 _ _ ?_, fun u' hu' => by cases hu'; simp [flat]⟩
        simp [hixn, hw1, hw2, hixc, hch, hend, hsl, nd_eta, turnC, ix0, ix1, hsd, hse, hcat5, hld, hle', show d.size ≤ 100 by rw [← len_flat]; omega, show e.size ≤ 100 by rw [← len_flat]; omega]
      · refine ⟨m :: n :: (d.flat ++ e.flat), e0 _ _ ?_, fun u' hu' => by simp [turnC] at hu'; obtain ⟨_, rfl⟩ := hu'; simp [flat]⟩
        simp [hixn, hw1, hw2, hixc, hch, hend, hsl, nd_eta, turnC, ix0, ix1, hsd, hse, hcat3, hwd, show d.size + e.size ≤ 100 by rw [← len_flat, ← len_flat]; omega]
        by_cases hcc : n.2.2.1 < oint (wT s d) <;> simp [hcc]
      · have hwr : -1 ≤ oint (wT s d) ∧ oint (wT s d) ≤ 64 := by
          cases hwt : wT s d with
          | none => simp [oint]
          | some x => have := wT_range hs g.c1.l2 hwt; simp only [oint]; omega
        have hn := nodeOk_filter g.hd hm
        simp only [PT.hd] at hn
        have hwc : IntKind.i64.wrap (n.2.2.1 - oint (wT s d)) = n.2.2.1 - oint (wT s d) := wrap_sml (by omega) (by omega)
        refine ⟨m :: (d.flat ++ colN n (n.2.2.1 - oint (wT s d)) :: e.flat), e0 _ _ ?_, fun u' hu' => by simp [turnC] at hu'; obtain ⟨_, rfl⟩ := hu'; simp [flat]⟩
        simp [hixn, hw1, hw2, hixc, hch, hend, hsl, nd_eta, turnC, ix0, ix1, hsd, hse, hcat4, hwd, hwc, show d.size ≤ 100 by rw [← len_flat]; omega, show e.size ≤ 100 by rw [← len_flat]; omega]
        by_cases hcc : n.2.2.1 < oint (wT s d)
        · simp [hcc, colN]
          try omega
        · simp [hcc, colN]
          try omega
      · have := ovr_one (r := 7) rfl (by simp) (by simp) (by simp); rw [← hm2] at this; omega
      · have := ovr_one (r := 8) rfl (by simp) (by simp) (by simp); rw [← hm2] at this; omega
      · have := ovr_one (r := 9) rfl (by simp) (by simp) (by simp); rw [← hm2] at this; omega
      · have := ovr_one (r := 10) rfl (by simp) (by simp) (by simp); rw [← hm2] at this; omega
      · have := ovr_one (r := 11) rfl (by simp) (by simp) (by simp); rw [← hm2] at this; omega
end Go.Proofs.YtglbcdlplbomdaaX
namespace Go.Proofs.YtglbcdlplbomdaaX
open Go Go.Proofs.YtglbcdlplbomdaaT PT
set_option linter.all false
theorem bnode_ok {n : Nd} (h : nodeOk n = true) : n.2.1.size ≤ 12 ∧ n.2.2.2.2.2.2.1.length ≤ 6 := by
  obtain ⟨k, name, col, op, num, slot, cols, u⟩ := n
  simp only [nodeOk, Bool.and_eq_true, Bool.or_eq_true, decide_eq_true_eq] at h
  obtain ⟨⟨⟨⟨h1, h2⟩, _⟩, _⟩, h3⟩ := h
  have hn : name.size ≤ 12 := by
    rcases h1 with h1 | h1
    · rw [if_pos h1] at h3
      simp only [Bool.and_eq_true] at h3
      exact (wordOk_len h3.1.1.1).2
    · subst h1; simp
  refine ⟨hn, ?_⟩
  rcases h2 with h2 | h2
  · subst h2
    simp [okIn] at h3
    simp only
    omega
  · subst h2; simp
theorem bnode_of {n : Nd} (h : nodeOk n = true) : BNode n := ⟨by have := (bnode_ok h).1; omega, by have := (bnode_ok h).2; omega⟩
theorem Good.bn {t : PT} (g : Good t) : ∀ n ∈ t.flat, BNode n := fun n hn => bnode_of (g.nodes n hn)
theorem joined {l : List (List Nd)} (h1 : l.length ≤ 1000) (h2 : l.flatten.length ≤ 1073741824) (h3 : ∀ x ∈ l, ∀ n ∈ x, BNode n) : F_spec_l02Joined l = some l.flatten :=
  V_spec_l02Joined h1 ⟨h2, fun n hn => by obtain ⟨x, hx, hn⟩ := List.mem_flatten.1 hn; exact h3 x hx n hn⟩
theorem V_spec_l08Part {s : List STable} (hs : schemaOk s = true) {p : List SNode} (hp : Pl p) (hl : p.length ≤ 40) {n : Nd} {c : PT} {k : Nat} (h : At p k (.n1 n c)) (g : Good (.n1 n c)) (w : (wT s (.n1 n c)).isSome = true) {r : Int}
    (hr : okIn r 0 11 = true) (hm : n.1 = (ovr r).1) (hm2 : c.hd.1 = (ovr r).2) :
    ∃ l, F_spec_l08Part s p r (k : Int) = some (l, (turnC s r n c).isSome) ∧ ∀ u', turnC s r n c = some u' → l = u'.flat := by
  have hx : p[k]? = some n := h.hd
  have hle := h.le
  have hw1 : IntKind.i64.wrap ((k : Int) + 1) = ((k + 1 : Nat) : Int) := wrap_nat (by omega)
  have hc := h.c1.hd
  have hch := h.c1.V_l02Kids g.c1 hp
  have hixc := ix_some hc
  have hixn := ix_some hx
  have hbn : BNode n := bnode_of g.hd
  rcases shapes g with ⟨m, rfl, har⟩ | ⟨m, d, rfl, har⟩ | ⟨m, d, e, rfl, har⟩
  · exfalso
    simp only [PT.hd] at hm2
    rw [hm2] at har
    rcases rules hr with rfl | rfl | rfl | rfl | rfl | rfl | rfl | rfl | rfl | rfl | rfl | rfl <;> cases har
  · obtain ⟨q, hq⟩ := h.drop1
    have hsl := slx_pre hq (by simp only [PT.size] at hle; omega)
    rw [len_flat] at hsl
    have hend := h.c1.c1.V_l02End g.c1.c1 hp
    have hlen : d.flat.length ≤ 40 := by simp only [len_flat, PT.size] at hle ⊢; omega
    have hbm : BNode m := bnode_of g.c1.hd
    have hbd := g.c1.c1.bn
    simp only [PT.hd] at hm2 hixc
    have hk2 : kids (k + 1) (.n1 m d) = [((k + 2 : Nat) : Int)] := rfl
    rw [hk2] at hch
    rw [show k + 1 + 1 = k + 2 from rfl] at hend
    generalize ((k + 2 + d.size : Nat) : Int) = i3 at *
    have hloop : loopF (fun f z => L_spec_l08Partx0 p [((k + 2 : Nat) : Int)] f z.1 z.2) ([], 0) = some (.go [d.flat]) := by
      refine loopF_of 2 (fun n hn => ?_)
      obtain ⟨m, rfl⟩ : ∃ m, n = m + 2 := ⟨n - 2, by omega⟩
      generalize ((k + 2 : Nat) : Int) = j2 at *
      simp only [loopK, L_spec_l08Partx0, ix0, hend, hsl, Option.bind_some]
      rw [apx_some (by simp)]
      simp
    have hcat : ∀ (x : Nd), BNode x → F_spec_l02Joined [[x], d.flat] = some (x :: d.flat) := fun x hbx => by
      rw [joined (by simp) (by simp; simp at hlen; omega) (by intro y hy n hn; simp at hy; rcases hy with rfl | rfl; (simp at hn; subst hn; exact hbx); exact hbd n hn)]; simp
    have hcat3 : ∀ (x y : Nd), BNode x → BNode y → F_spec_l02Joined [[x], [y], d.flat] = some (x :: y :: d.flat) := fun x y hbx hby => by
      rw [joined (by simp) (by simp; simp at hlen; omega) (by intro z hz n hn; simp at hz; rcases hz with rfl | rfl | rfl; (simp at hn; subst hn; exact hbx); (simp at hn; subst hn; exact hby); exact hbd n hn)]; simp
    generalize ((k + 2 : Nat) : Int) = i2 at *
    generalize ((k + 1 : Nat) : Int) = i1 at *
    have base : ∀ l b, J_spec_l08Partx0 s p r n m [i2] [d.flat] = some (l, b) → F_spec_l08Part s p r (k : Int) = some (l, b) := by
      intro l b e
      refine (U_spec_l08Part s p r k).out ?_
      simp only [hixn, hw1, hixc, hch, Option.bind_some, hloop, joinK_go]
      exact e
    rcases rules hr with rfl | rfl | rfl | rfl | rfl | rfl | rfl | rfl | rfl | rfl | rfl | rfl
    · refine ⟨m :: n :: d.flat, base _ _ ?_, fun u' hu' => by cases hu'; rfl⟩
      simp [ix0, nd_eta, hcat3, hbn, hbm, turnC]
    · refine ⟨m :: n :: d.flat, base _ _ ?_, fun u' hu' => by cases hu'; rfl⟩
      simp [ix0, nd_eta, hcat3, hbn, hbm, turnC]
    · cases h1 : n.2.2.2.2.2.1 with
      | true =>
        refine ⟨[], base _ _ ?_, fun u' hu' => by simp [turnC, h1] at hu'⟩
        simp [ix0, turnC, h1]
      | false => cases h2 : m.2.2.2.2.2.1 with
        | true =>
          refine ⟨[], base _ _ ?_, fun u' hu' => by simp [turnC, h2] at hu'⟩
          simp [ix0, turnC, h1, h2]
        | false =>
          refine ⟨limN n m :: d.flat, base _ _ ?_, fun u' hu' => by simp [turnC, h1, h2] at hu'; subst hu'; rfl⟩
          obtain ⟨a1, a2, a3, a4⟩ := nodeOk_limitF g.hd hm
          obtain ⟨b1, b2, b3, b4⟩ := nodeOk_limitF g.c1.hd hm2
          simp only [PT.hd] at a1 a2 a3 a4 b1 b2 b3 b4
          have hk : n.1 = 6 := hm
          have hk2 : m.1 = 6 := hm2
          have e : ∀ x : Int, x = min n.2.2.2.2.1 m.2.2.2.2.1 → F_spec_l02Joined [[((6 : Int), (ByteArray.empty, ((0 : Int), ((0 : Int), (x, (false, (([] : List Int), ())))))))], d.flat] = some (limN n m :: d.flat) := by
            intro x hx
            subst hx
            rw [hcat _ ⟨by simp, by simp⟩]
            simp only [limN, hk, a1, a2, a3, a4, h1]
          by_cases hlt : n.2.2.2.2.1 < m.2.2.2.2.1
          · simp [ix0, turnC, h1, h2, hlt, hk2, b1, b2, b3, b4, e n.2.2.2.2.1 (by omega)]
          · simp [ix0, turnC, h1, h2, hlt, hk2, b1, b2, b3, b4, e m.2.2.2.2.1 (by omega)]
    · refine ⟨m :: d.flat, base _ _ ?_, fun u' hu' => by simp [turnC] at hu'; obtain ⟨_, rfl⟩ := hu'; rfl⟩
      simp [ix0, nd_eta, hcat, hbm, turnC, beq_dec]
      by_cases hcc : n.2.2.1 = m.2.2.1 <;> simp [hcc]
    · have := ovr_two (r := 4) (by simp); rw [← hm2] at this; omega
    · have := ovr_two (r := 5) (by simp); rw [← hm2] at this; omega
    · have := ovr_two (r := 6) (by simp); rw [← hm2] at this; omega
    · refine ⟨m :: d.flat, base _ _ ?_, fun u' hu' => by cases hu'; rfl⟩
      simp [ix0, nd_eta, hcat, hbm, turnC]
    · refine ⟨colsN m (n.2.2.2.2.2.2.1.map (pick m.2.2.2.2.2.2.1)) :: d.flat, base _ _ ?_, fun u' hu' => by cases hu'; rfl⟩
      have hk : n.1 = 2 := hm
      have hk2 : m.1 = 2 := hm2
      have hn := nodeOk_keep g.hd hk
      have hty := wT_keep w hk
      rw [wT_keepw (wT_c1 w) hk2] at hty
      have hn2 := hn.2.1
      simp only [PT.hd] at hn2 hn
      have e := loop_map (f := fun f z => L_spec_l08Partx1 n m f z.1 z.2) n.2.2.2.2.2.2.1 (pick m.2.2.2.2.2.2.1) (by omega)
        (fun i x a g hx ha => by
          have l1 := (List.getElem?_eq_some_iff.1 hx).1
          simp only [L_spec_l08Partx1, lt_nat hx, cond_true, ix_some hx, Option.bind_some, pick_some (hn.2.2 x (mem_of_get hx)).1 (hty x (mem_of_get hx)), wrap_nat (show i < 9223372036854775807 by omega)]
          rw [apx_some (by simp [ha]; omega)]; rfl)
        (fun a g => by simp [L_spec_l08Partx1])
      obtain ⟨a1, a2, a3, a4, a5⟩ := nodeOk_keepF g.hd hm
      obtain ⟨b1, b2, b3, b4, b5⟩ := nodeOk_keepF g.c1.hd hm2
      simp only [PT.hd] at a1 a2 a3 a4 a5 b1 b2 b3 b4 b5
      have e2 : ∀ cs : List Int, cs.length ≤ 6 → F_spec_l02Joined [[((2 : Int), (ByteArray.empty, ((0 : Int), ((0 : Int), ((0 : Int), (false, (cs, ())))))))], d.flat] = some (colsN m cs :: d.flat) := by
        intro cs hcs
        rw [hcat _ ⟨by simp, by simp only; omega⟩]
        simp only [colsN, hk2, b1, b2, b3, b4, b5]
      simp [ix0, turnC, e, hk, a1, a2, a3, a4, a5, e2, hn2]
    · refine ⟨m :: n :: d.flat, base _ _ ?_, fun u' hu' => by cases hu'; rfl⟩
      simp [ix0, nd_eta, hcat3, hbn, hbm, turnC]
    · refine ⟨m :: colN n (pick m.2.2.2.2.2.2.1 n.2.2.1) :: d.flat, base _ _ ?_, fun u' hu' => by cases hu'; rfl⟩
      have hk : n.1 = 1 := hm
      have hk2 : m.1 = 2 := hm2
      have hty := wT_col w hk
      rw [wT_keepw (wT_c1 w) hk2] at hty
      have hpk := pick_some (nodeOk_filter g.hd hk).1 hty
      simp only [PT.hd] at hpk
      have e3 := hcat3 m (colN n (pick m.2.2.2.2.2.2.1 n.2.2.1)) hbm ⟨hbn.1, hbn.2⟩
      simp only [colN] at e3
      simp [ix0, nd_eta, turnC, hpk, colN, e3]
    · refine ⟨m :: n :: d.flat, base _ _ ?_, fun u' hu' => by cases hu'; rfl⟩
      simp [ix0, nd_eta, hcat3, hbn, hbm, turnC]
  · obtain ⟨q, hq⟩ := h.drop2
    have hsd := slx_pre (show p.drop (k + 2) = d.flat ++ (e.flat ++ q) by rw [hq]; simp) (by simp only [PT.size] at hle; omega)
    have hq2 : p.drop (k + 2 + d.size) = e.flat ++ q := by rw [← List.drop_drop, hq, List.append_assoc]; rw [← len_flat d]; simp
    have hse := slx_pre hq2 (by simp only [PT.size] at hle; omega)
    rw [len_flat] at hsd hse
    have hed := h.c1.l2.V_l02End g.c1.l2 hp
    have hee := h.c1.r2.V_l02End g.c1.r2 hp
    rw [show k + 1 + 1 = k + 2 from rfl] at hed hee
    have hld : d.flat.length ≤ 40 := by simp only [len_flat, PT.size] at hle ⊢; omega
    have hle' : e.flat.length ≤ 40 := by simp only [len_flat, PT.size] at hle ⊢; omega
    have hbm : BNode m := bnode_of g.c1.hd
    have hbd := g.c1.l2.bn
    have hbe := g.c1.r2.bn
    simp only [PT.hd] at hm2 hixc
    have hk2 : kids (k + 1) (.n2 m d e) = [((k + 2 : Nat) : Int), ((k + 2 + d.size : Nat) : Int)] := rfl
    rw [hk2] at hch
    have hwd := V_spec_l03Width hs hp d (k + 2) (h.c1.l2) g.c1.l2
    generalize ((k + 2 + d.size + e.size : Nat) : Int) = i3 at *
    generalize ((k + 2 + d.size : Nat) : Int) = j2 at *
    generalize ((k + 2 : Nat) : Int) = j1 at *
    have hloop : loopF (fun f z => L_spec_l08Partx0 p [j1, j2] f z.1 z.2) ([], 0) = some (.go [d.flat, e.flat]) := by
      refine loopF_of 3 (fun n hn => ?_)
      obtain ⟨m, rfl⟩ : ∃ m, n = m + 3 := ⟨n - 3, by omega⟩
      have w2 : IntKind.i64.wrap (1 + 1) = 2 := by rw [wrap_sml] <;> omega
      simp only [loopK, L_spec_l08Partx0, ix0, hed, hsd, Option.bind_some]
      rw [apx_some (by simp)]
      simp [ix1, hee, hse]
      rw [apx_some (by simp)]
      simp [w2]
    have hj : ∀ l : List (List Nd), l.length ≤ 5 → l.flatten.length ≤ 100 → (∀ x ∈ l, ∀ n ∈ x, BNode n) → F_spec_l02Joined l = some l.flatten := fun l h1 h2 h3 => joined (by omega) (by omega) h3
    have hcol : ∀ c, BNode (colN n c) := fun c => ⟨hbn.1, hbn.2⟩
    generalize ((k + 1 : Nat) : Int) = i1 at *
    have base : ∀ l b, J_spec_l08Partx0 s p r n m [j1, j2] [d.flat, e.flat] = some (l, b) → F_spec_l08Part s p r (k : Int) = some (l, b) := by
      intro l b e
      refine (U_spec_l08Part s p r k).out ?_
      simp only [hixn, hw1, hixc, hch, Option.bind_some, hloop, joinK_go]
      exact e
    simp only [len_flat] at hld hle'
    rcases rules hr with rfl | rfl | rfl | rfl | rfl | rfl | rfl | rfl | rfl | rfl | rfl | rfl
    · have := ovr_one (r := 0) rfl (by simp) (by simp) (by simp); rw [← hm2] at this; omega
    · have := ovr_one (r := 1) rfl (by simp) (by simp) (by simp); rw [← hm2] at this; omega
    · have := ovr_one (r := 2) rfl (by simp) (by simp) (by simp); rw [← hm2] at this; omega
    · have := ovr_one (r := 3) rfl (by simp) (by simp) (by simp); rw [← hm2] at this; omega
    · refine ⟨m :: n :: (d.flat ++ n :: e.flat), base _ _ ?_, fun u' hu' => by cases hu'; simp [flat]⟩
      have e1 := hj [[m], [n], d.flat, [n], e.flat] (by simp) (by simp; omega) (by
        intro x hx y hy
        simp only [List.mem_cons, List.not_mem_nil, or_false] at hx
        rcases hx with rfl | rfl | rfl | rfl | rfl
        · simp at hy; subst hy; exact hbm
        · simp at hy; subst hy; exact hbn
        · exact hbd y hy
        · simp at hy; subst hy; exact hbn
        · exact hbe y hy)
      simp [ix0, ix1, nd_eta, turnC, e1]
    · refine ⟨m :: n :: (d.flat ++ e.flat), base _ _ ?_, fun u' hu' => by simp [turnC] at hu'; obtain ⟨_, rfl⟩ := hu'; simp [flat]⟩
      have e1 := hj [[m], [n], d.flat, e.flat] (by simp) (by simp; omega) (by
        intro x hx y hy
        simp only [List.mem_cons, List.not_mem_nil, or_false] at hx
        rcases hx with rfl | rfl | rfl | rfl
        · simp at hy; subst hy; exact hbm
        · simp at hy; subst hy; exact hbn
        · exact hbd y hy
        · exact hbe y hy)
      simp [ix0, ix1, nd_eta, turnC, e1, hwd]
      by_cases hcc : n.2.2.1 < oint (wT s d) <;> simp [hcc]
    · have hwr : -1 ≤ oint (wT s d) ∧ oint (wT s d) ≤ 64 := by
        cases hwt : wT s d with
        | none => simp [oint]
        | some x => have := wT_range hs g.c1.l2 hwt; simp only [oint]; omega
      have hn := nodeOk_filter g.hd hm
      simp only [PT.hd] at hn
      have hwc : IntKind.i64.wrap (n.2.2.1 - oint (wT s d)) = n.2.2.1 - oint (wT s d) := wrap_sml (by omega) (by omega)
      refine ⟨m :: (d.flat ++ colN n (n.2.2.1 - oint (wT s d)) :: e.flat), base _ _ ?_, fun u' hu' => by simp [turnC] at hu'; obtain ⟨_, rfl⟩ := hu'; simp [flat]⟩
      have e1 := hj [[m], d.flat, [colN n (n.2.2.1 - oint (wT s d))], e.flat] (by simp) (by simp; omega) (by
        intro x hx y hy
        simp only [List.mem_cons, List.not_mem_nil, or_false] at hx
        rcases hx with rfl | rfl | rfl | rfl
        · simp at hy; subst hy; exact hbm
        · exact hbd y hy
        · simp at hy; subst hy; exact hcol _
        · exact hbe y hy)
      simp only [colN] at e1
      simp [ix0, ix1, nd_eta, turnC, e1, hwd, hwc]
      by_cases hcc : n.2.2.1 < oint (wT s d)
      · simp [hcc, colN]
        try omega
      · simp [hcc, colN]
        try omega
    · have := ovr_one (r := 7) rfl (by simp) (by simp) (by simp); rw [← hm2] at this; omega
    · have := ovr_one (r := 8) rfl (by simp) (by simp) (by simp); rw [← hm2] at this; omega
    · have := ovr_one (r := 9) rfl (by simp) (by simp) (by simp); rw [← hm2] at this; omega
    · have := ovr_one (r := 10) rfl (by simp) (by simp) (by simp); rw [← hm2] at this; omega
    · have := ovr_one (r := 11) rfl (by simp) (by simp) (by simp); rw [← hm2] at this; omega
end Go.Proofs.YtglbcdlplbomdaaX
namespace Go.Proofs.YtglbcdlplbomdaaX
open Go Go.Proofs.YtglbcdlplbomdaaT PT
set_option linter.all false
def applyM (s : List Tb) (p : List Nd) (x : Sp) : List Nd × Bool :=
  if 0 ≤ x.2.1 then match planT p with
    | none => (p, false)
    | some t => match (subs t)[x.2.1.toNat]? with
      | none => (p, false)
      | some u => match turn s x.1 u with
        | none => (p, false)
        | some u' => if planOk (p.take x.2.1.toNat ++ (u'.flat ++ p.drop (x.2.1.toNat + u.size))) = true then (p.take x.2.1.toNat ++ (u'.flat ++ p.drop (x.2.1.toNat + u.size)), true) else (p, false)
  else (p, false)
theorem turn_bn {s : List Tb} {r : Int} {u u' : PT} (g : Good u) (h : turn s r u = some u') : (∀ n ∈ u'.flat, BNode n) ∧ u'.size ≤ u.size + 1 := by
  cases u with
  | n0 n => cases h
  | n2 n a b => cases h
  | n1 n c =>
    simp only [turn] at h
    split at h
    · have hbn : BNode n := bnode_of g.hd
      have hk : ∀ (f : Nd → Nd), True := fun _ => trivial
      cases c with
      | n0 m => cases h
      | n1 m d =>
        have hbm : BNode m := bnode_of g.c1.hd
        have hbd := g.c1.c1.bn
        simp only [turnC] at h
        repeat' split at h
        all_goals first
          | cases h; fail
          | (cases h
             refine ⟨?_, by simp only [PT.size]; omega⟩
             intro x hx
             simp only [flat, List.mem_cons] at hx
             rcases hx with rfl | rfl | hx <;> first
               | assumption
               | exact hbd x (by assumption)
               | exact ⟨hbn.1, hbn.2⟩
               | exact ⟨hbm.1, hbm.2⟩)
          | (cases h
             refine ⟨?_, by simp only [PT.size]; omega⟩
             intro x hx
             simp only [flat, List.mem_cons] at hx
             rcases hx with rfl | hx <;> first
               | assumption
               | exact hbd x (by assumption)
               | exact ⟨hbn.1, hbn.2⟩
               | exact ⟨hbm.1, by simp only [colsN, List.length_map]; exact hbn.2⟩)
          | cases h
      | n2 m d e =>
        have hbm : BNode m := bnode_of g.c1.hd
        have hbd := g.c1.l2.bn
        have hbe := g.c1.r2.bn
        simp only [turnC] at h
        repeat' split at h
        all_goals first
          | (cases h
             refine ⟨?_, by simp only [PT.size]; omega⟩
             intro x hx
             simp only [flat, List.mem_cons, List.mem_append] at hx
             rcases hx with rfl | (rfl | hx) | (rfl | hx) <;> first
               | assumption
               | exact hbd x (by assumption)
               | exact hbe x (by assumption))
          | (cases h
             refine ⟨?_, by simp only [PT.size]; omega⟩
             intro x hx
             simp only [flat, List.mem_cons, List.mem_append] at hx
             rcases hx with rfl | (rfl | hx) | hx <;> first
               | assumption
               | exact hbd x (by assumption)
               | exact hbe x (by assumption))
          | (cases h
             refine ⟨?_, by simp only [PT.size]; omega⟩
             intro x hx
             simp only [flat, List.mem_cons, List.mem_append] at hx
             rcases hx with rfl | hx | (rfl | hx) <;> first
               | assumption
               | exact hbd x (by assumption)
               | exact hbe x (by assumption)
               | exact ⟨hbn.1, hbn.2⟩)
          | cases h
    · cases h
theorem PlanT.bplan {t : PT} (h : PlanT t) : BPlan t.flat := ⟨h.pl.len, h.good.bn⟩
theorem slx0 {T : Type} {l : List T} {j : Nat} (h2 : j ≤ l.length) : slx l 0 (j : Int) = some (l.take j) := by
  have := slx_nat (l := l) (i := 0) (j := j) (by omega) h2
  simpa using this
theorem slxE {T : Type} {l : List T} {i : Nat} (h : i ≤ l.length) : slx l (i : Int) (l.length : Int) = some (l.drop i) := by
  have := slx_nat (l := l) (i := i) (j := l.length) h (by omega)
  simpa using this
theorem next_bplan {s : List Tb} {t u u' : PT} {k : Nat} {r : Int} (ht : PlanT t) (g : Good u) (hu : turn s r u = some u') (h : At t.flat k u) :
    (t.flat.take k ++ (u'.flat ++ t.flat.drop (k + u.size))).length ≤ 100 ∧ ∀ n ∈ t.flat.take k ++ (u'.flat ++ t.flat.drop (k + u.size)), BNode n := by
  obtain ⟨h1, h2⟩ := turn_bn g hu
  have h3 := ht.size
  have h4 := h.le
  have h5 := ht.good.bn
  simp only [len_flat] at h4
  constructor
  · simp only [List.length_append, List.length_take, List.length_drop, len_flat]; omega
  · intro n hn
    simp only [List.mem_append] at hn
    rcases hn with hn | hn | hn
    · exact h5 n (List.mem_of_mem_take hn)
    · exact h1 n hn
    · exact h5 n (List.mem_of_mem_drop hn)
theorem V_impl_apply {s : List STable} {t : PT} (ht : Typed s t) (x : SStep) : F_impl_apply s t.flat x = some (applyM s t.flat x) := (U_impl_apply s t.flat x).out (by
  obtain ⟨r, k, u0⟩ := x
  have hsz := ht.plan.size
  have hw : IntKind.i64.wrap ((t.flat.length : Int) - 1) = (t.flat.length : Int) - 1 := by simp only [len_flat]; rw [wrap_sml] <;> omega
  simp only [V_impl_in, Option.bind_some, hw, V_impl_own ht.plan.bplan]
  cases hin : okIn k 0 ((t.flat.length : Int) - 1) with
  | false =>
    have hn : ¬ (0 ≤ k ∧ k ≤ (t.flat.length : Int) - 1) := fun h' => by rw [okIn_iff.2 h'] at hin; cases hin
    have : applyM s t.flat (r, k, u0) = (t.flat, false) := by
      unfold applyM
      simp only [planT_flat ht.plan]
      by_cases h0 : 0 ≤ k
      · rw [if_pos h0, List.getElem?_eq_none (by simp only [subs_len, len_flat] at hn ⊢; omega)]
      · rw [if_neg h0]
    rw [this]; rfl
  | true =>
    have hk := okIn_iff.1 hin
    obtain ⟨j, rfl⟩ : ∃ j : Nat, k = j := ⟨k.toNat, by omega⟩
    have hj : j < (subs t).length := by simp only [subs_len, len_flat] at hk ⊢; omega
    have hu : (subs t)[j]? = some (subs t)[j] := List.getElem?_eq_getElem hj
    generalize (subs t)[j] = u at hu
    have hm := mem_of_get hu
    have hat := subs_at (At.root t) hu
    rw [Nat.zero_add] at hat
    have g := subs_good ht.plan.good hm
    have w := subs_w ht.w hm
    obtain ⟨l, e1, e2⟩ := V_impl_turned ht.sch ht.plan.pl (by simp; omega) hat g w r
    have ha : applyM s t.flat (r, (j : Int), u0) = (match turn s r u with
        | none => (t.flat, false)
        | some u' => if planOk (t.flat.take j ++ (u'.flat ++ t.flat.drop (j + u.size))) = true then (t.flat.take j ++ (u'.flat ++ t.flat.drop (j + u.size)), true) else (t.flat, false)) := by
      unfold applyM
      simp only [planT_flat ht.plan]
      rw [if_pos (by omega)]
      simp only [Int.toNat_natCast, hu]
      all_goals (cases turn s r u <;> rfl)
    rw [ha]
    have hend := hat.V_end g ht.plan.pl
    have hle := hat.le
    simp only [e1, Option.bind_some, Bool.not_true, cond_false]
    cases hu' : turn s r u with
    | none => simp
    | some u' =>
      have hl := e2 u' hu'
      subst hl
      obtain ⟨b1, b2⟩ := next_bplan ht.plan g hu' hat
      have hcat : F_slices_Concat_LimplNode [t.flat.take j, u'.flat, t.flat.drop (j + u.size)] = some (t.flat.take j ++ (u'.flat ++ t.flat.drop (j + u.size))) := by
        have hf : [t.flat.take j, u'.flat, t.flat.drop (j + u.size)].flatten = t.flat.take j ++ (u'.flat ++ t.flat.drop (j + u.size)) := by simp
        rw [V_slices_Concat_LimplNode (by simp) (by rw [hf]; omega), hf]
      simp only [Option.isSome_some, Bool.not_true, cond_false, slx0 (show j ≤ t.flat.length by omega), hend, slxE hle, Option.bind_some, hcat, V_impl_own ⟨by omega, b2⟩, V_impl_PlanOk ⟨by omega, b2⟩]
      cases planOk (t.flat.take j ++ (u'.flat ++ t.flat.drop (j + u.size))) <;> simp)
theorem V_spec_ApplyStep {s : List STable} (hs : BSch s) {p : List SNode} (hp : BPlan p) (x : SStep) : F_spec_ApplyStep s p x = some (if typedOk s p = true then applyM s p x else (p, false)) := (U_spec_ApplyStep s p x).out (by
  obtain ⟨r, k, u0⟩ := x
  simp only [V_spec_l02Copy hp, V_spec_TypedOk hs hp, Option.bind_some]
  cases hty : typedOk s p with
  | false => simp
  | true =>
    obtain ⟨t, rfl, ht⟩ := typedOk_iff.1 hty
    have hsz := ht.plan.size
    have hw : IntKind.i64.wrap ((t.flat.length : Int) - 2) = (t.flat.length : Int) - 2 := by simp only [len_flat]; rw [wrap_sml] <;> omega
    simp only [V_spec_l01In, Option.bind_some, hw, Bool.not_true, cond_false, if_true]
    cases hr : okIn r 0 11 with
    | false =>
      have : applyM s t.flat (r, k, u0) = (t.flat, false) := by
        unfold applyM
        simp only [planT_flat ht.plan]
        by_cases h0 : 0 ≤ k
        · rw [if_pos h0]
          cases hu : (subs t)[k.toNat]? with
          | none => rfl
          | some u =>
            have g := subs_good ht.plan.good (mem_of_get hu)
            have hn := ovr_out hr
            have ht' : turn s r u = none := turn_none (by rintro n c rfl ⟨h1, _⟩; rw [hn] at h1; exact neg_kind g h1)
            simp only [ht']
        · rw [if_neg h0]
      rw [this]; simp
    | true =>
    cases hin : okIn k 0 ((t.flat.length : Int) - 2) with
    | false =>
      have hn : ¬ (0 ≤ k ∧ k ≤ (t.flat.length : Int) - 2) := fun h' => by rw [okIn_iff.2 h'] at hin; cases hin
      have : applyM s t.flat (r, k, u0) = (t.flat, false) := by
        unfold applyM
        simp only [planT_flat ht.plan]
        by_cases h0 : 0 ≤ k
        · rw [if_pos h0]
          cases hu : (subs t)[k.toNat]? with
          | none => rfl
          | some u =>
            have hat := subs_at (At.root t) hu
            have hle := hat.le
            have ht' : turn s r u = none := by
              cases u with
              | n0 n => rfl
              | n1 n c => have := c.size_pos; simp only [PT.size, len_flat] at hle hn; omega
              | n2 n a b => rfl
            simp only [ht']
        · rw [if_neg h0]
      rw [this]; simp
    | true =>
      have hk := okIn_iff.1 hin
      obtain ⟨j, rfl⟩ : ∃ j : Nat, k = j := ⟨k.toNat, by omega⟩
      have hj : j < (subs t).length := by simp only [subs_len, len_flat] at hk ⊢; omega
      have hu : (subs t)[j]? = some (subs t)[j] := List.getElem?_eq_getElem hj
      generalize (subs t)[j] = u at hu
      have hm := mem_of_get hu
      have hat := subs_at (At.root t) hu
      rw [Nat.zero_add] at hat
      have g := subs_good ht.plan.good hm
      have w := subs_w ht.w hm
      have ha : applyM s t.flat (r, (j : Int), u0) = (match turn s r u with
          | none => (t.flat, false)
          | some u' => if planOk (t.flat.take j ++ (u'.flat ++ t.flat.drop (j + u.size))) = true then (t.flat.take j ++ (u'.flat ++ t.flat.drop (j + u.size)), true) else (t.flat, false)) := by
        unfold applyM
        simp only [planT_flat ht.plan]
        rw [if_pos (by omega)]
        simp only [Int.toNat_natCast, hu]
        all_goals (cases turn s r u <;> rfl)
      rw [ha]
      have hx := ix_some hat.hd
      have hle := hat.le
      have hw1 : IntKind.i64.wrap ((j : Int) + 1) = ((j + 1 : Nat) : Int) := wrap_nat (by simp only [len_flat] at hk; omega)
      have hj1 : t.flat[j + 1]? = some t.flat[j + 1] := List.getElem?_eq_getElem (by simp only [len_flat] at hk ⊢; omega)
      have hx1 := ix_some hj1
      simp only [Bool.not_true, cond_false, joinK_go, J_spec_ApplyStepx0, V_spec_l08Two hr, Option.bind_some, hx, hw1, hx1, bne_dec]
      by_cases hm1 : u.hd.1 = (ovr r).1
      rotate_left
      · have ht' : turn s r u = none := turn_none (by rintro n c rfl ⟨h1, _⟩; exact hm1 h1)
        simp [hm1, ht']
      have ha := ovr_up hr
      rw [← hm1] at ha
      match u, hu, hm, hat, g, w, hx, hle, hm1, ha with
      | .n0 n, _, _, _, g, _, _, _, _, ha => have := g.ok; simp only [PT.ok, PT.hd] at this ha; omega
      | .n2 n a b, _, _, _, g, _, _, _, _, ha => have := g.ok.1; simp only [PT.hd] at this ha; omega
      | .n1 n c, hu, hm, hat, g, w, hx, hle, hm1, ha =>
      have hc := hat.c1.hd
      rw [hj1] at hc
      have hc := Option.some.inj hc
      rw [hc]
      by_cases hm2 : c.hd.1 = (ovr r).2
      rotate_left
      · have ht' : turn s r (.n1 n c) = none := turn_none (by rintro n' c' e ⟨_, h1⟩; cases e; exact hm2 h1)
        simp [hm1, hm2, ht']
      have ht' : turn s r (.n1 n c) = turnC s r n c := by
        simp only [turn]
        exact if_pos ⟨hm1, hm2⟩
      obtain ⟨l, e1, e2⟩ := V_spec_l08Part ht.sch ht.plan.pl (by simp; omega) hat g w hr hm1 hm2
      have hend := hat.V_l02End g ht.plan.pl
      simp only [hm1, hm2, decide_true, Bool.not_true, cond_false, joinK_go, J_spec_ApplyStepx1, e1, Option.bind_some]
      cases hu' : turnC s r n c with
      | none => simp [ht', hu']
      | some u' =>
        have hl := e2 u' hu'
        subst hl
        rw [hu'] at ht'
        obtain ⟨b1, b2⟩ := next_bplan ht.plan g ht' hat
        have hcat : F_spec_l02Joined [t.flat.take j, u'.flat, t.flat.drop (j + (PT.n1 n c).size)] = some (t.flat.take j ++ (u'.flat ++ t.flat.drop (j + (PT.n1 n c).size))) := by
          have hf : [t.flat.take j, u'.flat, t.flat.drop (j + (PT.n1 n c).size)].flatten = t.flat.take j ++ (u'.flat ++ t.flat.drop (j + (PT.n1 n c).size)) := by simp
          rw [V_spec_l02Joined (by simp) (by rw [hf]; exact ⟨by omega, b2⟩), hf]
        simp only [Option.isSome_some, Bool.not_true, cond_false, slx0 (show j ≤ t.flat.length by omega), hend, slxE hle, Option.bind_some, hcat, V_spec_PlanOk ⟨by omega, b2⟩, ht']
        cases planOk (t.flat.take j ++ (u'.flat ++ t.flat.drop (j + (PT.n1 n c).size))) <;> simp)
end Go.Proofs.YtglbcdlplbomdaaX
namespace Go.Proofs.YtglbcdlplbomdaaX
open Go Go.Proofs.YtglbcdlplbomdaaT PT
set_option linter.all false
def put : PT → Nat → PT → PT
  | _, 0, v => v
  | .n0 n, _ + 1, _ => .n0 n
  | .n1 n a, k + 1, v => .n1 n (put a k v)
  | .n2 n a b, k + 1, v => if k < a.size then .n2 n (put a k v) b else .n2 n a (put b (k - a.size) v)
theorem put_flat : ∀ {t : PT} {k : Nat} {u v : PT}, (subs t)[k]? = some u → (put t k v).flat = t.flat.take k ++ (v.flat ++ t.flat.drop (k + u.size))
  | .n0 n, 0, u, v, h => by simp [subs] at h; subst h; simp [put, PT.size, flat]
  | .n1 n a, 0, u, v, h => by simp [subs] at h; subst h; simp [put, PT.size, flat]
  | .n2 n a b, 0, u, v, h => by
    simp [subs] at h; subst h
    simp only [put, PT.size, flat, List.take_zero, List.nil_append]
    rw [List.drop_eq_nil_of_le (by simp)]; simp
  | .n0 n, k + 1, u, v, h => by simp [subs] at h
  | .n1 n a, k + 1, u, v, h => by
    have h' : (subs a)[k]? = some u := by simpa [subs] using h
    simp only [put, flat, put_flat h', List.take_succ_cons, List.cons_append]
    rw [show k + 1 + u.size = (k + u.size) + 1 by omega, List.drop_succ_cons]
  | .n2 n a b, k + 1, u, v, h => by
    have h' : (subs a ++ subs b)[k]? = some u := by simpa [subs] using h
    simp only [put]
    by_cases hk : k < a.size
    · rw [if_pos hk]
      rw [List.getElem?_append_left (by simpa using hk)] at h'
      have hle := (subs_at (At.root a) h').le
      simp only [len_flat, Nat.zero_add] at hle
      simp only [flat, put_flat h', List.take_succ_cons, List.cons_append]
      rw [show k + 1 + u.size = (k + u.size) + 1 by omega, List.drop_succ_cons, List.take_append_of_le_length (by simp; omega), List.drop_append_of_le_length (by simp; omega)]
      simp
    · rw [if_neg hk]
      rw [List.getElem?_append_right (by simp; omega), subs_len] at h'
      simp only [flat, put_flat h', List.take_succ_cons, List.cons_append]
      rw [show k + 1 + u.size = (k + u.size) + 1 by omega, List.drop_succ_cons, List.take_append, List.drop_append]
      simp only [len_flat]
      rw [List.take_of_length_le (l := a.flat) (by simp; omega), List.drop_eq_nil_of_le (show a.flat.length ≤ k + u.size by simp; omega)]
      rw [show k + u.size - a.size = k - a.size + u.size by omega]
      simp
theorem put_ok : ∀ {t : PT} {k : Nat} {v : PT}, t.ok → v.ok → (put t k v).ok
  | _, 0, v, _, hv => by simpa [put] using hv
  | .n0 n, k + 1, v, h, hv => by simpa [put] using h
  | .n1 n a, k + 1, v, h, hv => ⟨h.1, put_ok h.2 hv⟩
  | .n2 n a b, k + 1, v, h, hv => by
    simp only [put]
    split
    · exact ⟨h.1, put_ok h.2.1 hv, h.2.2⟩
    · exact ⟨h.1, h.2.1, put_ok h.2.2 hv⟩
theorem put_w {s : List Tb} : ∀ {t : PT} {k : Nat} {u v : PT}, (subs t)[k]? = some u → wT s v = wT s u → wT s (put t k v) = wT s t
  | .n0 n, 0, u, v, h, hw => by simp [subs] at h; subst h; simpa [put] using hw
  | .n1 n a, 0, u, v, h, hw => by simp [subs] at h; subst h; simpa [put] using hw
  | .n2 n a b, 0, u, v, h, hw => by simp [subs] at h; subst h; simpa [put] using hw
  | .n0 n, k + 1, u, v, h, _ => by simp [subs] at h
  | .n1 n a, k + 1, u, v, h, hw => by
    have h' : (subs a)[k]? = some u := by simpa [subs] using h
    simp only [put, wT, put_w h' hw]
  | .n2 n a b, k + 1, u, v, h, hw => by
    have h' : (subs a ++ subs b)[k]? = some u := by simpa [subs] using h
    simp only [put]
    by_cases hk : k < a.size
    · rw [if_pos hk]
      rw [List.getElem?_append_left (by simpa using hk)] at h'
      simp only [wT, put_w h' hw]
    · rw [if_neg hk]
      rw [List.getElem?_append_right (by simp; omega), subs_len] at h'
      simp only [wT, put_w h' hw]
theorem pick_lt {l : List Int} {w : Int} (h : l.all (fun c => decide (c < w)) = true) {c : Int} (h0 : 0 ≤ c) (h1 : c < l.length) : pick l c < w := by
  have := pick_some h0 h1
  obtain ⟨k, rfl⟩ : ∃ k : Nat, c = k := ⟨c.toNat, by omega⟩
  rw [ix_nat] at this
  simpa using List.all_eq_true.1 h _ (mem_of_get this)
theorem turn_w {s : List Tb} {r : Int} {u u' : PT} (g : Good u) (w : (wT s u).isSome = true) (h : turn s r u = some u') : u'.ok ∧ wT s u' = wT s u := by
  cases u with
  | n0 n => cases h
  | n2 n a b => cases h
  | n1 n c =>
    simp only [turn] at h
    split at h
    rotate_left
    · cases h
    rename_i hk
    obtain ⟨hm, hm2⟩ := hk
    have hr : okIn r 0 11 = true := by
      cases hr : okIn r 0 11 with
      | true => rfl
      | false => rw [ovr_out hr] at hm; exact absurd hm (neg_kind g)
    have hg := g.ok
    rcases shapes g with ⟨m, rfl, har⟩ | ⟨m, d, rfl, har⟩ | ⟨m, d, e, rfl, har⟩
    · cases h
    · have hd := g.c1.ok.2
      simp only [PT.hd] at hm2
      have hgn := g.ok.1
      have hgm := g.c1.ok.1
      cases hwd : wT s d with
      | none => simp only [wT, hwd] at w; cases w
      | some x =>
      rcases rules hr with rfl | rfl | rfl | rfl | rfl | rfl | rfl | rfl | rfl | rfl | rfl | rfl
      · have hk : n.1 = 1 := hm
        have hk2 : m.1 = 1 := hm2
        cases h
        refine ⟨⟨hgm, hgn, hd⟩, ?_⟩
        by_cases h1 : n.2.2.1 < x <;> by_cases h2 : m.2.2.1 < x <;> simp [wT, hwd, hk, hk2, h1, h2]
      · have hk : n.1 = 1 := hm
        have hk2 : m.1 = 5 := hm2
        cases h
        refine ⟨⟨hgm, hgn, hd⟩, ?_⟩
        by_cases h1 : n.2.2.1 < x <;> by_cases h2 : m.2.2.1 < x <;> simp [wT, hwd, hk, hk2, h1, h2]
      · have hk : n.1 = 6 := hm
        have hk2 : m.1 = 6 := hm2
        simp [turnC] at h
        obtain ⟨_, rfl⟩ := h
        exact ⟨⟨hgn, hd⟩, by simp [wT, hwd, hk, hk2, limN]⟩
      · have hk : n.1 = 5 := hm
        have hk2 : m.1 = 5 := hm2
        simp [turnC] at h
        obtain ⟨hc, rfl⟩ := h
        refine ⟨⟨hgm, hd⟩, ?_⟩
        by_cases h2 : m.2.2.1 < x <;> simp [wT, hwd, hk, hk2, h2, hc]
      · have := ovr_two (r := 4) (by simp); rw [← hm2] at this; omega
      · have := ovr_two (r := 5) (by simp); rw [← hm2] at this; omega
      · have := ovr_two (r := 6) (by simp); rw [← hm2] at this; omega
      · have hk : n.1 = 7 := hm
        have hk2 : m.1 = 7 := hm2
        simp [turnC] at h
        subst h
        exact ⟨⟨hgm, hd⟩, by simp [wT, hwd, hk, hk2]⟩
      · have hk : n.1 = 2 := hm
        have hk2 : m.1 = 2 := hm2
        simp [turnC] at h
        subst h
        refine ⟨⟨hgm, hd⟩, ?_⟩
        have hn := nodeOk_keep g.hd hk
        simp only [PT.hd] at hn
        simp only [wT, hwd, hk, hk2, if_true, colsN] at w ⊢
        by_cases ha : m.2.2.2.2.2.2.1.all (fun c => decide (c < x)) = true
        · rw [if_pos ha] at w ⊢
          simp only at w ⊢
          by_cases hb : n.2.2.2.2.2.2.1.all (fun c => decide (c < (m.2.2.2.2.2.2.1.length : Int))) = true
          · rw [if_pos hb]
            have : (n.2.2.2.2.2.2.1.map (pick m.2.2.2.2.2.2.1)).all (fun c => decide (c < x)) = true := by
              simp only [List.all_map, List.all_eq_true, Function.comp, decide_eq_true_eq]
              intro c hc
              exact pick_lt ha (hn.2.2 c hc).1 (by simpa using List.all_eq_true.1 hb c hc)
            rw [if_pos this]; simp
          · rw [if_neg hb] at w; cases w
        · rw [if_neg ha] at w; cases w
      · have hk : n.1 = 6 := hm
        have hk2 : m.1 = 2 := hm2
        cases h
        exact ⟨⟨hgm, hgn, hd⟩, by simp [wT, hwd, hk, hk2]; split <;> simp_all⟩
      · have hk : n.1 = 1 := hm
        have hk2 : m.1 = 2 := hm2
        cases h
        refine ⟨⟨hgm, by simpa [colN] using hgn, hd⟩, ?_⟩
        have hn := nodeOk_filter g.hd hk
        simp only [PT.hd] at hn
        simp only [wT, hwd, hk, hk2, if_true, colN] at w ⊢
        by_cases ha : m.2.2.2.2.2.2.1.all (fun c => decide (c < x)) = true
        · rw [if_pos ha] at w ⊢
          by_cases hb : n.2.2.1 < (m.2.2.2.2.2.2.1.length : Int)
          · have := pick_lt ha hn.1 hb
            simp [hb, this, ha]
          · simp [hb] at w
        · rw [if_neg ha] at w; cases w
      · have hk : n.1 = 7 := hm
        have hk2 : m.1 = 5 := hm2
        cases h
        exact ⟨⟨hgm, hgn, hd⟩, by by_cases h2 : m.2.2.1 < x <;> simp [wT, hwd, hk, hk2, h2]⟩
    · have hd := g.c1.ok.2.1
      have he := g.c1.ok.2.2
      simp only [PT.hd] at hm2
      have hgn := g.ok.1
      have hgm := g.c1.ok.1
      cases hwd : wT s d with
      | none => simp only [wT, hwd] at w; cases w
      | some x =>
      cases hwe : wT s e with
      | none => simp only [wT, hwd, hwe] at w; cases w
      | some y =>
      rcases rules hr with rfl | rfl | rfl | rfl | rfl | rfl | rfl | rfl | rfl | rfl | rfl | rfl
      · have := ovr_one (r := 0) rfl (by simp) (by simp) (by simp); rw [← hm2] at this; omega
      · have := ovr_one (r := 1) rfl (by simp) (by simp) (by simp); rw [← hm2] at this; omega
      · have := ovr_one (r := 2) rfl (by simp) (by simp) (by simp); rw [← hm2] at this; omega
      · have := ovr_one (r := 3) rfl (by simp) (by simp) (by simp); rw [← hm2] at this; omega
      · have hk : n.1 = 1 := hm
        have hk2 : m.1 = 4 := hm2
        cases h
        refine ⟨⟨hgm, ⟨hgn, hd⟩, hgn, he⟩, ?_⟩
        by_cases h1 : x = y
        · subst h1
          by_cases h2 : n.2.2.1 < x <;> simp [wT, hwd, hwe, hk, hk2, h2]
        · simp [wT, hwd, hwe, hk, hk2, h1] at w
      · have hk : n.1 = 1 := hm
        have hk2 : m.1 = 3 := hm2
        simp [turnC, hwd, oint] at h
        obtain ⟨hc, rfl⟩ := h
        refine ⟨⟨hgm, ⟨hgn, hd⟩, he⟩, ?_⟩
        by_cases h1 : m.2.2.1 < x ∧ m.2.2.2.2.1 < y ∧ x + y ≤ 64
        · by_cases h2 : n.2.2.1 < x + y
          · simp [wT, hwd, hwe, hk, hk2, h1, h2, hc]
          · simp [wT, hwd, hwe, hk, hk2, h1, h2] at w
        · simp [wT, hwd, hwe, hk, hk2, h1] at w
      · have hk : n.1 = 1 := hm
        have hk2 : m.1 = 3 := hm2
        simp [turnC, hwd, oint] at h
        obtain ⟨hc, rfl⟩ := h
        refine ⟨⟨hgm, hd, by simpa [colN] using hgn, he⟩, ?_⟩
        by_cases h1 : m.2.2.1 < x ∧ m.2.2.2.2.1 < y ∧ x + y ≤ 64
        · by_cases h2 : n.2.2.1 < x + y
          · have h3 : n.2.2.1 - x < y := by omega
            simp [wT, hwd, hwe, hk, hk2, h1, h2, h3, colN]
          · simp [wT, hwd, hwe, hk, hk2, h1, h2] at w
        · simp [wT, hwd, hwe, hk, hk2, h1] at w
      · have := ovr_one (r := 7) rfl (by simp) (by simp) (by simp); rw [← hm2] at this; omega
      · have := ovr_one (r := 8) rfl (by simp) (by simp) (by simp); rw [← hm2] at this; omega
      · have := ovr_one (r := 9) rfl (by simp) (by simp) (by simp); rw [← hm2] at this; omega
      · have := ovr_one (r := 10) rfl (by simp) (by simp) (by simp); rw [← hm2] at this; omega
      · have := ovr_one (r := 11) rfl (by simp) (by simp) (by simp); rw [← hm2] at this; omega
theorem applyM_tree {s : List Tb} {t : PT} (ht : Typed s t) {x : Sp} {q : List Nd} (h : applyM s t.flat x = (q, true)) :
    ∃ (k : Nat) (u u' : PT), x.2.1 = k ∧ (subs t)[k]? = some u ∧ turn s x.1 u = some u' ∧ q = (put t k u').flat ∧ PlanT (put t k u') ∧ Typed s (put t k u') ∧ wT s (put t k u') = wT s t := by
  unfold applyM at h
  split at h
  rotate_left
  · cases h
  rename_i h0
  simp only [planT_flat ht.plan] at h
  split at h
  · cases h
  rename_i u hu
  split at h
  · cases h
  rename_i u' hu'
  split at h
  rotate_left
  · cases h
  rename_i hpk
  cases h
  have hm := mem_of_get hu
  have g := subs_good ht.plan.good hm
  have w := subs_w ht.w hm
  obtain ⟨hok, hw⟩ := turn_w g w hu'
  obtain ⟨t', ht', e⟩ := planOk_iff.1 hpk
  have hpf := put_flat (v := u') hu
  rw [← hpf] at e
  have hput := put_ok (k := x.2.1.toNat) ht.plan.ok hok
  have := (flat_inj (q := []) (r := []) hput ht'.ok (by simpa using e)).1
  have hwp := put_w hu hw
  refine ⟨x.2.1.toNat, u, u', by omega, hu, hu', hpf.symm, this ▸ ht', ⟨this ▸ ht', ht.sch, ?_⟩, hwp⟩
  rw [hwp]; exact ht.w
theorem applyM_typed {s : List Tb} {p : List Nd} (hp : typedOk s p = true) {x : Sp} {q : List Nd} (h : applyM s p x = (q, true)) : typedOk s q = true ∧ widthOf s q = widthOf s p := by
  obtain ⟨t, rfl, ht⟩ := typedOk_iff.1 hp
  obtain ⟨k, u, u', _, _, _, rfl, h1, h2, h3⟩ := applyM_tree ht h
  refine ⟨typedOk_iff.2 ⟨_, rfl, h2⟩, ?_⟩
  unfold widthOf
  rw [if_pos ht.sch, if_pos ht.sch, planT_flat h1, planT_flat ht.plan]
  exact h3
end Go.Proofs.YtglbcdlplbomdaaX
namespace Go.Proofs.YtglbcdlplbomdaaX
open Go Go.Proofs.YtglbcdlplbomdaaT PT
set_option linter.all false
theorem foldl_filter {T U : Type} (c : T → Bool) (m : T → U) : ∀ (l : List T) (a : List U), l.foldl (fun a x => if c x = true then a ++ [m x] else a) a = a ++ (l.filter c).map m
  | [], a => by simp
  | x :: l, a => by
    simp only [List.foldl_cons, foldl_filter c m l]
    cases h : c x <;> simp [h]
theorem range_of {n i x : Nat} (h : (List.range n)[i]? = some x) : x = i ∧ i < n := by
  have h1 := (List.getElem?_eq_some_iff.1 h)
  simp at h1
  omega
def stepsRow (s : List Tb) (p : List Nd) (k : Nat) : List Sp := ((List.range 12).filter (fun r : Nat => (applyM s p ((r : Int), (k : Int), ())).2)).map (fun r : Nat => (((r : Int), (k : Int), ()) : Sp))
def stepsM (s : List Tb) (p : List Nd) : List Sp := if typedOk s p = true then (List.range p.length).flatMap (stepsRow s p) else []
theorem stepsRow_len {s : List Tb} {p : List Nd} {k : Nat} : (stepsRow s p k).length ≤ 12 := by
  unfold stepsRow
  rw [List.length_map]
  have := List.length_filter_le (fun r : Nat => (applyM s p ((r : Int), (k : Int), ())).2) (List.range 12)
  simpa using this
theorem steps_loop {s : List Tb} {p : List Nd} {A : List Nd → Sp → Option (List Nd × Bool)} {R0 R1 : Type}
    (hA : ∀ x, A p x = some (applyM s p x)) (k : Nat) (v : List Sp) (hv : v.length ≤ 10000)
    {L : (List Sp × Int → Option (Ex (Ex (List Sp) (List Sp)) (List Sp))) → List Sp × Int → Option (Ex (Ex (List Sp) (List Sp)) (List Sp))}
    (hL : ∀ f v i, L f (v, i) = bif decide (i < 12) then joinK ((A p (i, ((k : Int), ()))).bind (fun y => bif y.2 then (apx v [(i, ((k : Int), ()))]).bind (fun z => some (.go z)) else some (.go v))) (fun z => f (z, IntKind.i64.wrap (i + 1))) else some (.go v)) :
    loopF L (v, 0) = some (.go (v ++ stepsRow s p k)) := by
  have e := loop_fold (f := L) (fun i (a : List Sp) => (a, (i : Int))) (List.range 12) (fun i a => a.length ≤ v.length + i)
    (fun i r a => if (applyM s p ((r : Int), (k : Int), ())).2 = true then a ++ [((r : Int), (k : Int), ())] else a)
    (fun i r a g hr ha => by
      obtain ⟨rfl, hi⟩ := range_of hr
      have d : decide ((r : Int) < 12) = true := by simp; omega
      simp only [hL, d, cond_true, hA, Option.bind_some, wrap_nat (show r < 9223372036854775807 by omega)]
      cases hb : (applyM s p ((r : Int), (k : Int), ())).2 with
      | false => simp
      | true => rw [apx_some (by simp; omega)]; simp)
    (fun i r a hr ha => by split <;> (try simp only [List.length_append, List.length_cons, List.length_nil]) <;> omega)
    (fun a g _ => by
      have : decide (((List.range 12).length : Int) < 12) = false := by simp
      simp only [hL, this, cond_false]) v (by omega)
  rw [foldI_const (fun (r : Nat) (a : List Sp) => if (applyM s p ((r : Int), (k : Int), ())).2 = true then a ++ [((r : Int), (k : Int), ())] else a), foldl_filter (fun r : Nat => (applyM s p ((r : Int), (k : Int), ())).2) (fun r : Nat => (((r : Int), (k : Int), ()) : Sp))] at e
  exact e
theorem V_spec_StepsAt {s : List STable} (hs : BSch s) {p : List SNode} (hp : BPlan p) : F_spec_StepsAt s p = some (stepsM s p) := (U_spec_StepsAt s p).out (by
  simp only [V_spec_TypedOk hs hp, Option.bind_some, stepsM]
  cases hty : typedOk s p with
  | false => simp
  | true =>
    obtain ⟨t, rfl, ht⟩ := typedOk_iff.1 hty
    have hsz := ht.plan.size
    have hA : ∀ x : Sp, F_spec_ApplyStep s t.flat x = some (applyM s t.flat x) := fun x => by rw [V_spec_ApplyStep hs hp x, if_pos hty]
    have e := loop_fold (f := fun f z => L_spec_StepsAtx0 s t.flat f z.1 z.2) (fun i (a : List Sp) => (a, (i : Int))) (List.range t.flat.length) (fun i a => a.length ≤ 12 * i)
      (fun i k a => a ++ stepsRow s t.flat k)
      (fun i k a g hk ha => by
        obtain ⟨rfl, hi⟩ := range_of hk
        have d : decide ((k : Int) < (t.flat.length : Int)) = true := by simp only [decide_eq_true_eq]; omega
        simp only [L_spec_StepsAtx0, d, cond_true]
        rw [steps_loop (A := F_spec_ApplyStep s) (R0 := Unit) (R1 := Unit) hA k a (by simp only [len_flat] at hi; omega) (fun f v i => rfl)]
        simp only [joinK_go, J_spec_StepsAtx1, wrap_nat (show k < 9223372036854775807 by simp only [len_flat] at hi; omega)])
      (fun i k a hk ha => by
        have := stepsRow_len (s := s) (p := t.flat) (k := k)
        simp only [List.length_append]; omega)
      (fun a g _ => by simp [L_spec_StepsAtx0]) [] (by simp)
    rw [foldI_const (fun (k : Nat) (a : List Sp) => a ++ stepsRow s t.flat k), foldl_flat (stepsRow s t.flat)] at e
    rw [show ((0 : Nat) : Int) = 0 from rfl] at e
    rw [e]; simp)
theorem V_impl_StepsAt {s : List STable} (hs : BSch s) {p : List SNode} (hp : BPlan p) : F_impl_StepsAt s p = some (stepsM s p) := (U_impl_StepsAt s p).out (by
  simp only [V_impl_TypedOk hs hp, Option.bind_some, stepsM]
  cases hty : typedOk s p with
  | false => simp
  | true =>
    obtain ⟨t, rfl, ht⟩ := typedOk_iff.1 hty
    have hsz := ht.plan.size
    have hA : ∀ x : Sp, F_impl_apply s t.flat x = some (applyM s t.flat x) := fun x => V_impl_apply ht x
    have e := loop_fold (f := fun f z => L_impl_StepsAtx0 s t.flat f z.1 z.2) (fun i (a : List Sp) => (a, (i : Int))) (List.range t.flat.length) (fun i a => a.length ≤ 12 * i)
      (fun i k a => a ++ stepsRow s t.flat k)
      (fun i k a g hk ha => by
        obtain ⟨rfl, hi⟩ := range_of hk
        have d : decide ((k : Int) < (t.flat.length : Int)) = true := by simp only [decide_eq_true_eq]; omega
        simp only [L_impl_StepsAtx0, d, cond_true]
        rw [steps_loop (A := F_impl_apply s) (R0 := Unit) (R1 := Unit) hA k a (by simp only [len_flat] at hi; omega) (fun f v i => rfl)]
        simp only [joinK_go, J_impl_StepsAtx1, wrap_nat (show k < 9223372036854775807 by simp only [len_flat] at hi; omega)])
      (fun i k a hk ha => by
        have := stepsRow_len (s := s) (p := t.flat) (k := k)
        simp only [List.length_append]; omega)
      (fun a g _ => by simp [L_impl_StepsAtx0]) [] (by simp)
    rw [foldI_const (fun (k : Nat) (a : List Sp) => a ++ stepsRow s t.flat k), foldl_flat (stepsRow s t.flat)] at e
    rw [show ((0 : Nat) : Int) = 0 from rfl] at e
    rw [e]; simp)
theorem stepsM_mem {s : List Tb} {p : List Nd} {x : Sp} (h : x ∈ stepsM s p) : typedOk s p = true ∧ (applyM s p x).2 = true := by
  unfold stepsM at h
  split at h
  · rename_i ht
    refine ⟨ht, ?_⟩
    obtain ⟨k, _, hk⟩ := List.mem_flatMap.1 h
    obtain ⟨r, hr, rfl⟩ := List.mem_map.1 hk
    exact (List.mem_filter.1 hr).2
  · cases h
theorem flatMap_len {T U : Type} (f : T → List U) (b : Nat) (h : ∀ x, (f x).length ≤ b) : ∀ l : List T, (l.flatMap f).length ≤ b * l.length
  | [] => by simp
  | x :: l => by
    have := flatMap_len f b h l
    have := h x
    simp only [List.flatMap_cons, List.length_append, List.length_cons, Nat.mul_add]
    omega
theorem stepsM_len {s : List Tb} {p : List Nd} : (stepsM s p).length ≤ 480 := by
  unfold stepsM
  split
  · rename_i hty
    obtain ⟨t, rfl, ht⟩ := typedOk_iff.1 hty
    have := flatMap_len (stepsRow s t.flat) 12 (fun k => stepsRow_len) (List.range t.flat.length)
    have := ht.plan.size
    simp only [List.length_range, len_flat] at *
    omega
  · simp
theorem typed_bplan {s : List Tb} {p : List Nd} (h : typedOk s p = true) : BPlan p := by
  obtain ⟨t, rfl, ht⟩ := typedOk_iff.1 h
  exact ht.plan.bplan
theorem step_typed {s : List Tb} {p : List Nd} {x : Sp} (h : x ∈ stepsM s p) : typedOk s (applyM s p x).1 = true := by
  obtain ⟨h1, h2⟩ := stepsM_mem h
  exact (applyM_typed h1 (q := (applyM s p x).1) (by rw [← h2])).1
end Go.Proofs.YtglbcdlplbomdaaX
namespace Go.Proofs.YtglbcdlplbomdaaX
open Go Go.Proofs.YtglbcdlplbomdaaT PT
set_option linter.all false
def bestF (c : Sp → Int) : List Sp → Sp → Int → Bool → Sp × Bool
  | [], b, _, f => (b, f)
  | x :: xs, b, l, f => if c x < l then bestF c xs x (c x) true else bestF c xs b l f
def bestM (s : List Tb) (sz : List Int) (p : List Nd) : Sp × Bool := if costOf s sz p < 0 then ((0, 0, ()), false) else bestF (fun x => costOf s sz (applyM s p x).1) (stepsM s p) (0, 0, ()) (costOf s sz p) false
theorem best_loop {A S' : Type} (st : Sp → Int → Bool → Int → S') (out : Sp → Bool → A) (c : Sp → Int) {steps : List Sp} {L : (S' → Option A) → S' → Option A}
    (hL : ∀ f b l fd (i : Nat) x, steps[i]? = some x → 0 ≤ l → L f (st b l fd i) = if c x < l then f (st x (c x) true ((i + 1 : Nat) : Int)) else f (st b l fd ((i + 1 : Nat) : Int)))
    (hE : ∀ f b l fd, L f (st b l fd (steps.length : Int)) = some (out b fd)) (hc : ∀ x ∈ steps, 0 ≤ c x) (b : Sp) (l : Int) (h0 : 0 ≤ l) (fd : Bool) :
    loopF L (st b l fd 0) = some (out (bestF c steps b l fd).1 (bestF c steps b l fd).2) := by
  refine loopF_of (steps.length + 1) ?_
  have key : ∀ (xs : List Sp) (i : Nat) (b : Sp) (l : Int) (fd : Bool), steps.drop i = xs → i + xs.length = steps.length → 0 ≤ l → ∀ n, xs.length + 1 ≤ n → loopK L n (st b l fd (i : Int)) = some (out (bestF c xs b l fd).1 (bestF c xs b l fd).2) := by
    intro xs
    induction xs with
    | nil =>
      intro i b l fd hd hi h0 n hn
      obtain ⟨m, rfl⟩ : ∃ m, n = m + 1 := ⟨n - 1, by omega⟩
      simp only [List.length_nil, Nat.add_zero] at hi
      subst hi
      simp only [loopK, hE, bestF]
    | cons x xs ih =>
      intro i b l fd hd hi h0 n hn
      obtain ⟨m, rfl⟩ : ∃ m, n = m + 1 := ⟨n - 1, by omega⟩
      have hx : steps[i]? = some x := by
        have := congrArg (·[0]?) hd
        simpa using this
      have hd' : steps.drop (i + 1) = xs := by
        have := congrArg (·.drop 1) hd
        simpa [List.drop_drop] using this
      simp only [List.length_cons] at hi hn
      simp only [loopK, hL _ b l fd i x hx h0, bestF]
      have hcx := hc x (mem_of_get hx)
      split
      · exact ih (i + 1) x (c x) true hd' (by omega) hcx m (by omega)
      · exact ih (i + 1) b l fd hd' (by omega) h0 m (by omega)
  exact fun n hn => key steps 0 b l fd rfl (by simp) h0 n hn
theorem costOf_good {s : List Tb} {sz : List Int} {p : List Nd} : 0 ≤ costOf s sz p ↔ good s sz p = true := by
  unfold costOf
  constructor
  · intro h
    split at h
    · assumption
    · omega
  · intro hg
    rw [if_pos hg]
    obtain ⟨hz, t, rfl, ht⟩ := good_iff.1 hg
    simp only [planT_flat ht.plan]
    have := cT_range hz ht.plan.good ht.w
    omega
theorem step_good {s : List Tb} {sz : List Int} {p : List Nd} (hg : good s sz p = true) {x : Sp} (hx : x ∈ stepsM s p) : good s sz (applyM s p x).1 = true := by
  simp only [good, Bool.and_eq_true] at hg ⊢
  exact ⟨step_typed hx, hg.2⟩
theorem V_spec_BestStep {s : List STable} (hs : BSch s) {sz : List Int} (hl : sz.length ≤ 2147483648) {p : List SNode} (hp : BPlan p) : F_spec_BestStep s sz p = some (bestM s sz p) := (U_spec_BestStep s sz p).out (by
  simp only [V_spec_CostOf hs hl hp, Option.bind_some, bestM, V_spec_StepsAt hs hp]
  by_cases hc : costOf s sz p < 0
  · simp [hc]
  · have hg := costOf_good.1 (show 0 ≤ costOf s sz p by omega)
    have hty : typedOk s p = true := by simp only [good, Bool.and_eq_true] at hg; exact hg.1
    have hsl := stepsM_len (s := s) (p := p)
    have e := best_loop (st := fun b l fd i => (b.1, b.2.1, l, fd, i)) (out := fun b fd => (Ex.go (b.1, b.2.1, fd) : Ex (SStep × Bool) (Int × Int × Bool))) (fun x => costOf s sz (applyM s p x).1) (steps := stepsM s p)
      (L := fun f z => L_spec_BestStepx0 s sz p (stepsM s p) f z.1 z.2.1 z.2.2.1 z.2.2.2.1 z.2.2.2.2)
      (fun f b l fd i x hx h0 => by
        have l1 := (List.getElem?_eq_some_iff.1 hx).1
        simp only [L_spec_BestStepx0, lt_nat hx, cond_true, ix_some hx, Option.bind_some, V_spec_ApplyStep hs hp, hty, if_true, V_spec_CostOf hs hl (typed_bplan (step_typed (mem_of_get hx))), wrap_nat (show i < 9223372036854775807 by omega)]
        by_cases h : costOf s sz (applyM s p x).1 < l <;> simp only [h, decide_true, decide_false, cond_true, cond_false, joinK_go, J_spec_BestStepx1, if_true, if_false, wrap_nat (show i < 9223372036854775807 by omega)])
      (fun f b l fd => by simp [L_spec_BestStepx0])
      (fun x hx => costOf_good.2 (step_good hg hx)) (0, 0, ()) (costOf s sz p) (by omega) false
    simp only at e
    simp only [hc, decide_false, cond_false, if_false, e, joinK_go, J_spec_BestStepx0])
theorem V_impl_BestStep {s : List STable} (hs : BSch s) {sz : List Int} (hl : sz.length ≤ 2147483648) {p : List SNode} (hp : BPlan p) : F_impl_BestStep s sz p = some (bestM s sz p) := (U_impl_BestStep s sz p).out (by
  simp only [V_impl_CostOf hs hl hp, Option.bind_some, bestM, V_impl_StepsAt hs hp]
  by_cases hc : costOf s sz p < 0
  · simp [hc]
  · have hg := costOf_good.1 (show 0 ≤ costOf s sz p by omega)
    have hty : typedOk s p = true := by simp only [good, Bool.and_eq_true] at hg; exact hg.1
    obtain ⟨t, rfl, ht⟩ := typedOk_iff.1 hty
    have hsl := stepsM_len (s := s) (p := t.flat)
    have e := best_loop (st := fun b l fd i => (l, b.1, b.2.1, fd, i)) (out := fun b fd => (Ex.go (b.1, b.2.1, fd) : Ex (SStep × Bool) (Int × Int × Bool))) (fun x => costOf s sz (applyM s t.flat x).1) (steps := stepsM s t.flat)
      (L := fun f z => L_impl_BestStepx0 s sz t.flat (stepsM s t.flat) f z.1 z.2.1 z.2.2.1 z.2.2.2.1 z.2.2.2.2)
      (fun f b l fd i x hx h0 => by
        have l1 := (List.getElem?_eq_some_iff.1 hx).1
        have hge : decide (costOf s sz (applyM s t.flat x).1 ≥ 0) = true := by simpa using costOf_good.2 (step_good hg (mem_of_get hx))
        have hap : F_impl_apply s t.flat (x.1, (x.2.1, ())) = some (applyM s t.flat x) := V_impl_apply ht x
        simp only [L_impl_BestStepx0, lt_nat hx, cond_true, ix_some hx, Option.bind_some, hap, V_impl_CostOf hs hl (typed_bplan (step_typed (mem_of_get hx))), hge, joinK_go, J_impl_BestStepx2, wrap_nat (show i < 9223372036854775807 by omega)]
        by_cases h : costOf s sz (applyM s t.flat x).1 < l <;> simp only [h, decide_true, decide_false, cond_true, cond_false, joinK_go, J_impl_BestStepx1, if_true, if_false, wrap_nat (show i < 9223372036854775807 by omega)])
      (fun f b l fd => by simp [L_impl_BestStepx0])
      (fun x hx => costOf_good.2 (step_good hg hx)) (0, 0, ()) (costOf s sz t.flat) (by omega) false
    simp only at e
    simp only [hc, decide_false, cond_false, if_false, e, joinK_go, J_impl_BestStepx0])
theorem bestF_mem {c : Sp → Int} : ∀ {xs : List Sp} {b : Sp} {l : Int} {f : Bool}, (bestF c xs b l f).2 = true → f = false → (bestF c xs b l f).1 ∈ xs ∧ c (bestF c xs b l f).1 < l
  | [], b, l, f, h, hf => by simp [bestF, hf] at h
  | x :: xs, b, l, f, h, hf => by
    simp only [bestF] at h ⊢
    split
    · rename_i hc
      rw [if_pos hc] at h
      have key : ∀ (ys : List Sp) (b : Sp) (l : Int), (bestF c ys b l true).1 = b ∨ ((bestF c ys b l true).1 ∈ ys ∧ c (bestF c ys b l true).1 < l) := by
        intro ys
        induction ys with
        | nil => intro b l; exact .inl rfl
        | cons y ys ih =>
          intro b l
          simp only [bestF]
          split
          · rcases ih y (c y) with h | ⟨h, h2⟩
            · rw [h]; exact .inr ⟨by simp, by assumption⟩
            · exact .inr ⟨by simp [h], by omega⟩
          · rcases ih b l with h | ⟨h, h2⟩
            · exact .inl h
            · exact .inr ⟨by simp [h], h2⟩
      rcases key xs x (c x) with h | ⟨h, h2⟩
      · rw [h]; exact ⟨by simp, hc⟩
      · exact ⟨by simp [h], by omega⟩
    · rename_i hc
      rw [if_neg hc] at h
      obtain ⟨h1, h2⟩ := bestF_mem h hf
      exact ⟨by simp [h1], h2⟩
theorem bestM_mem {s : List Tb} {sz : List Int} {p : List Nd} (h : (bestM s sz p).2 = true) : (bestM s sz p).1 ∈ stepsM s p ∧ good s sz p = true ∧ costOf s sz (applyM s p (bestM s sz p).1).1 < costOf s sz p := by
  unfold bestM at h ⊢
  by_cases hc : costOf s sz p < 0
  · simp [hc] at h
  · rw [if_neg hc] at h ⊢
    obtain ⟨h1, h2⟩ := bestF_mem h rfl
    exact ⟨h1, costOf_good.1 (by omega), h2⟩
def improveM (s : List Tb) (sz : List Int) : Nat → List Nd → List Sp → List Nd × List Sp
  | 0, p, st => (p, st)
  | n + 1, p, st => if (bestM s sz p).2 = true then improveM s sz n (applyM s p (bestM s sz p).1).1 (st ++ [(bestM s sz p).1]) else (p, st)
theorem V_impl_Improve {s : List STable} (hs : BSch s) {sz : List Int} (hl : sz.length ≤ 2147483648) {p : List SNode} (hp : BPlan p) : F_impl_Improve s sz p = some (improveM s sz 20 p []) := (U_impl_Improve s sz p).out (by
  simp only [V_impl_own hp, Option.bind_some]
  have key : ∀ (n : Nat) (p : List SNode) (st : List SStep), BPlan p → n + st.length = 20 → ∀ m, n + 1 ≤ m → loopK (fun f z => L_impl_Improvex0 s sz f z.1 z.2) m (p, st) = some (.go (improveM s sz n p st)) := by
    intro n
    induction n with
    | zero =>
      intro p st hp hst m hm
      obtain ⟨k, rfl⟩ : ∃ k, m = k + 1 := ⟨m - 1, by omega⟩
      have d : decide ((st.length : Int) < 20) = false := by simp; omega
      simp only [loopK, L_impl_Improvex0, d, cond_false, improveM]
    | succ n ih =>
      intro p st hp hst m hm
      obtain ⟨k, rfl⟩ : ∃ k, m = k + 1 := ⟨m - 1, by omega⟩
      have d : decide ((st.length : Int) < 20) = true := by simp; omega
      simp only [loopK, L_impl_Improvex0, d, cond_true, V_impl_BestStep hs hl hp, Option.bind_some, improveM]
      cases hb : (bestM s sz p).2 with
      | false => simp
      | true =>
        obtain ⟨hm', hg, _⟩ := bestM_mem hb
        obtain ⟨hty, h2⟩ := stepsM_mem hm'
        have hst2 := step_typed hm'
        obtain ⟨t, rfl, ht⟩ := typedOk_iff.1 hty
        have hap : F_impl_apply s t.flat ((bestM s sz t.flat).1.1, ((bestM s sz t.flat).1.2.1, ())) = some (applyM s t.flat (bestM s sz t.flat).1) := V_impl_apply ht _
        simp only [Bool.not_true, cond_false, hap, Option.bind_some, if_true]
        rw [apx_some (by simp; omega)]
        simp only [Option.bind_some]
        exact ih _ _ (typed_bplan hst2) (by simp; omega) k (by omega)
  rw [loopF_of 21 (key 20 p [] hp rfl)]
  simp)
theorem V_spec_Improve {s : List STable} (hs : BSch s) {sz : List Int} (hl : sz.length ≤ 2147483648) {p : List SNode} (hp : BPlan p) : F_spec_Improve s sz p = some (improveM s sz 20 p []) := (U_spec_Improve s sz p).out (by
  simp only [V_spec_l02Copy hp, V_spec_CostOf hs hl hp, Option.bind_some]
  by_cases hc : costOf s sz p < 0
  · have hb : bestM s sz p = ((0, 0, ()), false) := by unfold bestM; rw [if_pos hc]
    simp [hc, improveM, hb]
  · simp only [hc, decide_false, cond_false]
    have key : ∀ (n : Nat) (p : List SNode) (st : List SStep), BPlan p → n + st.length = 20 → ∃ r, (∀ m, n + 1 ≤ m → loopK (fun f z => L_spec_Improvex0 s sz f z.1 z.2.1 z.2.2.1 z.2.2.2) m ([], [], p, st) = some r) ∧
        joinK (some r) (fun z => J_spec_Improvex0 z.1 z.2.1 z.2.2.1 z.2.2.2) = some (improveM s sz n p st) := by
      intro n
      induction n with
      | zero =>
        intro p st hp hst
        have d : decide ((st.length : Int) < 20) = false := by simp; omega
        refine ⟨.go ([], [], p, st), fun m hm => ?_, rfl⟩
        obtain ⟨k, rfl⟩ : ∃ k, m = k + 1 := ⟨m - 1, by omega⟩
        simp only [loopK, L_spec_Improvex0, d, cond_false]
      | succ n ih =>
        intro p st hp hst
        have d : decide ((st.length : Int) < 20) = true := by simp; omega
        cases hb : (bestM s sz p).2 with
        | false =>
          refine ⟨.ret (p, st), fun m hm => ?_, by simp only [improveM, hb]; rfl⟩
          obtain ⟨k, rfl⟩ : ∃ k, m = k + 1 := ⟨m - 1, by omega⟩
          simp only [loopK, L_spec_Improvex0, d, cond_true, V_spec_BestStep hs hl hp, Option.bind_some, hb, Bool.not_false]
        | true =>
          obtain ⟨hm', hg, _⟩ := bestM_mem hb
          obtain ⟨hty, h2⟩ := stepsM_mem hm'
          have hst2 := step_typed hm'
          have hap : F_spec_ApplyStep s p ((bestM s sz p).1.1, ((bestM s sz p).1.2.1, ())) = some (applyM s p (bestM s sz p).1) := by
            rw [V_spec_ApplyStep hs hp, if_pos hty]
          obtain ⟨r, h3, h4⟩ := ih (applyM s p (bestM s sz p).1).1 (st ++ [(bestM s sz p).1]) (typed_bplan hst2) (by simp; omega)
          refine ⟨r, fun m hm => ?_, by simp only [improveM, hb, if_true]; exact h4⟩
          obtain ⟨k, rfl⟩ : ∃ k, m = k + 1 := ⟨m - 1, by omega⟩
          simp only [loopK, L_spec_Improvex0, d, cond_true, V_spec_BestStep hs hl hp, Option.bind_some, hb, Bool.not_true, cond_false, hap]
          rw [apx_some (by simp; omega)]
          simp only [Option.bind_some]
          exact h3 k (by omega)
    obtain ⟨r, h1, h2⟩ := key 20 p [] hp rfl
    rw [loopF_of 21 h1]
    simpa using h2)
theorem improveM_typed {s : List Tb} {sz : List Int} : ∀ {n : Nat} {p : List Nd} {st : List Sp}, BPlan p → BPlan (improveM s sz n p st).1
  | 0, p, st, h => h
  | n + 1, p, st, h => by
    simp only [improveM]
    split
    · rename_i hb
      exact improveM_typed (typed_bplan (step_typed (bestM_mem hb).1))
    · exact h
end Go.Proofs.YtglbcdlplbomdaaX
namespace Go.Proofs.YtglbcdlplbomdaaX
open Go Go.Proofs.YtglbcdlplbomdaaT PT
set_option linter.all false
abbrev Opn := Int × List Nd × List Nd × List Sp × Unit
end Go.Proofs.YtglbcdlplbomdaaX
namespace Go.Proofs.YtglbcdlplbomdaaX
open Go Go.Proofs.YtglbcdlplbomdaaT
set_option linter.all false
def WL {T : Type} (W : T → Prop) (l : List T) : Prop := l.length ≤ maxLen ∧ ∀ x ∈ l, W x
def zTb (t : Tb) : Nat := t.1.size
def zNd (n : Nd) : Nat := n.2.1.size + n.2.2.2.2.2.2.1.length
def WTb (t : Tb) : Prop := t.1.size ≤ maxLen
def WNd (n : Nd) : Prop := n.2.1.size ≤ maxLen ∧ n.2.2.2.2.2.2.1.length ≤ maxLen
theorem sz_IntS {a : List Int} (hw : a.length ≤ maxLen) {v : Int} (h0 : 0 ≤ v) (h1 : v ≤ 1048576) : F_laws_szIntS a v = some (if (a.length : Int) ≤ v then v - (a.length : Nat) else -1) := (U_laws_szIntS a v).out (by
  rw [wrap_sub h0 h1 hw, sub_neg]
  by_cases h : (a.length : Int) ≤ v <;> simp [h])
theorem sz_Table {a : STable} (hw : WTb a) {v : Int} (h0 : 0 ≤ v) (h1 : v ≤ 1048576) : F_laws_szTable a v = some (if (zTb a : Int) ≤ v then v - (zTb a : Nat) else -1) := (U_laws_szTable a v).out (by
  unfold WTb at hw
  rw [wrap_sub h0 h1 hw, sub_neg]
  unfold zTb
  by_cases h : (a.1.size : Int) ≤ v <;> simp [h])
theorem sz_Node {a : SNode} (hw : WNd a) {v : Int} (h0 : 0 ≤ v) (h1 : v ≤ 1048576) : F_laws_szNode a v = some (if (zNd a : Int) ≤ v then v - (zNd a : Nat) else -1) := (U_laws_szNode a v).out (by
  rw [wrap_sub h0 h1 hw.1, sub_neg]
  unfold zNd
  by_cases h : (a.2.1.size : Int) ≤ v
  · rw [sz_IntS hw.2 (by omega) (by omega)]
    by_cases h2 : (a.2.2.2.2.2.2.1.length : Int) ≤ v - (a.2.1.size : Nat)
    · rw [if_pos h2, if_pos (by omega)]
      have : decide (v - (a.2.1.size : Int) - (a.2.2.2.2.2.2.1.length : Int) < 0) = false := by simp; omega
      simp [h, this]; omega
    · rw [if_neg h2, if_neg (by omega)]
      simp [h]
  · rw [if_neg (by omega)]
    simp [h])
theorem sz_list {T : Type} {W : T → Prop} {z : T → Nat} {a : List T} (hw : WL W a) {v : Int} (h0 : 0 ≤ v) (h1 : v ≤ 1048576) {G : T → Int → Option Int}
    (hG : ∀ x, W x → ∀ v : Int, 0 ≤ v → v ≤ 1048576 → G x v = some (if (z x : Int) ≤ v then v - z x else -1))
    {L : (Int × Int × Int → Option (Ex Int (Int × Int))) → Int × Int × Int → Option (Ex Int (Int × Int))}
    (hL : ∀ f v u i, L f (v, u, i) = bif decide (i < (a.length : Int)) then (ix a i).bind fun x => (G x v).bind fun y => bif decide (y < 0) then some (.ret (-1)) else f (y, u, IntKind.i64.wrap (i + 1)) else some (.go (v, u)))
    {J : Int → Int → Option Int} (hJ : ∀ x y, J x y = some x) :
    (bif decide ((IntKind.i64.wrap (v - (a.length : Int))) < 0) then some (-1) else joinK (loopF L ((IntKind.i64.wrap (v - (a.length : Int))), 0, 0)) (fun s => J s.1 s.2)) = some (if (zL z a : Int) ≤ v then v - (zL z a : Nat) else -1) := by
  rw [wrap_sub h0 h1 hw.1, sub_neg]
  unfold zL
  by_cases h : (a.length : Int) ≤ v
  · rw [sz_loop (z := z) (fun x hx => hG x (hw.2 x hx)) (by omega) hL (by omega) (by omega)]
    by_cases h2 : (((a.map z).sum : Nat) : Int) ≤ v - (a.length : Nat)
    · rw [if_pos h2, if_pos (by omega)]
      simp [h, hJ]; omega
    · rw [if_neg h2, if_neg (by omega)]
      simp [h]
  · rw [if_neg (by omega)]
    simp [h]
theorem sz_TableS {a : List STable} (hw : WL WTb a) {v : Int} (h0 : 0 ≤ v) (h1 : v ≤ 1048576) : F_laws_szTableS a v = some (if (zL zTb a : Int) ≤ v then v - (zL zTb a : Nat) else -1) :=
  (U_laws_szTableS a v).out (sz_list hw h0 h1 (fun x hx v h0 h1 => sz_Table hx h0 h1) (fun f v u i => rfl) (fun _ _ => rfl))
theorem sz_NodeS {a : List SNode} (hw : WL WNd a) {v : Int} (h0 : 0 ≤ v) (h1 : v ≤ 1048576) : F_laws_szNodeS a v = some (if (zL zNd a : Int) ≤ v then v - (zL zNd a : Nat) else -1) :=
  (U_laws_szNodeS a v).out (sz_list hw h0 h1 (fun x hx v h0 h1 => sz_Node hx h0 h1) (fun f v u i => rfl) (fun _ _ => rfl))
theorem to_IntS {a : List Int} (h : a.length ≤ 1048576) : F_laws_toIntS a = some a := (U_laws_toIntS a).out (by
  rw [mkx_nat (by omega)]
  simp only [Option.bind_some]
  rw [to_loop (G := some) (fun _ _ => rfl) h (fun f v i => rfl) (by simp)]
  rfl)
theorem to_list {T : Type} {z : T → Nat} {a : List T} (h : zL z a ≤ 1048576) {G : T → Option T} (hG : ∀ x, z x ≤ 1048576 → G x = some x) {x0 : T} {L : (List T × Int → Option (Ex (List T) (List T))) → List T × Int → Option (Ex (List T) (List T))}
    (hL : ∀ f v i, L f (v, i) = bif decide (i < (a.length : Int)) then (ix a i).bind fun x => (G x).bind fun y => (ix v i).bind fun _ => (stx v i y).bind fun v' => f (v', IntKind.i64.wrap (i + 1)) else some (.go v))
    {J : List T → Option (List T)} (hJ : ∀ x, J x = some x) : (mkx (a.length : Int) x0).bind (fun z1 => joinK (loopF L (z1, 0)) (fun s => J s)) = some a := by
  have hl := zL_len (z := z) (l := a)
  rw [mkx_nat (by omega)]
  simp only [Option.bind_some]
  rw [to_loop (fun x hx => hG x (by have := zL_mem (z := z) hx; omega)) (by omega) hL (by simp)]
  simp [hJ]
theorem to_Table (a : STable) : F_laws_toTable a = some a := (U_laws_toTable a).out rfl
theorem to_Node {a : SNode} (h : zNd a ≤ 1048576) : F_laws_toNode a = some a := (U_laws_toNode a).out (by
  unfold zNd at h
  rw [to_IntS (by omega)]; rfl)
theorem to_TableS {a : List STable} (h : zL zTb a ≤ 1048576) : F_laws_toTableS a = some a :=
  (U_laws_toTableS a).out (to_list h (fun x _ => to_Table x) (fun f v i => rfl) (fun _ => rfl))
theorem to_NodeS {a : List SNode} (h : zL zNd a ≤ 1048576) : F_laws_toNodeS a = some a :=
  (U_laws_toNodeS a).out (to_list h (fun x hx => to_Node hx) (fun f v i => rfl) (fun _ => rfl))
theorem eq_IntS {a : List Int} (hl : a.length ≤ 1073741824) : F_laws_eqIntS a a = some true := (U_laws_eqIntS a a).out (by
  rw [eq_loop hl (fun f i x v hx _ => by
    have l1 := (List.getElem?_eq_some_iff.1 hx).1
    simp only [L_laws_eqIntSx0, lt_nat hx, cond_true, ix_some hx, Option.bind_some, wrap_nat (show i < 9223372036854775807 by omega)]
    simp) (fun f v => by simp [L_laws_eqIntSx0])]
  simp)
theorem eq_Table (a : STable) : F_laws_eqTable a a = some true := (U_laws_eqTable a a).out (by simp)
theorem eq_Node {a : SNode} (h : a.2.2.2.2.2.2.1.length ≤ 1073741824) : F_laws_eqNode a a = some true := (U_laws_eqNode a a).out (by simp [eq_IntS h])
theorem eq_TableS {a : List STable} (hl : a.length ≤ 1073741824) : F_laws_eqTableS a a = some true := (U_laws_eqTableS a a).out (by
  rw [eq_loop hl (fun f i x v hx _ => by
    have l1 := (List.getElem?_eq_some_iff.1 hx).1
    simp only [L_laws_eqTableSx0, lt_nat hx, cond_true, ix_some hx, Option.bind_some, wrap_nat (show i < 9223372036854775807 by omega), eq_Table]
    simp) (fun f v => by simp [L_laws_eqTableSx0])]
  simp)
def CNd (n : Nd) : Prop := n.2.2.2.2.2.2.1.length ≤ 1073741824
theorem eq_NodeS {a : List SNode} (hl : a.length ≤ 1073741824) (hc : ∀ n ∈ a, CNd n) : F_laws_eqNodeS a a = some true := (U_laws_eqNodeS a a).out (by
  rw [eq_loop hl (fun f i x v hx hm => by
    have l1 := (List.getElem?_eq_some_iff.1 hx).1
    simp only [L_laws_eqNodeSx0, lt_nat hx, cond_true, ix_some hx, Option.bind_some, wrap_nat (show i < 9223372036854775807 by omega), eq_Node (hc x hm)]
    simp) (fun f v => by simp [L_laws_eqNodeSx0])]
  simp)
end Go.Proofs.YtglbcdlplbomdaaX
namespace Go.Proofs.YtglbcdlplbomdaaX
open Go Go.Proofs.YtglbcdlplbomdaaT
set_option linter.all false
theorem bsch_of {s : List Tb} (h : zL zTb s ≤ 1048576) : BSch s := ⟨by have := zL_len (z := zTb) (l := s); omega, fun t ht => by have := zL_mem (z := zTb) ht; have e : zTb t = t.1.size := rfl; omega⟩
theorem bplan_of {p : List Nd} (h : zL zNd p ≤ 1048576) : BPlan p := ⟨by have := zL_len (z := zNd) (l := p); omega, fun t ht => by
  have := zL_mem (z := zNd) ht; have e : zNd t = t.2.1.size + t.2.2.2.2.2.2.1.length := rfl; exact ⟨by omega, by omega⟩⟩
theorem cnd_of {p : List Nd} (h : zL zNd p ≤ 1048576) : ∀ n ∈ p, CNd n := fun t ht => by
  have := zL_mem (z := zNd) ht; have e : zNd t = t.2.1.size + t.2.2.2.2.2.2.1.length := rfl; unfold CNd; omega
theorem bne_self_int (a : Int) : (a != a) = false := by simp
theorem bne_self_bool (a : Bool) : (a != a) = false := by simp
end Go.Proofs.YtglbcdlplbomdaaX
namespace Go.Proofs.YtglbcdlplbomdaaX
open Go Go.Proofs.YtglbcdlplbomdaaT
theorem wl_IntS {n : Nat} {x : List Int} (h : wfT (.sl n (.int .i64)) x) : x.length ≤ maxLen := h.1
theorem wl_TableS {n : Nat} {x : List Tb} (h : wfT (.sl n (.pr .str (.pr (.int .i64) .un))) x) : WL WTb x := ⟨h.1, fun y hy => (h.2 y hy).1⟩
theorem wl_NodeS {n m : Nat} {x : List Nd} (h : wfT (.sl n (.pr (.int .i64) (.pr .str (.pr (.int .i64) (.pr (.int .i64) (.pr (.int .i64) (.pr .bool (.pr (.sl m (.int .i64)) .un)))))))) x) : WL WNd x :=
  ⟨h.1, fun y hy => ⟨(h.2 y hy).2.1, (h.2 y hy).2.2.2.2.2.2.1.1⟩⟩
end Go.Proofs.YtglbcdlplbomdaaX
namespace Go.Proofs.YtglbcdlplbomdaaX
open Go Go.Proofs.YtglbcdlplbomdaaT
set_option linter.all false
theorem quo10 {v : Int} (h0 : 0 ≤ v) (h1 : v ≤ 4611686018427387904) : quox v 10 = some (v / 10) := quox_some h0 (by omega) (by omega)
theorem text_loop : ∀ (m : Nat) (v : Int) (s : ByteArray), v < 10 ^ m → v ≤ 4611686018427387904 → 0 ≤ v → s.size + m ≤ 1000 →
    ∃ s', (∀ n, m + 1 ≤ n → loopK (fun f z => L_laws_markTextx0 f z.1 z.2) n (v, s) = some (.go s')) ∧ s'.size ≤ 1000 := by
  intro m
  induction m with
  | zero =>
    intro v s hv _ h0 hs
    have : v = 0 := by simp at hv; omega
    subst this
    refine ⟨s, fun n hn => ?_, by omega⟩
    obtain ⟨k, rfl⟩ : ∃ k, n = k + 1 := ⟨n - 1, by omega⟩
    simp [loopK, L_laws_markTextx0]
  | succ m ih =>
    intro v s hv hmx h0 hs
    by_cases hp : v > 0
    · have hb : (bsOf [IntKind.u8.wrap (IntKind.i64.wrap (48 + v.tmod 10))]).size = 1 := rfl
      have hadd : addx (bsOf [IntKind.u8.wrap (IntKind.i64.wrap (48 + v.tmod 10))]) s = some (bsOf [IntKind.u8.wrap (IntKind.i64.wrap (48 + v.tmod 10))] ++ s) := by
        unfold addx
        rw [hb, show Nat.ble (1 + s.size) 4611686018427387904 = true by rw [Nat.ble_eq]; omega]; rfl
      have hlt : v / 10 < 10 ^ m := by
        have : (10 : Int) ^ (m + 1) = 10 ^ m * 10 := by rw [Int.pow_succ]
        rw [this] at hv
        exact Int.ediv_lt_of_lt_mul (by omega) hv
      obtain ⟨s', h1, h2⟩ := ih (v / 10) (bsOf [IntKind.u8.wrap (IntKind.i64.wrap (48 + v.tmod 10))] ++ s) hlt (by omega) (by omega) (by rw [ByteArray.size_append, hb]; omega)
      refine ⟨s', fun n hn => ?_, h2⟩
      obtain ⟨k, rfl⟩ : ∃ k, n = k + 1 := ⟨n - 1, by omega⟩
      have hr : remx v 10 = some (v.tmod 10) := rfl
      simp only [loopK, L_laws_markTextx0, show decide (v > 0) = true by simpa using hp, cond_true, hr, Option.bind_some, hadd, quo10 h0 hmx]
      exact h1 k (by omega)
    · refine ⟨s, fun n hn => ?_, by omega⟩
      obtain ⟨k, rfl⟩ : ∃ k, n = k + 1 := ⟨n - 1, by omega⟩
      simp only [loopK, L_laws_markTextx0, show decide (v > 0) = false by simpa using hp, cond_false]
noncomputable def textM (k : Int) : ByteArray := (F_laws_markText k).getD ByteArray.empty
theorem V_markText {k : Int} (h0 : 0 ≤ k) (h1 : k ≤ 4611686018427387904) : F_laws_markText k = some (textM k) := by
  suffices h : ∃ r, F_laws_markText k = some r by
    obtain ⟨r, hr⟩ := h
    simp [textM, hr]
  by_cases hk : k ≤ 0
  · exact ⟨_, (U_laws_markText k).out (by simp only [hk, decide_true, cond_true]; rfl)⟩
  · obtain ⟨s', h2, h3⟩ := text_loop 20 k ByteArray.empty (by omega) h1 h0 (by simp)
    refine ⟨(⟨#[109]⟩ : ByteArray) ++ s', (U_laws_markText k).out ?_⟩
    simp only [hk, decide_false, cond_false, loopF_of 21 h2, joinK_go, J_laws_markTextx0]
    unfold addx
    have h4 : (⟨#[109]⟩ : ByteArray).size = 1 := rfl
    rw [h4, show Nat.ble (1 + s'.size) 4611686018427387904 = true by rw [Nat.ble_eq]; omega]
    rfl
def wI (_ : Int) : Nat := 1
def mkI (_ k : Int) : Int := k
theorem mark_IntS {a : List Int} {k : Int} (hl : a.length ≤ 1073741824) (h0 : 0 ≤ k) (hB : k + wtL wI a ≤ 4611686018427387904) : F_laws_markIntS a k = some (k + wtL wI a, mkL mkI wI a k) := (U_laws_markIntS a k).out (by
  rw [mark_loop (mk := mkI) (w := wI) hl h0 hB
    (fun f v i x k hx hm hlen h0 hB => by
      have l1 := (List.getElem?_eq_some_iff.1 hx).1
      have hw : IntKind.i64.wrap (k + 1) = k + 1 := by unfold wI at hB; rw [wrap_sml] <;> omega
      simp only [L_laws_markIntSx0, lt_nat hx, cond_true, ix_some hx, Option.bind_some, stx_nat l1, hw, wrap_nat (show i < 9223372036854775807 by omega), wI, mkI]
      rfl)
    (fun f v k => by simp [L_laws_markIntSx0])]
  simp)
theorem held_IntS {a : List Int} {k : Int} (hl : a.length ≤ 1073741824) (h0 : 0 ≤ k) (hB : k + wtL wI a ≤ 4611686018427387904) : F_laws_heldIntS (mkL mkI wI a k) k = some (k + wtL wI a) := (U_laws_heldIntS _ k).out (by
  rw [held_loop (mk := mkI) (w := wI) (a := a) hl h0 hB
    (fun f i x k' u hx hm h0 hB => by
      have l1 := (List.getElem?_eq_some_iff.1 hx).1
      rw [mkL_len] at l1
      have hw : IntKind.i64.wrap (k' + 1) = k' + 1 := by unfold wI at hB; rw [wrap_sml] <;> omega
      simp only [L_laws_heldIntSx0, lt_nat hx, cond_true, ix_some hx, Option.bind_some, hw, wrap_nat (show i < 9223372036854775807 by omega), wI, mkI]
      simp)
    (fun f k u => by simp [L_laws_heldIntSx0])]
  simp)
def wTb (_ : Tb) : Nat := 2
noncomputable def mkTb (_ : Tb) (k : Int) : Tb := (textM k, k + 1, ())
theorem mark_TableS {a : List STable} {k : Int} (hl : a.length ≤ 1073741824) (h0 : 0 ≤ k) (hB : k + wtL wTb a ≤ 4611686018427387904) : F_laws_markTableS a k = some (k + wtL wTb a, mkL mkTb wTb a k) := (U_laws_markTableS a k).out (by
  rw [mark_loop (mk := mkTb) (w := wTb) hl h0 hB
    (fun f v i x k hx hm hlen h0 hB => by
      have l1 := (List.getElem?_eq_some_iff.1 hx).1
      have hB' : k + 2 ≤ 4611686018427387904 := hB
      have hw : IntKind.i64.wrap (k + 1) = k + 1 := by rw [wrap_sml] <;> omega
      have hw2 : IntKind.i64.wrap (k + 1 + 1) = k + 2 := by rw [wrap_sml] <;> omega
      simp only [L_laws_markTableSx0, lt_nat hx, cond_true, ix_some hx, Option.bind_some, V_markText h0 (show k ≤ 4611686018427387904 by omega), Int.toNat_natCast, ix_set l1, List.set_set, hw, hw2, wrap_nat (show i < 9223372036854775807 by omega), wTb, mkTb]
      rfl)
    (fun f v k => by simp [L_laws_markTableSx0])]
  simp)
def wSp (_ : Sp) : Nat := 2
def mkSp (_ : Sp) (k : Int) : Sp := (k, k + 1, ())
theorem mark_StepS {a : List SStep} {k : Int} (hl : a.length ≤ 1073741824) (h0 : 0 ≤ k) (hB : k + wtL wSp a ≤ 4611686018427387904) : F_laws_markStepS a k = some (k + wtL wSp a, mkL mkSp wSp a k) := (U_laws_markStepS a k).out (by
  rw [mark_loop (mk := mkSp) (w := wSp) hl h0 hB
    (fun f v i x k hx hm hlen h0 hB => by
      have l1 := (List.getElem?_eq_some_iff.1 hx).1
      have hB' : k + 2 ≤ 4611686018427387904 := hB
      have hw : IntKind.i64.wrap (k + 1) = k + 1 := by rw [wrap_sml] <;> omega
      have hw2 : IntKind.i64.wrap (k + 1 + 1) = k + 2 := by rw [wrap_sml] <;> omega
      simp only [L_laws_markStepSx0, lt_nat hx, cond_true, ix_some hx, Option.bind_some, Int.toNat_natCast, ix_set l1, List.set_set, hw, hw2, wrap_nat (show i < 9223372036854775807 by omega), wSp, mkSp]
      rfl)
    (fun f v k => by simp [L_laws_markStepSx0])]
  simp)
theorem held_StepS {a : List SStep} {k : Int} (hl : a.length ≤ 1073741824) (h0 : 0 ≤ k) (hB : k + wtL wSp a ≤ 4611686018427387904) : F_laws_heldStepS (mkL mkSp wSp a k) k = some (k + wtL wSp a) := (U_laws_heldStepS _ k).out (by
  rw [held_loop (mk := mkSp) (w := wSp) (a := a) hl h0 hB
    (fun f i x k' u hx hm h0 hB => by
      have l1 := (List.getElem?_eq_some_iff.1 hx).1
      rw [mkL_len] at l1
      have hB' : k' + 2 ≤ 4611686018427387904 := hB
      have hw : IntKind.i64.wrap (k' + 1) = k' + 1 := by rw [wrap_sml] <;> omega
      have hw2 : IntKind.i64.wrap (k' + 1 + 1) = k' + 2 := by rw [wrap_sml] <;> omega
      simp only [L_laws_heldStepSx0, lt_nat hx, cond_true, ix_some hx, Option.bind_some, hw, hw2, wrap_nat (show i < 9223372036854775807 by omega), wSp, mkSp]
      simp)
    (fun f k u => by simp [L_laws_heldStepSx0])]
  simp)
def wNd (n : Nd) : Nat := 6 + wtL wI n.2.2.2.2.2.2.1
noncomputable def mkNd (n : Nd) (k : Int) : Nd := (k, textM (k + 1), k + 2, k + 3, k + 4, decide ((k + 5).tmod 3 = 0), mkL mkI wI n.2.2.2.2.2.2.1 (k + 6), ())
theorem remx3 (v : Int) : remx v 3 = some (v.tmod 3) := rfl
theorem mark_NodeS {a : List SNode} {k : Int} (hl : a.length ≤ 1073741824) (hc : ∀ n ∈ a, CNd n) (h0 : 0 ≤ k) (hB : k + wtL wNd a ≤ 4611686018427387904) : F_laws_markNodeS a k = some (k + wtL wNd a, mkL mkNd wNd a k) := (U_laws_markNodeS a k).out (by
  rw [mark_loop (mk := mkNd) (w := wNd) hl h0 hB
    (fun f v i x k hx hm hlen h0 hB => by
      have l1 := (List.getElem?_eq_some_iff.1 hx).1
      have hB' : k + (6 + wtL wI x.2.2.2.2.2.2.1 : Nat) ≤ 4611686018427387904 := hB
      have hw : IntKind.i64.wrap (k + 1) = k + 1 := by rw [wrap_sml] <;> omega
      have hw2 : IntKind.i64.wrap (k + 1 + 1) = k + 2 := by rw [wrap_sml] <;> omega
      have hw3 : IntKind.i64.wrap (k + 2 + 1) = k + 3 := by rw [wrap_sml] <;> omega
      have hw4 : IntKind.i64.wrap (k + 3 + 1) = k + 4 := by rw [wrap_sml] <;> omega
      have hw5 : IntKind.i64.wrap (k + 4 + 1) = k + 5 := by rw [wrap_sml] <;> omega
      have hw6 : IntKind.i64.wrap (k + 5 + 1) = k + 6 := by rw [wrap_sml] <;> omega
      simp only [L_laws_markNodeSx0, lt_nat hx, cond_true, ix_some hx, Option.bind_some, hw, hw2, hw3, hw4, hw5, hw6, V_markText (show 0 ≤ k + 1 by omega) (show k + 1 ≤ 4611686018427387904 by omega), Int.toNat_natCast, ix_set l1, List.set_set, remx3, bind2,
        mark_IntS (hc x hm) (show 0 ≤ k + 6 by omega) (show k + 6 + wtL wI x.2.2.2.2.2.2.1 ≤ 4611686018427387904 by omega), wrap_nat (show i < 9223372036854775807 by omega), wNd, mkNd, beq_dec]
      rw [show k + 6 + (wtL wI x.2.2.2.2.2.2.1 : Int) = k + ((6 + wtL wI x.2.2.2.2.2.2.1 : Nat) : Int) by omega])
    (fun f v k => by simp [L_laws_markNodeSx0])]
  simp)
theorem held_NodeS {a : List SNode} {k : Int} (hl : a.length ≤ 1073741824) (hc : ∀ n ∈ a, CNd n) (h0 : 0 ≤ k) (hB : k + wtL wNd a ≤ 4611686018427387904) : F_laws_heldNodeS (mkL mkNd wNd a k) k = some (k + wtL wNd a) := (U_laws_heldNodeS _ k).out (by
  rw [held_loop (mk := mkNd) (w := wNd) (a := a) hl h0 hB
    (fun f i x k u hx hm h0 hB => by
      have l1 := (List.getElem?_eq_some_iff.1 hx).1
      rw [mkL_len] at l1
      have hB' : k + (6 + wtL wI x.2.2.2.2.2.2.1 : Nat) ≤ 4611686018427387904 := hB
      have hw : IntKind.i64.wrap (k + 1) = k + 1 := by rw [wrap_sml] <;> omega
      have hw2 : IntKind.i64.wrap (k + 1 + 1) = k + 2 := by rw [wrap_sml] <;> omega
      have hw3 : IntKind.i64.wrap (k + 2 + 1) = k + 3 := by rw [wrap_sml] <;> omega
      have hw4 : IntKind.i64.wrap (k + 3 + 1) = k + 4 := by rw [wrap_sml] <;> omega
      have hw5 : IntKind.i64.wrap (k + 4 + 1) = k + 5 := by rw [wrap_sml] <;> omega
      have hw6 : IntKind.i64.wrap (k + 5 + 1) = k + 6 := by rw [wrap_sml] <;> omega
      have hng : decide (k + 6 + (wtL wI x.2.2.2.2.2.2.1 : Int) < 0) = false := by simp; omega
      simp only [L_laws_heldNodeSx0, lt_nat hx, cond_true, ix_some hx, Option.bind_some, hw, hw2, hw3, hw4, hw5, hw6, V_markText (show 0 ≤ k + 1 by omega) (show k + 1 ≤ 4611686018427387904 by omega), remx3, mkNd, beq_dec, bne_dec, decide_true, Bool.not_true, cond_false, beq_self_eq_true, bne_self_eq_false,
        held_IntS (hc x hm) (show 0 ≤ k + 6 by omega) (show k + 6 + wtL wI x.2.2.2.2.2.2.1 ≤ 4611686018427387904 by omega), hng, wrap_nat (show i < 9223372036854775807 by omega), wNd]
      rw [show k + 6 + (wtL wI x.2.2.2.2.2.2.1 : Int) = k + ((6 + wtL wI x.2.2.2.2.2.2.1 : Nat) : Int) by omega])
    (fun f k u => by simp [L_laws_heldNodeSx0])]
  simp)
theorem eq_Step (a : SStep) : F_laws_eqStep a a = some true := (U_laws_eqStep a a).out (by simp)
theorem eq_StepS {a : List SStep} (hl : a.length ≤ 1073741824) : F_laws_eqStepS a a = some true := (U_laws_eqStepS a a).out (by
  rw [eq_loop hl (fun f i x v hx _ => by
    have l1 := (List.getElem?_eq_some_iff.1 hx).1
    simp only [L_laws_eqStepSx0, lt_nat hx, cond_true, ix_some hx, Option.bind_some, wrap_nat (show i < 9223372036854775807 by omega), eq_Step]
    simp) (fun f v => by simp [L_laws_eqStepSx0])]
  simp)
theorem wtL_le {T : Type} {w z : T → Nat} {c : Nat} (h : ∀ x, w x ≤ c + c * z x) (l : List T) : wtL w l ≤ c * zL z l := by
  unfold wtL zL
  induction l with
  | nil => simp
  | cons x l ih =>
    have := h x
    simp only [List.map_cons, List.sum_cons, List.length_cons, Nat.mul_add, Nat.mul_one] at ih ⊢
    omega
theorem wtL_I (l : List Int) : wtL wI l = l.length := by
  unfold wtL wI
  induction l with
  | nil => rfl
  | cons x l ih => simp only [List.map_cons, List.sum_cons, ih, List.length_cons]; omega
theorem wtb_le (l : List Tb) : wtL wTb l ≤ 2 * zL zTb l := wtL_le (fun x => by unfold wTb; omega) l
theorem wnd_le (l : List Nd) : wtL wNd l ≤ 6 * zL zNd l := wtL_le (fun x => by unfold wNd zNd; rw [wtL_I]; omega) l
theorem wsp_le (l : List Sp) : wtL wSp l ≤ 2 * l.length := by
  unfold wtL wSp
  induction l with
  | nil => simp
  | cons x l ih => simp only [List.map_cons, List.sum_cons, List.length_cons]; omega
end Go.Proofs.YtglbcdlplbomdaaX
namespace Go.Proofs.YtglbcdlplbomdaaX
open Go Go.Proofs.YtglbcdlplbomdaaT
set_option linter.all false
theorem improveM_len {s : List Tb} {sz : List Int} : ∀ {n : Nat} {p : List Nd} {st : List Sp}, (improveM s sz n p st).2.length ≤ n + st.length
  | 0, p, st => by simp [improveM]
  | n + 1, p, st => by
    simp only [improveM]
    split
    · refine Nat.le_trans improveM_len ?_
      simp only [List.length_append, List.length_cons, List.length_nil]; omega
    · simp only; omega
theorem sum_le {T : Type} {w : T → Nat} {c : Nat} : ∀ {l : List T}, (∀ x ∈ l, w x ≤ c) → wtL w l ≤ c * l.length
  | [], _ => by simp [wtL]
  | x :: l, h => by
    have := sum_le (l := l) (fun y hy => h y (by simp [hy]))
    have := h x (by simp)
    unfold wtL at *
    simp only [List.map_cons, List.sum_cons, List.length_cons, Nat.mul_add, Nat.mul_one]
    omega
theorem improve_or {s : List Tb} {sz : List Int} : ∀ {n : Nat} {p : List Nd} {st : List Sp}, (improveM s sz n p st).1 = p ∨ typedOk s (improveM s sz n p st).1 = true
  | 0, p, st => .inl rfl
  | n + 1, p, st => by
    simp only [improveM]
    split
    · rename_i hb
      rcases improve_or (s := s) (sz := sz) (n := n) (p := _) (st := _) with h | h
      · right; rw [h]; exact step_typed (bestM_mem hb).1
      · exact .inr h
    · exact .inl rfl
theorem typed_wt {s : List Tb} {p : List Nd} (h : typedOk s p = true) : wtL wNd p ≤ 480 ∧ ∀ n ∈ p, CNd n := by
  obtain ⟨t, rfl, ht⟩ := typedOk_iff.1 h
  have h1 : ∀ n ∈ t.flat, wNd n ≤ 12 := fun n hn => by
    have := (bnode_ok (ht.plan.nodes n hn)).2
    unfold wNd; rw [wtL_I]; omega
  have h2 := sum_le h1
  have h3 := ht.plan.size
  simp only [PT.len_flat] at h2
  exact ⟨by omega, fun n hn => by have := (bnode_ok (ht.plan.nodes n hn)).2; unfold CNd; omega⟩
theorem improve_b {s : List Tb} {sz : List Int} {p : List Nd} (hb : zL zNd p ≤ 1048576) : BPlan (improveM s sz 20 p []).1 ∧ (improveM s sz 20 p []).2.length ≤ 20 ∧ wtL wNd (improveM s sz 20 p []).1 ≤ 100000000 ∧ ∀ n ∈ (improveM s sz 20 p []).1, CNd n := by
  refine ⟨improveM_typed (bplan_of hb), by have := improveM_len (s := s) (sz := sz) (n := 20) (p := p) (st := []); simpa using this, ?_⟩
  rcases improve_or (s := s) (sz := sz) (n := 20) (p := p) (st := []) with h | h
  · rw [h]; have := wnd_le p; exact ⟨by omega, cnd_of hb⟩
  · have := typed_wt h; exact ⟨by omega, this.2⟩
theorem pure_FnExactImprove {a0 : List STable} {a1 : List Int} {a2 : List SNode} (w0 : WL WTb a0) (w1 : a1.length ≤ maxLen) (w2 : WL WNd a2) : F_laws_FnExactImprove a0 a1 a2 = some true := (U_laws_FnExactImprove a0 a1 a2).out (by
  by_cases hI1 : (a1.length : Int) > 1048576
  · simp [hI1]
  simp only [hI1, decide_false, cond_false]
  rw [sz_TableS w0 (by omega) (by omega)]
  by_cases h0 : (zL zTb a0 : Int) ≤ (1048576 : Int)
  rotate_left
  · rw [if_neg h0]; simp
  rw [if_pos h0]
  have hn0 : decide ((1048576 : Int) - (zL zTb a0 : Nat) < 0) = false := by simp; omega
  simp only [Option.bind_some, hn0, cond_false]
  rw [sz_NodeS w2 (by omega) (by omega)]
  by_cases h2 : (zL zNd a2 : Int) ≤ (1048576 : Int) - (zL zTb a0 : Nat)
  rotate_left
  · rw [if_neg h2]; simp
  rw [if_pos h2]
  have hn2 : decide ((1048576 : Int) - (zL zTb a0 : Nat) - (zL zNd a2 : Nat) < 0) = false := by simp; omega
  simp only [Option.bind_some, hn2, cond_false]
  have b0 := bsch_of (s := a0) (by omega)
  have b2 := bplan_of (p := a2) (by omega)
  obtain ⟨hq1, hq2, hq3, hq4⟩ := (improve_b (p := a2) (by omega) : BPlan (improveM a0 a1 20 a2 []).1 ∧ (improveM a0 a1 20 a2 []).2.length ≤ 20 ∧ wtL wNd (improveM a0 a1 20 a2 []).1 ≤ 100000000 ∧ ∀ n ∈ (improveM a0 a1 20 a2 []).1, CNd n)
  have hq5 := hq1.len
  have hq6 := wsp_le (improveM a0 a1 20 a2 []).2
  have wl0 := wtb_le a0
  have hl0 := zL_len (z := zTb) (l := a0)
  have m0 := mark_TableS (a := a0) (k := (1 : Int)) (by omega) (by omega) (by omega)
  have wl1 := wtL_I a1
  have m1 := mark_IntS (a := a1) (k := (1 : Int) + (wtL wTb a0 : Nat)) (by omega) (by omega) (by omega)
  have wl2 := wnd_le a2
  have hl2 := zL_len (z := zNd) (l := a2)
  have m2 := mark_NodeS (a := a2) (k := (1 : Int) + (wtL wTb a0 : Nat) + (wtL wI a1 : Nat)) (by omega) (cnd_of (by omega)) (by omega) (by omega)
  have hk0 : decide ((1 : Int) + (wtL wTb a0 : Nat) + (wtL wI a1 : Nat) + (wtL wNd a2 : Nat) < 0) = false := by simp; omega
  have gm0 := mark_NodeS (a := (improveM a0 a1 20 a2 []).1) (k := (1 : Int)) (by omega) hq4 (by omega) (by omega)
  have gh0 := held_NodeS (a := (improveM a0 a1 20 a2 []).1) (k := (1 : Int)) (by omega) hq4 (by omega) (by omega)
  have gk0 : decide ((1 : Int) + (wtL wNd ((improveM a0 a1 20 a2 []).1) : Nat) < 0) = false := by simp; omega
  have gm1 := mark_StepS (a := (improveM a0 a1 20 a2 []).2) (k := (1 : Int) + (wtL wNd ((improveM a0 a1 20 a2 []).1) : Nat)) (by omega) (by omega) (by omega)
  have gh1 := held_StepS (a := (improveM a0 a1 20 a2 []).2) (k := (1 : Int) + (wtL wNd ((improveM a0 a1 20 a2 []).1) : Nat)) (by omega) (by omega) (by omega)
  have gk1 : decide ((1 : Int) + (wtL wNd ((improveM a0 a1 20 a2 []).1) : Nat) + (wtL wSp ((improveM a0 a1 20 a2 []).2) : Nat) < 0) = false := by simp; omega
  simp only [Option.bind_some, joinK_go, joinK_ret, joinK_bif, joinK_bind, cond_false, cond_true, Bool.not_true, bne_self_int, bne_self_bool, to_TableS (a := a0) (by omega), eq_TableS (a := a0) (by have := zL_len (z := zTb) (l := a0); omega), to_IntS (a := a1) (by omega), eq_IntS (a := a1) (by omega), to_NodeS (a := a2) (by omega), eq_NodeS (a := a2) (by have := zL_len (z := zNd) (l := a2); omega) (cnd_of (by omega)), V_spec_Improve b0 (sz := a1) (by omega) b2, V_impl_Improve b0 (sz := a1) (by omega) b2, m0, m1, m2, hk0, gm0, gh0, gk0, gm1, gh1, gk1, J_laws_FnExactImprovex0, J_laws_FnExactImprovex1, J_laws_FnExactImprovex2, eq_NodeS (a := (improveM a0 a1 20 a2 []).1) (by omega) hq4, eq_StepS (a := (improveM a0 a1 20 a2 []).2) (by omega)])
end Go.Proofs.YtglbcdlplbomdaaX
namespace Go.Proofs.YtglbcdlplbomdaaX
open Go Go.Proofs.YtglbcdlplbomdaaT
set_option linter.all false
structure COp (o : Opn) : Prop where
  l1 : o.2.1.length ≤ 1073741824
  c1 : ∀ n ∈ o.2.1, CNd n
  l2 : o.2.2.1.length ≤ 1073741824
  c2 : ∀ n ∈ o.2.2.1, CNd n
  l3 : o.2.2.2.1.length ≤ 1073741824
end Go.Proofs.YtglbcdlplbomdaaX
