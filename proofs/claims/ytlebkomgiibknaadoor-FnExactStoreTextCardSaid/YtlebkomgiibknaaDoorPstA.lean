/- The plain law: the plain functions answer as the statement says. -/
import Derived.Test.YtlebkomgiibknaaDoorGstA
set_option linter.all false
namespace Go.Proofs.YtlebkomgiibknaaDoorX
open Go Go.Proofs.YtlebkomgiibknaaDoorT
set_option linter.all false
@[simp] theorem V_spec_l01In (x lo hi : Int) : F_spec_l01In x lo hi = some (okIn x lo hi) := (U_spec_l01In x lo hi).out (by
 simp [okIn]; grind)
@[simp] theorem V_impl_in (x lo hi : Int) : F_impl_in x lo hi = some (okIn x lo hi) := (U_impl_in x lo hi).out (by
 simp [okIn]; grind)
@[simp] theorem V_impl_isNum (x : Int) : F_impl_isNum x = some (okIn x (-1000000) 1000000) := (U_impl_isNum x).out (by simp)
@[simp] theorem V_spec_l01Number (x : Int) : F_spec_l01Number x = some (okIn x (-1000000) 1000000) := (U_spec_l01Number x).out (by simp)
theorem V_impl_WordOk {w : ByteArray} (hw : w.size ≤ 2147483648) : F_impl_WordOk w = some (wordOk w) := (U_impl_WordOk w).out (by
 have e := loop_chk (f := fun f s => L_impl_WordOkx0 w f s.1 s.2) (bl w) (fun i c => okIn c 97 122 || (!(decide (i = 0)) && okIn c 48 57)) false
  (fun i x a g hx => by
   have hl := (List.getElem?_eq_some_iff.1 hx).1
   rw [bl_len] at hl
   have h1 : decide ((i : Int) < (w.size : Int)) = true := by simpa using hl
   simp only [L_impl_WordOkx0, h1, cond_true, bix_some hx, Option.bind_some, wrap_nat (show i < 9223372036854775807 by omega), okIn, J_impl_WordOkx1, J_impl_WordOkx2, joinK_bif, joinK_go, joinK_ret]
   grind)
  (fun a g => by simp [L_impl_WordOkx0, bl_len]) false
 rw [e]
 simp only [wordOk, wordOkL, bl_len]
 cases allI (fun i c => okIn c 97 122 || (!(decide (i = 0)) && okIn c 48 57)) (bl w) 0 <;> simp)
theorem wordOk_len {w : ByteArray} (h : wordOk w = true) : 1 ≤ w.size ∧ w.size ≤ 12 := by
 simp only [wordOk, wordOkL, Bool.and_eq_true, bl_len, okIn_iff] at h
 omega
theorem V_spec_WordOk (w : ByteArray) : F_spec_WordOk w = some (wordOk w) := (U_spec_WordOk w).out (by
 by_cases hw : okIn w.size 1 12 = true
 ·have hw' := okIn_iff.1 hw
  have hb : 0 < (bl w).length := by rw [bl_len]; omega
  have hx0 : (bl w)[0]? = some (bl w)[0] := List.getElem?_eq_getElem hb
  have e0 := bix_some hx0
  simp only [V_spec_l01In, Option.bind_some, hw, Bool.not_true, cond_false]
  rw [show (0 : Int) = ((0 : Nat) : Int) from rfl, e0]
  simp only [Option.bind_some, joinK_go, J_spec_WordOkx0]
  have e := loop_chk (f := fun f s => L_spec_WordOkx0 w f s.1 s.2) (bl w) (fun i c => okIn c 97 122 || okIn c 48 57) false
   (fun i x a g hx => by
    have hl := (List.getElem?_eq_some_iff.1 hx).1
    rw [bl_len] at hl
    have h1 : decide ((i : Int) < (w.size : Int)) = true := by simpa using hl
    simp only [L_spec_WordOkx0, h1, cond_true, bix_some hx, Option.bind_some, wrap_nat (show i < 9223372036854775807 by omega), okIn, J_spec_WordOkx2, joinK_bif, joinK_go, joinK_ret]
    grind)
   (fun a g => by simp [L_spec_WordOkx0, bl_len]) false
  rw [e]
  have hlen : okIn ((bl w).length : Int) 1 12 = true := by rw [bl_len]; exact hw
  simp only [wordOk, wordOkL, hlen, Bool.and_true]
  generalize bl w = l at hb
  match l, hb with
  | c :: l, _ =>
   have key : ∀ (l : List Int) (i : Nat), i ≠ 0 → allI (fun i c => okIn c 97 122 || (!(decide (i = 0)) && okIn c 48 57)) l i = allI (fun i c => okIn c 97 122 || okIn c 48 57) l i := by
    intro l
    induction l with
    | nil => intro i _; rfl
    | cons x xs ih => intro i hi; simp [allI, hi, ih (i + 1) (by omega)]
   simp only [allI, key l 1 (by omega), List.getElem_cons_zero]
   cases allI (fun i c => okIn c 97 122 || okIn c 48 57) l (0 + 1) <;> simp [okIn] <;> grind
 ·have hw' : okIn w.size 1 12 = false := by simpa using hw
  simp [hw', wordOk, wordOkL, bl_len])
theorem V_spec_l01Less {a b : ByteArray} (ha : a.size ≤ 2147483648) : F_spec_l01Less a b = some (less a b) := (U_spec_l01Less a b).out (by
 have e := loop_brk (f := fun f s => L_spec_l01Lessx0 a b f s.1 s.2) ((bl a).zip (bl b)) (fun _ x => if x.1 = x.2 then none else some (decide (x.1 < x.2)))
  (fun i x v g hx => by
   obtain ⟨h1, h2⟩ := List.getElem?_zip_eq_some.1 hx
   have l1 := (List.getElem?_eq_some_iff.1 h1).1
   have l2 := (List.getElem?_eq_some_iff.1 h2).1
   rw [bl_len] at l1 l2
   have d1 : decide ((i : Int) < (a.size : Int)) = true := by simpa using l1
   have d2 : decide ((i : Int) < (b.size : Int)) = true := by simpa using l2
   simp only [L_spec_l01Lessx0, d1, d2, cond_true, bix_some h1, bix_some h2, Option.bind_some, joinK_go, J_spec_l01Lessx1, wrap_nat (show i < 9223372036854775807 by omega)]
   have hb : (x.1 != x.2) = !decide (x.1 = x.2) := rfl
   rw [hb]
   by_cases h : x.1 = x.2 <;> simp [h])
  (fun v g => by
   simp only [L_spec_l01Lessx0, List.length_zip, bl_len]
   by_cases h : a.size ≤ b.size
   ·have h1 : decide (((min a.size b.size : Nat) : Int) < (a.size : Int)) = false := by simp only [decide_eq_false_iff_not]; omega
    simp only [h1, cond_false, joinK_go, J_spec_l01Lessx1]
   ·have h1 : decide (((min a.size b.size : Nat) : Int) < (a.size : Int)) = true := by simp only [decide_eq_true_eq]; omega
    have h2 : decide (((min a.size b.size : Nat) : Int) < (b.size : Int)) = false := by simp only [decide_eq_false_iff_not]; omega
    simp only [h1, h2, cond_true, joinK_go, J_spec_l01Lessx1, cond_false]) false
 rw [e, less_lex]
 have key : ∀ (l : List (Int × Int)) (i : Nat), brkI (fun _ x => if x.1 = x.2 then none else some (decide (x.1 < x.2))) l i = lexE l := by
  intro l
  induction l with
  | nil => intro i; rfl
  | cons x xs ih =>
   intro i
   obtain ⟨x1, x2⟩ := x
   simp only [brkI, lexE]
   by_cases h : x1 = x2 <;> simp [h, ih]
 rw [key]
 cases lexE ((bl a).zip (bl b)) <;> simp [bl_len])
end Go.Proofs.YtlebkomgiibknaaDoorX
namespace Go.Proofs.YtlebkomgiibknaaDoorX
open Go Go.Proofs.YtlebkomgiibknaaDoorT
set_option linter.all false
theorem findI_ge {T : Type} {p : T → Bool} {l : List T} : (match findI p l 0 with | some j => decide ((j : Int) ≥ 0) | none => decide ((-1 : Int) ≥ 0)) = l.any p := by
 cases h : findI p l 0 with
 | none => rw [findI_none.1 h]; rfl
 | some j =>
  have : l.any p = true := by
   cases ha : l.any p with
   | true => rfl
   | false => rw [findI_none.2 ha] at h; cases h
  rw [this]; simp
def fint (o : Option Nat) : Int := match o with | some j => j | none => -1
@[simp] theorem fint_neg (o : Option Nat) : decide (fint o < 0) = o.isNone := by
 cases o with
 | none => rfl
 | some j => exact nat_neg
@[simp] theorem fint_some (j : Nat) : fint (some j) = (j : Int) := rfl
@[simp] theorem fint_none : fint none = -1 := rfl
theorem fint_ge {T : Type} {p : T → Bool} {l : List T} : decide (fint (findI p l 0) ≥ 0) = l.any p := by
 rw [← findI_ge]
 cases findI p l 0 <;> rfl
structure BNode (n : Nd) : Prop where
 name : n.2.1.size ≤ 2147483648
 cols : n.2.2.2.2.2.2.1.length ≤ 2147483648
end Go.Proofs.YtlebkomgiibknaaDoorX
namespace Go.Proofs.YtlebkomgiibknaaDoorX
open Go Go.Proofs.YtlebkomgiibknaaDoorT PT
set_option linter.all false
structure BPlan (p : List Nd) : Prop where
 len : p.length ≤ 1073741824
 nodes : ∀ n ∈ p, BNode n
theorem mem_of_get {T : Type} {l : List T} {i : Nat} {x : T} (h : l[i]? = some x) : x ∈ l := List.mem_of_getElem? h
theorem wrap_sml {x : Int} (h : -9223372036854775808 ≤ x) (h' : x ≤ 9223372036854775807) : IntKind.i64.wrap x = x := by
 rw [IntKind.wrap_i64]; omega
end Go.Proofs.YtlebkomgiibknaaDoorX
namespace Go.Proofs.YtlebkomgiibknaaDoorX
open Go Go.Proofs.YtlebkomgiibknaaDoorT PT
set_option linter.all false
structure Good (t : PT) : Prop where
 ok : t.ok
 deep : t.depth ≤ 10
 nodes : ∀ n ∈ t.flat, nodeOk n = true
theorem PlanT.good {t : PT} (h : PlanT t) : Good t := ⟨h.ok, h.deep, h.nodes⟩
theorem Good.c1 {n : Nd} {a : PT} (h : Good (.n1 n a)) : Good a := ⟨h.ok.2, by have := h.deep; simp [PT.depth] at this; omega, fun m hm => h.nodes m (by simp [PT.flat, hm])⟩
theorem Good.l2 {n : Nd} {a b : PT} (h : Good (.n2 n a b)) : Good a := ⟨h.ok.2.1, by have := h.deep; simp [PT.depth] at this; omega, fun m hm => h.nodes m (by simp [PT.flat, hm])⟩
theorem Good.r2 {n : Nd} {a b : PT} (h : Good (.n2 n a b)) : Good b := ⟨h.ok.2.2, by have := h.deep; simp [PT.depth] at this; omega, fun m hm => h.nodes m (by simp [PT.flat, hm])⟩
theorem Good.hd {t : PT} (h : Good t) : nodeOk t.hd = true := h.nodes _ (by cases t <;> simp [PT.flat, PT.hd])
structure Pl (p : List Nd) : Prop where
 len : p.length ≤ 1073741824
 ar : ∀ n ∈ p, 0 ≤ arity n.1
theorem PlanT.pl {t : PT} (h : PlanT t) : Pl t.flat := ⟨by have := h.size; simp only [len_flat]; omega, fun n hn => nodeOk_arity (h.nodes n hn)⟩
end Go.Proofs.YtlebkomgiibknaaDoorX
namespace Go.Proofs.YtlebkomgiibknaaDoorX
open Go Go.Proofs.YtlebkomgiibknaaDoorT PT
set_option linter.all false
structure BSch (s : List Tb) : Prop where
 len : s.length ≤ 1073741824
 names : ∀ t ∈ s, t.1.size ≤ 2147483648
def schP (s : List Tb) (i : Nat) (x : Tb) : Bool := wordOk x.1 && okIn x.2.1 1 6 && (decide (i = 0) || match s[i - 1]? with | some y => less y.1 x.1 | none => true)
def schemaOk (s : List Tb) : Bool := allI (schP s) s 0 && decide (s.length ≤ 8)
theorem V_impl_SchemaOk {s : List STable} (hb : BSch s) : F_impl_SchemaOk s = some (schemaOk s) := (U_impl_SchemaOk s).out (by
 have e := loop_chk (f := fun f z => L_impl_SchemaOkx0 s f z.1 z.2) s (schP s) false
  (fun i x v g hx => by
   have l1 := (List.getElem?_eq_some_iff.1 hx).1
   have hl := hb.len
   have hw := hb.names x (mem_of_get hx)
   have hi : decide ((i : Int) > 0) = !decide (i = 0) := by
    by_cases h : i = 0
    ·simp [h]
    ·simp [h]; omega
   simp only [L_impl_SchemaOkx0, lt_nat hx, cond_true, ix_some hx, Option.bind_some, V_impl_WordOk hw, V_impl_in, hi, wrap_nat (show i < 9223372036854775807 by omega)]
   by_cases h : i = 0
   ·subst h
    cases h1 : wordOk x.1 <;> cases h2 : okIn x.2.1 1 6 <;> simp [schP, h1, h2]
   ·have hy : s[i - 1]? = some s[i - 1] := List.getElem?_eq_getElem (by omega)
    have hwr : IntKind.i64.wrap ((i : Int) - 1) = ((i - 1 : Nat) : Int) := by rw [wrap_sml] <;> omega
    have hw1 := wrap_nat (show i < 9223372036854775807 by omega)
    simp only [hwr, ix_some hy]
    cases h1 : wordOk x.1 <;> cases h2 : okIn x.2.1 1 6 <;> cases h3 : less s[i - 1].1 x.1 <;> simp [schP, h, hy, less_def, h1, h2, h3, hw1])
  (fun v g => by simp [L_impl_SchemaOkx0]) false
 rw [e]
 simp only [schemaOk]
 cases allI (schP s) s 0 <;> simp <;> omega)
theorem V_spec_SchemaOk {s : List STable} (hb : BSch s) : F_spec_SchemaOk s = some (schemaOk s) := (U_spec_SchemaOk s).out (by
 have e := loop_chk (f := fun f z => L_spec_SchemaOkx0 s f z.1 z.2) s (schP s) false
  (fun i x v g hx => by
   have l1 := (List.getElem?_eq_some_iff.1 hx).1
   have hl := hb.len
   have hw := hb.names x (mem_of_get hx)
   have hi : decide ((i : Int) > 0) = !decide (i = 0) := by
    by_cases h : i = 0
    ·simp [h]
    ·simp [h]; omega
   simp only [L_spec_SchemaOkx0, lt_nat hx, cond_true, ix_some hx, Option.bind_some, V_spec_WordOk, V_spec_l01In, hi, wrap_nat (show i < 9223372036854775807 by omega)]
   by_cases h : i = 0
   ·subst h
    cases h1 : wordOk x.1 <;> cases h2 : okIn x.2.1 1 6 <;> simp [schP, h1, h2]
   ·have hy : s[i - 1]? = some s[i - 1] := List.getElem?_eq_getElem (by omega)
    have hwr : IntKind.i64.wrap ((i : Int) - 1) = ((i - 1 : Nat) : Int) := by rw [wrap_sml] <;> omega
    have hw1 := wrap_nat (show i < 9223372036854775807 by omega)
    simp only [hwr, ix_some hy, V_spec_l01Less (hb.names _ (mem_of_get hy)), Option.bind_some]
    cases h1 : wordOk x.1 <;> cases h2 : okIn x.2.1 1 6 <;> cases h3 : less s[i - 1].1 x.1 <;> simp [schP, h, hy, h1, h2, h3, hw1])
  (fun v g => by simp [L_spec_SchemaOkx0]) false
 rw [e]
 simp only [schemaOk]
 by_cases h : s.length ≤ 8
 ·have h' : decide ((s.length : Int) > 8) = false := by simp; omega
  rw [h']
  cases allI (schP s) s 0 <;> simp [h]
 ·have h' : decide ((s.length : Int) > 8) = true := by simp; omega
  rw [h']
  simp [h])
theorem allI_get {T : Type} {p : Nat → T → Bool} : ∀ {l : List T} {k : Nat}, allI p l k = true → ∀ {i : Nat} {x : T}, l[i]? = some x → p (k + i) x = true
 | [], _, _, _, _, h => by simp at h
 | y :: l, k, h, i, x, hx => by
  simp only [allI, Bool.and_eq_true] at h
  cases i with
  | zero => simp at hx; subst hx; exact h.1
  | succ i =>
   have := allI_get h.2 (i := i) (x := x) (by simpa using hx)
   rw [show k + (i + 1) = k + 1 + i by omega]; exact this
def tabAt (s : List Tb) (name : ByteArray) : Option Nat := findI (fun t => decide (t.1 = name)) s 0
def oint (o : Option Int) : Int := match o with | some x => x | none => -1
def wT (s : List Tb) : PT → Option Int
 | .n0 n => match tabAt s n.2.1 with
  | some j => match s[j]? with
   | some t => some t.2.1
   | none => none
  | none => none
 | .n1 n a => match wT s a with
  | none => none
  | some w => if n.1 = 2 then (if n.2.2.2.2.2.2.1.all (fun c => decide (c < w)) = true then some n.2.2.2.2.2.2.1.length else none)
   else if n.1 = 1 ∨ n.1 = 5 then (if n.2.2.1 < w then some w else none) else some w
 | .n2 n a b => match wT s a, wT s b with
  | some w, some v => if n.1 = 3 then (if n.2.2.1 < w ∧ n.2.2.2.2.1 < v ∧ w + v ≤ 64 then some (w + v) else none) else if w = v then some w else none
  | _, _ => none
theorem nodeOk_keep {n : Nd} (h : nodeOk n = true) (hk : n.1 = 2) : 1 ≤ n.2.2.2.2.2.2.1.length ∧ n.2.2.2.2.2.2.1.length ≤ 6 ∧ ∀ c ∈ n.2.2.2.2.2.2.1, 0 ≤ c ∧ c ≤ 63 := by
 obtain ⟨k, name, col, op, num, slot, cols, u⟩ := n
 simp only at hk
 subst hk
 simp [nodeOk, okIn] at h
 refine ⟨by simp only; omega, by simp only; omega, ?_⟩
 intro c hc
 exact h.2.1.1.1.1 c hc
end Go.Proofs.YtlebkomgiibknaaDoorX
namespace Go.Proofs.YtlebkomgiibknaaDoorX
open Go Go.Proofs.YtlebkomgiibknaaDoorT PT
set_option linter.all false
def widthOf (s : List Tb) (p : List Nd) : Option Int := if schemaOk s = true then (planT p).bind (wT s) else none
def typedOk (s : List Tb) (p : List Nd) : Bool := (widthOf s p).isSome
structure Typed (s : List Tb) (t : PT) : Prop where
 plan : PlanT t
 sch : schemaOk s = true
 w : (wT s t).isSome = true
theorem typedOk_iff {s : List Tb} {p : List Nd} : typedOk s p = true ↔ ∃ t, p = t.flat ∧ Typed s t := by
 unfold typedOk widthOf
 constructor
 ·intro h
  split at h
  ·rename_i hs
   cases hp : planT p with
   | none => simp [hp] at h
   | some t =>
    simp only [hp, Option.bind_some] at h
    exact ⟨t, (planT_some hp).2, (planT_some hp).1, hs, h⟩
  ·cases h
 ·rintro ⟨t, rfl, h1, h2, h3⟩
  rw [if_pos h2, planT_flat h1]
  exact h3
end Go.Proofs.YtlebkomgiibknaaDoorX
namespace Go.Proofs.YtlebkomgiibknaaDoorX
open Go Go.Proofs.YtlebkomgiibknaaDoorT PT
set_option linter.all false
def sizesOk (s : List Tb) (sizes : List Int) : Bool := decide (sizes.length = s.length) && sizes.all (fun x => okIn x 0 1000)
def good (s : List Tb) (sizes : List Int) (p : List Nd) : Bool := typedOk s p && sizesOk s sizes
theorem wT_c1 {s : List Tb} {n : Nd} {a : PT} (h : (wT s (.n1 n a)).isSome = true) : (wT s a).isSome = true := by
 simp only [wT] at h
 split at h
 ·cases h
 ·rename_i h'; rw [h']; rfl
theorem wT_l2 {s : List Tb} {n : Nd} {a b : PT} (h : (wT s (.n2 n a b)).isSome = true) : (wT s a).isSome = true := by
 simp only [wT] at h
 split at h
 ·rename_i h' _; rw [h']; rfl
 ·cases h
theorem wT_r2 {s : List Tb} {n : Nd} {a b : PT} (h : (wT s (.n2 n a b)).isSome = true) : (wT s b).isSome = true := by
 simp only [wT] at h
 split at h
 ·rename_i _ h'; rw [h']; rfl
 ·cases h
end Go.Proofs.YtlebkomgiibknaaDoorX
namespace Go.Proofs.YtlebkomgiibknaaDoorX
open Go Go.Proofs.YtlebkomgiibknaaDoorT PT
set_option linter.all false
def subs : PT → List PT
 | .n0 n => [.n0 n]
 | .n1 n a => .n1 n a :: subs a
 | .n2 n a b => .n2 n a b :: (subs a ++ subs b)
@[simp] theorem subs_len : ∀ t : PT, (subs t).length = t.size
 | .n0 _ => rfl
 | .n1 _ a => by simp [subs, PT.size, subs_len a]
 | .n2 _ a b => by simp [subs, PT.size, subs_len a, subs_len b]
theorem subs_at {p : List Nd} : ∀ {t : PT} {k : Nat}, At p k t → ∀ {i : Nat} {u : PT}, (subs t)[i]? = some u → At p (k + i) u
 | .n0 n, k, h, i, u, hu => by
  cases i with
  | zero => simp [subs] at hu; subst hu; exact h
  | succ i => simp [subs] at hu
 | .n1 n a, k, h, i, u, hu => by
  cases i with
  | zero => simp [subs] at hu; subst hu; exact h
  | succ i =>
   have := subs_at h.c1 (i := i) (u := u) (by simpa [subs] using hu)
   rwa [show k + (i + 1) = k + 1 + i by omega]
 | .n2 n a b, k, h, i, u, hu => by
  cases i with
  | zero => simp [subs] at hu; subst hu; exact h
  | succ i =>
   have hu : (subs a ++ subs b)[i]? = some u := by simpa [subs] using hu
   by_cases hi : i < a.size
   ·rw [List.getElem?_append_left (by simpa using hi)] at hu
    have := subs_at h.l2 hu
    rwa [show k + (i + 1) = k + 1 + i by omega]
   ·rw [List.getElem?_append_right (by simp; omega)] at hu
    have := subs_at h.r2 hu
    rw [subs_len] at this
    rwa [show k + (i + 1) = k + 1 + a.size + (i - a.size) by omega]
theorem subs_good : ∀ {t : PT}, Good t → ∀ {u : PT}, u ∈ subs t → Good u
 | .n0 n, g, u, hu => by simp [subs] at hu; subst hu; exact g
 | .n1 n a, g, u, hu => by
  simp only [subs, List.mem_cons] at hu
  rcases hu with rfl | hu
  ·exact g
  ·exact subs_good g.c1 hu
 | .n2 n a b, g, u, hu => by
  simp only [subs, List.mem_cons, List.mem_append] at hu
  rcases hu with rfl | hu | hu
  ·exact g
  ·exact subs_good g.l2 hu
  ·exact subs_good g.r2 hu
theorem subs_w {s : List Tb} : ∀ {t : PT}, (wT s t).isSome = true → ∀ {u : PT}, u ∈ subs t → (wT s u).isSome = true
 | .n0 n, g, u, hu => by simp [subs] at hu; subst hu; exact g
 | .n1 n a, g, u, hu => by
  simp only [subs, List.mem_cons] at hu
  rcases hu with rfl | hu
  ·exact g
  ·exact subs_w (wT_c1 g) hu
 | .n2 n a b, g, u, hu => by
  simp only [subs, List.mem_cons, List.mem_append] at hu
  rcases hu with rfl | hu | hu
  ·exact g
  ·exact subs_w (wT_l2 g) hu
  ·exact subs_w (wT_r2 g) hu
end Go.Proofs.YtlebkomgiibknaaDoorX
namespace Go.Proofs.YtlebkomgiibknaaDoorX
open Go Go.Proofs.YtlebkomgiibknaaDoorT PT
set_option linter.all false
def ovr (r : Int) : Int × Int := if r = 0 then (1, 1) else if r = 1 then (1, 5) else if r = 2 then (6, 6) else if r = 3 then (5, 5) else if r = 4 then (1, 4) else if r = 5 ∨ r = 6 then (1, 3) else if r = 7 then (7, 7) else if r = 8 then (2, 2) else if r = 9 then (6, 2) else if r = 10 then (1, 2) else if r = 11 then (7, 5) else (-1, -1)
theorem rules {r : Int} (h : okIn r 0 11 = true) : r = 0 ∨ r = 1 ∨ r = 2 ∨ r = 3 ∨ r = 4 ∨ r = 5 ∨ r = 6 ∨ r = 7 ∨ r = 8 ∨ r = 9 ∨ r = 10 ∨ r = 11 := by
 have := okIn_iff.1 h; omega
theorem ovr_out {r : Int} (h : okIn r 0 11 = false) : ovr r = (-1, -1) := by
 have h : ¬ (0 ≤ r ∧ r ≤ 11) := fun h' => by rw [okIn_iff.2 h'] at h; cases h
 unfold ovr
 repeat' split
 all_goals first
  | rfl
  | omega
def limN (n m : Nd) : Nd := (n.1, n.2.1, n.2.2.1, n.2.2.2.1, min n.2.2.2.2.1 m.2.2.2.2.1, n.2.2.2.2.2.1, n.2.2.2.2.2.2.1, ())
def colN (n : Nd) (c : Int) : Nd := (n.1, n.2.1, c, n.2.2.2.1, n.2.2.2.2.1, n.2.2.2.2.2.1, n.2.2.2.2.2.2.1, ())
def colsN (n : Nd) (cs : List Int) : Nd := (n.1, n.2.1, n.2.2.1, n.2.2.2.1, n.2.2.2.2.1, n.2.2.2.2.2.1, cs, ())
def pick (l : List Int) (c : Int) : Int := (l[c.toNat]?).getD 0
def turnC (s : List Tb) (r : Int) (n : Nd) : PT → Option PT
 | .n0 _ => none
 | .n1 m d => if r = 2 then (if n.2.2.2.2.2.1 = true ∨ m.2.2.2.2.2.1 = true then none else some (.n1 (limN n m) d))
  else if r = 3 then (if n.2.2.1 = m.2.2.1 then some (.n1 m d) else none)
  else if r = 7 then some (.n1 m d)
  else if r = 8 then some (.n1 (colsN m (n.2.2.2.2.2.2.1.map (pick m.2.2.2.2.2.2.1))) d)
  else if r = 10 then some (.n1 m (.n1 (colN n (pick m.2.2.2.2.2.2.1 n.2.2.1)) d))
  else some (.n1 m (.n1 n d))
 | .n2 m d e => if r = 4 then some (.n2 m (.n1 n d) (.n1 n e))
  else if r = 5 then (if n.2.2.1 < oint (wT s d) then some (.n2 m (.n1 n d) e) else none)
  else if n.2.2.1 < oint (wT s d) then none else some (.n2 m d (.n1 (colN n (n.2.2.1 - oint (wT s d))) e))
def turn (s : List Tb) (r : Int) : PT → Option PT
 | .n1 n c => if n.1 = (ovr r).1 ∧ c.hd.1 = (ovr r).2 then turnC s r n c else none
 | _ => none
theorem kind_good {u : PT} (g : Good u) : 0 ≤ arity u.hd.1 := nodeOk_arity g.hd
theorem nodeOk_filter {n : Nd} (h : nodeOk n = true) (hk : n.1 = 1) : 0 ≤ n.2.2.1 ∧ n.2.2.1 ≤ 63 := by
 obtain ⟨k, name, col, op, num, slot, cols, u⟩ := n
 simp only at hk
 subst hk
 simp [nodeOk, okIn] at h
 simp only
 omega
theorem pick_some {l : List Int} {c : Int} (h0 : 0 ≤ c) (h1 : c < l.length) : ix l c = some (pick l c) := by
 obtain ⟨k, rfl⟩ : ∃ k : Nat, c = k := ⟨c.toNat, by omega⟩
 rw [ix_nat]
 unfold pick
 simp only [Int.toNat_natCast]
 rw [List.getElem?_eq_getElem (by omega)]; rfl
theorem ovr_one {r : Int} (h : okIn r 0 11 = true) (h4 : r ≠ 4) (h5 : r ≠ 5) (h6 : r ≠ 6) : arity (ovr r).2 = 1 := by
 rcases rules h with rfl | rfl | rfl | rfl | rfl | rfl | rfl | rfl | rfl | rfl | rfl | rfl <;> first
  | rfl
  | omega
theorem ovr_two {r : Int} (h : r = 4 ∨ r = 5 ∨ r = 6) : arity (ovr r).2 = 2 := by
 rcases h with rfl | rfl | rfl <;> rfl
theorem shapes {n : Nd} {c : PT} (g : Good (.n1 n c)) : (∃ m, c = .n0 m ∧ arity m.1 = 0) ∨ (∃ m d, c = .n1 m d ∧ arity m.1 = 1) ∨ (∃ m d e, c = .n2 m d e ∧ arity m.1 = 2) := by
 cases c with
 | n0 m => exact .inl ⟨m, rfl, g.c1.ok⟩
 | n1 m d => exact .inr (.inl ⟨m, d, rfl, g.c1.ok.1⟩)
 | n2 m d e => exact .inr (.inr ⟨m, d, e, rfl, g.c1.ok.1⟩)
end Go.Proofs.YtlebkomgiibknaaDoorX
namespace Go.Proofs.YtlebkomgiibknaaDoorX
open Go Go.Proofs.YtlebkomgiibknaaDoorT PT
set_option linter.all false
theorem neg_kind {u : PT} (g : Good u) : u.hd.1 ≠ -1 := by
 intro h
 have := kind_good g
 rw [h] at this
 revert this
 decide
end Go.Proofs.YtlebkomgiibknaaDoorX
namespace Go.Proofs.YtlebkomgiibknaaDoorX
open Go Go.Proofs.YtlebkomgiibknaaDoorT PT
set_option linter.all false
theorem bnode_ok {n : Nd} (h : nodeOk n = true) : n.2.1.size ≤ 12 ∧ n.2.2.2.2.2.2.1.length ≤ 6 := by
 obtain ⟨k, name, col, op, num, slot, cols, u⟩ := n
 simp only [nodeOk, Bool.and_eq_true, Bool.or_eq_true, decide_eq_true_eq] at h
 obtain ⟨⟨⟨⟨h1, h2⟩, _⟩, _⟩, h3⟩ := h
 have hn : name.size ≤ 12 := by
  rcases h1 with h1 | h1
  ·rw [if_pos h1] at h3
   simp only [Bool.and_eq_true] at h3
   exact (wordOk_len h3.1.1.1).2
  ·subst h1; simp
 refine ⟨hn, ?_⟩
 rcases h2 with h2 | h2
 ·subst h2
  simp [okIn] at h3
  simp only
  omega
 ·subst h2; simp
theorem bnode_of {n : Nd} (h : nodeOk n = true) : BNode n := ⟨by have := (bnode_ok h).1; omega, by have := (bnode_ok h).2; omega⟩
theorem Good.bn {t : PT} (g : Good t) : ∀ n ∈ t.flat, BNode n := fun n hn => bnode_of (g.nodes n hn)
end Go.Proofs.YtlebkomgiibknaaDoorX
namespace Go.Proofs.YtlebkomgiibknaaDoorX
open Go Go.Proofs.YtlebkomgiibknaaDoorT PT
set_option linter.all false
def applyM (s : List Tb) (p : List Nd) (x : Sp) : List Nd × Bool :=
 if 0 ≤ x.2.1 then match planT p with
  | none => (p, false)
  | some t => match (subs t)[x.2.1.toNat]? with
   | none => (p, false)
   | some u => match turn s x.1 u with
    | none => (p, false)
    | some u' => if planOk (p.take x.2.1.toNat ++ (u'.flat ++ p.drop (x.2.1.toNat + u.size))) = true then (p.take x.2.1.toNat ++ (u'.flat ++ p.drop (x.2.1.toNat + u.size)), true) else (p, false)
 else (p, false)
end Go.Proofs.YtlebkomgiibknaaDoorX
namespace Go.Proofs.YtlebkomgiibknaaDoorX
open Go Go.Proofs.YtlebkomgiibknaaDoorT PT
set_option linter.all false
def put : PT → Nat → PT → PT
 | _, 0, v => v
 | .n0 n, _ + 1, _ => .n0 n
 | .n1 n a, k + 1, v => .n1 n (put a k v)
 | .n2 n a b, k + 1, v => if k < a.size then .n2 n (put a k v) b else .n2 n a (put b (k - a.size) v)
theorem put_flat : ∀ {t : PT} {k : Nat} {u v : PT}, (subs t)[k]? = some u → (put t k v).flat = t.flat.take k ++ (v.flat ++ t.flat.drop (k + u.size))
 | .n0 n, 0, u, v, h => by simp [subs] at h; subst h; simp [put, PT.size, flat]
 | .n1 n a, 0, u, v, h => by simp [subs] at h; subst h; simp [put, PT.size, flat]
 | .n2 n a b, 0, u, v, h => by
  simp [subs] at h; subst h
  simp only [put, PT.size, flat, List.take_zero, List.nil_append]
  rw [List.drop_eq_nil_of_le (by simp)]; simp
 | .n0 n, k + 1, u, v, h => by simp [subs] at h
 | .n1 n a, k + 1, u, v, h => by
  have h' : (subs a)[k]? = some u := by simpa [subs] using h
  simp only [put, flat, put_flat h', List.take_succ_cons, List.cons_append]
  rw [show k + 1 + u.size = (k + u.size) + 1 by omega, List.drop_succ_cons]
 | .n2 n a b, k + 1, u, v, h => by
  have h' : (subs a ++ subs b)[k]? = some u := by simpa [subs] using h
  simp only [put]
  by_cases hk : k < a.size
  ·rw [if_pos hk]
   rw [List.getElem?_append_left (by simpa using hk)] at h'
   have hle := (subs_at (At.root a) h').le
   simp only [len_flat, Nat.zero_add] at hle
   simp only [flat, put_flat h', List.take_succ_cons, List.cons_append]
   rw [show k + 1 + u.size = (k + u.size) + 1 by omega, List.drop_succ_cons, List.take_append_of_le_length (by simp; omega), List.drop_append_of_le_length (by simp; omega)]
   simp
  ·rw [if_neg hk]
   rw [List.getElem?_append_right (by simp; omega), subs_len] at h'
   simp only [flat, put_flat h', List.take_succ_cons, List.cons_append]
   rw [show k + 1 + u.size = (k + u.size) + 1 by omega, List.drop_succ_cons, List.take_append, List.drop_append]
   simp only [len_flat]
   rw [List.take_of_length_le (l := a.flat) (by simp; omega), List.drop_eq_nil_of_le (show a.flat.length ≤ k + u.size by simp; omega)]
   rw [show k + u.size - a.size = k - a.size + u.size by omega]
   simp
theorem put_ok : ∀ {t : PT} {k : Nat} {v : PT}, t.ok → v.ok → (put t k v).ok
 | _, 0, v, _, hv => by simpa [put] using hv
 | .n0 n, k + 1, v, h, hv => by simpa [put] using h
 | .n1 n a, k + 1, v, h, hv => ⟨h.1, put_ok h.2 hv⟩
 | .n2 n a b, k + 1, v, h, hv => by
  simp only [put]
  split
  ·exact ⟨h.1, put_ok h.2.1 hv, h.2.2⟩
  ·exact ⟨h.1, h.2.1, put_ok h.2.2 hv⟩
theorem put_w {s : List Tb} : ∀ {t : PT} {k : Nat} {u v : PT}, (subs t)[k]? = some u → wT s v = wT s u → wT s (put t k v) = wT s t
 | .n0 n, 0, u, v, h, hw => by simp [subs] at h; subst h; simpa [put] using hw
 | .n1 n a, 0, u, v, h, hw => by simp [subs] at h; subst h; simpa [put] using hw
 | .n2 n a b, 0, u, v, h, hw => by simp [subs] at h; subst h; simpa [put] using hw
 | .n0 n, k + 1, u, v, h, _ => by simp [subs] at h
 | .n1 n a, k + 1, u, v, h, hw => by
  have h' : (subs a)[k]? = some u := by simpa [subs] using h
  simp only [put, wT, put_w h' hw]
 | .n2 n a b, k + 1, u, v, h, hw => by
  have h' : (subs a ++ subs b)[k]? = some u := by simpa [subs] using h
  simp only [put]
  by_cases hk : k < a.size
  ·rw [if_pos hk]
   rw [List.getElem?_append_left (by simpa using hk)] at h'
   simp only [wT, put_w h' hw]
  ·rw [if_neg hk]
   rw [List.getElem?_append_right (by simp; omega), subs_len] at h'
   simp only [wT, put_w h' hw]
theorem pick_lt {l : List Int} {w : Int} (h : l.all (fun c => decide (c < w)) = true) {c : Int} (h0 : 0 ≤ c) (h1 : c < l.length) : pick l c < w := by
 have := pick_some h0 h1
 obtain ⟨k, rfl⟩ : ∃ k : Nat, c = k := ⟨c.toNat, by omega⟩
 rw [ix_nat] at this
 simpa using List.all_eq_true.1 h _ (mem_of_get this)
theorem turn_w {s : List Tb} {r : Int} {u u' : PT} (g : Good u) (w : (wT s u).isSome = true) (h : turn s r u = some u') : u'.ok ∧ wT s u' = wT s u := by
 cases u with
 | n0 n => cases h
 | n2 n a b => cases h
 | n1 n c =>
  simp only [turn] at h
  split at h
  rotate_left
  ·cases h
  rename_i hk
  obtain ⟨hm, hm2⟩ := hk
  have hr : okIn r 0 11 = true := by
   cases hr : okIn r 0 11 with
   | true => rfl
   | false => rw [ovr_out hr] at hm; exact absurd hm (neg_kind g)
  have hg := g.ok
  rcases shapes g with ⟨m, rfl, har⟩ | ⟨m, d, rfl, har⟩ | ⟨m, d, e, rfl, har⟩
  ·cases h
  ·have hd := g.c1.ok.2
   simp only [PT.hd] at hm2
   have hgn := g.ok.1
   have hgm := g.c1.ok.1
   cases hwd : wT s d with
   | none => simp only [wT, hwd] at w; cases w
   | some x =>
   rcases rules hr with rfl | rfl | rfl | rfl | rfl | rfl | rfl | rfl | rfl | rfl | rfl | rfl
   ·have hk : n.1 = 1 := hm
    have hk2 : m.1 = 1 := hm2
    cases h
    refine ⟨⟨hgm, hgn, hd⟩, ?_⟩
    by_cases h1 : n.2.2.1 < x <;> by_cases h2 : m.2.2.1 < x <;> simp [wT, hwd, hk, hk2, h1, h2]
   ·have hk : n.1 = 1 := hm
    have hk2 : m.1 = 5 := hm2
    cases h
    refine ⟨⟨hgm, hgn, hd⟩, ?_⟩
    by_cases h1 : n.2.2.1 < x <;> by_cases h2 : m.2.2.1 < x <;> simp [wT, hwd, hk, hk2, h1, h2]
   ·have hk : n.1 = 6 := hm
    have hk2 : m.1 = 6 := hm2
    simp [turnC] at h
    obtain ⟨_, rfl⟩ := h
    exact ⟨⟨hgn, hd⟩, by simp [wT, hwd, hk, hk2, limN]⟩
   ·have hk : n.1 = 5 := hm
    have hk2 : m.1 = 5 := hm2
    simp [turnC] at h
    obtain ⟨hc, rfl⟩ := h
    refine ⟨⟨hgm, hd⟩, ?_⟩
    by_cases h2 : m.2.2.1 < x <;> simp [wT, hwd, hk, hk2, h2, hc]
   ·have := ovr_two (r := 4) (by simp); rw [← hm2] at this; omega
   ·have := ovr_two (r := 5) (by simp); rw [← hm2] at this; omega
   ·have := ovr_two (r := 6) (by simp); rw [← hm2] at this; omega
   ·have hk : n.1 = 7 := hm
    have hk2 : m.1 = 7 := hm2
    simp [turnC] at h
    subst h
    exact ⟨⟨hgm, hd⟩, by simp [wT, hwd, hk, hk2]⟩
   ·have hk : n.1 = 2 := hm
    have hk2 : m.1 = 2 := hm2
    simp [turnC] at h
    subst h
    refine ⟨⟨hgm, hd⟩, ?_⟩
    have hn := nodeOk_keep g.hd hk
    simp only [PT.hd] at hn
    simp only [wT, hwd, hk, hk2, if_true, colsN] at w ⊢
    by_cases ha : m.2.2.2.2.2.2.1.all (fun c => decide (c < x)) = true
    ·rw [if_pos ha] at w ⊢
     simp only at w ⊢
     by_cases hb : n.2.2.2.2.2.2.1.all (fun c => decide (c < (m.2.2.2.2.2.2.1.length : Int))) = true
     ·rw [if_pos hb]
      have : (n.2.2.2.2.2.2.1.map (pick m.2.2.2.2.2.2.1)).all (fun c => decide (c < x)) = true := by
       simp only [List.all_map, List.all_eq_true, Function.comp, decide_eq_true_eq]
       intro c hc
       exact pick_lt ha (hn.2.2 c hc).1 (by simpa using List.all_eq_true.1 hb c hc)
      rw [if_pos this]; simp
     ·rw [if_neg hb] at w; cases w
    ·rw [if_neg ha] at w; cases w
   ·have hk : n.1 = 6 := hm
    have hk2 : m.1 = 2 := hm2
    cases h
    exact ⟨⟨hgm, hgn, hd⟩, by simp [wT, hwd, hk, hk2]; split <;> simp_all⟩
   ·have hk : n.1 = 1 := hm
    have hk2 : m.1 = 2 := hm2
    cases h
    refine ⟨⟨hgm, by simpa [colN] using hgn, hd⟩, ?_⟩
    have hn := nodeOk_filter g.hd hk
    simp only [PT.hd] at hn
    simp only [wT, hwd, hk, hk2, if_true, colN] at w ⊢
    by_cases ha : m.2.2.2.2.2.2.1.all (fun c => decide (c < x)) = true
    ·rw [if_pos ha] at w ⊢
     by_cases hb : n.2.2.1 < (m.2.2.2.2.2.2.1.length : Int)
     ·have := pick_lt ha hn.1 hb
      simp [hb, this, ha]
     ·simp [hb] at w
    ·rw [if_neg ha] at w; cases w
   ·have hk : n.1 = 7 := hm
    have hk2 : m.1 = 5 := hm2
    cases h
    exact ⟨⟨hgm, hgn, hd⟩, by by_cases h2 : m.2.2.1 < x <;> simp [wT, hwd, hk, hk2, h2]⟩
  ·have hd := g.c1.ok.2.1
   have he := g.c1.ok.2.2
   simp only [PT.hd] at hm2
   have hgn := g.ok.1
   have hgm := g.c1.ok.1
   cases hwd : wT s d with
   | none => simp only [wT, hwd] at w; cases w
   | some x =>
   cases hwe : wT s e with
   | none => simp only [wT, hwd, hwe] at w; cases w
   | some y =>
   rcases rules hr with rfl | rfl | rfl | rfl | rfl | rfl | rfl | rfl | rfl | rfl | rfl | rfl
   ·have := ovr_one (r := 0) rfl (by simp) (by simp) (by simp); rw [← hm2] at this; omega
   ·have := ovr_one (r := 1) rfl (by simp) (by simp) (by simp); rw [← hm2] at this; omega
   ·have := ovr_one (r := 2) rfl (by simp) (by simp) (by simp); rw [← hm2] at this; omega
   ·have := ovr_one (r := 3) rfl (by simp) (by simp) (by simp); rw [← hm2] at this; omega
   ·have hk : n.1 = 1 := hm
    have hk2 : m.1 = 4 := hm2
    cases h
    refine ⟨⟨hgm, ⟨hgn, hd⟩, hgn, he⟩, ?_⟩
    by_cases h1 : x = y
    ·subst h1
     by_cases h2 : n.2.2.1 < x <;> simp [wT, hwd, hwe, hk, hk2, h2]
    ·simp [wT, hwd, hwe, hk, hk2, h1] at w
   ·have hk : n.1 = 1 := hm
    have hk2 : m.1 = 3 := hm2
    simp [turnC, hwd, oint] at h
    obtain ⟨hc, rfl⟩ := h
    refine ⟨⟨hgm, ⟨hgn, hd⟩, he⟩, ?_⟩
    by_cases h1 : m.2.2.1 < x ∧ m.2.2.2.2.1 < y ∧ x + y ≤ 64
    ·by_cases h2 : n.2.2.1 < x + y
     ·simp [wT, hwd, hwe, hk, hk2, h1, h2, hc]
     ·simp [wT, hwd, hwe, hk, hk2, h1, h2] at w
    ·simp [wT, hwd, hwe, hk, hk2, h1] at w
   ·have hk : n.1 = 1 := hm
    have hk2 : m.1 = 3 := hm2
    simp [turnC, hwd, oint] at h
    obtain ⟨hc, rfl⟩ := h
    refine ⟨⟨hgm, hd, by simpa [colN] using hgn, he⟩, ?_⟩
    by_cases h1 : m.2.2.1 < x ∧ m.2.2.2.2.1 < y ∧ x + y ≤ 64
    ·by_cases h2 : n.2.2.1 < x + y
     ·have h3 : n.2.2.1 - x < y := by omega
      simp [wT, hwd, hwe, hk, hk2, h1, h2, h3, colN]
     ·simp [wT, hwd, hwe, hk, hk2, h1, h2] at w
    ·simp [wT, hwd, hwe, hk, hk2, h1] at w
   ·have := ovr_one (r := 7) rfl (by simp) (by simp) (by simp); rw [← hm2] at this; omega
   ·have := ovr_one (r := 8) rfl (by simp) (by simp) (by simp); rw [← hm2] at this; omega
   ·have := ovr_one (r := 9) rfl (by simp) (by simp) (by simp); rw [← hm2] at this; omega
   ·have := ovr_one (r := 10) rfl (by simp) (by simp) (by simp); rw [← hm2] at this; omega
   ·have := ovr_one (r := 11) rfl (by simp) (by simp) (by simp); rw [← hm2] at this; omega
theorem applyM_tree {s : List Tb} {t : PT} (ht : Typed s t) {x : Sp} {q : List Nd} (h : applyM s t.flat x = (q, true)) :
  ∃ (k : Nat) (u u' : PT), x.2.1 = k ∧ (subs t)[k]? = some u ∧ turn s x.1 u = some u' ∧ q = (put t k u').flat ∧ PlanT (put t k u') ∧ Typed s (put t k u') ∧ wT s (put t k u') = wT s t := by
 unfold applyM at h
 split at h
 rotate_left
 ·cases h
 rename_i h0
 simp only [planT_flat ht.plan] at h
 split at h
 ·cases h
 rename_i u hu
 split at h
 ·cases h
 rename_i u' hu'
 split at h
 rotate_left
 ·cases h
 rename_i hpk
 cases h
 have hm := mem_of_get hu
 have g := subs_good ht.plan.good hm
 have w := subs_w ht.w hm
 obtain ⟨hok, hw⟩ := turn_w g w hu'
 obtain ⟨t', ht', e⟩ := planOk_iff.1 hpk
 have hpf := put_flat (v := u') hu
 rw [← hpf] at e
 have hput := put_ok (k := x.2.1.toNat) ht.plan.ok hok
 have := (flat_inj (q := []) (r := []) hput ht'.ok (by simpa using e)).1
 have hwp := put_w hu hw
 refine ⟨x.2.1.toNat, u, u', by omega, hu, hu', hpf.symm, this ▸ ht', ⟨this ▸ ht', ht.sch, ?_⟩, hwp⟩
 rw [hwp]; exact ht.w
end Go.Proofs.YtlebkomgiibknaaDoorX
namespace Go.Proofs.YtlebkomgiibknaaDoorX
open Go Go.Proofs.YtlebkomgiibknaaDoorT PT
set_option linter.all false
def hasR (rules : List Int) (x : Sp) : Bool := rules.any fun y => decide (y = x.1)
end Go.Proofs.YtlebkomgiibknaaDoorX
namespace Go.Proofs.YtlebkomgiibknaaDoorX
open Go Go.Proofs.YtlebkomgiibknaaDoorT PT
set_option linter.all false
abbrev Opn := Int × List Nd × List Nd × List Sp × Unit
structure BOp (o : Opn) : Prop where
 qb : BPlan o.2.1
 ob : BPlan o.2.2.1
 sb : o.2.2.2.1.length ≤ 1073741824
end Go.Proofs.YtlebkomgiibknaaDoorX
namespace Go.Proofs.YtlebkomgiibknaaDoorX
open Go Go.Proofs.YtlebkomgiibknaaDoorT
set_option linter.all false
def kc (c : Int) (r : List Int) : Int := r.getD c.toNat 0
end Go.Proofs.YtlebkomgiibknaaDoorX
namespace Go.Proofs.YtlebkomgiibknaaDoorX
open Go Go.Proofs.YtlebkomgiibknaaDoorT
set_option linter.all false
inductive BL (key : List Int → Int) (bs : Nat) : List (List Int) → List (List Int) → Prop where
 | last (xs : List (List Int)) : xs.length ≤ bs → BL key bs xs (srt key xs)
 | step (A xs ys : List (List Int)) : A.length = bs → BL key bs xs ys → BL key bs (A ++ xs) (srt key A ++ ys)
theorem BL.len {key : List Int → Int} {bs : Nat} {xs ys : List (List Int)} (h : BL key bs xs ys) : ys.length = xs.length := by
 induction h with
 | last xs _ => exact srt_len xs
 | step A xs ys _ _ ih => simp [srt_len, ih]
theorem BL.all {key : List Int → Int} {bs : Nat} {xs ys : List (List Int)} (h : BL key bs xs ys) (hl : xs.length ≤ bs) : ys = srt key xs := by
 cases h with
 | last _ h => rfl
 | step A x y h1 h2 =>
  simp at hl
  have hx : x = [] := List.length_eq_zero_iff.1 (by omega)
  subst hx
  have := h2.len
  have hy : y = [] := List.length_eq_zero_iff.1 (by simpa using this)
  subst hy
  simp
end Go.Proofs.YtlebkomgiibknaaDoorX
namespace Go.Proofs.YtlebkomgiibknaaDoorX
open Go Go.Proofs.YtlebkomgiibknaaDoorT PT
set_option linter.all false
abbrev Rows := List (List Int)
structure BRows (x : List Rows) : Prop where
 len : x.length ≤ 1073741824
 tabs : ∀ t ∈ x, t.length ≤ 1073741824
 rows : ∀ t ∈ x, ∀ r ∈ t, r.length ≤ 1073741824
def valOk (x : Int) : Bool := okIn x (-1000000) 1000000 || decide (x = -2000000)
@[simp] theorem V_impl_isValue (x : Int) : F_impl_isValue x = some (valOk x) := (U_impl_isValue x).out (by
 simp only [V_impl_isNum, Option.bind_some, joinK_bif, joinK_go, J_impl_isValuex0, valOk]
 cases okIn x (-1000000) 1000000 <;> simp [beq_dec])
@[simp] theorem V_spec_l04Value (x : Int) : F_spec_l04Value x = some (valOk x) := (U_spec_l04Value x).out (by
 simp only [V_spec_l01Number, Option.bind_some, joinK_bif, joinK_go, J_spec_l04Valuex0, valOk]
 cases okIn x (-1000000) 1000000 <;> simp [beq_dec])
theorem V_slices_IndexFunc_StoreOk {l : List Int} (hb : l.length ≤ 1073741824) : F_slices_IndexFunc_Lint_impl_StoreOk_1 l = some (fint (findI (fun x => !valOk x) l 0)) := (U_slices_IndexFunc_Lint_impl_StoreOk_1 l).out (by
 have e := loop_find (f := fun f s => L_slices_IndexFunc_Lint_impl_StoreOk_1x0 l f s.1 s.2) l (fun x => !valOk x) (fun i => (i : Int))
  (fun i x v g hx => by
   have l1 := (List.getElem?_eq_some_iff.1 hx).1
   have h1 : F_impl_StoreOk_1 x = some (!valOk x) := (U_impl_StoreOk_1 x).out (by simp)
   simp only [L_slices_IndexFunc_Lint_impl_StoreOk_1x0, lt_nat hx, cond_true, ix_some hx, Option.bind_some, h1, wrap_nat (show i < 9223372036854775807 by omega)])
  (fun v g => by simp [L_slices_IndexFunc_Lint_impl_StoreOk_1x0]) 0
 rw [e]
 cases findI (fun x => !valOk x) l 0 <;> simp [J_slices_IndexFunc_Lint_impl_StoreOk_1x0, fint])
theorem V_slices_ContainsFunc_StoreOk {l : List Int} (hb : l.length ≤ 1073741824) : F_slices_ContainsFunc_Lint_impl_StoreOk_1 l = some (!l.all valOk) := (U_slices_ContainsFunc_Lint_impl_StoreOk_1 l).out (by
 simp only [V_slices_IndexFunc_StoreOk hb, Option.bind_some, fint_ge]
 rw [List.all_eq_not_any_not]; simp)
def rowP (w : Int) (r : List Int) : Bool := decide ((r.length : Int) = w) && r.all valOk
def storeP (s : List Tb) (i : Nat) (t : Rows) : Bool := match s[i]? with
 | some tb => decide (t.length ≤ 40) && t.all (rowP tb.2.1)
 | none => false
def storeOk (s : List Tb) (x : List Rows) : Bool := schemaOk s && decide (x.length = s.length) && allI (storeP s) x 0
theorem V_impl_StoreOk {s : List STable} {x : List Rows} (hs : BSch s) (hb : BRows x) : F_impl_StoreOk s x = some (storeOk s x) := (U_impl_StoreOk s x).out (by
 simp only [V_impl_SchemaOk hs, Option.bind_some, joinK_bif, joinK_go, J_impl_StoreOkx0, storeOk]
 cases h1 : schemaOk s with
 | false => simp
 | true =>
  by_cases h2 : x.length = s.length
  ·have e := loop_chk (f := fun f z => L_impl_StoreOkx0 s x f z.1 z.2) x (storeP s) false
    (fun i t v g hx => by
     have l1 := (List.getElem?_eq_some_iff.1 hx).1
     have hl := hb.len
     have ht := hb.tabs t (mem_of_get hx)
     have hy : s[i]? = some s[i] := List.getElem?_eq_getElem (by omega)
     have e2 := loop_chk (f := fun f z => L_impl_StoreOkx1 s (i : Int) t f z.1 z.2) t (fun _ => rowP s[i].2.1) (Ex.ret false)
      (fun j r v g hr => by
       have l2 := (List.getElem?_eq_some_iff.1 hr).1
       have hrl := hb.rows t (mem_of_get hx) r (mem_of_get hr)
       simp only [L_impl_StoreOkx1, lt_nat hr, cond_true, ix_some hr, Option.bind_some, ix_some hy, V_slices_ContainsFunc_StoreOk hrl, J_impl_StoreOkx3, wrap_nat (show j < 9223372036854775807 by omega), rowP, bne_dec]
       by_cases h3 : (r.length : Int) = s[i].2.1
       ·cases h4 : r.all valOk <;> simp [h3]
       ·simp [h3])
      (fun v g => by simp [L_impl_StoreOkx1]) v
     simp only [L_impl_StoreOkx0, lt_nat hx, cond_true, ix_some hx, Option.bind_some, e2, allI_const, J_impl_StoreOkx2, wrap_nat (show i < 9223372036854775807 by omega), storeP, hy]
     by_cases h3 : t.length ≤ 40
     ·have : decide ((t.length : Int) > 40) = false := by simp; omega
      rw [this]
      cases h4 : t.all (rowP s[i].2.1) <;> simp [h3]
     ·have : decide ((t.length : Int) > 40) = true := by simp; omega
      rw [this]
      simp [h3])
    (fun v g => by simp [L_impl_StoreOkx0]) false
   rw [e]
   simp only [h2, bne_dec, decide_true, Bool.not_true, cond_false, Bool.true_and]
   cases allI (storeP s) x 0 <;> simp [J_impl_StoreOkx1]
  ·have : ((x.length : Int) != (s.length : Int)) = true := by simp; omega
   simp [this, h2])
theorem V_spec_StoreOk {s : List STable} {x : List Rows} (hs : BSch s) (hb : BRows x) : F_spec_StoreOk s x = some (storeOk s x) := (U_spec_StoreOk s x).out (by
 simp only [V_spec_SchemaOk hs, Option.bind_some, joinK_bif, joinK_go, J_spec_StoreOkx0, storeOk]
 cases h1 : schemaOk s with
 | false => simp
 | true =>
  by_cases h2 : x.length = s.length
  ·have e := loop_chk (f := fun f z => L_spec_StoreOkx0 s x f z.1 z.2) x (storeP s) false
    (fun i t v g hx => by
     have l1 := (List.getElem?_eq_some_iff.1 hx).1
     have hl := hb.len
     have ht := hb.tabs t (mem_of_get hx)
     have hy : s[i]? = some s[i] := List.getElem?_eq_getElem (by omega)
     have e2 := loop_chk (f := fun f z => L_spec_StoreOkx1 s x (i : Int) f z.1 z.2) t (fun _ => rowP s[i].2.1) (Ex.ret false)
      (fun j r v g hr => by
       have l2 := (List.getElem?_eq_some_iff.1 hr).1
       have hrl := hb.rows t (mem_of_get hx) r (mem_of_get hr)
       have e3 := loop_chk (f := fun f z => L_spec_StoreOkx2 x (i : Int) (j : Int) f z.1 z.2) r (fun _ => valOk) (Ex.ret (Ex.ret false))
        (fun k c v g hc => by
         have l3 := (List.getElem?_eq_some_iff.1 hc).1
         simp only [L_spec_StoreOkx2, ix_some hx, Option.bind_some, ix_some hr, lt_nat hc, cond_true, ix_some hc, V_spec_l04Value, wrap_nat (show k < 9223372036854775807 by omega)]
         cases valOk c <;> simp)
        (fun v g => by simp [L_spec_StoreOkx2, ix_some hx, ix_some hr]) v
       simp only [L_spec_StoreOkx1, ix_some hx, Option.bind_some, lt_nat hr, cond_true, ix_some hr, ix_some hy, e3, allI_const, J_spec_StoreOkx3, wrap_nat (show j < 9223372036854775807 by omega), rowP, bne_dec]
       by_cases h3 : (r.length : Int) = s[i].2.1
       ·cases h4 : r.all valOk <;> simp [h3]
       ·simp [h3])
      (fun v g => by simp [L_spec_StoreOkx1, ix_some hx]) v
     have hls : decide ((i : Int) < (s.length : Int)) = true := by simp; omega
     simp only [L_spec_StoreOkx0, hls, cond_true, ix_some hx, Option.bind_some, e2, allI_const, J_spec_StoreOkx2, wrap_nat (show i < 9223372036854775807 by omega), storeP, hy]
     by_cases h3 : t.length ≤ 40
     ·have : decide ((t.length : Int) > 40) = false := by simp; omega
      rw [this]
      cases h4 : t.all (rowP s[i].2.1) <;> simp [h3]
     ·have : decide ((t.length : Int) > 40) = true := by simp; omega
      rw [this]
      simp [h3])
    (fun v g => by simp [L_spec_StoreOkx0, h2]) false
   rw [e]
   simp only [h2, bne_dec, decide_true, Bool.not_true, cond_false, Bool.true_and]
   cases allI (storeP s) x 0 <;> simp [J_spec_StoreOkx1]
  ·have : ((x.length : Int) != (s.length : Int)) = true := by simp; omega
   simp [this, h2])
end Go.Proofs.YtlebkomgiibknaaDoorX
namespace Go.Proofs.YtlebkomgiibknaaDoorX
open Go Go.Proofs.YtlebkomgiibknaaDoorT PT
set_option linter.all false
def holds (n : Nd) (v : Int) : Bool := if v = -2000000 then decide (n.2.2.2.1 = 3) else if n.2.2.2.1 = 0 then decide (v = n.2.2.2.2.1) else if n.2.2.2.1 = 1 then decide (v < n.2.2.2.2.1) else if n.2.2.2.1 = 2 then decide (v > n.2.2.2.2.1) else false
def filterR (n : Nd) (x : Rows) : Rows := x.flatMap fun r => bif holds n (kc n.2.2.1 r) then [r] else []
def keepR (n : Nd) (x : Rows) : Rows := x.map fun r => n.2.2.2.2.2.2.1.map fun c => kc c r
def joinR (n : Nd) (x y : Rows) : Rows := x.flatMap fun l => y.flatMap fun r => bif !(decide (kc n.2.2.1 l = -2000000)) && decide (kc n.2.2.1 l = kc n.2.2.2.2.1 r) then [l ++ r] else []
def cnt (a : Rows) (x : List Int) : Nat := a.countP fun r => decide (r = x)
def onceR (x : Rows) : Rows := x.foldl (fun a r => bif decide (cnt a r = 0) then a ++ [r] else a) []
end Go.Proofs.YtlebkomgiibknaaDoorX
namespace Go.Proofs.YtlebkomgiibknaaDoorX
open Go Go.Proofs.YtlebkomgiibknaaDoorT PT
set_option linter.all false
structure RW (w : Int) (x : Rows) : Prop where
 len : x.length ≤ 200
 row : ∀ r ∈ x, (r.length : Int) = w
end Go.Proofs.YtlebkomgiibknaaDoorX
namespace Go.Proofs.YtlebkomgiibknaaDoorX
open Go Go.Proofs.YtlebkomgiibknaaDoorT PT
set_option linter.all false
def op1 (n : Nd) (x : Rows) : Rows := if n.1 = 1 then filterR n x else if n.1 = 2 then keepR n x else if n.1 = 5 then srt (kc n.2.2.1) x else if n.1 = 6 then x.take n.2.2.2.2.1.toNat else onceR x
def op2 (n : Nd) (x y : Rows) : Rows := if n.1 = 3 then joinR n x y else x ++ y
theorem node_col {n : Nd} (h : nodeOk n = true) (hk : n.1 = 1 ∨ n.1 = 3 ∨ n.1 = 5) : 0 ≤ n.2.2.1 := by
 obtain ⟨k, name, col, op, num, slot, cols, u⟩ := n
 simp only at hk
 rcases hk with hk | hk | hk <;> subst hk <;> simp [nodeOk, okIn] at h <;> simp only <;> omega
theorem storeOk_tab {s : List Tb} {st : List Rows} (h : storeOk s st = true) {j : Nat} {tb : Tb} (hj : s[j]? = some tb) : ∃ t, st[j]? = some t ∧ RW tb.2.1 t ∧ t.length ≤ 40 := by
 simp only [storeOk, Bool.and_eq_true, decide_eq_true_eq] at h
 have l1 := (List.getElem?_eq_some_iff.1 hj).1
 have hx : st[j]? = some st[j] := List.getElem?_eq_getElem (by omega)
 have := allI_get h.2 hx
 simp only [storeP, Nat.zero_add, hj, Bool.and_eq_true, decide_eq_true_eq, List.all_eq_true, rowP] at this
 exact ⟨_, hx, ⟨by omega, fun r hr => (this.2 r hr).1⟩, this.1⟩
theorem onceR_sub (x : Rows) : (∀ r ∈ onceR x, r ∈ x) ∧ (onceR x).length ≤ x.length := by
 have : ∀ (x a : Rows), (∀ r ∈ x.foldl (fun a r => bif decide (cnt a r = 0) then a ++ [r] else a) a, r ∈ a ∨ r ∈ x) ∧ (x.foldl (fun a r => bif decide (cnt a r = 0) then a ++ [r] else a) a).length ≤ a.length + x.length := by
  intro x
  induction x with
  | nil => intro a; simp
  | cons y x ih =>
   intro a
   simp only [List.foldl_cons]
   cases decide (cnt a y = 0) with
   | true =>
    obtain ⟨h1, h2⟩ := ih (a ++ [y])
    refine ⟨fun r hr => ?_, by simp at h2 ⊢; omega⟩
    have := h1 r hr
    simp at this ⊢
    grind
   | false =>
    obtain ⟨h1, h2⟩ := ih a
    refine ⟨fun r hr => ?_, by simp at h2 ⊢; omega⟩
    have := h1 r hr
    simp at this ⊢
    grind
 obtain ⟨h1, h2⟩ := this x []
 exact ⟨fun r hr => by have := h1 r hr; simpa using this, by simp only [List.length_nil, Nat.zero_add] at h2; exact h2⟩
end Go.Proofs.YtlebkomgiibknaaDoorX
namespace Go.Proofs.YtlebkomgiibknaaDoorX
open Go Go.Proofs.YtlebkomgiibknaaDoorT PT
set_option linter.all false
structure SmallR (x : Rows) : Prop where
 len : x.length ≤ 200
 row : ∀ r ∈ x, r.length ≤ 64
theorem SmallR.nil : SmallR [] := ⟨by simp, by simp⟩
end Go.Proofs.YtlebkomgiibknaaDoorX
namespace Go.Proofs.YtlebkomgiibknaaDoorX
open Go Go.Proofs.YtlebkomgiibknaaDoorT PT
set_option linter.all false
def vb (n : Nat) : List Int := if n < 128 then [(n : Int)] else ((128 + n % 128 : Nat) : Int) :: vb (n / 128)
termination_by n
decreasing_by omega
def zig (x : Int) : Nat := if x < 0 then (-2 * x - 1).toNat else (2 * x).toNat
def numB (x : Int) : List Int := if okIn x (-1000000) 1000000 = true then vb (zig x) else []
end Go.Proofs.YtlebkomgiibknaaDoorX
namespace Go.Proofs.YtlebkomgiibknaaDoorX
open Go Go.Proofs.YtlebkomgiibknaaDoorT PT
set_option linter.all false
def chkS (s c : Int) : Int := (IntKind.i64.wrap ((IntKind.i64.wrap (269 * s)) + (IntKind.i64.wrap c))).tmod 999983
def chk (b : List Int) : Int := b.foldl chkS 5
def frame (b : List Int) : List Int × Bool := if b.length ≤ 4000 then ([80, 83] ++ numB b.length ++ b ++ numB (chk b), true) else ([], false)
end Go.Proofs.YtlebkomgiibknaaDoorX
namespace Go.Proofs.YtlebkomgiibknaaDoorX
open Go Go.Proofs.YtlebkomgiibknaaDoorT PT
set_option linter.all false
structure BP2 (p : List Nd) : Prop where
 len : p.length ≤ 1073741824
 cols : ∀ n ∈ p, n.2.2.2.2.2.2.1.length ≤ 1073741824
end Go.Proofs.YtlebkomgiibknaaDoorX
namespace Go.Proofs.YtlebkomgiibknaaDoorX
open Go Go.Proofs.YtlebkomgiibknaaDoorT PT
set_option linter.all false
abbrev En := Int × List Nd × List Nd × Int × Int × Unit
abbrev Shf := Int × List Tb × List En × Int × Int × Int × Int × Int × Int × Unit
structure BShelf (h : Shf) : Prop where
 sch : BSch h.2.1
 len : h.2.2.1.length ≤ 1073741824
 tpl : ∀ e ∈ h.2.2.1, BPlan e.2.1 ∧ BP2 e.2.1
 pln : ∀ e ∈ h.2.2.1, BPlan e.2.2.1
end Go.Proofs.YtlebkomgiibknaaDoorX
namespace Go.Proofs.YtlebkomgiibknaaDoorX
open Go Go.Proofs.YtlebkomgiibknaaDoorT PT
set_option linter.all false
def evR (s : List Tb) (st : List Rows) : PT → Rows
 | .n0 n => match tabAt s n.2.1 with
  | some j => (st[j]?).getD []
  | none => []
 | .n1 n a => op1 n (evR s st a)
 | .n2 n a b => op2 n (evR s st a) (evR s st b)
def WR (w : Int) (x : Rows) : Prop := ∀ r ∈ x, (r.length : Int) = w
theorem filterR_eq (n : Nd) (x : Rows) : filterR n x = x.filter fun r => holds n (kc n.2.2.1 r) := by
 unfold filterR
 induction x with
 | nil => rfl
 | cons r x ih =>
  simp only [List.flatMap_cons, ih, List.filter_cons]
  cases holds n (kc n.2.2.1 r) <;> simp
theorem evR_w {s : List Tb} {st : List Rows} (h : storeOk s st = true) : ∀ {t : PT} {w : Int}, wT s t = some w → WR w (evR s st t)
 | .n0 n, w, hw => by
  simp only [wT] at hw
  simp only [evR]
  split at hw
  ·rename_i j hj
   split at hw
   ·rename_i tb htb
    cases hw
    obtain ⟨t, h1, h2, _⟩ := storeOk_tab h htb
    simp only [hj, h1, Option.getD_some]
    exact h2.row
   ·cases hw
  ·cases hw
 | .n1 n a, w, hw => by
  simp only [wT] at hw
  simp only [evR]
  split at hw
  ·cases hw
  ·rename_i v hv
   have ih := evR_w h hv
   intro r hr
   simp only [op1] at hr
   split at hw
   ·rename_i hk
    split at hw
    ·cases hw
     rw [if_neg (by omega), if_pos hk] at hr
     simp only [keepR, List.mem_map] at hr
     obtain ⟨q, _, rfl⟩ := hr
     simp
    ·cases hw
   ·rename_i hk2
    have hvw : v = w := by
     split at hw
     ·split at hw
      ·cases hw; rfl
      ·cases hw
     ·cases hw; rfl
    subst hvw
    refine ih r ?_
    split at hr
    ·rw [filterR_eq] at hr; exact (List.mem_filter.1 hr).1
    ·split at hr
     ·exact srt_mem.1 hr
     ·split at hr
      ·exact List.mem_of_mem_take hr
      ·exact (onceR_sub _).1 r hr
 | .n2 n a b, w, hw => by
  simp only [wT] at hw
  simp only [evR]
  split at hw
  ·rename_i wa wb hwa hwb
   have ih1 := evR_w h hwa
   have ih2 := evR_w h hwb
   intro r hr
   simp only [op2] at hr
   split at hw
   ·rename_i hk
    split at hw
    ·cases hw
     rw [if_pos hk] at hr
     simp only [joinR, List.mem_flatMap] at hr
     obtain ⟨l, hl, q, hq, hr⟩ := hr
     have e1 := ih1 l hl
     have e2 := ih2 q hq
     cases hh : (!decide (kc n.2.2.1 l = -2000000) && decide (kc n.2.2.1 l = kc n.2.2.2.2.1 q)) <;> rw [hh] at hr <;> simp at hr
     rw [hr]; simp; omega
    ·cases hw
   ·rename_i hk
    split at hw
    ·rename_i hww
     cases hw
     rw [if_neg hk] at hr
     rcases List.mem_append.1 hr with hr | hr
     ·exact ih1 r hr
     ·have := ih2 r hr; omega
    ·cases hw
  ·cases hw
def stepO (a : Rows) (r : List Int) : Rows := bif decide (cnt a r = 0) then a ++ [r] else a
theorem onceR_def (x : Rows) : onceR x = x.foldl stepO [] := rfl
theorem cnt_zero {a : Rows} {r : List Int} : cnt a r = 0 ↔ r ∉ a := by
 unfold cnt
 rw [List.countP_eq_zero]
 constructor
 ·intro h hm; have := h r hm; simp at this
 ·intro h q hq hd
  simp only [decide_eq_true_eq] at hd
  exact h (hd ▸ hq)
theorem stepO_in {a : Rows} {r : List Int} (h : r ∈ a) : stepO a r = a := by
 have : ¬ cnt a r = 0 := fun e => cnt_zero.1 e h
 simp [stepO, this]
theorem stepO_out {a : Rows} {r : List Int} (h : r ∉ a) : stepO a r = a ++ [r] := by
 have : cnt a r = 0 := cnt_zero.2 h
 simp [stepO, this]
theorem foldO_filter (p : List Int → Bool) : ∀ (x a : Rows), (x.foldl stepO a).filter p = (x.filter p).foldl stepO (a.filter p)
 | [], a => rfl
 | r :: x, a => by
  simp only [List.foldl_cons]
  rw [foldO_filter p x]
  by_cases hm : r ∈ a
  ·rw [stepO_in hm]
   cases hp : p r with
   | true =>
    rw [List.filter_cons_of_pos hp, List.foldl_cons, stepO_in (List.mem_filter.2 ⟨hm, hp⟩)]
   | false => rw [List.filter_cons_of_neg (by simp [hp])]
  ·rw [stepO_out hm]
   cases hp : p r with
   | true =>
    rw [List.filter_cons_of_pos hp, List.foldl_cons, stepO_out (fun h => hm (List.mem_filter.1 h).1), List.filter_append]
    simp [hp]
   | false =>
    rw [List.filter_cons_of_neg (by simp [hp]), List.filter_append]
    simp [hp]
theorem onceR_filter (p : List Int → Bool) (x : Rows) : (onceR x).filter p = onceR (x.filter p) := by
 rw [onceR_def, onceR_def, foldO_filter]; rfl
theorem foldO_sub : ∀ (x a : Rows), (x.foldl stepO a).Sublist (a ++ x)
 | [], a => by simp
 | r :: x, a => by
  simp only [List.foldl_cons]
  by_cases hm : r ∈ a
  ·rw [stepO_in hm]
   exact (foldO_sub x a).trans (List.Sublist.append (List.Sublist.refl a) (List.sublist_cons_self r x))
  ·rw [stepO_out hm]
   have := foldO_sub x (a ++ [r])
   simpa using this
theorem onceR_sublist (x : Rows) : (onceR x).Sublist x := by have := foldO_sub x []; simpa [onceR_def] using this
theorem foldO_nodup : ∀ (x a : Rows), a.Nodup → (x.foldl stepO a).Nodup
 | [], a, h => h
 | r :: x, a, h => by
  simp only [List.foldl_cons]
  by_cases hm : r ∈ a
  ·rw [stepO_in hm]; exact foldO_nodup x a h
  ·rw [stepO_out hm]
   refine foldO_nodup x _ ?_
   rw [List.nodup_append]
   exact ⟨h, by simp, fun p hp q hq => by simp at hq; rintro rfl; exact hm (hq ▸ hp)⟩
theorem foldO_self : ∀ (x a : Rows), (a ++ x).Nodup → x.foldl stepO a = a ++ x
 | [], a, _ => by simp
 | r :: x, a, h => by
  simp only [List.foldl_cons]
  have hm : r ∉ a := fun hm => by
   rw [List.nodup_append] at h
   exact h.2.2 r hm r (by simp) rfl
  rw [stepO_out hm, foldO_self x (a ++ [r]) (by simpa using h)]
  simp
theorem onceR_self (x : Rows) : onceR (onceR x) = onceR x := by
 have h1 := foldO_nodup x [] List.nodup_nil
 have h2 := foldO_self (onceR x) [] (by simpa [onceR_def] using h1)
 rw [onceR_def (onceR x), h2]; rfl
theorem filter_filterR (n m : Nd) (z : Rows) : filterR n (filterR m z) = filterR m (filterR n z) := by
 simp only [filterR_eq, List.filter_filter]
 congr 1
 funext r
 exact Bool.and_comm _ _
theorem srt_filter (k : List Int → Int) (p : List Int → Bool) (z : Rows) : (srt k z).filter p = srt k (z.filter p) := by
 obtain ⟨h1, h2, _⟩ := srt_ok (key := k) z
 refine srt_of (List.Pairwise.filter p h1) (fun v => ?_)
 have := h2 v
 rw [List.filter_filter, List.filter_filter]
 have e : ∀ l : Rows, l.filter (fun x => (k x == v) && p x) = (l.filter (fun x => k x == v)).filter p := fun l => by
  rw [List.filter_filter]
  congr 1
  funext x
  exact Bool.and_comm _ _
 rw [e, e, this]
theorem once_srt (k : List Int → Int) (z : Rows) : onceR (srt k z) = srt k (onceR z) := by
 obtain ⟨h1, h2, _⟩ := srt_ok (key := k) z
 refine srt_of (List.Pairwise.sublist (onceR_sublist _) h1) (fun v => ?_)
 rw [onceR_filter, onceR_filter, h2 v]
theorem flatMap_bif {T : Type} (p : T → Bool) (f : T → Rows) : ∀ z : List T, z.flatMap (fun r => bif p r then f r else []) = (z.filter p).flatMap f
 | [] => rfl
 | r :: z => by
  simp only [List.flatMap_cons, List.filter_cons, flatMap_bif p f z]
  cases p r <;> simp
theorem kc_left {c : Int} {l r : List Int} (h0 : 0 ≤ c) (h : c < l.length) : kc c (l ++ r) = kc c l := by
 unfold kc
 rw [List.getD_eq_getElem?_getD, List.getD_eq_getElem?_getD, List.getElem?_append_left (by omega)]
theorem kc_right {c : Int} {l r : List Int} (h0 : (l.length : Int) ≤ c) : kc c (l ++ r) = kc (c - l.length) r := by
 unfold kc
 rw [List.getD_eq_getElem?_getD, List.getD_eq_getElem?_getD, List.getElem?_append_right (by omega)]
 congr 2
 omega
theorem filter_flatMap {T : Type} (p : List Int → Bool) (f : T → Rows) : ∀ z : List T, (z.flatMap f).filter p = z.flatMap fun t => (f t).filter p
 | [] => rfl
 | t :: z => by simp only [List.flatMap_cons, List.filter_append, filter_flatMap p f z]
theorem flatMap_congr2 {T : Type} {f g : T → Rows} : ∀ {z : List T}, (∀ t ∈ z, f t = g t) → z.flatMap f = z.flatMap g
 | [], _ => rfl
 | t :: z, h => by
  simp only [List.flatMap_cons]
  rw [h t (by simp), flatMap_congr2 (fun u hu => h u (by simp [hu]))]
theorem filter_joinL {n m : Nd} {x y : Rows} {w : Int} (hx : WR w x) (h0 : 0 ≤ n.2.2.1) (h1 : n.2.2.1 < w) : filterR n (joinR m x y) = joinR m (filterR n x) y := by
 have e : joinR m (filterR n x) y = x.flatMap fun l => bif holds n (kc n.2.2.1 l) then (y.flatMap fun r => bif !(decide (kc m.2.2.1 l = -2000000)) && decide (kc m.2.2.1 l = kc m.2.2.2.2.1 r) then [l ++ r] else []) else [] := by
  unfold joinR
  rw [filterR_eq, flatMap_bif]
 rw [e, filterR_eq]
 unfold joinR
 rw [filter_flatMap]
 refine flatMap_congr2 (fun l hl => ?_)
 have hw := hx l hl
 rw [filter_flatMap]
 have e2 : ∀ r : List Int, (bif !(decide (kc m.2.2.1 l = -2000000)) && decide (kc m.2.2.1 l = kc m.2.2.2.2.1 r) then [l ++ r] else []).filter (fun q => holds n (kc n.2.2.1 q)) =
   bif holds n (kc n.2.2.1 l) then (bif !(decide (kc m.2.2.1 l = -2000000)) && decide (kc m.2.2.1 l = kc m.2.2.2.2.1 r) then [l ++ r] else []) else [] := by
  intro r
  have hk := kc_left (c := n.2.2.1) (l := l) (r := r) h0 (by omega)
  cases hb : (!(decide (kc m.2.2.1 l = -2000000)) && decide (kc m.2.2.1 l = kc m.2.2.2.2.1 r)) <;> cases hh : holds n (kc n.2.2.1 l) <;> simp [hk, hh]
 rw [flatMap_congr2 (fun r _ => e2 r)]
 cases holds n (kc n.2.2.1 l) <;> simp
theorem filter_joinR {n m : Nd} {x y : Rows} {w : Int} (hx : WR w x) (h0 : w ≤ n.2.2.1) : filterR n (joinR m x y) = joinR m x (filterR (colN n (n.2.2.1 - w)) y) := by
 rw [filterR_eq]
 unfold joinR
 rw [filter_flatMap]
 refine flatMap_congr2 (fun l hl => ?_)
 have hw := hx l hl
 rw [filter_flatMap, filterR_eq, ← flatMap_bif]
 refine flatMap_congr2 (fun r _ => ?_)
 have hk := kc_right (c := n.2.2.1) (l := l) (r := r) (by omega)
 rw [hw] at hk
 have hh : ∀ v, holds (colN n (n.2.2.1 - w)) v = holds n v := fun v => rfl
 have hc : (colN n (n.2.2.1 - w)).2.2.1 = n.2.2.1 - w := rfl
 rw [hh, hc]
 cases hb : (!(decide (kc m.2.2.1 l = -2000000)) && decide (kc m.2.2.1 l = kc m.2.2.2.2.1 r)) <;> cases h2 : holds n (kc (n.2.2.1 - w) r) <;> simp [hk, h2]
theorem kc_map {l : List Int} {c : Int} (r : List Int) (h : c < l.length) (h0 : 0 ≤ c) : kc c (l.map fun c => kc c r) = kc (pick l c) r := by
 have hl : c.toNat < l.length := by omega
 unfold pick
 have e : kc c (l.map fun c => kc c r) = ((l.map fun c => kc c r)[c.toNat]?).getD 0 := by unfold kc; rw [List.getD_eq_getElem?_getD]
 rw [e, List.getElem?_map, List.getElem?_eq_getElem hl]
 rfl
theorem turn_evR {s : List Tb} {st : List Rows} (hst : storeOk s st = true) {r : Int} {u u' : PT} (g : Good u) (w : (wT s u).isSome = true) (h : turn s r u = some u') : evR s st u' = evR s st u := by
 cases u with
 | n0 n => cases h
 | n2 n a b => cases h
 | n1 n c =>
  simp only [turn] at h
  split at h
  rotate_left
  ·cases h
  rename_i hk
  obtain ⟨hm, hm2⟩ := hk
  have hr : okIn r 0 11 = true := by
   cases hr : okIn r 0 11 with
   | true => rfl
   | false => rw [ovr_out hr] at hm; exact absurd hm (neg_kind g)
  have hn := g.nodes n (by simp [PT.flat])
  rcases shapes g with ⟨m, rfl, har⟩ | ⟨m, d, rfl, har⟩ | ⟨m, d, e, rfl, har⟩
  ·cases h
  ·simp only [PT.hd] at hm2
   have hmo := g.nodes m (by simp [PT.flat])
   cases hwd : wT s d with
   | none => simp only [wT, hwd] at w; cases w
   | some x =>
   rcases rules hr with rfl | rfl | rfl | rfl | rfl | rfl | rfl | rfl | rfl | rfl | rfl | rfl
   ·have hk : n.1 = 1 := hm
    have hk2 : m.1 = 1 := hm2
    cases h
    simp only [evR, op1, hk, hk2, if_true]
    exact filter_filterR m n _
   ·have hk : n.1 = 1 := hm
    have hk2 : m.1 = 5 := hm2
    cases h
    simp only [evR, op1, hk, hk2, if_true, show ¬ (5 : Int) = 1 by omega, show ¬ (5 : Int) = 2 by omega, if_false]
    rw [filterR_eq, filterR_eq, srt_filter]
   ·have hk : n.1 = 6 := hm
    have hk2 : m.1 = 6 := hm2
    simp [turnC] at h
    obtain ⟨_, rfl⟩ := h
    have hk3 : (limN n m).1 = 6 := hk
    have e : (limN n m).2.2.2.2.1 = min n.2.2.2.2.1 m.2.2.2.2.1 := rfl
    simp only [evR, op1, hk, hk2, hk3, e, show ¬ (6 : Int) = 1 by omega, show ¬ (6 : Int) = 2 by omega, show ¬ (6 : Int) = 5 by omega, if_false, if_true]
    rw [List.take_take]
    congr 1
    omega
   ·have hk : n.1 = 5 := hm
    have hk2 : m.1 = 5 := hm2
    simp [turnC] at h
    obtain ⟨hc, rfl⟩ := h
    simp only [evR, op1, hk, hk2, show ¬ (5 : Int) = 1 by omega, show ¬ (5 : Int) = 2 by omega, if_false, if_true, hc]
    exact (srt_self (srt_ok _).1).symm
   ·have := ovr_two (r := 4) (by simp); rw [← hm2] at this; omega
   ·have := ovr_two (r := 5) (by simp); rw [← hm2] at this; omega
   ·have := ovr_two (r := 6) (by simp); rw [← hm2] at this; omega
   ·have hk : n.1 = 7 := hm
    have hk2 : m.1 = 7 := hm2
    simp [turnC] at h
    subst h
    simp only [evR, op1, hk, hk2, show ¬ (7 : Int) = 1 by omega, show ¬ (7 : Int) = 2 by omega, show ¬ (7 : Int) = 5 by omega, show ¬ (7 : Int) = 6 by omega, if_false]
    exact (onceR_self _).symm
   ·have hk : n.1 = 2 := hm
    have hk2 : m.1 = 2 := hm2
    simp [turnC] at h
    subst h
    have hk3 : (colsN m (n.2.2.2.2.2.2.1.map (pick m.2.2.2.2.2.2.1))).1 = 2 := hk2
    simp only [evR, op1, hk, hk2, hk3, show ¬ (2 : Int) = 1 by omega, if_false, if_true]
    have hall : ∀ c ∈ n.2.2.2.2.2.2.1, c < (m.2.2.2.2.2.2.1.length : Int) := by
     simp only [wT, hwd, hk, hk2, if_true] at w
     split at w
     ·cases w
     ·rename_i v hv
      split at hv
      ·cases hv
       split at w
       ·rename_i h1
        intro c hc
        have := List.all_eq_true.1 h1 c hc
        simpa using this
       ·cases w
      ·cases hv
    have hc0 := (nodeOk_keep hn hk).2.2
    simp only [keepR, List.map_map]
    refine List.map_congr_left (fun q _ => ?_)
    show (n.2.2.2.2.2.2.1.map (pick m.2.2.2.2.2.2.1)).map (fun c => kc c q) = n.2.2.2.2.2.2.1.map fun c => kc c (m.2.2.2.2.2.2.1.map fun c => kc c q)
    rw [List.map_map]
    refine List.map_congr_left (fun c hc => ?_)
    exact (kc_map q (hall c hc) (hc0 c hc).1).symm
   ·have hk : n.1 = 6 := hm
    have hk2 : m.1 = 2 := hm2
    simp [turnC] at h
    subst h
    simp only [evR, op1, hk, hk2, show ¬ (2 : Int) = 1 by omega, show ¬ (6 : Int) = 1 by omega, show ¬ (6 : Int) = 2 by omega, show ¬ (6 : Int) = 5 by omega, if_false, if_true]
    simp only [keepR, List.map_take]
   ·have hk : n.1 = 1 := hm
    have hk2 : m.1 = 2 := hm2
    simp [turnC] at h
    subst h
    have hk3 : (colN n (pick m.2.2.2.2.2.2.1 n.2.2.1)).1 = 1 := hk
    simp only [evR, op1, hk, hk2, hk3, show ¬ (2 : Int) = 1 by omega, if_false, if_true]
    have hc0 := node_col hn (.inl hk)
    have hlt : n.2.2.1 < (m.2.2.2.2.2.2.1.length : Int) := by
     simp only [wT, hwd, hk, hk2, if_true, show ¬ (1 : Int) = 2 by omega, if_false, true_or] at w
     split at w
     ·cases w
     ·rename_i v hv
      split at hv
      ·cases hv
       split at w
       ·rename_i h1; exact h1
       ·cases w
      ·cases hv
    rw [filterR_eq, filterR_eq]
    simp only [keepR, List.filter_map]
    congr 1
    refine List.filter_congr (fun q _ => ?_)
    simp only [Function.comp]
    rw [kc_map q hlt hc0]
    rfl
   ·have hk : n.1 = 7 := hm
    have hk2 : m.1 = 5 := hm2
    simp [turnC] at h
    subst h
    simp only [evR, op1, hk, hk2, show ¬ (5 : Int) = 1 by omega, show ¬ (5 : Int) = 2 by omega, show ¬ (7 : Int) = 1 by omega, show ¬ (7 : Int) = 2 by omega, show ¬ (7 : Int) = 5 by omega, show ¬ (7 : Int) = 6 by omega, if_false, if_true]
    exact (once_srt _ _).symm
  ·simp only [PT.hd] at hm2
   cases hwd : wT s d with
   | none => simp only [wT, hwd] at w; cases w
   | some x =>
   cases hwe : wT s e with
   | none => simp only [wT, hwd, hwe] at w; cases w
   | some y =>
   have hx := evR_w hst hwd
   rcases rules hr with rfl | rfl | rfl | rfl | rfl | rfl | rfl | rfl | rfl | rfl | rfl | rfl
   ·have := ovr_one (r := 0) rfl (by simp) (by simp) (by simp); rw [← hm2] at this; omega
   ·have := ovr_one (r := 1) rfl (by simp) (by simp) (by simp); rw [← hm2] at this; omega
   ·have := ovr_one (r := 2) rfl (by simp) (by simp) (by simp); rw [← hm2] at this; omega
   ·have := ovr_one (r := 3) rfl (by simp) (by simp) (by simp); rw [← hm2] at this; omega
   ·have hk : n.1 = 1 := hm
    have hk2 : m.1 = 4 := hm2
    simp [turnC] at h
    subst h
    simp only [evR, op1, op2, hk, hk2, show ¬ (4 : Int) = 3 by omega, if_false, if_true]
    rw [filterR_eq, filterR_eq, filterR_eq, List.filter_append]
   ·have hk : n.1 = 1 := hm
    have hk2 : m.1 = 3 := hm2
    simp [turnC, hwd, oint] at h
    obtain ⟨hc, rfl⟩ := h
    simp only [evR, op1, op2, hk, hk2, if_true]
    exact (filter_joinL hx (node_col hn (.inl hk)) hc).symm
   ·have hk : n.1 = 1 := hm
    have hk2 : m.1 = 3 := hm2
    simp [turnC, hwd, oint] at h
    obtain ⟨hc, rfl⟩ := h
    have hk3 : (colN n (n.2.2.1 - x)).1 = 1 := hk
    simp only [evR, op1, op2, hk, hk2, hk3, if_true]
    exact (filter_joinR hx hc).symm
   ·have := ovr_one (r := 7) rfl (by simp) (by simp) (by simp); rw [← hm2] at this; omega
   ·have := ovr_one (r := 8) rfl (by simp) (by simp) (by simp); rw [← hm2] at this; omega
   ·have := ovr_one (r := 9) rfl (by simp) (by simp) (by simp); rw [← hm2] at this; omega
   ·have := ovr_one (r := 10) rfl (by simp) (by simp) (by simp); rw [← hm2] at this; omega
   ·have := ovr_one (r := 11) rfl (by simp) (by simp) (by simp); rw [← hm2] at this; omega
theorem put_evR {s : List Tb} {st : List Rows} : ∀ {t : PT} {k : Nat} {u v : PT}, (subs t)[k]? = some u → evR s st v = evR s st u → evR s st (put t k v) = evR s st t
 | .n0 n, 0, u, v, h, hw => by simp [subs] at h; subst h; simpa [put] using hw
 | .n1 n a, 0, u, v, h, hw => by simp [subs] at h; subst h; simpa [put] using hw
 | .n2 n a b, 0, u, v, h, hw => by simp [subs] at h; subst h; simpa [put] using hw
 | .n0 n, k + 1, u, v, h, _ => by simp [subs] at h
 | .n1 n a, k + 1, u, v, h, hw => by
  have h' : (subs a)[k]? = some u := by simpa [subs] using h
  simp only [put, evR, put_evR h' hw]
 | .n2 n a b, k + 1, u, v, h, hw => by
  have h' : (subs a ++ subs b)[k]? = some u := by simpa [subs] using h
  simp only [put]
  by_cases hk : k < a.size
  ·rw [if_pos hk]
   rw [List.getElem?_append_left (by simpa using hk)] at h'
   simp only [evR, put_evR h' hw]
  ·rw [if_neg hk]
   rw [List.getElem?_append_right (by simp; omega), subs_len] at h'
   simp only [evR, put_evR h' hw]
def rowsM (s : List Tb) (st : List Rows) (p : List Nd) : Rows := match planT p with
 | some t => evR s st t
 | none => []
theorem step_rows {s : List Tb} {st : List Rows} (hst : storeOk s st = true) {p q : List Nd} (hp : typedOk s p = true) {x : Sp} (h : applyM s p x = (q, true)) : rowsM s st q = rowsM s st p := by
 obtain ⟨t, rfl, ht⟩ := typedOk_iff.1 hp
 obtain ⟨k, u, u', _, hu, hu', rfl, h1, h2, h3⟩ := applyM_tree ht h
 unfold rowsM
 rw [planT_flat h1, planT_flat ht.plan]
 have hm := mem_of_get hu
 exact put_evR hu (turn_evR hst (subs_good ht.plan.good hm) (subs_w ht.w hm) hu')
end Go.Proofs.YtlebkomgiibknaaDoorX
namespace Go.Proofs.YtlebkomgiibknaaDoorX
open Go Go.Proofs.YtlebkomgiibknaaDoorT PT
set_option linter.all false
structure Cu (b : List Int) (i : Int) : Prop where
 len : b.length ≤ 1073741824
 lo : 0 ≤ i
end Go.Proofs.YtlebkomgiibknaaDoorX
namespace Go.Proofs.YtlebkomgiibknaaDoorX
open Go Go.Proofs.YtlebkomgiibknaaDoorT PT
set_option linter.all false
structure Sm (N c : Nat) (p : List Nd) : Prop where
 len : p.length ≤ N
 nodes : ∀ n ∈ p, n.2.1.size ≤ 100 ∧ n.2.2.2.2.2.2.1.length ≤ c
theorem Sm.mono {N M c d : Nat} {p : List Nd} (h : Sm N c p) (h1 : N ≤ M) (h2 : c ≤ d) : Sm M d p := ⟨Nat.le_trans h.len h1, fun n hn => ⟨(h.nodes n hn).1, Nat.le_trans (h.nodes n hn).2 h2⟩⟩
theorem Sm.one {c : Nat} {n : Nd} (h1 : n.2.1.size ≤ 100) (h2 : n.2.2.2.2.2.2.1.length ≤ c) : Sm 1 c [n] := ⟨by simp, fun m hm => by rw [List.mem_singleton.1 hm]; exact ⟨h1, h2⟩⟩
theorem Sm.app {N M c : Nat} {p q : List Nd} (h : Sm N c p) (k : Sm M c q) : Sm (N + M) c (p ++ q) := ⟨by have := h.len; have := k.len; simp; omega, fun n hn => (List.mem_append.1 hn).elim (h.nodes n) (k.nodes n)⟩
end Go.Proofs.YtlebkomgiibknaaDoorX
namespace Go.Proofs.YtlebkomgiibknaaDoorX
open Go Go.Proofs.YtlebkomgiibknaaDoorT PT
set_option linter.all false
theorem Sm.set {N c : Nat} {p : List Nd} (h : Sm N c p) (k : Nat) {n : Nd} (hn : n.2.1.size ≤ 100 ∧ n.2.2.2.2.2.2.1.length ≤ c) : Sm N c (p.set k n) := ⟨by simpa using h.len, fun m hm => (List.mem_or_eq_of_mem_set hm).elim (h.nodes m) (fun e => e ▸ hn)⟩
end Go.Proofs.YtlebkomgiibknaaDoorX
namespace Go.Proofs.YtlebkomgiibknaaDoorX
open Go Go.Proofs.YtlebkomgiibknaaDoorT PT
set_option linter.all false
structure Ss (N c : Nat) (s : List Tb) : Prop where
 len : s.length ≤ N
 names : ∀ t ∈ s, t.1.size ≤ c
theorem Ss.mono {N M c d : Nat} {p : List Tb} (h : Ss N c p) (h1 : N ≤ M) (h2 : c ≤ d) : Ss M d p := ⟨Nat.le_trans h.len h1, fun n hn => Nat.le_trans (h.names n hn) h2⟩
theorem Ss.set {N c : Nat} {p : List Tb} (h : Ss N c p) (k : Nat) {n : Tb} (hn : n.1.size ≤ c) : Ss N c (p.set k n) := ⟨by simpa using h.len, fun m hm => (List.mem_or_eq_of_mem_set hm).elim (h.names m) (fun e => e ▸ hn)⟩
end Go.Proofs.YtlebkomgiibknaaDoorX
namespace Go.Proofs.YtlebkomgiibknaaDoorX
open Go Go.Proofs.YtlebkomgiibknaaDoorT PT
set_option linter.all false
inductive Chain (s : List Tb) (rules : List Int) : List Nd → List Sp → List Nd → Prop where
 | nil (p : List Nd) : Chain s rules p [] p
 | cons {p p' q : List Nd} {x : Sp} {xs : List Sp} (hp : typedOk s p = true) (ha : applyM s p x = (p', true)) (hr : hasR rules x = true) (h : Chain s rules p' xs q) : Chain s rules p (x :: xs) q
theorem Chain.rows {s : List Tb} {rules : List Int} {st : List Rows} (hst : storeOk s st = true) {p q : List Nd} {xs : List Sp} (h : Chain s rules p xs q) : rowsM s st q = rowsM s st p := by
 induction h with
 | nil p => rfl
 | cons hp ha hr h ih => rw [ih, step_rows hst hp ha]
end Go.Proofs.YtlebkomgiibknaaDoorX
namespace Go.Proofs.YtlebkomgiibknaaDoorX
open Go Go.Proofs.YtlebkomgiibknaaDoorT
set_option linter.all false
def bA (l : List UInt8) : ByteArray := ⟨l.toArray⟩
theorem bA_app (a b : List UInt8) : bA a ++ bA b = bA (a ++ b) := by
 apply ByteArray.ext
 simp [bA]
theorem bA_size (a : List UInt8) : (bA a).size = a.length := by simp [bA, ByteArray.size]
theorem bA_data (t : ByteArray) : bA t.data.toList = t := by apply ByteArray.ext; simp [bA]
theorem digit_byte {u : Nat} (h : u < 10) : bsOf [IntKind.u8.wrap (IntKind.i64.wrap (48 + (u : Int)))] = bA [UInt8.ofNat (48 + u)] := by
 have h1 : IntKind.i64.wrap (48 + (u : Int)) = 48 + u := wrap_sml (by omega) (by omega)
 have h2 : IntKind.u8.wrap (48 + (u : Int)) = 48 + u := by
  have : u = 0 ∨ u = 1 ∨ u = 2 ∨ u = 3 ∨ u = 4 ∨ u = 5 ∨ u = 6 ∨ u = 7 ∨ u = 8 ∨ u = 9 := by omega
  rcases this with rfl | rfl | rfl | rfl | rfl | rfl | rfl | rfl | rfl | rfl <;> rfl
 rw [h1, h2]
 have h3 : (48 + (u : Int)).toNat = 48 + u := by omega
 apply ByteArray.ext
 simp [bsOf, bA, h3]
theorem decDigits_small {u : Nat} (h : u < 10) : Lib.decDigits u = [UInt8.ofNat (48 + u)] := by rw [Lib.decDigits, dif_pos h]
theorem decDigits_big {u : Nat} (h : ¬ u < 10) : Lib.decDigits u = Lib.decDigits (u / 10) ++ [UInt8.ofNat (48 + u % 10)] := by rw [Lib.decDigits, dif_neg h]
def digs (u : Nat) (t : List UInt8) : List UInt8 := if u = 0 then t else Lib.decDigits u ++ t
theorem digs_step {u : Nat} (h : u ≠ 0) (t : List UInt8) : digs (u / 10) (UInt8.ofNat (48 + u % 10) :: t) = digs u t := by
 unfold digs
 rw [if_neg h]
 by_cases hs : u < 10
 ·rw [if_pos (by omega), decDigits_small hs, Nat.mod_eq_of_lt hs]; rfl
 ·rw [if_neg (by omega), decDigits_big hs]; simp
theorem addx_bA {a b : List UInt8} (h : a.length + b.length ≤ 4611686018427387904) : addx (bA a) (bA b) = some (bA (a ++ b)) := by
 unfold addx
 rw [bA_size, bA_size, Nat.ble_eq_true_of_le h, cond_true, bA_app]
theorem tmod_abs (v : Int) : v.tmod 10 = if v < 0 then -((v.natAbs % 10 : Nat) : Int) else ((v.natAbs % 10 : Nat) : Int) := by
 by_cases h : v < 0
 ·rw [if_pos h]
  obtain ⟨u, rfl⟩ : ∃ u : Nat, v = -(u : Int) := ⟨v.natAbs, by omega⟩
  rw [Int.neg_tmod]
  simp [Int.natAbs_neg]
  rfl
 ·rw [if_neg h]
  obtain ⟨u, rfl⟩ : ∃ u : Nat, v = (u : Int) := ⟨v.natAbs, by omega⟩
  rfl
theorem tdiv_abs (v : Int) : (v.tdiv 10).natAbs = v.natAbs / 10 := by
 rw [Int.natAbs_tdiv]; rfl
theorem num_loop (v : Int) (t : ByteArray) (k : Nat) (h0 : -9223372036854775808 ≤ v) (h1 : v ≤ 9223372036854775807) (hk : v.natAbs < 10 ^ k) (ht : t.size + k ≤ 100) :
  loopF (fun f s => L_spec_l01Numx0 f s.1 s.2) (v, t) = some (.go (bA (digs v.natAbs t.data.toList))) := by
 refine loopF_ind (S := Int × ByteArray) (A := Ex ByteArray ByteArray) (fun s => s.1.natAbs) (fun s => -9223372036854775808 ≤ s.1 ∧ s.1 ≤ 9223372036854775807 ∧ ∃ k, s.1.natAbs < 10 ^ k ∧ s.2.size + k ≤ 100) (fun s => .go (bA (digs s.1.natAbs s.2.data.toList))) ?_ (v, t) ⟨h0, h1, k, hk, ht⟩
 rintro ⟨v, t⟩ ⟨h0, h1, k, hk, ht⟩ g hg
 simp only at h0 h1 hk ht ⊢
 unfold L_spec_l01Numx0
 by_cases hv : v = 0
 ·subst hv
  simp [digs, bA_data]
 ·have hb : (v != 0) = true := bne_iff_ne.2 hv
  have hk1 : k ≠ 0 := by rintro rfl; simp at hk; omega
  obtain ⟨k', rfl⟩ := Nat.exists_eq_succ_of_ne_zero hk1
  have hu : v.natAbs % 10 < 10 := Nat.mod_lt _ (by decide)
  have hrem : remx v 10 = some (v.tmod 10) := rfl
  have hd : (joinK (bif decide (v.tmod 10 < 0) then some (Ex.go (R := Ex ByteArray ByteArray) (IntKind.i64.wrap (0 - v.tmod 10))) else some (.go (v.tmod 10))) fun s => J_spec_l01Numx1 v t g s) = J_spec_l01Numx1 v t g ((v.natAbs % 10 : Nat) : Int) := by
   rw [tmod_abs]
   by_cases hn : v < 0
   ·rw [if_pos hn]
    by_cases hz : v.natAbs % 10 = 0
    ·simp [hz]
    ·have : decide (-((v.natAbs % 10 : Nat) : Int) < 0) = true := by simp; omega
     rw [this, cond_true, joinK_go, show 0 - -((v.natAbs % 10 : Nat) : Int) = ((v.natAbs % 10 : Nat) : Int) by omega, wrap_sml (by omega) (by omega)]
   ·rw [if_neg hn]
    have : decide (((v.natAbs % 10 : Nat) : Int) < 0) = false := by simp; omega
    rw [this, cond_false, joinK_go]
  have hq : quox v 10 = some (v.tdiv 10) := by
   unfold quox
   have hab := tdiv_abs v
   rw [show ((10 : Int) == 0) = false from rfl, cond_false, wrap_sml (by omega) (by omega)]
  have hpw : 10 ^ (k' + 1) = 10 * 10 ^ k' := by rw [Nat.pow_succ]; omega
  have hab := tdiv_abs v
  rw [hb, cond_true, hrem, Option.bind_some, hd]
  unfold J_spec_l01Numx1
  rw [digit_byte hu]
  have ha : addx (bA [UInt8.ofNat (48 + v.natAbs % 10)]) t = some (bA (UInt8.ofNat (48 + v.natAbs % 10) :: t.data.toList)) := by
   have := addx_bA (a := [UInt8.ofNat (48 + v.natAbs % 10)]) (b := t.data.toList) (by simp; have : t.data.size = t.size := rfl; omega)
   rw [bA_data] at this
   exact this
  rw [ha, hq]
  simp only [Option.bind_some]
  rw [hg _ ⟨by simp only; omega, by simp only; omega, k', by simp only; omega, by simp only [bA_size, List.length_cons, Array.length_toList]; have : t.data.size = t.size := rfl; omega⟩ (by simp only; omega)]
  simp only [hab]
  rw [show (bA (UInt8.ofNat (48 + v.natAbs % 10) :: t.data.toList)).data.toList = UInt8.ofNat (48 + v.natAbs % 10) :: t.data.toList by simp [bA], digs_step (by omega)]
theorem nDigits_le : ∀ (k u : Nat), u < 10 ^ (k + 1) → Lib.nDigits u ≤ k + 1
 | 0, u, h => by rw [Lib.nDigits_small (by simpa using h)]; omega
 | k + 1, u, h => by
  by_cases hs : u < 10
  ·rw [Lib.nDigits_small hs]; omega
  ·rw [Lib.nDigits_big hs]
   have : 10 ^ (k + 1 + 1) = 10 * 10 ^ (k + 1) := by rw [Nat.pow_succ]; omega
   have := nDigits_le k (u / 10) (by omega)
   omega
theorem dec_len {u : Nat} (h : u < 100000000000000000000) : (Lib.decDigits u).length ≤ 20 := by
 rw [Lib.decDigits_length]
 exact nDigits_le 19 u h
def numT (a : Int) : ByteArray := bA (Lib.itoa a)
theorem V_spec_l01Num {a : Int} (h0 : -9223372036854775808 ≤ a) (h1 : a ≤ 9223372036854775807) : F_spec_l01Num a = some (numT a) := (U_spec_l01Num a).out (by
 unfold numT Lib.itoa
 by_cases ha : a = 0
 ·subst ha
  simp [decDigits_small]
  rfl
 ·have hb : (a == 0) = false := by simp [ha]
  rw [hb, cond_false, num_loop a ByteArray.empty 19 h0 h1 (by omega) (by decide), joinK_go]
  unfold J_spec_l01Numx0 digs
  have hn : ¬ a.natAbs = 0 := by omega
  rw [if_neg hn]
  have he : ByteArray.empty.data.toList = [] := rfl
  rw [he, List.append_nil]
  by_cases hneg : a < 0
  ·have hm : (⟨#[45]⟩ : ByteArray) = bA [45] := rfl
   have hl : (Lib.decDigits a.natAbs).length ≤ 20 := dec_len (by omega)
   rw [decide_eq_true hneg, cond_true, if_pos hneg, hm, addx_bA (by simp; omega)]
   rfl
  ·rw [decide_eq_false hneg, cond_false, if_neg hneg, show a.toNat = a.natAbs by omega])
end Go.Proofs.YtlebkomgiibknaaDoorX
namespace Go.Proofs.YtlebkomgiibknaaDoorX
open Go Go.Proofs.YtlebkomgiibknaaDoorT PT
set_option linter.all false
def cellT (v : Int) : List UInt8 := if v = -2000000 then [45] else Lib.itoa v
def rowT (row : List Int) : List UInt8 := if row = [] then [40, 41] else Lib.join (row.map cellT) [44]
theorem itoa_len {a : Int} (h0 : -9223372036854775808 ≤ a) (h1 : a ≤ 9223372036854775807) : (Lib.itoa a).length ≤ 21 := by
 unfold Lib.itoa
 split
 ·have := dec_len (u := a.natAbs) (by omega); simp; omega
 ·have := dec_len (u := a.toNat) (by omega); omega
def VB (r : List Int) : Prop := ∀ v ∈ r, -2000000 ≤ v ∧ v ≤ 1000000
theorem cellT_len {v : Int} (h : -2000000 ≤ v ∧ v ≤ 1000000) : (cellT v).length ≤ 21 := by
 unfold cellT
 split
 ·simp
 ·exact itoa_len (by omega) (by omega)
theorem lens_le {T : Type} (f : T → List UInt8) (b : Nat) : ∀ (l : List T), (∀ x ∈ l, (f x).length ≤ b) → Lib.lens (l.map f) ≤ b * l.length
 | [], _ => by simp [Lib.lens]
 | x :: l, h => by
  have h1 := h x (by simp)
  have h2 := lens_le f b l (fun y hy => h y (by simp [hy]))
  simp only [Lib.lens, List.map_cons, List.sum_cons, List.length_cons] at h2 ⊢
  rw [Nat.mul_succ]
  omega
theorem joinT_len {T : Type} (f : T → List UInt8) (b : Nat) (l : List T) (h : ∀ x ∈ l, (f x).length ≤ b) : (Lib.join (l.map f) [44]).length ≤ (b + 1) * l.length := by
 cases l with
 | nil => simp [Lib.join_nil]
 | cons x l =>
  have := lens_le f b (x :: l) h
  rw [List.map_cons, Lib.join_length, ← List.map_cons]
  have e : (b + 1) * (x :: l).length = b * (x :: l).length + (x :: l).length := by rw [Nat.add_mul, Nat.one_mul]
  rw [e]
  simp only [List.length_cons, List.length_nil, List.length_map] at this ⊢
  omega
theorem rowT_len {r : List Int} (h : VB r) : (rowT r).length ≤ 2 + 22 * r.length := by
 unfold rowT
 split
 ·simp
 ·have := joinT_len cellT 21 r (fun x hx => cellT_len (h x hx)); omega
theorem join_snoc (l : List (List UInt8)) (x : List UInt8) (h : l ≠ []) : Lib.join (l ++ [x]) [44] = Lib.join l [44] ++ 44 :: x := by
 obtain ⟨y, l, rfl⟩ := List.exists_cons_of_ne_nil h
 rw [List.cons_append, Lib.join_cons, Lib.join_cons]
 simp [Lib.joinTail]
def VR (x : Rows) : Prop := ∀ r ∈ x, VB r
theorem valOk_vb {v : Int} (h : valOk v = true) : -2000000 ≤ v ∧ v ≤ 1000000 := by
 unfold valOk at h
 rw [Bool.or_eq_true] at h
 rcases h with h | h
 ·have := okIn_iff.1 h; omega
 ·have := of_decide_eq_true h; omega
theorem vb_kc {c : Int} {r : List Int} (h : VB r) : -2000000 ≤ kc c r ∧ kc c r ≤ 1000000 := by
 unfold kc
 rw [List.getD_eq_getElem?_getD]
 cases hx : r[c.toNat]? with
 | none => simp
 | some v => simpa using h v (List.mem_of_getElem? hx)
theorem VR.op1 {n : Nd} {x : Rows} (h : VR x) : VR (op1 n x) := by
 unfold Go.Proofs.YtlebkomgiibknaaDoorX.op1
 split
 ·rw [filterR_eq]; exact fun r hr => h r (List.mem_filter.1 hr).1
 ·split
  ·intro r hr
   unfold keepR at hr
   obtain ⟨r', hr', rfl⟩ := List.mem_map.1 hr
   intro v hv
   obtain ⟨c, _, rfl⟩ := List.mem_map.1 hv
   exact vb_kc (h r' hr')
  ·split
   ·exact fun r hr => h r (srt_mem.1 hr)
   ·split
    ·exact fun r hr => h r (List.mem_of_mem_take hr)
    ·exact fun r hr => h r ((onceR_sublist x).subset hr)
theorem VR.op2 {n : Nd} {x y : Rows} (h : VR x) (k : VR y) : VR (op2 n x y) := by
 unfold Go.Proofs.YtlebkomgiibknaaDoorX.op2
 split
 ·intro r hr
  unfold joinR at hr
  obtain ⟨a, ha, hr⟩ := List.mem_flatMap.1 hr
  obtain ⟨b, hb, hr⟩ := List.mem_flatMap.1 hr
  cases hc : !(decide (kc n.2.2.1 a = -2000000)) && decide (kc n.2.2.1 a = kc n.2.2.2.2.1 b) with
  | false => rw [hc] at hr; simp at hr
  | true =>
   rw [hc] at hr
   simp at hr
   subst hr
   intro v hv
   rcases List.mem_append.1 hv with hv | hv
   ·exact h a ha v hv
   ·exact k b hb v hv
 ·intro r hr
  rcases List.mem_append.1 hr with hr | hr
  ·exact h r hr
  ·exact k r hr
theorem storeOk_vr {s : List Tb} {st : List Rows} (h : storeOk s st = true) : ∀ t ∈ st, VR t := by
 unfold storeOk at h
 simp only [Bool.and_eq_true] at h
 intro t ht r hr v hv
 obtain ⟨i, hi⟩ := List.getElem?_of_mem ht
 have hp := allI_get h.2 hi
 unfold storeP at hp
 split at hp
 ·simp only [Bool.and_eq_true] at hp
  have h2 := List.all_eq_true.1 hp.2 r hr
  unfold rowP at h2
  rw [Bool.and_eq_true] at h2
  exact valOk_vb (List.all_eq_true.1 h2.2 v hv)
 ·cases hp
end Go.Proofs.YtlebkomgiibknaaDoorX
namespace Go.Proofs.YtlebkomgiibknaaDoorX
open Go Go.Proofs.YtlebkomgiibknaaDoorT
set_option linter.all false
@[simp] theorem bA_list (l : List UInt8) : (bA l).data.toList = l := by simp [bA]
theorem addx_g {a b : ByteArray} (h : a.size + b.size ≤ 4611686018427387904) : addx a b = some (bA (a.data.toList ++ b.data.toList)) := by
 have := addx_bA (a := a.data.toList) (b := b.data.toList) (by simp only [Array.length_toList]; exact h)
 rwa [bA_data, bA_data] at this
theorem size_list (a : ByteArray) : a.size = a.data.toList.length := by rw [Array.length_toList]; rfl
theorem V_strconv_Itoa {a : Int} (h0 : -9223372036854775808 ≤ a) (h1 : a ≤ 9223372036854775807) : F_strconv_Itoa a = some (numT a) := (U_strconv_Itoa a).out (by
 unfold itoaF
 rw [decide_eq_true h0, decide_eq_true h1]
 rfl)
theorem V_impl_number {a : Int} (h0 : -9223372036854775808 ≤ a) (h1 : a ≤ 9223372036854775807) : F_impl_number a = some (numT a) := (U_impl_number a).out (by rw [V_strconv_Itoa h0 h1]; rfl)
theorem V_strings_Join {xs : List ByteArray} {sep : ByteArray} (h1 : xs.length ≤ 140737488355328) (h2 : (Lib.join (xs.map (·.data.toList)) sep.data.toList).length ≤ 140737488355328) : F_strings_Join xs sep = some (bA (Lib.join (xs.map (·.data.toList)) sep.data.toList), xs) := (U_strings_Join xs sep).out (by
 unfold joinF
 rw [Nat.ble_eq_true_of_le h1, Nat.ble_eq_true_of_le h2]
 rfl)
theorem V_impl_RowText {r : List Int} (hl : r.length ≤ 1073741824) (h : VB r) : F_impl_RowText r = some (bA (rowT r)) := (U_impl_RowText r).out (by
 unfold rowT
 by_cases h0 : r = []
 ·subst h0; rfl
 ·have hz : ((r.length : Int) == 0) = false := by simp [h0]
  have e := loop_map (f := fun f s => L_impl_RowTextx0 r f s.1 s.2) r (fun v => bA (cellT v)) (by omega)
   (fun i v a g hx ha => by
    have l1 := (List.getElem?_eq_some_iff.1 hx).1
    have hv := h v (mem_of_get hx)
    have hw := wrap_nat (show i < 9223372036854775807 by omega)
    simp only [L_impl_RowTextx0, lt_nat hx, cond_true, ix_some hx, Option.bind_some]
    by_cases hn : v = -2000000
    ·subst hn
     rw [show ((-2000000 : Int) == -2000000) = true from rfl, cond_true, apx_some (by simp [ha]; omega)]
     simp only [Option.bind_some, joinK_go, J_impl_RowTextx1, hw]
     rfl
    ·rw [show (v == -2000000) = false by simp [hn], cond_false, V_impl_number (by omega) (by omega), Option.bind_some, apx_some (by simp [ha]; omega)]
     simp only [Option.bind_some, joinK_go, J_impl_RowTextx1, hw, numT, cellT, if_neg hn])
   (fun a g => by simp [L_impl_RowTextx0])
  have hm : (r.map fun v => bA (cellT v)).map (·.data.toList) = r.map cellT := by simp
  have hj := joinT_len cellT 21 r (fun v hv => cellT_len (h v hv))
  have hc : (⟨#[44]⟩ : ByteArray).data.toList = [44] := rfl
  rw [hz, cond_false, e, joinK_go, if_neg h0]
  unfold J_impl_RowTextx0
  rw [V_strings_Join (by simp; omega) (by rw [hm, hc]; omega), hm, hc]
  rfl)
theorem take_join (r : List Int) {k : Nat} {v : Int} (hv : r[k]? = some v) : Lib.join ((r.take (k + 1)).map cellT) [44] = if k = 0 then cellT v else Lib.join ((r.take k).map cellT) [44] ++ 44 :: cellT v := by
 have e : r.take (k + 1) = r.take k ++ [v] := by rw [List.take_add_one, hv]; rfl
 rw [e, List.map_append, List.map_cons, List.map_nil]
 have l1 := (List.getElem?_eq_some_iff.1 hv).1
 by_cases hk : k = 0
 ·subst hk
  simp [Lib.join_one]
 ·rw [if_neg hk, join_snoc]
  intro h
  have := congrArg List.length h
  rw [List.length_map, List.length_take, List.length_nil] at this
  omega
theorem V_spec_RowText {r : List Int} (hl : r.length ≤ 1073741824) (h : VB r) : F_spec_RowText r = some (bA (rowT r)) := (U_spec_RowText r).out (by
 unfold rowT
 by_cases h0 : r = []
 ·subst h0; rfl
 ·have hz : ((r.length : Int) == 0) = false := by simp [h0]
  have key : ∀ k, k ≤ r.length → (Lib.join ((r.take k).map cellT) [44]).length ≤ 22 * k := by
   intro k hk
   have := joinT_len cellT 21 (r.take k) (fun v hv => cellT_len (h v (List.mem_of_mem_take hv)))
   rw [List.length_take, Nat.min_eq_left hk] at this
   exact this
  have e := loopF_ind (S := ByteArray × Int) (A := Ex ByteArray ByteArray) (f := fun f s => L_spec_RowTextx0 r f s.1 s.2) (fun s => r.length - s.2.toNat) (fun s => ∃ k : Nat, s.2 = k ∧ k ≤ r.length ∧ s.1 = bA (Lib.join ((r.take k).map cellT) [44]))
   (fun _ => .go (bA (Lib.join (r.map cellT) [44]))) (by
    rintro ⟨t, i⟩ ⟨k, hk, hkl, ht⟩ g hg
    simp only at hk ht
    subst hk ht
    simp only [L_spec_RowTextx0]
    by_cases hlt : k < r.length
    ·have hx := List.getElem?_eq_getElem hlt
     have hv := h r[k] (mem_of_get hx)
     have hw := wrap_nat (show k < 9223372036854775807 by omega)
     have hkk := key k hkl
     have hcl := cellT_len hv
     rw [lt_nat hx, cond_true]
     have pre : (joinK (bif decide ((k : Int) > 0) then (addx (bA (Lib.join ((r.take k).map cellT) [44])) (⟨#[44]⟩ : ByteArray)).bind (fun z3 => some (Ex.go (R := Ex (Ex ByteArray ByteArray) ByteArray) z3)) else some (.go (bA (Lib.join ((r.take k).map cellT) [44])))) fun s => J_spec_RowTextx2 r k s) =
       J_spec_RowTextx2 r k (bA (Lib.join ((r.take k).map cellT) [44] ++ if k = 0 then [] else [44])) := by
      by_cases hk0 : k = 0
      ·subst hk0; simp
      ·rw [show decide ((k : Int) > 0) = true by simp; omega, cond_true, addx_g (by rw [bA_size]; show _ + 1 ≤ _; omega), if_neg hk0]
       simp only [Option.bind_some, joinK_go, bA_list]
     rw [pre]
     have post : J_spec_RowTextx2 r k (bA (Lib.join ((r.take k).map cellT) [44] ++ if k = 0 then [] else [44])) = some (.go (bA (Lib.join ((r.take (k + 1)).map cellT) [44]))) := by
      have hsz : (bA (Lib.join ((r.take k).map cellT) [44] ++ if k = 0 then [] else [44])).size ≤ 22 * k + 1 := by
       rw [bA_size, List.length_append]
       split <;> simp only [List.length_nil, List.length_cons] <;> omega
      rw [take_join r hx]
      unfold J_spec_RowTextx2
      rw [ix_some hx]
      simp only [Option.bind_some]
      have fin : ∀ c : ByteArray, c.data.toList = cellT r[k] → addx (bA (Lib.join ((r.take k).map cellT) [44] ++ if k = 0 then [] else [44])) c = some (bA (if k = 0 then cellT r[k] else Lib.join ((r.take k).map cellT) [44] ++ 44 :: cellT r[k])) := by
       intro c hc
       have hcs : c.size ≤ 21 := by rw [size_list, hc]; exact hcl
       rw [addx_g (by omega), bA_list, hc]
       by_cases hk0 : k = 0
       ·subst hk0; simp [Lib.join_nil]
       ·simp [hk0]
      by_cases hn : r[k] = -2000000
      ·rw [show (r[k] == -2000000) = true by simp [hn], cond_true, fin ⟨#[45]⟩ (by rw [cellT, if_pos hn])]
       rfl
      ·rw [show (r[k] == -2000000) = false by simp [hn], cond_false, V_spec_l01Num (by omega) (by omega), Option.bind_some, fin (numT r[k]) (by rw [cellT, if_neg hn, numT, bA_list])]
       rfl
     rw [post, joinK_go, J_spec_RowTextx1, hw]
     exact hg _ ⟨k + 1, rfl, by omega, rfl⟩ (by simp only; omega)
    ·have hke : k = r.length := by omega
     subst hke
     simp) (ByteArray.empty, 0) ⟨0, rfl, Nat.zero_le _, by simp [Lib.join_nil]; rfl⟩
  rw [hz, cond_false, e, if_neg h0]
  rfl)
end Go.Proofs.YtlebkomgiibknaaDoorX
namespace Go.Proofs.YtlebkomgiibknaaDoorX
open Go Go.Proofs.YtlebkomgiibknaaDoorT
set_option linter.all false
def rowsT (x : Rows) : List UInt8 := x.flatMap fun r => 32 :: rowT r
def tabT (t : Tb × Rows) : List UInt8 := t.1.1.data.toList ++ 58 :: (rowsT t.2 ++ [10])
def storeT (l : List (Tb × Rows)) : List UInt8 := l.flatMap tabT
structure RSm (x : Rows) : Prop where
 len : x.length ≤ 40
 row : ∀ r ∈ x, VB r ∧ r.length ≤ 6
theorem flat_len {T : Type} (f : T → List UInt8) (b : Nat) : ∀ (l : List T), (∀ x ∈ l, (f x).length ≤ b) → (l.flatMap f).length ≤ b * l.length
 | [], _ => by simp
 | x :: l, h => by
  have h1 := h x (by simp)
  have h2 := flat_len f b l (fun y hy => h y (by simp [hy]))
  simp only [List.flatMap_cons, List.length_append, List.length_cons]
  rw [Nat.mul_succ]
  omega
theorem rowsT_len {x : Rows} (h : RSm x) : (rowsT x).length ≤ 6000 := by
 have := flat_len (fun r => 32 :: rowT r) 150 x (fun r hr => by
  have := rowT_len (h.row r hr).1
  have := (h.row r hr).2
  simp only [List.length_cons]
  omega)
 have := h.len
 unfold rowsT
 omega
theorem rowsT_take {x : Rows} {k : Nat} {r : List Int} (h : x[k]? = some r) : rowsT (x.take (k + 1)) = rowsT (x.take k) ++ 32 :: rowT r := by
 have e : x.take (k + 1) = x.take k ++ [r] := by rw [List.take_add_one, h]; rfl
 rw [e]
 simp [rowsT]
theorem RSm.take {x : Rows} (h : RSm x) (k : Nat) : RSm (x.take k) := ⟨by rw [List.length_take]; have := h.len; omega, fun r hr => h.row r (List.mem_of_mem_take hr)⟩
theorem rows_impl {x : Rows} (h : RSm x) {t : List UInt8} (ht : t.length ≤ 1000000) : loopF (fun f s => L_impl_StoreTextx1 x f s.1 s.2) (bA t, 0) = some (.go (bA (t ++ rowsT x))) := by
 refine loopF_ind (S := ByteArray × Int) (A := Ex (Ex (Ex ByteArray ByteArray) ByteArray) ByteArray) (fun s => x.length - s.2.toNat) (fun s => ∃ k : Nat, s.2 = k ∧ k ≤ x.length ∧ s.1 = bA (t ++ rowsT (x.take k)))
  (fun _ => .go (bA (t ++ rowsT x))) ?_ (bA t, 0) ⟨0, rfl, Nat.zero_le _, by simp [rowsT]⟩
 rintro ⟨b, i⟩ ⟨k, hk, hkl, hb⟩ g hg
 simp only at hk hb
 subst hk hb
 have hxl := h.len
 simp only [L_impl_StoreTextx1]
 by_cases hlt : k < x.length
 ·have hx := List.getElem?_eq_getElem hlt
  have hr := h.row x[k] (mem_of_get hx)
  have hl1 := rowsT_len (h.take k)
  have hl2 := rowT_len hr.1
  rw [lt_nat hx, cond_true, ix_some hx, Option.bind_some, V_impl_RowText (by omega) hr.1, Option.bind_some, addx_g (by rw [bA_size]; show 1 + _ ≤ _; omega)]
  rw [Option.bind_some, addx_g (by rw [bA_size, bA_size, List.length_append, List.length_append, bA_list]; show _ + (1 + _) ≤ _; omega), Option.bind_some, wrap_nat (show k < 9223372036854775807 by omega)]
  exact hg _ ⟨k + 1, rfl, by omega, by simp [rowsT_take hx]⟩ (by simp only; omega)
 ·have hke : k = x.length := by omega
  subst hke
  simp
theorem rows_spec {l : List Rows} {x : Rows} {j : Nat} (hj : l[j]? = some x) (h : RSm x) {t : List UInt8} (ht : t.length ≤ 1000000) : loopF (fun f s => L_spec_StoreTextx1 l j f s.1 s.2) (bA t, 0) = some (.go (bA (t ++ rowsT x))) := by
 refine loopF_ind (S := ByteArray × Int) (A := Ex (Ex (Ex ByteArray ByteArray) ByteArray) ByteArray) (fun s => x.length - s.2.toNat) (fun s => ∃ k : Nat, s.2 = k ∧ k ≤ x.length ∧ s.1 = bA (t ++ rowsT (x.take k)))
  (fun _ => .go (bA (t ++ rowsT x))) ?_ (bA t, 0) ⟨0, rfl, Nat.zero_le _, by simp [rowsT]⟩
 rintro ⟨b, i⟩ ⟨k, hk, hkl, hb⟩ g hg
 simp only at hk hb
 subst hk hb
 have hxl := h.len
 simp only [L_spec_StoreTextx1, ix_some hj, Option.bind_some]
 by_cases hlt : k < x.length
 ·have hx := List.getElem?_eq_getElem hlt
  have hr := h.row x[k] (mem_of_get hx)
  have hl1 := rowsT_len (h.take k)
  have hl2 := rowT_len hr.1
  rw [lt_nat hx, cond_true, addx_g (by rw [bA_size, List.length_append]; show _ + 1 ≤ _; omega), Option.bind_some]
  simp only [ix_some hx, Option.bind_some, V_spec_RowText (show x[k].length ≤ 1073741824 by omega) hr.1]
  rw [addx_g (by rw [bA_size, bA_size, List.length_append, bA_list, List.length_append]; show _ + 1 + _ ≤ _; omega), Option.bind_some, wrap_nat (show k < 9223372036854775807 by omega)]
  exact hg _ ⟨k + 1, rfl, by omega, by simp [rowsT_take hx]⟩ (by simp only; omega)
 ·have hke : k = x.length := by omega
  subst hke
  simp
end Go.Proofs.YtlebkomgiibknaaDoorX
namespace Go.Proofs.YtlebkomgiibknaaDoorX
open Go Go.Proofs.YtlebkomgiibknaaDoorT
set_option linter.all false
theorem storeOk_zip {s : List Tb} {x : List Rows} (h : storeOk s x = true) : x.length = s.length ∧ s.length ≤ 8 ∧ (∀ t ∈ s, t.1.size ≤ 12) ∧ ∀ t ∈ x, RSm t := by
 have hv := storeOk_vr h
 unfold storeOk at h
 simp only [Bool.and_eq_true, decide_eq_true_eq] at h
 have hs := h.1.1
 unfold schemaOk at hs
 simp only [Bool.and_eq_true, decide_eq_true_eq] at hs
 have names : ∀ (i : Nat) (t : Tb), s[i]? = some t → t.1.size ≤ 12 ∧ 1 ≤ t.2.1 ∧ t.2.1 ≤ 6 := by
  intro i t ht
  have hp := allI_get hs.1 ht
  unfold schP at hp
  simp only [Bool.and_eq_true] at hp
  have := okIn_iff.1 hp.1.2
  exact ⟨(wordOk_len hp.1.1).2, by omega, by omega⟩
 refine ⟨h.1.2, hs.2, fun t ht => ?_, fun t ht => ?_⟩
 ·obtain ⟨i, hi⟩ := List.getElem?_of_mem ht
  exact (names i t hi).1
 ·obtain ⟨i, hi⟩ := List.getElem?_of_mem ht
  have hp := allI_get h.2 hi
  unfold storeP at hp
  split at hp
  ·rename_i tb htb
   simp only [Bool.and_eq_true, decide_eq_true_eq] at hp
   refine ⟨hp.1, fun r hr => ⟨hv t ht r hr, ?_⟩⟩
   have h2 := List.all_eq_true.1 hp.2 r hr
   unfold rowP at h2
   rw [Bool.and_eq_true] at h2
   have h3 := of_decide_eq_true h2.1
   rw [Nat.zero_add] at htb
   have h4 := names i tb htb
   omega
  ·cases hp
theorem tabT_len {t : Tb × Rows} (h1 : t.1.1.size ≤ 12) (h2 : RSm t.2) : (tabT t).length ≤ 7000 := by
 have := rowsT_len h2
 have e : t.1.1.data.toList.length = t.1.1.size := (size_list _).symm
 unfold tabT
 simp only [List.length_append, List.length_cons, List.length_nil]
 omega
theorem store_take {s : List Tb} {x : List Rows} {k : Nat} {t : Tb} {r : Rows} (h1 : s[k]? = some t) (h2 : x[k]? = some r) : storeT ((s.zip x).take (k + 1)) = storeT ((s.zip x).take k) ++ tabT (t, r) := by
 have hz : (s.zip x)[k]? = some (t, r) := by
  rw [List.getElem?_zip_eq_some]
  exact ⟨h1, h2⟩
 have e : (s.zip x).take (k + 1) = (s.zip x).take k ++ [(t, r)] := by rw [List.take_add_one, hz]; rfl
 rw [e]
 simp [storeT]
theorem store_take_len {s : List Tb} {x : List Rows} (hn : ∀ t ∈ s, t.1.size ≤ 12) (hr : ∀ t ∈ x, RSm t) (hl : s.length ≤ 8) (k : Nat) : (storeT ((s.zip x).take k)).length ≤ 56000 := by
 have := flat_len tabT 7000 ((s.zip x).take k) (fun t ht => by
  have hm := List.mem_of_mem_take ht
  have := List.of_mem_zip (a := t.1) (b := t.2) hm
  exact tabT_len (hn _ this.1) (hr _ this.2))
 have h2 : ((s.zip x).take k).length ≤ 8 := by rw [List.length_take, List.length_zip]; omega
 unfold storeT
 omega
def storeText (s : List Tb) (x : List Rows) : ByteArray := if storeOk s x = true then bA (storeT (s.zip x)) else ByteArray.empty
theorem V_impl_StoreText {s : List STable} {x : List Rows} (hs : BSch s) (hb : BRows x) : F_impl_StoreText s x = some (storeText s x) := (U_impl_StoreText s x).out (by
 rw [V_impl_StoreOk hs hb]
 unfold storeText
 cases h : storeOk s x with
 | false => rfl
 | true =>
  obtain ⟨hl, h8, hn, hr⟩ := storeOk_zip h
  have e := loopF_ind (S := ByteArray × Int) (A := Ex ByteArray ByteArray) (f := fun f z => L_impl_StoreTextx0 s x f z.1 z.2) (fun z => s.length - z.2.toNat) (fun z => ∃ k : Nat, z.2 = k ∧ k ≤ s.length ∧ z.1 = bA (storeT ((s.zip x).take k)))
   (fun _ => .go (bA (storeT (s.zip x)))) (by
    rintro ⟨b, i⟩ ⟨k, hk, hkl, ht⟩ g hg
    simp only at hk ht
    subst hk ht
    simp only [L_impl_StoreTextx0]
    by_cases hlt : k < s.length
    ·have hx := List.getElem?_eq_getElem hlt
     have hx2 : x[k]? = some x[k] := List.getElem?_eq_getElem (by omega)
     have hw := wrap_nat (show k < 9223372036854775807 by omega)
     have hlen := store_take_len hn hr h8 k
     have hnm := hn s[k] (mem_of_get hx)
     have hrk := hr x[k] (mem_of_get hx2)
     have hrl := rowsT_len hrk
     have hel : s[k].1.data.toList.length = s[k].1.size := (size_list _).symm
     have h58 : (⟨#[58]⟩ : ByteArray).data.toList = [58] := rfl
     have h10 : (⟨#[10]⟩ : ByteArray).data.toList = [10] := rfl
     rw [lt_nat hx, cond_true, ix_some hx, Option.bind_some, addx_g (by show s[k].1.size + 1 ≤ _; omega), Option.bind_some, addx_g (by rw [bA_size, bA_size, List.length_append, h58]; simp only [List.length_cons, List.length_nil]; omega), Option.bind_some, ix_some hx2, Option.bind_some]
     simp only [bA_list, h58]
     rw [rows_impl hrk (by simp only [List.length_append, List.length_cons, List.length_nil]; omega)]
     simp only [joinK_go, J_impl_StoreTextx2]
     rw [addx_g (by rw [bA_size]; simp only [List.length_append, List.length_cons, List.length_nil]; show _ + 1 ≤ _; omega)]
     simp only [Option.bind_some, joinK_go, J_impl_StoreTextx1, hw, bA_list, h10]
     exact hg _ ⟨k + 1, rfl, by omega, by rw [store_take hx hx2]; simp [tabT]⟩ (by simp only; omega)
    ·have hke : k = s.length := by omega
     subst hke
     have : (s.zip x).take s.length = s.zip x := List.take_of_length_le (by rw [List.length_zip]; omega)
     simp [this]) (ByteArray.empty, 0) ⟨0, rfl, Nat.zero_le _, by simp [storeT]; rfl⟩
  simp only [Option.bind_some, Bool.not_true, cond_false, e, joinK_go, if_true]
  rfl)
theorem V_spec_StoreText {s : List STable} {x : List Rows} (hs : BSch s) (hb : BRows x) : F_spec_StoreText s x = some (storeText s x) := (U_spec_StoreText s x).out (by
 rw [V_spec_StoreOk hs hb]
 unfold storeText
 cases h : storeOk s x with
 | false => rfl
 | true =>
  obtain ⟨hl, h8, hn, hr⟩ := storeOk_zip h
  have e := loopF_ind (S := ByteArray × Int) (A := Ex ByteArray ByteArray) (f := fun f z => L_spec_StoreTextx0 s x f z.1 z.2) (fun z => s.length - z.2.toNat) (fun z => ∃ k : Nat, z.2 = k ∧ k ≤ s.length ∧ z.1 = bA (storeT ((s.zip x).take k)))
   (fun _ => .go (bA (storeT (s.zip x)))) (by
    rintro ⟨b, i⟩ ⟨k, hk, hkl, ht⟩ g hg
    simp only at hk ht
    subst hk ht
    simp only [L_spec_StoreTextx0]
    by_cases hlt : k < s.length
    ·have hx := List.getElem?_eq_getElem hlt
     have hx2 : x[k]? = some x[k] := List.getElem?_eq_getElem (by omega)
     have hw := wrap_nat (show k < 9223372036854775807 by omega)
     have hlen := store_take_len hn hr h8 k
     have hnm := hn s[k] (mem_of_get hx)
     have hrk := hr x[k] (mem_of_get hx2)
     have hrl := rowsT_len hrk
     have hel : s[k].1.data.toList.length = s[k].1.size := (size_list _).symm
     have h58 : (⟨#[58]⟩ : ByteArray).data.toList = [58] := rfl
     have h10 : (⟨#[10]⟩ : ByteArray).data.toList = [10] := rfl
     rw [lt_nat hx, cond_true, ix_some hx, Option.bind_some, addx_g (by rw [bA_size]; omega), Option.bind_some, addx_g (by rw [bA_size, List.length_append, bA_list]; show _ + 1 ≤ _; omega), Option.bind_some]
     simp only [bA_list, h58]
     rw [rows_spec hx2 hrk (by simp only [List.length_append, List.length_cons, List.length_nil]; omega)]
     simp only [joinK_go, J_spec_StoreTextx2]
     rw [addx_g (by rw [bA_size]; simp only [List.length_append, List.length_cons, List.length_nil]; show _ + 1 ≤ _; omega)]
     simp only [Option.bind_some, joinK_go, J_spec_StoreTextx1, hw, bA_list, h10]
     exact hg _ ⟨k + 1, rfl, by omega, by rw [store_take hx hx2]; simp [tabT]⟩ (by simp only; omega)
    ·have hke : k = s.length := by omega
     subst hke
     have : (s.zip x).take s.length = s.zip x := List.take_of_length_le (by rw [List.length_zip]; omega)
     simp [this]) (ByteArray.empty, 0) ⟨0, rfl, Nat.zero_le _, by simp [storeT]; rfl⟩
  simp only [Option.bind_some, Bool.not_true, cond_false, e, joinK_go, if_true]
  rfl)
end Go.Proofs.YtlebkomgiibknaaDoorX
namespace Go.Proofs.YtlebkomgiibknaaDoorX
open Go Go.Proofs.YtlebkomgiibknaaDoorT
set_option linter.all false
def WL {T : Type} (W : T → Prop) (l : List T) : Prop := l.length ≤ maxLen ∧ ∀ x ∈ l, W x
def zTb (t : Tb) : Nat := t.1.size
def WTb (t : Tb) : Prop := t.1.size ≤ maxLen
theorem sz_IntS {a : List Int} (hw : a.length ≤ maxLen) {v : Int} (h0 : 0 ≤ v) (h1 : v ≤ 1048576) : F_laws_szIntS a v = some (if (a.length : Int) ≤ v then v - (a.length : Nat) else -1) := (U_laws_szIntS a v).out (by
 rw [wrap_sub h0 h1 hw, sub_neg]
 by_cases h : (a.length : Int) ≤ v <;> simp [h])
theorem sz_Table {a : STable} (hw : WTb a) {v : Int} (h0 : 0 ≤ v) (h1 : v ≤ 1048576) : F_laws_szTable a v = some (if (zTb a : Int) ≤ v then v - (zTb a : Nat) else -1) := (U_laws_szTable a v).out (by
 unfold WTb at hw
 rw [wrap_sub h0 h1 hw, sub_neg]
 unfold zTb
 by_cases h : (a.1.size : Int) ≤ v <;> simp [h])
theorem sz_list {T : Type} {W : T → Prop} {z : T → Nat} {a : List T} (hw : WL W a) {v : Int} (h0 : 0 ≤ v) (h1 : v ≤ 1048576) {G : T → Int → Option Int}
  (hG : ∀ x, W x → ∀ v : Int, 0 ≤ v → v ≤ 1048576 → G x v = some (if (z x : Int) ≤ v then v - z x else -1))
  {L : (Int × Int × Int → Option (Ex Int (Int × Int))) → Int × Int × Int → Option (Ex Int (Int × Int))}
  (hL : ∀ f v u i, L f (v, u, i) = bif decide (i < (a.length : Int)) then (ix a i).bind fun x => (G x v).bind fun y => bif decide (y < 0) then some (.ret (-1)) else f (y, u, IntKind.i64.wrap (i + 1)) else some (.go (v, u)))
  {J : Int → Int → Option Int} (hJ : ∀ x y, J x y = some x) :
  (bif decide ((IntKind.i64.wrap (v - (a.length : Int))) < 0) then some (-1) else joinK (loopF L ((IntKind.i64.wrap (v - (a.length : Int))), 0, 0)) (fun s => J s.1 s.2)) = some (if (zL z a : Int) ≤ v then v - (zL z a : Nat) else -1) := by
 rw [wrap_sub h0 h1 hw.1, sub_neg]
 unfold zL
 by_cases h : (a.length : Int) ≤ v
 ·rw [sz_loop (z := z) (fun x hx => hG x (hw.2 x hx)) (by omega) hL (by omega) (by omega)]
  by_cases h2 : (((a.map z).sum : Nat) : Int) ≤ v - (a.length : Nat)
  ·rw [if_pos h2, if_pos (by omega)]
   simp [h, hJ]; omega
  ·rw [if_neg h2, if_neg (by omega)]
   simp [h]
 ·rw [if_neg (by omega)]
  simp [h]
theorem sz_TableS {a : List STable} (hw : WL WTb a) {v : Int} (h0 : 0 ≤ v) (h1 : v ≤ 1048576) : F_laws_szTableS a v = some (if (zL zTb a : Int) ≤ v then v - (zL zTb a : Nat) else -1) :=
 (U_laws_szTableS a v).out (sz_list hw h0 h1 (fun x hx v h0 h1 => sz_Table hx h0 h1) (fun f v u i => rfl) (fun _ _ => rfl))
theorem to_IntS {a : List Int} (h : a.length ≤ 1048576) : F_laws_toIntS a = some a := (U_laws_toIntS a).out (by
 rw [mkx_nat (by omega)]
 simp only [Option.bind_some]
 rw [to_loop (G := some) (fun _ _ => rfl) h (fun f v i => rfl) (by simp)]
 rfl)
theorem to_list {T : Type} {z : T → Nat} {a : List T} (h : zL z a ≤ 1048576) {G : T → Option T} (hG : ∀ x, z x ≤ 1048576 → G x = some x) {x0 : T} {L : (List T × Int → Option (Ex (List T) (List T))) → List T × Int → Option (Ex (List T) (List T))}
  (hL : ∀ f v i, L f (v, i) = bif decide (i < (a.length : Int)) then (ix a i).bind fun x => (G x).bind fun y => (ix v i).bind fun _ => (stx v i y).bind fun v' => f (v', IntKind.i64.wrap (i + 1)) else some (.go v))
  {J : List T → Option (List T)} (hJ : ∀ x, J x = some x) : (mkx (a.length : Int) x0).bind (fun z1 => joinK (loopF L (z1, 0)) (fun s => J s)) = some a := by
 have hl := zL_len (z := z) (l := a)
 rw [mkx_nat (by omega)]
 simp only [Option.bind_some]
 rw [to_loop (fun x hx => hG x (by have := zL_mem (z := z) hx; omega)) (by omega) hL (by simp)]
 simp [hJ]
theorem to_Table (a : STable) : F_laws_toTable a = some a := (U_laws_toTable a).out rfl
theorem to_TableS {a : List STable} (h : zL zTb a ≤ 1048576) : F_laws_toTableS a = some a :=
 (U_laws_toTableS a).out (to_list h (fun x _ => to_Table x) (fun f v i => rfl) (fun _ => rfl))
theorem eq_IntS {a : List Int} (hl : a.length ≤ 1073741824) : F_laws_eqIntS a a = some true := (U_laws_eqIntS a a).out (by
 rw [eq_loop hl (fun f i x v hx _ => by
  have l1 := (List.getElem?_eq_some_iff.1 hx).1
  simp only [L_laws_eqIntSx0, lt_nat hx, cond_true, ix_some hx, Option.bind_some, wrap_nat (show i < 9223372036854775807 by omega)]
  simp) (fun f v => by simp [L_laws_eqIntSx0])]
 simp)
theorem eq_Table (a : STable) : F_laws_eqTable a a = some true := (U_laws_eqTable a a).out (by simp)
theorem eq_TableS {a : List STable} (hl : a.length ≤ 1073741824) : F_laws_eqTableS a a = some true := (U_laws_eqTableS a a).out (by
 rw [eq_loop hl (fun f i x v hx _ => by
  have l1 := (List.getElem?_eq_some_iff.1 hx).1
  simp only [L_laws_eqTableSx0, lt_nat hx, cond_true, ix_some hx, Option.bind_some, wrap_nat (show i < 9223372036854775807 by omega), eq_Table]
  simp) (fun f v => by simp [L_laws_eqTableSx0])]
 simp)
def CNd (n : Nd) : Prop := n.2.2.2.2.2.2.1.length ≤ 1073741824
end Go.Proofs.YtlebkomgiibknaaDoorX
namespace Go.Proofs.YtlebkomgiibknaaDoorX
open Go Go.Proofs.YtlebkomgiibknaaDoorT
set_option linter.all false
theorem bsch_of {s : List Tb} (h : zL zTb s ≤ 1048576) : BSch s := ⟨by have := zL_len (z := zTb) (l := s); omega, fun t ht => by have := zL_mem (z := zTb) ht; have e : zTb t = t.1.size := rfl; omega⟩
end Go.Proofs.YtlebkomgiibknaaDoorX
namespace Go.Proofs.YtlebkomgiibknaaDoorX
open Go Go.Proofs.YtlebkomgiibknaaDoorT
theorem wl_TableS {n : Nat} {x : List Tb} (h : wfT (.sl n (.pr .str (.pr (.int .i64) .un))) x) : WL WTb x := ⟨h.1, fun y hy => (h.2 y hy).1⟩
end Go.Proofs.YtlebkomgiibknaaDoorX
namespace Go.Proofs.YtlebkomgiibknaaDoorX
open Go Go.Proofs.YtlebkomgiibknaaDoorT
set_option linter.all false
structure COp (o : Opn) : Prop where
 l1 : o.2.1.length ≤ 1073741824
 c1 : ∀ n ∈ o.2.1, CNd n
 l2 : o.2.2.1.length ≤ 1073741824
 c2 : ∀ n ∈ o.2.2.1, CNd n
 l3 : o.2.2.2.1.length ≤ 1073741824
end Go.Proofs.YtlebkomgiibknaaDoorX
namespace Go.Proofs.YtlebkomgiibknaaDoorX
open Go Go.Proofs.YtlebkomgiibknaaDoorT
set_option linter.all false
def zRow (r : List Int) : Nat := r.length
def zRs (t : List (List Int)) : Nat := zL zRow t
def WRow (r : List Int) : Prop := r.length ≤ maxLen
theorem sz_IntSS {a : List (List Int)} (hw : WL WRow a) {v : Int} (h0 : 0 ≤ v) (h1 : v ≤ 1048576) : F_laws_szIntSS a v = some (if (zL zRow a : Int) ≤ v then v - (zL zRow a : Nat) else -1) :=
 (U_laws_szIntSS a v).out (sz_list hw h0 h1 (fun x hx v h0 h1 => sz_IntS hx h0 h1) (fun f v u i => rfl) (fun _ _ => rfl))
theorem sz_IntSSS {a : List (List (List Int))} (hw : WL (WL WRow) a) {v : Int} (h0 : 0 ≤ v) (h1 : v ≤ 1048576) : F_laws_szIntSSS a v = some (if (zL zRs a : Int) ≤ v then v - (zL zRs a : Nat) else -1) :=
 (U_laws_szIntSSS a v).out (sz_list hw h0 h1 (fun x hx v h0 h1 => sz_IntSS hx h0 h1) (fun f v u i => rfl) (fun _ _ => rfl))
theorem to_IntSS {a : List (List Int)} (h : zL zRow a ≤ 1048576) : F_laws_toIntSS a = some a :=
 (U_laws_toIntSS a).out (to_list h (fun x hx => to_IntS hx) (fun f v i => rfl) (fun _ => rfl))
theorem to_IntSSS {a : List (List (List Int))} (h : zL zRs a ≤ 1048576) : F_laws_toIntSSS a = some a :=
 (U_laws_toIntSSS a).out (to_list h (fun x hx => to_IntSS hx) (fun f v i => rfl) (fun _ => rfl))
theorem eq_IntSS {a : List (List Int)} (hl : a.length ≤ 1073741824) (hc : ∀ r ∈ a, r.length ≤ 1073741824) : F_laws_eqIntSS a a = some true := (U_laws_eqIntSS a a).out (by
 rw [eq_loop hl (fun f i x v hx hm => by
  have l1 := (List.getElem?_eq_some_iff.1 hx).1
  simp only [L_laws_eqIntSSx0, lt_nat hx, cond_true, ix_some hx, Option.bind_some, wrap_nat (show i < 9223372036854775807 by omega), eq_IntS (hc x hm)]
  simp) (fun f v => by simp [L_laws_eqIntSSx0])]
 simp)
theorem eq_IntSSS {a : List (List (List Int))} (h : BRows a) : F_laws_eqIntSSS a a = some true := (U_laws_eqIntSSS a a).out (by
 have hl := h.len
 rw [eq_loop hl (fun f i x v hx hm => by
  have l1 := (List.getElem?_eq_some_iff.1 hx).1
  simp only [L_laws_eqIntSSSx0, lt_nat hx, cond_true, ix_some hx, Option.bind_some, wrap_nat (show i < 9223372036854775807 by omega), eq_IntSS (h.tabs x hm) (h.rows x hm)]
  simp) (fun f v => by simp [L_laws_eqIntSSSx0])]
 simp)
theorem brows_of {a : List (List (List Int))} (h : zL zRs a ≤ 1048576) : BRows a := by
 refine ⟨by have := zL_len (z := zRs) (l := a); omega, fun t ht => ?_, fun t ht r hr => ?_⟩
 ·have h1 := zL_mem (z := zRs) ht
  have h2 := zL_len (z := zRow) (l := t)
  have e : zRs t = zL zRow t := rfl
  omega
 ·have h1 := zL_mem (z := zRs) ht
  have h2 := zL_mem (z := zRow) hr
  have e : zRs t = zL zRow t := rfl
  have e2 : zRow r = r.length := rfl
  omega
theorem wl_IntSSS {n m l : Nat} {x : List (List (List Int))} (h : wfT (.sl n (.sl m (.sl l (.int .i64)))) x) : WL (WL WRow) x :=
 ⟨h.1, fun y hy => ⟨(h.2 y hy).1, fun z hz => ((h.2 y hy).2 z hz).1⟩⟩
end Go.Proofs.YtlebkomgiibknaaDoorX
namespace Go.Proofs.YtlebkomgiibknaaDoorX
open Go Go.Proofs.YtlebkomgiibknaaDoorT
set_option linter.all false
structure CEn (e : En) : Prop where
 l1 : e.2.1.length ≤ 1073741824
 c1 : ∀ n ∈ e.2.1, CNd n
 l2 : e.2.2.1.length ≤ 1073741824
 c2 : ∀ n ∈ e.2.2.1, CNd n
end Go.Proofs.YtlebkomgiibknaaDoorX
namespace Go.Proofs.YtlebkomgiibknaaDoorX
open Go Go.Proofs.YtlebkomgiibknaaDoorT
set_option linter.all false
theorem pure_FnExactStoreText {a0 : List STable} {a1 : List (List (List Int))} (w0 : WL WTb a0) (w1 : WL (WL WRow) a1) : F_laws_FnExactStoreText a0 a1 = some true := (U_laws_FnExactStoreText a0 a1).out (by
 rw [sz_TableS w0 (by omega) (by omega)]
 by_cases h0 : (zL zTb a0 : Int) ≤ (1048576 : Int)
 rotate_left
 ·rw [if_neg h0]; simp
 rw [if_pos h0]
 have hn0 : decide ((1048576 : Int) - (zL zTb a0 : Nat) < 0) = false := by simp; omega
 simp only [Option.bind_some, hn0, cond_false]
 rw [sz_IntSSS w1 (by omega) (by omega)]
 by_cases h1 : (zL zRs a1 : Int) ≤ (1048576 : Int) - (zL zTb a0 : Nat)
 rotate_left
 ·rw [if_neg h1]; simp
 rw [if_pos h1]
 have hn1 : decide ((1048576 : Int) - (zL zTb a0 : Nat) - (zL zRs a1 : Nat) < 0) = false := by simp; omega
 simp only [Option.bind_some, hn1, cond_false]
 have b0 := bsch_of (s := a0) (by omega)
 have b1 := brows_of (a := a1) (by omega)
 simp only [Option.bind_some, joinK_go, joinK_ret, joinK_bif, joinK_bind, cond_false, cond_true, Bool.not_true, beq_self_eq_true, to_TableS (a := a0) (by omega), eq_TableS (a := a0) (by have := zL_len (z := zTb) (l := a0); omega), to_IntSSS (a := a1) (by omega), eq_IntSSS (a := a1) (brows_of (by omega)), V_spec_StoreText b0 b1, V_impl_StoreText b0 b1])
end Go.Proofs.YtlebkomgiibknaaDoorX
