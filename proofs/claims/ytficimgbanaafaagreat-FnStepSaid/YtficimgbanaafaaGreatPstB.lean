/- The plain law: the plain functions answer as the statement says. -/
import Derived.Test.YtficimgbanaafaaGreatPstA
set_option linter.all false
namespace Go.Proofs.YtficimgbanaafaaGreatX
open Go Go.Proofs.YtficimgbanaafaaGreatT PT
set_option linter.all false
theorem zip_eq {T : Type} [DecidableEq T] : ∀ {a b : List T}, a.length = b.length → (a.zip b).all (fun p => decide (p.1 = p.2)) = decide (a = b)
 | [], [], _ => rfl
 | [], _ :: _, h => by simp at h
 | _ :: _, [], h => by simp at h
 | x :: a, y :: b, h => by
  simp only [List.zip_cons_cons, List.all_cons, zip_eq (a := a) (b := b) (by simpa using h)]
  by_cases h : x = y <;> simp [h]
structure BP2 (p : List Nd) : Prop where
 len : p.length ≤ 1073741824
 cols : ∀ n ∈ p, n.2.2.2.2.2.2.1.length ≤ 1073741824
theorem V_impl_SamePlan {a b : List SNode} (h : BP2 a) : F_impl_SamePlan a b = some (decide (a = b)) := (U_impl_SamePlan a b).out (by
 have : F_slices_EqualFunc_LimplNode_impl_sameNode a b = some (decide (a = b)) := (U_slices_EqualFunc_LimplNode_impl_sameNode a b).out (by
  by_cases hl : a.length = b.length
  ·have e := loop_chk (f := fun f z => L_slices_EqualFunc_LimplNode_impl_sameNodex0 a b f z.1 z.2) (a.zip b) (fun _ p => decide (p.1 = p.2)) false
    (fun i p v g hp => by
     obtain ⟨x, y⟩ := p
     have l1 := (List.getElem?_eq_some_iff.1 hp).1
     simp only [List.length_zip] at l1
     obtain ⟨hx, hy⟩ := List.getElem?_zip_eq_some.1 hp
     have h2 := h.len
     have h3 := h.cols x (mem_of_get hx)
     have h4 := V_impl_sameNode (a := x) (b := y) (by omega)
     simp only [L_slices_EqualFunc_LimplNode_impl_sameNodex0, lt_nat hx, cond_true, ix_some hx, ix_some hy, Option.bind_some, wrap_nat (show i < 9223372036854775807 by omega)]
     erw [h4]
     by_cases h : x = y <;> simp [h])
    (fun v g => by simp [L_slices_EqualFunc_LimplNode_impl_sameNodex0, hl]) false
   rw [e, allI_const, zip_eq hl, hl]
   cases decide (a = b) <;> simp [J_slices_EqualFunc_LimplNode_impl_sameNodex0]
  ·have : ((a.length : Int) != (b.length : Int)) = true := by simp; omega
   have h2 : a ≠ b := fun h => hl (by rw [h])
   simp [this, h2])
 simp [this])
end Go.Proofs.YtficimgbanaafaaGreatX
namespace Go.Proofs.YtficimgbanaafaaGreatX
open Go Go.Proofs.YtficimgbanaafaaGreatT PT
set_option linter.all false
abbrev En := Int × List Nd × List Nd × Int × Int × Unit
abbrev Shf := Int × List Tb × List En × Int × Int × Int × Int × Int × Int × Unit
structure BShelf (h : Shf) : Prop where
 sch : BSch h.2.1
 len : h.2.2.1.length ≤ 1073741824
 tpl : ∀ e ∈ h.2.2.1, BPlan e.2.1 ∧ BP2 e.2.1
 pln : ∀ e ∈ h.2.2.1, BPlan e.2.2.1
end Go.Proofs.YtficimgbanaafaaGreatX
namespace Go.Proofs.YtficimgbanaafaaGreatX
open Go Go.Proofs.YtficimgbanaafaaGreatT PT
set_option linter.all false
def evR (s : List Tb) (st : List Rows) : PT → Rows
 | .n0 n => match tabAt s n.2.1 with
  | some j => (st[j]?).getD []
  | none => []
 | .n1 n a => op1 n (evR s st a)
 | .n2 n a b => op2 n (evR s st a) (evR s st b)
theorem evalT_evR {s : List Tb} {st : List Rows} : ∀ {t : PT} {x : Rows}, evalT s st t = some x → x = evR s st t
 | .n0 n, x, h => by
  simp only [evalT] at h
  split at h
  ·rename_i j hj
   split at h
   ·rename_i t ht
    obtain ⟨rfl, _⟩ := capR_some h
    simp [evR, hj, ht]
   ·cases h
  ·cases h
 | .n1 n a, x, h => by
  simp only [evalT] at h
  split at h
  ·rename_i y hy
   obtain ⟨rfl, _⟩ := capR_some h
   simp only [evR]
   rw [evalT_evR hy]
  ·cases h
 | .n2 n a b, x, h => by
  simp only [evalT] at h
  split at h
  ·rename_i y hy
   split at h
   ·rename_i z hz
    obtain ⟨rfl, _⟩ := capR_some h
    simp only [evR]
    rw [evalT_evR hy, evalT_evR hz]
   ·cases h
  ·cases h
def WR (w : Int) (x : Rows) : Prop := ∀ r ∈ x, (r.length : Int) = w
theorem filterR_eq (n : Nd) (x : Rows) : filterR n x = x.filter fun r => holds n (kc n.2.2.1 r) := by
 unfold filterR
 induction x with
 | nil => rfl
 | cons r x ih =>
  simp only [List.flatMap_cons, ih, List.filter_cons]
  cases holds n (kc n.2.2.1 r) <;> simp
theorem evR_w {s : List Tb} {st : List Rows} (h : storeOk s st = true) : ∀ {t : PT} {w : Int}, wT s t = some w → WR w (evR s st t)
 | .n0 n, w, hw => by
  simp only [wT] at hw
  simp only [evR]
  split at hw
  ·rename_i j hj
   split at hw
   ·rename_i tb htb
    cases hw
    obtain ⟨t, h1, h2, _⟩ := storeOk_tab h htb
    simp only [hj, h1, Option.getD_some]
    exact h2.row
   ·cases hw
  ·cases hw
 | .n1 n a, w, hw => by
  simp only [wT] at hw
  simp only [evR]
  split at hw
  ·cases hw
  ·rename_i v hv
   have ih := evR_w h hv
   intro r hr
   simp only [op1] at hr
   split at hw
   ·rename_i hk
    split at hw
    ·cases hw
     rw [if_neg (by omega), if_pos hk] at hr
     simp only [keepR, List.mem_map] at hr
     obtain ⟨q, _, rfl⟩ := hr
     simp
    ·cases hw
   ·rename_i hk2
    have hvw : v = w := by
     split at hw
     ·split at hw
      ·cases hw; rfl
      ·cases hw
     ·cases hw; rfl
    subst hvw
    refine ih r ?_
    split at hr
    ·rw [filterR_eq] at hr; exact (List.mem_filter.1 hr).1
    ·split at hr
     ·exact srt_mem.1 hr
     ·split at hr
      ·exact List.mem_of_mem_take hr
      ·exact (onceR_sub _).1 r hr
 | .n2 n a b, w, hw => by
  simp only [wT] at hw
  simp only [evR]
  split at hw
  ·rename_i wa wb hwa hwb
   have ih1 := evR_w h hwa
   have ih2 := evR_w h hwb
   intro r hr
   simp only [op2] at hr
   split at hw
   ·rename_i hk
    split at hw
    ·cases hw
     rw [if_pos hk] at hr
     simp only [joinR, List.mem_flatMap] at hr
     obtain ⟨l, hl, q, hq, hr⟩ := hr
     have e1 := ih1 l hl
     have e2 := ih2 q hq
     cases hh : (!decide (kc n.2.2.1 l = -2000000) && decide (kc n.2.2.1 l = kc n.2.2.2.2.1 q)) <;> rw [hh] at hr <;> simp at hr
     rw [hr]; simp; omega
    ·cases hw
   ·rename_i hk
    split at hw
    ·rename_i hww
     cases hw
     rw [if_neg hk] at hr
     rcases List.mem_append.1 hr with hr | hr
     ·exact ih1 r hr
     ·have := ih2 r hr; omega
    ·cases hw
  ·cases hw
def stepO (a : Rows) (r : List Int) : Rows := bif decide (cnt a r = 0) then a ++ [r] else a
theorem onceR_def (x : Rows) : onceR x = x.foldl stepO [] := rfl
theorem cnt_zero {a : Rows} {r : List Int} : cnt a r = 0 ↔ r ∉ a := by
 unfold cnt
 rw [List.countP_eq_zero]
 constructor
 ·intro h hm; have := h r hm; simp at this
 ·intro h q hq hd
  simp only [decide_eq_true_eq] at hd
  exact h (hd ▸ hq)
theorem stepO_in {a : Rows} {r : List Int} (h : r ∈ a) : stepO a r = a := by
 have : ¬ cnt a r = 0 := fun e => cnt_zero.1 e h
 simp [stepO, this]
theorem stepO_out {a : Rows} {r : List Int} (h : r ∉ a) : stepO a r = a ++ [r] := by
 have : cnt a r = 0 := cnt_zero.2 h
 simp [stepO, this]
theorem foldO_filter (p : List Int → Bool) : ∀ (x a : Rows), (x.foldl stepO a).filter p = (x.filter p).foldl stepO (a.filter p)
 | [], a => rfl
 | r :: x, a => by
  simp only [List.foldl_cons]
  rw [foldO_filter p x]
  by_cases hm : r ∈ a
  ·rw [stepO_in hm]
   cases hp : p r with
   | true =>
    rw [List.filter_cons_of_pos hp, List.foldl_cons, stepO_in (List.mem_filter.2 ⟨hm, hp⟩)]
   | false => rw [List.filter_cons_of_neg (by simp [hp])]
  ·rw [stepO_out hm]
   cases hp : p r with
   | true =>
    rw [List.filter_cons_of_pos hp, List.foldl_cons, stepO_out (fun h => hm (List.mem_filter.1 h).1), List.filter_append]
    simp [hp]
   | false =>
    rw [List.filter_cons_of_neg (by simp [hp]), List.filter_append]
    simp [hp]
theorem onceR_filter (p : List Int → Bool) (x : Rows) : (onceR x).filter p = onceR (x.filter p) := by
 rw [onceR_def, onceR_def, foldO_filter]; rfl
theorem foldO_sub : ∀ (x a : Rows), (x.foldl stepO a).Sublist (a ++ x)
 | [], a => by simp
 | r :: x, a => by
  simp only [List.foldl_cons]
  by_cases hm : r ∈ a
  ·rw [stepO_in hm]
   exact (foldO_sub x a).trans (List.Sublist.append (List.Sublist.refl a) (List.sublist_cons_self r x))
  ·rw [stepO_out hm]
   have := foldO_sub x (a ++ [r])
   simpa using this
theorem onceR_sublist (x : Rows) : (onceR x).Sublist x := by have := foldO_sub x []; simpa [onceR_def] using this
theorem foldO_nodup : ∀ (x a : Rows), a.Nodup → (x.foldl stepO a).Nodup
 | [], a, h => h
 | r :: x, a, h => by
  simp only [List.foldl_cons]
  by_cases hm : r ∈ a
  ·rw [stepO_in hm]; exact foldO_nodup x a h
  ·rw [stepO_out hm]
   refine foldO_nodup x _ ?_
   rw [List.nodup_append]
   exact ⟨h, by simp, fun p hp q hq => by simp at hq; rintro rfl; exact hm (hq ▸ hp)⟩
theorem foldO_self : ∀ (x a : Rows), (a ++ x).Nodup → x.foldl stepO a = a ++ x
 | [], a, _ => by simp
 | r :: x, a, h => by
  simp only [List.foldl_cons]
  have hm : r ∉ a := fun hm => by
   rw [List.nodup_append] at h
   exact h.2.2 r hm r (by simp) rfl
  rw [stepO_out hm, foldO_self x (a ++ [r]) (by simpa using h)]
  simp
theorem onceR_self (x : Rows) : onceR (onceR x) = onceR x := by
 have h1 := foldO_nodup x [] List.nodup_nil
 have h2 := foldO_self (onceR x) [] (by simpa [onceR_def] using h1)
 rw [onceR_def (onceR x), h2]; rfl
theorem filter_filterR (n m : Nd) (z : Rows) : filterR n (filterR m z) = filterR m (filterR n z) := by
 simp only [filterR_eq, List.filter_filter]
 congr 1
 funext r
 exact Bool.and_comm _ _
theorem srt_filter (k : List Int → Int) (p : List Int → Bool) (z : Rows) : (srt k z).filter p = srt k (z.filter p) := by
 obtain ⟨h1, h2, _⟩ := srt_ok (key := k) z
 refine srt_of (List.Pairwise.filter p h1) (fun v => ?_)
 have := h2 v
 rw [List.filter_filter, List.filter_filter]
 have e : ∀ l : Rows, l.filter (fun x => (k x == v) && p x) = (l.filter (fun x => k x == v)).filter p := fun l => by
  rw [List.filter_filter]
  congr 1
  funext x
  exact Bool.and_comm _ _
 rw [e, e, this]
theorem once_srt (k : List Int → Int) (z : Rows) : onceR (srt k z) = srt k (onceR z) := by
 obtain ⟨h1, h2, _⟩ := srt_ok (key := k) z
 refine srt_of (List.Pairwise.sublist (onceR_sublist _) h1) (fun v => ?_)
 rw [onceR_filter, onceR_filter, h2 v]
theorem flatMap_bif {T : Type} (p : T → Bool) (f : T → Rows) : ∀ z : List T, z.flatMap (fun r => bif p r then f r else []) = (z.filter p).flatMap f
 | [] => rfl
 | r :: z => by
  simp only [List.flatMap_cons, List.filter_cons, flatMap_bif p f z]
  cases p r <;> simp
theorem kc_left {c : Int} {l r : List Int} (h0 : 0 ≤ c) (h : c < l.length) : kc c (l ++ r) = kc c l := by
 unfold kc
 rw [List.getD_eq_getElem?_getD, List.getD_eq_getElem?_getD, List.getElem?_append_left (by omega)]
theorem kc_right {c : Int} {l r : List Int} (h0 : (l.length : Int) ≤ c) : kc c (l ++ r) = kc (c - l.length) r := by
 unfold kc
 rw [List.getD_eq_getElem?_getD, List.getD_eq_getElem?_getD, List.getElem?_append_right (by omega)]
 congr 2
 omega
theorem filter_flatMap {T : Type} (p : List Int → Bool) (f : T → Rows) : ∀ z : List T, (z.flatMap f).filter p = z.flatMap fun t => (f t).filter p
 | [] => rfl
 | t :: z => by simp only [List.flatMap_cons, List.filter_append, filter_flatMap p f z]
theorem flatMap_congr2 {T : Type} {f g : T → Rows} : ∀ {z : List T}, (∀ t ∈ z, f t = g t) → z.flatMap f = z.flatMap g
 | [], _ => rfl
 | t :: z, h => by
  simp only [List.flatMap_cons]
  rw [h t (by simp), flatMap_congr2 (fun u hu => h u (by simp [hu]))]
theorem filter_joinL {n m : Nd} {x y : Rows} {w : Int} (hx : WR w x) (h0 : 0 ≤ n.2.2.1) (h1 : n.2.2.1 < w) : filterR n (joinR m x y) = joinR m (filterR n x) y := by
 have e : joinR m (filterR n x) y = x.flatMap fun l => bif holds n (kc n.2.2.1 l) then (y.flatMap fun r => bif !(decide (kc m.2.2.1 l = -2000000)) && decide (kc m.2.2.1 l = kc m.2.2.2.2.1 r) then [l ++ r] else []) else [] := by
  unfold joinR
  rw [filterR_eq, flatMap_bif]
 rw [e, filterR_eq]
 unfold joinR
 rw [filter_flatMap]
 refine flatMap_congr2 (fun l hl => ?_)
 have hw := hx l hl
 rw [filter_flatMap]
 have e2 : ∀ r : List Int, (bif !(decide (kc m.2.2.1 l = -2000000)) && decide (kc m.2.2.1 l = kc m.2.2.2.2.1 r) then [l ++ r] else []).filter (fun q => holds n (kc n.2.2.1 q)) =
   bif holds n (kc n.2.2.1 l) then (bif !(decide (kc m.2.2.1 l = -2000000)) && decide (kc m.2.2.1 l = kc m.2.2.2.2.1 r) then [l ++ r] else []) else [] := by
  intro r
  have hk := kc_left (c := n.2.2.1) (l := l) (r := r) h0 (by omega)
  cases hb : (!(decide (kc m.2.2.1 l = -2000000)) && decide (kc m.2.2.1 l = kc m.2.2.2.2.1 r)) <;> cases hh : holds n (kc n.2.2.1 l) <;> simp [hk, hh]
 rw [flatMap_congr2 (fun r _ => e2 r)]
 cases holds n (kc n.2.2.1 l) <;> simp
theorem filter_joinR {n m : Nd} {x y : Rows} {w : Int} (hx : WR w x) (h0 : w ≤ n.2.2.1) : filterR n (joinR m x y) = joinR m x (filterR (colN n (n.2.2.1 - w)) y) := by
 rw [filterR_eq]
 unfold joinR
 rw [filter_flatMap]
 refine flatMap_congr2 (fun l hl => ?_)
 have hw := hx l hl
 rw [filter_flatMap, filterR_eq, ← flatMap_bif]
 refine flatMap_congr2 (fun r _ => ?_)
 have hk := kc_right (c := n.2.2.1) (l := l) (r := r) (by omega)
 rw [hw] at hk
 have hh : ∀ v, holds (colN n (n.2.2.1 - w)) v = holds n v := fun v => rfl
 have hc : (colN n (n.2.2.1 - w)).2.2.1 = n.2.2.1 - w := rfl
 rw [hh, hc]
 cases hb : (!(decide (kc m.2.2.1 l = -2000000)) && decide (kc m.2.2.1 l = kc m.2.2.2.2.1 r)) <;> cases h2 : holds n (kc (n.2.2.1 - w) r) <;> simp [hk, h2]
theorem kc_map {l : List Int} {c : Int} (r : List Int) (h : c < l.length) (h0 : 0 ≤ c) : kc c (l.map fun c => kc c r) = kc (pick l c) r := by
 have hl : c.toNat < l.length := by omega
 unfold pick
 have e : kc c (l.map fun c => kc c r) = ((l.map fun c => kc c r)[c.toNat]?).getD 0 := by unfold kc; rw [List.getD_eq_getElem?_getD]
 rw [e, List.getElem?_map, List.getElem?_eq_getElem hl]
 rfl
theorem turn_evR {s : List Tb} {st : List Rows} (hst : storeOk s st = true) {r : Int} {u u' : PT} (g : Good u) (w : (wT s u).isSome = true) (h : turn s r u = some u') : evR s st u' = evR s st u := by
 cases u with
 | n0 n => cases h
 | n2 n a b => cases h
 | n1 n c =>
  simp only [turn] at h
  split at h
  rotate_left
  ·cases h
  rename_i hk
  obtain ⟨hm, hm2⟩ := hk
  have hr : okIn r 0 11 = true := by
   cases hr : okIn r 0 11 with
   | true => rfl
   | false => rw [ovr_out hr] at hm; exact absurd hm (neg_kind g)
  have hn := g.nodes n (by simp [PT.flat])
  rcases shapes g with ⟨m, rfl, har⟩ | ⟨m, d, rfl, har⟩ | ⟨m, d, e, rfl, har⟩
  ·cases h
  ·simp only [PT.hd] at hm2
   have hmo := g.nodes m (by simp [PT.flat])
   cases hwd : wT s d with
   | none => simp only [wT, hwd] at w; cases w
   | some x =>
   rcases rules hr with rfl | rfl | rfl | rfl | rfl | rfl | rfl | rfl | rfl | rfl | rfl | rfl
   ·have hk : n.1 = 1 := hm
    have hk2 : m.1 = 1 := hm2
    cases h
    simp only [evR, op1, hk, hk2, if_true]
    exact filter_filterR m n _
   ·have hk : n.1 = 1 := hm
    have hk2 : m.1 = 5 := hm2
    cases h
    simp only [evR, op1, hk, hk2, if_true, show ¬ (5 : Int) = 1 by omega, show ¬ (5 : Int) = 2 by omega, if_false]
    rw [filterR_eq, filterR_eq, srt_filter]
   ·have hk : n.1 = 6 := hm
    have hk2 : m.1 = 6 := hm2
    simp [turnC] at h
    obtain ⟨_, rfl⟩ := h
    have hk3 : (limN n m).1 = 6 := hk
    have e : (limN n m).2.2.2.2.1 = min n.2.2.2.2.1 m.2.2.2.2.1 := rfl
    simp only [evR, op1, hk, hk2, hk3, e, show ¬ (6 : Int) = 1 by omega, show ¬ (6 : Int) = 2 by omega, show ¬ (6 : Int) = 5 by omega, if_false, if_true]
    rw [List.take_take]
    congr 1
    omega
   ·have hk : n.1 = 5 := hm
    have hk2 : m.1 = 5 := hm2
    simp [turnC] at h
    obtain ⟨hc, rfl⟩ := h
    simp only [evR, op1, hk, hk2, show ¬ (5 : Int) = 1 by omega, show ¬ (5 : Int) = 2 by omega, if_false, if_true, hc]
    exact (srt_self (srt_ok _).1).symm
   ·have := ovr_two (r := 4) (by simp); rw [← hm2] at this; omega
   ·have := ovr_two (r := 5) (by simp); rw [← hm2] at this; omega
   ·have := ovr_two (r := 6) (by simp); rw [← hm2] at this; omega
   ·have hk : n.1 = 7 := hm
    have hk2 : m.1 = 7 := hm2
    simp [turnC] at h
    subst h
    simp only [evR, op1, hk, hk2, show ¬ (7 : Int) = 1 by omega, show ¬ (7 : Int) = 2 by omega, show ¬ (7 : Int) = 5 by omega, show ¬ (7 : Int) = 6 by omega, if_false]
    exact (onceR_self _).symm
   ·have hk : n.1 = 2 := hm
    have hk2 : m.1 = 2 := hm2
    simp [turnC] at h
    subst h
    have hk3 : (colsN m (n.2.2.2.2.2.2.1.map (pick m.2.2.2.2.2.2.1))).1 = 2 := hk2
    simp only [evR, op1, hk, hk2, hk3, show ¬ (2 : Int) = 1 by omega, if_false, if_true]
    have hall : ∀ c ∈ n.2.2.2.2.2.2.1, c < (m.2.2.2.2.2.2.1.length : Int) := by
     simp only [wT, hwd, hk, hk2, if_true] at w
     split at w
     ·cases w
     ·rename_i v hv
      split at hv
      ·cases hv
       split at w
       ·rename_i h1
        intro c hc
        have := List.all_eq_true.1 h1 c hc
        simpa using this
       ·cases w
      ·cases hv
    have hc0 := (nodeOk_keep hn hk).2.2
    simp only [keepR, List.map_map]
    refine List.map_congr_left (fun q _ => ?_)
    show (n.2.2.2.2.2.2.1.map (pick m.2.2.2.2.2.2.1)).map (fun c => kc c q) = n.2.2.2.2.2.2.1.map fun c => kc c (m.2.2.2.2.2.2.1.map fun c => kc c q)
    rw [List.map_map]
    refine List.map_congr_left (fun c hc => ?_)
    exact (kc_map q (hall c hc) (hc0 c hc).1).symm
   ·have hk : n.1 = 6 := hm
    have hk2 : m.1 = 2 := hm2
    simp [turnC] at h
    subst h
    simp only [evR, op1, hk, hk2, show ¬ (2 : Int) = 1 by omega, show ¬ (6 : Int) = 1 by omega, show ¬ (6 : Int) = 2 by omega, show ¬ (6 : Int) = 5 by omega, if_false, if_true]
    simp only [keepR, List.map_take]
   ·have hk : n.1 = 1 := hm
    have hk2 : m.1 = 2 := hm2
    simp [turnC] at h
    subst h
    have hk3 : (colN n (pick m.2.2.2.2.2.2.1 n.2.2.1)).1 = 1 := hk
    simp only [evR, op1, hk, hk2, hk3, show ¬ (2 : Int) = 1 by omega, if_false, if_true]
    have hc0 := node_col hn (.inl hk)
    have hlt : n.2.2.1 < (m.2.2.2.2.2.2.1.length : Int) := by
     simp only [wT, hwd, hk, hk2, if_true, show ¬ (1 : Int) = 2 by omega, if_false, true_or] at w
     split at w
     ·cases w
     ·rename_i v hv
      split at hv
      ·cases hv
       split at w
       ·rename_i h1; exact h1
       ·cases w
      ·cases hv
    rw [filterR_eq, filterR_eq]
    simp only [keepR, List.filter_map]
    congr 1
    refine List.filter_congr (fun q _ => ?_)
    simp only [Function.comp]
    rw [kc_map q hlt hc0]
    rfl
   ·have hk : n.1 = 7 := hm
    have hk2 : m.1 = 5 := hm2
    simp [turnC] at h
    subst h
    simp only [evR, op1, hk, hk2, show ¬ (5 : Int) = 1 by omega, show ¬ (5 : Int) = 2 by omega, show ¬ (7 : Int) = 1 by omega, show ¬ (7 : Int) = 2 by omega, show ¬ (7 : Int) = 5 by omega, show ¬ (7 : Int) = 6 by omega, if_false, if_true]
    exact (once_srt _ _).symm
  ·simp only [PT.hd] at hm2
   cases hwd : wT s d with
   | none => simp only [wT, hwd] at w; cases w
   | some x =>
   cases hwe : wT s e with
   | none => simp only [wT, hwd, hwe] at w; cases w
   | some y =>
   have hx := evR_w hst hwd
   rcases rules hr with rfl | rfl | rfl | rfl | rfl | rfl | rfl | rfl | rfl | rfl | rfl | rfl
   ·have := ovr_one (r := 0) rfl (by simp) (by simp) (by simp); rw [← hm2] at this; omega
   ·have := ovr_one (r := 1) rfl (by simp) (by simp) (by simp); rw [← hm2] at this; omega
   ·have := ovr_one (r := 2) rfl (by simp) (by simp) (by simp); rw [← hm2] at this; omega
   ·have := ovr_one (r := 3) rfl (by simp) (by simp) (by simp); rw [← hm2] at this; omega
   ·have hk : n.1 = 1 := hm
    have hk2 : m.1 = 4 := hm2
    simp [turnC] at h
    subst h
    simp only [evR, op1, op2, hk, hk2, show ¬ (4 : Int) = 3 by omega, if_false, if_true]
    rw [filterR_eq, filterR_eq, filterR_eq, List.filter_append]
   ·have hk : n.1 = 1 := hm
    have hk2 : m.1 = 3 := hm2
    simp [turnC, hwd, oint] at h
    obtain ⟨hc, rfl⟩ := h
    simp only [evR, op1, op2, hk, hk2, if_true]
    exact (filter_joinL hx (node_col hn (.inl hk)) hc).symm
   ·have hk : n.1 = 1 := hm
    have hk2 : m.1 = 3 := hm2
    simp [turnC, hwd, oint] at h
    obtain ⟨hc, rfl⟩ := h
    have hk3 : (colN n (n.2.2.1 - x)).1 = 1 := hk
    simp only [evR, op1, op2, hk, hk2, hk3, if_true]
    exact (filter_joinR hx hc).symm
   ·have := ovr_one (r := 7) rfl (by simp) (by simp) (by simp); rw [← hm2] at this; omega
   ·have := ovr_one (r := 8) rfl (by simp) (by simp) (by simp); rw [← hm2] at this; omega
   ·have := ovr_one (r := 9) rfl (by simp) (by simp) (by simp); rw [← hm2] at this; omega
   ·have := ovr_one (r := 10) rfl (by simp) (by simp) (by simp); rw [← hm2] at this; omega
   ·have := ovr_one (r := 11) rfl (by simp) (by simp) (by simp); rw [← hm2] at this; omega
theorem put_evR {s : List Tb} {st : List Rows} : ∀ {t : PT} {k : Nat} {u v : PT}, (subs t)[k]? = some u → evR s st v = evR s st u → evR s st (put t k v) = evR s st t
 | .n0 n, 0, u, v, h, hw => by simp [subs] at h; subst h; simpa [put] using hw
 | .n1 n a, 0, u, v, h, hw => by simp [subs] at h; subst h; simpa [put] using hw
 | .n2 n a b, 0, u, v, h, hw => by simp [subs] at h; subst h; simpa [put] using hw
 | .n0 n, k + 1, u, v, h, _ => by simp [subs] at h
 | .n1 n a, k + 1, u, v, h, hw => by
  have h' : (subs a)[k]? = some u := by simpa [subs] using h
  simp only [put, evR, put_evR h' hw]
 | .n2 n a b, k + 1, u, v, h, hw => by
  have h' : (subs a ++ subs b)[k]? = some u := by simpa [subs] using h
  simp only [put]
  by_cases hk : k < a.size
  ·rw [if_pos hk]
   rw [List.getElem?_append_left (by simpa using hk)] at h'
   simp only [evR, put_evR h' hw]
  ·rw [if_neg hk]
   rw [List.getElem?_append_right (by simp; omega), subs_len] at h'
   simp only [evR, put_evR h' hw]
def rowsM (s : List Tb) (st : List Rows) (p : List Nd) : Rows := match planT p with
 | some t => evR s st t
 | none => []
theorem step_rows {s : List Tb} {st : List Rows} (hst : storeOk s st = true) {p q : List Nd} (hp : typedOk s p = true) {x : Sp} (h : applyM s p x = (q, true)) : rowsM s st q = rowsM s st p := by
 obtain ⟨t, rfl, ht⟩ := typedOk_iff.1 hp
 obtain ⟨k, u, u', _, hu, hu', rfl, h1, h2, h3⟩ := applyM_tree ht h
 unfold rowsM
 rw [planT_flat h1, planT_flat ht.plan]
 have hm := mem_of_get hu
 exact put_evR hu (turn_evR hst (subs_good ht.plan.good hm) (subs_w ht.w hm) hu')
theorem eval_rows {s : List Tb} {st : List Rows} {p : List Nd} (h : (evalPlan s st p).2 = 0) : storeOk s st = true ∧ (evalPlan s st p).1 = rowsM s st p := by
 unfold evalPlan at h ⊢
 unfold rowsM
 split at h
 rotate_left
 ·simp at h
 rename_i hc
 rw [if_pos hc]
 refine ⟨hc.1, ?_⟩
 split at h
 ·rename_i t ht
  split at h
  ·rename_i x hx
   simp only [ht, hx]
   exact evalT_evR hx
  ·simp at h
 ·simp at h
theorem step_same {s : List Tb} {st : List Rows} {p q : List Nd} (hp : typedOk s p = true) {x : Sp} (h : applyM s p x = (q, true)) (h1 : (evalPlan s st p).2 = 0) (h2 : (evalPlan s st q).2 = 0) :
  (evalPlan s st q).1 = (evalPlan s st p).1 := by
 obtain ⟨a1, a2⟩ := eval_rows h1
 obtain ⟨_, b2⟩ := eval_rows h2
 rw [a2, b2, step_rows a1 hp h]
end Go.Proofs.YtficimgbanaafaaGreatX
namespace Go.Proofs.YtficimgbanaafaaGreatX
open Go Go.Proofs.YtficimgbanaafaaGreatT PT
set_option linter.all false
theorem and255 (x : Int) : 0 ≤ andV .i64 x 255 ∧ andV .i64 x 255 ≤ 255 := by
 have h : (BitVec.ofInt 64 x &&& BitVec.ofInt 64 255).toNat ≤ 255 := by
  rw [BitVec.toNat_and]
  exact Nat.le_trans Nat.and_le_right (by decide)
 have e : andV .i64 x 255 = ((BitVec.ofInt 64 x &&& BitVec.ofInt 64 255).toNat : Int) := by
  show IntKind.i64.wrap _ = _
  exact wrap_sml (by show -9223372036854775808 ≤ ((BitVec.ofInt 64 x &&& BitVec.ofInt 64 255).toNat : Int); omega) (by show ((BitVec.ofInt 64 x &&& BitVec.ofInt 64 255).toNat : Int) ≤ 9223372036854775807; omega)
 rw [e]; omega
theorem ix_ex {T : Type} {l : List T} {r : Int} (h0 : 0 ≤ r) (h1 : r < l.length) : ∃ x, ix l r = some x ∧ x ∈ l := by
 obtain ⟨k, rfl⟩ : ∃ k : Nat, r = k := ⟨r.toNat, by omega⟩
 have hk : k < l.length := by omega
 exact ⟨l[k], ix_some (List.getElem?_eq_getElem hk), List.getElem_mem hk⟩
theorem shr_ex (a : Int) {b : Int} (h : 0 ≤ b) : ∃ z, shrV .i64 a b = some z := by simp [shrV, h]
structure Cu (b : List Int) (i : Int) : Prop where
 len : b.length ≤ 1073741824
 lo : 0 ≤ i
abbrev CuQ (b : List Int) (P : Int → Prop) (y : Int × List Int × Int × Int) : Prop := y.2.1 = b ∧ Cu b y.2.2.1 ∧ P y.1
theorem byte_ok {b : List Int} {i : Int} (hc : Cu b i) (h : Int) : Ok (F_spec_l01Byte b i h) (CuQ b fun r => 0 ≤ r ∧ r ≤ 255) := (U_spec_l01Byte b i h).ok (by
 obtain ⟨z1, e1⟩ := shr_ex (IntKind.i64.wrap ((IntKind.i64.wrap (h * 6364136223846793005)) + 1442695040888963407)) (b := 33) (by decide)
 obtain ⟨z2, e2⟩ := shr_ex (IntKind.i64.wrap ((IntKind.i64.wrap (h * 6364136223846793005)) + 1442695040888963407)) (b := 45) (by decide)
 rw [e1, e2]
 simp only [Option.bind_some, joinK_bif, joinK_go, J_spec_l01Bytex0]
 have hlo := hc.lo
 have hln := hc.len
 by_cases hi : i < b.length
 ·obtain ⟨x, hx, _⟩ := ix_ex hlo hi
  rw [hx]
  simp only [hi, decide_true, cond_true, Option.bind_some, joinK_go]
  exact ⟨_, rfl, rfl, ⟨hln, by simp only; rw [wrap_sml (x := i + 1) (by omega) (by omega)]; omega⟩, and255 _⟩
 ·simp only [hi, decide_false, cond_false, joinK_go]
  exact ⟨_, rfl, rfl, hc, and255 _⟩)
theorem remx_ps {a b : Int} (ha : 0 ≤ a) (hb : 0 < b) : remx a b = some (a % b) := by
 unfold remx
 have : (b == 0) = false := by simp; omega
 rw [this, Int.tmod_eq_emod_of_nonneg ha]; rfl
theorem below_ok {b : List Int} {i : Int} (hc : Cu b i) (h n : Int) : Ok (F_spec_l01Below b i h n) (CuQ b fun r => 0 ≤ r ∧ (0 < n → r < n)) := (U_spec_l01Below b i h n).ok (OkG.out (by
 refine OkG.bif (fun h0 => ?_) (fun h0 => OkG.bif (fun h1 => ?_) (fun h1 => ?_))
 ·have := of_decide_eq_true h0
  exact OkG.val ⟨rfl, hc, by omega, by simp only; omega⟩
 ·have h0' := of_decide_eq_false h0
  refine OkG.call (byte_ok hc h) ?_
  rintro ⟨r, b', i', h'⟩ ⟨rfl, hc', hr, _⟩
  simp only at hr ⊢
  rw [remx_ps hr (by omega)]
  refine OkG.val ⟨rfl, hc', Int.emod_nonneg _ (by omega), fun h => Int.emod_lt_of_pos _ h⟩
 ·have h0' := of_decide_eq_false h0
  refine OkG.call (byte_ok hc h) ?_
  rintro ⟨r, b', i', h'⟩ ⟨rfl, hc', hr, hr'⟩
  refine OkG.call (byte_ok hc' h') ?_
  rintro ⟨r2, b', i', h'⟩ ⟨rfl, hc', hs, hs'⟩
  refine OkG.call (byte_ok hc' h') ?_
  rintro ⟨r3, b', i', h'⟩ ⟨rfl, hc', ht, ht'⟩
  simp only at hr hr' hs hs' ht ht' ⊢
  rw [wrap_sml (x := r * 65536) (by omega) (by omega), wrap_sml (x := r2 * 256) (by omega) (by omega), wrap_sml (x := r * 65536 + r2 * 256) (by omega) (by omega), wrap_sml (x := r * 65536 + r2 * 256 + r3) (by omega) (by omega), remx_ps (by omega) (by omega)]
  exact OkG.val ⟨rfl, hc', Int.emod_nonneg _ (by omega), fun h => Int.emod_lt_of_pos _ h⟩))
theorem once_ok {b : List Int} {i : Int} (hc : Cu b i) (h n : Int) : Ok (F_spec_l01Once b i h n) (fun y => y.2.1 = b ∧ Cu b y.2.2.1) := (U_spec_l01Once b i h n).ok (OkG.out (by
 refine OkG.call (below_ok hc h n) ?_
 rintro ⟨r, b', i', h'⟩ ⟨rfl, hc', _⟩
 exact OkG.val ⟨rfl, hc'⟩))
theorem pick_ok {b : List Int} {i : Int} (hc : Cu b i) (h : Int) {l : List Int} (hl : 0 < l.length) : Ok (F_spec_l01PickInt b i h l) (CuQ b fun r => r ∈ l) := (U_spec_l01PickInt b i h l).ok (OkG.out (by
 refine OkG.call (below_ok hc h l.length) ?_
 rintro ⟨r, b', i', h'⟩ ⟨rfl, hc', h0, h1⟩
 have h1' := h1 (by omega)
 simp only at h0 h1' ⊢
 obtain ⟨x, hx, hm⟩ := ix_ex h0 h1'
 rw [hx]
 exact OkG.val ⟨rfl, hc', hm⟩))
theorem pickT_ok {b : List Int} {i : Int} (hc : Cu b i) (h : Int) {l : List ByteArray} (hl : 0 < l.length) : Ok (F_spec_l01PickText b i h l) (fun y => y.2.1 = b ∧ Cu b y.2.2.1 ∧ y.1 ∈ l) := (U_spec_l01PickText b i h l).ok (OkG.out (by
 refine OkG.call (below_ok hc h l.length) ?_
 rintro ⟨r, b', i', h'⟩ ⟨rfl, hc', h0, h1⟩
 have h1' := h1 (by omega)
 simp only at h0 h1' ⊢
 obtain ⟨x, hx, hm⟩ := ix_ex h0 h1'
 rw [hx]
 exact OkG.val ⟨rfl, hc', hm⟩))
theorem new_ok {b : List Int} (hb : b.length ≤ 1073741824) : Ok (F_spec_l01New b) (fun y => y.1 = b ∧ Cu b y.2.1) := (U_spec_l01New b).ok (OkG.out (by
 refine OkG.join (fun _ => True) (Ok.of (Ok.loop (S := Int × Int) (fun s => b.length - s.2.toNat) (fun s => 0 ≤ s.2 ∧ s.2 ≤ b.length) ?_ _ ⟨by simp, by simp⟩)) ?_
 ·rintro ⟨v, i⟩ ⟨h0, h1⟩ G hG
  simp only at h0 h1
  unfold L_spec_l01Newx0
  refine OkG.join (fun c => c = true → i < b.length) ?_ ?_
  ·refine OkG.bif (fun h => ?_) (fun h => ?_)
   ·exact OkG.val fun _ => of_decide_eq_true h
   ·exact OkG.val fun h => by cases h
  ·intro c hc
   refine OkG.bif (fun h => ?_) (fun h => OkG.val trivial)
   have hi := hc h
   obtain ⟨x, hx, _⟩ := ix_ex h0 hi
   rw [hx]
   simp only [Option.bind_some]
   refine hG _ ?_ ?_
   ·simp only; rw [wrap_sml (by omega) (by omega)]; omega
   ·simp only; rw [wrap_sml (by omega) (by omega)]; omega
 ·intro s _
  exact OkG.val ⟨rfl, hb, by simp⟩))
theorem size_ok {b : List Int} (hb : b.length ≤ 1073741824) {m : Int} (h0 : 1 ≤ m) : Ok (F_spec_l01Size b m) (fun r => 1 ≤ r ∧ r ≤ m) := (U_spec_l01Size b m).ok (OkG.out (by
 rw [quox_some (by omega) (by omega) (by omega)]
 simp only [Option.bind_some]
 have : IntKind.i64.wrap (2 + (b.length : Int) / 16) = 2 + (b.length : Int) / 16 := wrap_sml (by omega) (by omega)
 rw [this]
 refine OkG.bif (fun h => OkG.val ⟨h0, Int.le_refl _⟩) (fun h => ?_)
 have := of_decide_eq_false h
 exact OkG.val ⟨by omega, by omega⟩))
end Go.Proofs.YtficimgbanaafaaGreatX
namespace Go.Proofs.YtficimgbanaafaaGreatX
open Go Go.Proofs.YtficimgbanaafaaGreatT PT
set_option linter.all false
structure Sm (N c : Nat) (p : List Nd) : Prop where
 len : p.length ≤ N
 nodes : ∀ n ∈ p, n.2.1.size ≤ 100 ∧ n.2.2.2.2.2.2.1.length ≤ c
theorem Sm.mono {N M c d : Nat} {p : List Nd} (h : Sm N c p) (h1 : N ≤ M) (h2 : c ≤ d) : Sm M d p := ⟨Nat.le_trans h.len h1, fun n hn => ⟨(h.nodes n hn).1, Nat.le_trans (h.nodes n hn).2 h2⟩⟩
theorem Sm.bplan {N c : Nat} {p : List Nd} (h : Sm N c p) (h1 : N ≤ 1073741824) (h2 : c ≤ 1073741824) : BPlan p := ⟨Nat.le_trans h.len h1, fun n hn => ⟨by have := (h.nodes n hn).1; omega, by have := (h.nodes n hn).2; omega⟩⟩
theorem Sm.one {c : Nat} {n : Nd} (h1 : n.2.1.size ≤ 100) (h2 : n.2.2.2.2.2.2.1.length ≤ c) : Sm 1 c [n] := ⟨by simp, fun m hm => by rw [List.mem_singleton.1 hm]; exact ⟨h1, h2⟩⟩
theorem Sm.app {N M c : Nat} {p q : List Nd} (h : Sm N c p) (k : Sm M c q) : Sm (N + M) c (p ++ q) := ⟨by have := h.len; have := k.len; simp; omega, fun n hn => (List.mem_append.1 hn).elim (h.nodes n) (k.nodes n)⟩
theorem Sm.flat2 {N M c : Nat} {p q : List Nd} (h : Sm N c p) (k : Sm M c q) : Sm (N + M) c [p, q].flatten := by simpa using h.app k
theorem Sm.flat3 {N M K c : Nat} {p q r : List Nd} (h : Sm N c p) (k : Sm M c q) (l : Sm K c r) : Sm (N + (M + K)) c [p, q, r].flatten := by simpa using h.app (k.app l)
theorem joined_ok {l : List (List Nd)} {N c : Nat} (hl : l.length ≤ 1000) (h : Sm N c l.flatten) (h1 : N ≤ 1073741824) (h2 : c ≤ 1073741824) : Ok (F_spec_l02Joined l) (Sm N c) := ⟨_, V_spec_l02Joined hl (h.bplan h1 h2), h⟩
abbrev PlQ (b : List Int) (N : Nat) (y : List SNode × Int × List Int × Int × Int) : Prop := Sm N 3 y.1 ∧ y.2.2.1 = b ∧ Cu b y.2.2.2.1
theorem e100 : ByteArray.empty.size ≤ 100 := by decide
theorem draw_step {b : List Int} (n : Nat) (hn : n ≤ 10) (IH : ∀ (d i h : Int), Cu b i → 0 ≤ d → d + 1 ≤ n → Ok (F_spec_l02DrawPlan b i h d) (PlQ b (4 ^ n))) (d i h : Int) (hc : Cu b i) (hd : d ≤ n) :
  Ok (F_spec_l02DrawPlan b i h d) (PlQ b (4 ^ (n + 1))) := (U_spec_l02DrawPlan b i h d).ok (OkG.out (by
 have h41 : 4 ^ (n + 1) = 4 * 4 ^ n := by rw [Nat.pow_succ]; omega
 have h4p : 1 ≤ 4 ^ n := Nat.one_le_pow _ _ (by decide)
 have h4m : 4 ^ n ≤ 4 ^ 10 := Nat.pow_le_pow_right (by decide) hn
 have h4c : 4 ^ 10 = 1048576 := by decide
 have h4b : 4 ^ n ≤ 1048576 := by omega
 refine OkG.call (pick_ok hc h (by simp)) ?_
 rintro ⟨r, b', i', h'⟩ ⟨rfl, hc', _⟩
 refine OkG.join (fun v => d ≤ 1 → v = 0) ?_ ?_
 ·exact OkG.bif (fun _ => OkG.val fun _ => rfl) (fun h => OkG.val fun h' => by have := of_decide_eq_false h; omega)
 intro v hv
 unfold J_spec_l02DrawPlanx0
 refine OkG.bif (fun _ => ?_) (fun h0 => ?_)
 ·refine OkG.call (below_ok hc' h' 3) ?_
  rintro ⟨r1, b', i', h'⟩ ⟨rfl, hc', hr, hr'⟩
  have hr3 := hr' (by decide)
  simp only at hr hr3 ⊢
  obtain ⟨z4, e4, m4⟩ := ix_ex (l := [(⟨#[116, 49]⟩ : ByteArray), (⟨#[116, 50]⟩ : ByteArray), (⟨#[116, 51]⟩ : ByteArray)]) hr (by simp; omega)
  obtain ⟨z5, e5, m5⟩ := ix_ex (l := [(2 : Int), 3, 1]) hr (by simp; omega)
  rw [e4, e5]
  refine OkG.val ⟨(Sm.one ?_ (by simp)).mono (by omega) (Nat.le_refl _), rfl, hc'⟩
  simp only [List.mem_cons, List.not_mem_nil, or_false] at m4
  rcases m4 with rfl | rfl | rfl <;> decide
 have hd2 : 2 ≤ d := by
  rcases Int.lt_or_le d 2 with h | h
  ·rw [hv (by omega)] at h0; cases h0
  ·exact h
 have hn2 : 2 ≤ n := by omega
 have h42 : 4 ^ 2 ≤ 4 ^ n := Nat.pow_le_pow_right (by decide) hn2
 have hw1 : IntKind.i64.wrap (d - 1) = d - 1 := wrap_sml (by omega) (by omega)
 have hw2 : IntKind.i64.wrap (d - 2) = d - 2 := wrap_sml (by omega) (by omega)
 simp only [hw1, hw2]
 have sub1 : ∀ i h, Cu b' i → Ok (F_spec_l02DrawPlan b' i h (d - 1)) (PlQ b' (4 ^ n)) := fun i h hc => IH _ i h hc (by omega) (by omega)
 have sub2 : ∀ i h, Cu b' i → Ok (F_spec_l02DrawPlan b' i h (d - 2)) (PlQ b' (4 ^ n)) := fun i h hc => IH _ i h hc (by omega) (by omega)
 refine OkG.bif (fun _ => ?_) (fun _ => OkG.bif (fun _ => ?_) (fun _ => ?_))
 ·refine OkG.call (sub1 _ _ hc') ?_
  rintro ⟨p1, w1, b', i', h'⟩ ⟨s1, rfl, hc'⟩
  refine OkG.call (sub2 _ _ hc') ?_
  rintro ⟨p2, w2, b', i', h'⟩ ⟨s2, rfl, hc'⟩
  refine OkG.call (below_ok hc' _ _) ?_
  rintro ⟨r1, b', i', h'⟩ ⟨rfl, hc', _⟩
  refine OkG.call (below_ok hc' _ _) ?_
  rintro ⟨r2, b', i', h'⟩ ⟨rfl, hc', _⟩
  refine OkG.call (joined_ok (by simp) (Sm.flat3 (Sm.one e100 (Nat.zero_le 3)) s1 s2) (by omega) (by decide)) ?_
  intro q hq
  exact OkG.val ⟨hq.mono (by omega) (Nat.le_refl _), rfl, hc'⟩
 ·refine OkG.call (sub1 _ _ hc') ?_
  rintro ⟨p1, w1, b', i', h'⟩ ⟨s1, rfl, hc'⟩
  refine OkG.call (sub2 _ _ hc') ?_
  rintro ⟨p2, w2, b', i', h'⟩ ⟨s2, rfl, hc'⟩
  refine OkG.join (fun s => Sm (4 ^ n + 1) 3 s.1 ∧ Sm (4 ^ n + 1) 3 s.2.2) ?_ ?_
  ·refine OkG.bif (fun _ => ?_) (fun _ => OkG.val ⟨s1.mono (by omega) (Nat.le_refl _), s2.mono (by omega) (Nat.le_refl _)⟩)
   refine OkG.call (joined_ok (by simp) (Sm.flat2 (Sm.one e100 (by simp)) s1) (by omega) (by decide)) ?_
   intro q1 hq1
   refine OkG.call (joined_ok (by simp) (Sm.flat2 (Sm.one e100 (by simp)) s2) (by omega) (by decide)) ?_
   intro q2 hq2
   exact OkG.val ⟨hq1.mono (by omega) (Nat.le_refl _), hq2.mono (by omega) (Nat.le_refl _)⟩
  ·rintro ⟨q1, w, q2⟩ ⟨t1, t2⟩
   unfold J_spec_l02DrawPlanx1
   refine OkG.call (joined_ok (by simp) (Sm.flat3 (Sm.one e100 (Nat.zero_le 3)) t1 t2) (by omega) (by decide)) ?_
   intro q hq
   exact OkG.val ⟨hq.mono (by omega) (Nat.le_refl _), rfl, hc'⟩
 ·refine OkG.call (sub1 _ _ hc') ?_
  rintro ⟨p1, w1, b', i', h'⟩ ⟨s1, rfl, hc'⟩
  refine OkG.join (fun s => s.2.2.1.size ≤ 100 ∧ s.2.2.2.2.2.2.2.1.length ≤ 3 ∧ s.2.2.2.2.2.2.2.2.1 = b' ∧ Cu b' s.2.2.2.2.2.2.2.2.2.1) ?_ ?_
  ·refine OkG.bif (fun _ => ?_) (fun _ => OkG.bif (fun _ => ?_) (fun _ => OkG.bif (fun _ => ?_) (fun _ => OkG.bif (fun _ => ?_) (fun _ => ?_))))
   ·refine OkG.call (below_ok hc' _ _) ?_
    rintro ⟨r1, b', i', h'⟩ ⟨rfl, hc', _⟩
    refine OkG.call (below_ok hc' _ _) ?_
    rintro ⟨r2, b', i', h'⟩ ⟨rfl, hc', _⟩
    refine OkG.bif (fun _ => ?_) (fun _ => ?_)
    ·refine OkG.call (below_ok hc' _ _) ?_
     rintro ⟨r3, b', i', h'⟩ ⟨rfl, hc', _⟩
     exact OkG.val ⟨e100, by simp, rfl, hc'⟩
    ·exact OkG.val ⟨e100, by simp, rfl, hc'⟩
   ·refine OkG.join (fun s => s.2.1.size ≤ 100 ∧ s.2.2.2.2.2.2.1.length ≤ 3 ∧ s.2.2.2.2.2.2.2.1 = b' ∧ Cu b' s.2.2.2.2.2.2.2.2.1) ?_ ?_
    ·refine OkG.call (below_ok hc' _ 3) ?_
     rintro ⟨r1, b', i', h'⟩ ⟨rfl, hc', hr, hr'⟩
     have hr3 := hr' (by decide)
     simp only at hr hr3 ⊢
     have hw : IntKind.i64.wrap (1 + r1) = 1 + r1 := wrap_sml (by omega) (by omega)
     rw [hw]
     refine Ok.of (Ok.loop (S := Int × ByteArray × Int × Int × Int × Bool × List Int × Int × List Int × Int × Int) (fun s => s.2.2.2.2.2.2.2.1.toNat) (fun s => 0 ≤ s.2.2.2.2.2.2.2.1 ∧ s.2.2.2.2.2.2.2.1 + s.2.2.2.2.2.2.1.length ≤ 3 ∧ s.2.1.size ≤ 100 ∧ s.2.2.2.2.2.2.2.2.1 = b' ∧ Cu b' s.2.2.2.2.2.2.2.2.2.1) ?_ _ ⟨by simp only; omega, by simp; omega, e100, rfl, hc'⟩)
     rintro ⟨a1, a2, a3, a4, a5, a6, cs, k, b', i', h'⟩ ⟨k0, k3, n1, rfl, hc'⟩ G hG
     simp only at k0 k3
     unfold L_spec_l02DrawPlanx0
     refine OkG.bif (fun hk => ?_) (fun hk => OkG.val ⟨n1, by simp only; omega, rfl, hc'⟩)
     have hk' : k > 0 := of_decide_eq_true hk
     refine OkG.call (below_ok hc' _ _) ?_
     rintro ⟨r3, b', i', h'⟩ ⟨rfl, hc', _⟩
     rw [apx_some (by simp; omega)]
     simp only [Option.bind_some]
     have hw : IntKind.i64.wrap (k - 1) = k - 1 := wrap_sml (by omega) (by omega)
     rw [hw]
     exact hG _ ⟨by simp only; omega, by simp; omega, n1, rfl, hc'⟩ (by simp only; omega)
    ·rintro ⟨a1, a2, a3, a4, a5, a6, cs, b', i', h'⟩ ⟨n1, n2, rfl, hc'⟩
     exact OkG.val ⟨n1, n2, rfl, hc'⟩
   ·refine OkG.call (below_ok hc' _ _) ?_
    rintro ⟨r1, b', i', h'⟩ ⟨rfl, hc', _⟩
    exact OkG.val ⟨e100, by simp, rfl, hc'⟩
   ·refine OkG.call (below_ok hc' _ _) ?_
    rintro ⟨r1, b', i', h'⟩ ⟨rfl, hc', _⟩
    exact OkG.val ⟨e100, by simp, rfl, hc'⟩
   ·exact OkG.val ⟨e100, by simp, rfl, hc'⟩
  ·rintro ⟨w, a1, a2, a3, a4, a5, a6, cs, b', i', h'⟩ ⟨n1, n2, rfl, hc'⟩
   unfold J_spec_l02DrawPlanx2
   refine OkG.call (joined_ok (by simp) (Sm.flat2 (Sm.one (n := (a1, a2, a3, a4, a5, a6, cs, ())) n1 n2) s1) (by omega) (by decide)) ?_
   intro q hq
   exact OkG.val ⟨hq.mono (by omega) (Nat.le_refl _), rfl, hc'⟩))
theorem plan_ok {b : List Int} : ∀ (n : Nat), n ≤ 10 → ∀ (d i h : Int), Cu b i → d ≤ n → Ok (F_spec_l02DrawPlan b i h d) (PlQ b (4 ^ (n + 1)))
 | 0, hn, d, i, h, hc, hd => draw_step 0 hn (fun d' i h hc h0 h1 => by omega) d i h hc hd
 | n + 1, hn, d, i, h, hc, hd => draw_step (n + 1) hn (fun d' i h hc h0 h1 => plan_ok n (by omega) d' i h hc (by omega)) d i h hc hd
end Go.Proofs.YtficimgbanaafaaGreatX
namespace Go.Proofs.YtficimgbanaafaaGreatX
open Go Go.Proofs.YtficimgbanaafaaGreatT PT
set_option linter.all false
abbrev PnQ (b : List Int) (N c : Nat) (y : List SNode × List Int × Int × Int) : Prop := Sm N c y.1 ∧ y.2.1 = b ∧ Cu b y.2.2.1
theorem rich_ok {b : List Int} {i : Int} (hc : Cu b i) (h : Int) {code : List Int} (hl : code.length ≤ 1073741824) : Ok (F_spec_l08DrawRich b i h code) (PnQ b 4100 3) := (U_spec_l08DrawRich b i h code).ok (OkG.out (by
 refine OkG.call (size_ok hl (by decide)) ?_
 intro m hm
 refine OkG.call (below_ok hc h m) ?_
 rintro ⟨r, b', i', h'⟩ ⟨rfl, hc', h0, h1⟩
 have h1' := h1 (by omega)
 simp only at h0 h1' ⊢
 have hw : IntKind.i64.wrap (1 + r) = 1 + r := wrap_sml (by omega) (by omega)
 rw [hw]
 refine OkG.call (plan_ok 5 (by decide) _ _ _ hc' (by omega)) ?_
 rintro ⟨p, w, b', i', h'⟩ ⟨sp, rfl, hc'⟩
 refine OkG.join (fun s => Sm 4100 3 s.1 ∧ s.2.1 = b' ∧ Cu b' s.2.2.1) ?_ (fun s hs => OkG.val hs)
 refine OkG.call (below_ok hc' _ 4) ?_
 rintro ⟨r4, b', i', h'⟩ ⟨rfl, hc', q0, q1⟩
 have q1' := q1 (by decide)
 simp only at q0 q1' sp ⊢
 have hw : IntKind.i64.wrap (1 + r4) = 1 + r4 := wrap_sml (by omega) (by omega)
 rw [hw]
 refine Ok.of (Ok.loop (S := List SNode × Int × Int × List Int × Int × Int) (fun s => s.2.2.1.toNat) (fun s => 0 ≤ s.2.2.1 ∧ s.2.2.1 ≤ 4 ∧ Sm (4100 - s.2.2.1.toNat) 3 s.1 ∧ s.2.2.2.1 = b' ∧ Cu b' s.2.2.2.2.1) ?_ _ ⟨by simp only; omega, by simp only; omega, sp.mono (by simp only; omega) (Nat.le_refl _), rfl, hc'⟩)
 rintro ⟨p1, w1, k, b', i', h'⟩ ⟨k0, k4, s1, rfl, hc'⟩ G hG
 simp only at k0 k4 s1
 unfold L_spec_l08DrawRichx0
 refine OkG.bif (fun hk => ?_) (fun hk => OkG.val ⟨s1.mono (by omega) (Nat.le_refl _), rfl, hc'⟩)
 have hk' : k > 0 := of_decide_eq_true hk
 refine OkG.join (fun s => Sm (4100 - (k - 1).toNat) 3 s.1 ∧ s.2.2.1 = b' ∧ Cu b' s.2.2.2.1) ?_ ?_
 ·refine OkG.call (pick_ok hc' _ (by simp)) ?_
  rintro ⟨v, b', i', h'⟩ ⟨rfl, hc', _⟩
  refine OkG.join (fun s => s.2.2.1.size ≤ 100 ∧ s.2.2.2.2.2.2.2.1.length ≤ 3 ∧ s.2.2.2.2.2.2.2.2.1 = b' ∧ Cu b' s.2.2.2.2.2.2.2.2.2.1) ?_ ?_
  ·refine OkG.bif (fun _ => ?_) (fun _ => OkG.bif (fun _ => ?_) (fun _ => OkG.bif (fun _ => ?_) (fun _ => OkG.bif (fun _ => ?_) (fun _ => ?_))))
   ·refine OkG.call (below_ok hc' _ _) ?_
    rintro ⟨r1, b', i', h'⟩ ⟨rfl, hc', _⟩
    refine OkG.call (below_ok hc' _ _) ?_
    rintro ⟨r2, b', i', h'⟩ ⟨rfl, hc', _⟩
    refine OkG.bif (fun _ => ?_) (fun _ => ?_)
    ·refine OkG.call (below_ok hc' _ _) ?_
     rintro ⟨r3, b', i', h'⟩ ⟨rfl, hc', _⟩
     exact OkG.val ⟨e100, by simp, rfl, hc'⟩
    ·exact OkG.val ⟨e100, by simp, rfl, hc'⟩
   ·refine OkG.join (fun s => s.2.1.size ≤ 100 ∧ s.2.2.2.2.2.2.1.length ≤ 3 ∧ s.2.2.2.2.2.2.2.1 = b' ∧ Cu b' s.2.2.2.2.2.2.2.2.1) ?_ ?_
    ·refine OkG.call (below_ok hc' _ 3) ?_
     rintro ⟨r1, b', i', h'⟩ ⟨rfl, hc', hr, hr'⟩
     have hr3 := hr' (by decide)
     simp only at hr hr3 ⊢
     have hw : IntKind.i64.wrap (1 + r1) = 1 + r1 := wrap_sml (by omega) (by omega)
     rw [hw]
     refine Ok.of (Ok.loop (S := Int × ByteArray × Int × Int × Int × Bool × List Int × Int × List Int × Int × Int) (fun s => s.2.2.2.2.2.2.2.1.toNat) (fun s => 0 ≤ s.2.2.2.2.2.2.2.1 ∧ s.2.2.2.2.2.2.2.1 + s.2.2.2.2.2.2.1.length ≤ 3 ∧ s.2.1.size ≤ 100 ∧ s.2.2.2.2.2.2.2.2.1 = b' ∧ Cu b' s.2.2.2.2.2.2.2.2.2.1) ?_ _ ⟨by simp only; omega, by simp; omega, e100, rfl, hc'⟩)
     rintro ⟨a1, a2, a3, a4, a5, a6, cs, j, b', i', h'⟩ ⟨j0, j3, n1, rfl, hc'⟩ G hG
     simp only at j0 j3
     unfold L_spec_l08DrawRichx1
     refine OkG.bif (fun hj => ?_) (fun hj => OkG.val ⟨n1, by simp only; omega, rfl, hc'⟩)
     have hj' : j > 0 := of_decide_eq_true hj
     refine OkG.call (below_ok hc' _ _) ?_
     rintro ⟨r3, b', i', h'⟩ ⟨rfl, hc', _⟩
     rw [apx_some (by simp; omega)]
     simp only [Option.bind_some]
     have hw : IntKind.i64.wrap (j - 1) = j - 1 := wrap_sml (by omega) (by omega)
     rw [hw]
     exact hG _ ⟨by simp only; omega, by simp; omega, n1, rfl, hc'⟩ (by simp only; omega)
    ·rintro ⟨a1, a2, a3, a4, a5, a6, cs, b', i', h'⟩ ⟨n1, n2, rfl, hc'⟩
     exact OkG.val ⟨n1, n2, rfl, hc'⟩
   ·refine OkG.call (below_ok hc' _ _) ?_
    rintro ⟨r1, b', i', h'⟩ ⟨rfl, hc', _⟩
    exact OkG.val ⟨e100, by simp, rfl, hc'⟩
   ·refine OkG.call (below_ok hc' _ _) ?_
    rintro ⟨r1, b', i', h'⟩ ⟨rfl, hc', _⟩
    exact OkG.val ⟨e100, by simp, rfl, hc'⟩
   ·exact OkG.val ⟨e100, by simp, rfl, hc'⟩
  ·rintro ⟨w, a1, a2, a3, a4, a5, a6, cs, b', i', h'⟩ ⟨n1, n2, rfl, hc'⟩
   unfold J_spec_l08DrawRichx2
   refine OkG.call (joined_ok (by simp) (Sm.flat2 (Sm.one (n := (a1, a2, a3, a4, a5, a6, cs, ())) n1 n2) s1) (by omega) (by decide)) ?_
   intro q hq
   exact OkG.val ⟨hq.mono (by omega) (Nat.le_refl _), rfl, hc'⟩
 ·rintro ⟨p2, w2, b', i', h'⟩ ⟨s2, rfl, hc'⟩
  unfold J_spec_l08DrawRichx1
  have hw : IntKind.i64.wrap (k - 1) = k - 1 := wrap_sml (by omega) (by omega)
  rw [hw]
  exact hG _ ⟨by simp only; omega, by simp only; omega, s2, rfl, hc'⟩ (by simp only; omega)))
theorem liftL_sm {c : Nat} : ∀ (l : List Nd) (i : Nat), (∀ n ∈ l, n.2.1.size ≤ 100 ∧ n.2.2.2.2.2.2.1.length ≤ c) → ∀ n ∈ liftL l i, n.2.1.size ≤ 100 ∧ n.2.2.2.2.2.2.1.length ≤ c
 | [], i, h, n, hn => by simp [liftL] at hn
 | m :: l, i, h, n, hn => by
  have hm := h m (by simp)
  have hl : ∀ n ∈ l, n.2.1.size ≤ 100 ∧ n.2.2.2.2.2.2.1.length ≤ c := fun n hn => h n (by simp [hn])
  simp only [liftL] at hn
  split at hn
  ·rcases List.mem_cons.1 hn with rfl | hn
   ·exact hm
   ·exact liftL_sm l _ hl n hn
  ·rcases List.mem_cons.1 hn with rfl | hn
   ·exact hm
   ·exact liftL_sm l _ hl n hn
theorem Sm.lift {N c : Nat} {p : List Nd} (h : Sm N c p) : Sm N c (liftL p 0) := ⟨by rw [liftL_len]; exact h.len, liftL_sm p 0 h.nodes⟩
theorem slots_ok {b : List Int} {i : Int} (hc : Cu b i) (h : Int) {p : List SNode} {N c : Nat} (hp : Sm N c p) (h1 : N ≤ 1073741824) (h2 : c ≤ 1073741824) : Ok (F_spec_l08DrawSlots b i h p) (PnQ b N c) := (U_spec_l08DrawSlots b i h p).ok (OkG.out (by
 refine OkG.join (fun s => s.2.1 = b ∧ Cu b s.2.2.1) ?_ (fun s hs => OkG.val ⟨hp, hs.1, hs.2⟩)
 refine OkG.call (once_ok hc h 3) ?_
 rintro ⟨r, b', i', h'⟩ ⟨rfl, hc'⟩
 refine OkG.bif (fun _ => ?_) (fun _ => OkG.val ⟨rfl, hc'⟩)
 rw [V_spec_Lift (hp.bplan h1 h2)]
 simp only [Option.bind_some]
 refine OkG.bif (fun hl => ?_) (fun _ => OkG.val ⟨rfl, hc'⟩)
 refine OkG.val ⟨?_, rfl, hc'⟩
 unfold lift at hl ⊢
 split at hl
 ·rename_i hcl
  rw [if_pos hcl]
  exact hp.lift
 ·cases hl))
theorem Sm.set {N c : Nat} {p : List Nd} (h : Sm N c p) (k : Nat) {n : Nd} (hn : n.2.1.size ≤ 100 ∧ n.2.2.2.2.2.2.1.length ≤ c) : Sm N c (p.set k n) := ⟨by simpa using h.len, fun m hm => (List.mem_or_eq_of_mem_set hm).elim (h.nodes m) (fun e => e ▸ hn)⟩
theorem tkx_ok {T : Type} {l : List T} {r : Int} (h0 : 0 ≤ r) (h1 : r ≤ l.length) : tkx l r = some (l.take r.toNat) := by simp [tkx, h0, h1]
theorem break_ok {b : List Int} {i : Int} (hc : Cu b i) (h : Int) {p : List SNode} {N c : Nat} (hp : Sm N c p) (h1 : N ≤ 1073741824) (h2 : c ≤ 1073741824) : Ok (F_spec_l02Break b i h p) (PnQ b (N + 1) (c + 1)) := (U_spec_l02Break b i h p).ok (OkG.out (by
 have hpl := hp.len
 have hp' : Sm (N + 1) (c + 1) p := hp.mono (by omega) (by omega)
 refine OkG.join (fun s => (s.1 = false → p ≠ []) ∧ s.2.1 = b ∧ Cu b s.2.2.1) ?_ ?_
 ·refine OkG.call (once_ok hc h 8) ?_
  rintro ⟨r, b', i', h'⟩ ⟨rfl, hc'⟩
  refine OkG.bif (fun _ => OkG.val ⟨fun h => (by cases h), rfl, hc'⟩) (fun _ => OkG.val ⟨fun h hp0 => ?_, rfl, hc'⟩)
  rw [hp0] at h
  simp at h
 rintro ⟨e, b', i', h'⟩ ⟨he, rfl, hc'⟩
 unfold J_spec_l02Breakx0
 refine OkG.bif (fun _ => OkG.val ⟨hp', rfl, hc'⟩) (fun hf => ?_)
 have hpos : 0 < p.length := List.length_pos_iff.2 (he hf)
 refine OkG.call (below_ok hc' _ _) ?_
 rintro ⟨k, b', i', h'⟩ ⟨rfl, hc', k0, k1⟩
 have k1' := k1 (by omega)
 simp only at k0 k1' ⊢
 obtain ⟨n, en, hn⟩ := ix_ex k0 k1'
 have hnn := hp.nodes n hn
 simp only [en, Option.bind_some]
 refine OkG.call (below_ok hc' _ _) ?_
 rintro ⟨r7, b', i', h'⟩ ⟨rfl, hc', _⟩
 refine OkG.bif (fun _ => ?_) (fun _ => OkG.bif (fun _ => ?_) (fun _ => OkG.bif (fun _ => ?_) (fun _ => OkG.bif (fun _ => ?_) (fun _ => OkG.bif (fun _ => ?_) (fun _ => OkG.bif (fun _ => ?_) (fun _ => OkG.bif (fun _ => ?_) (fun _ => ?_)))))))
 ·refine OkG.call (below_ok hc' _ _) ?_
  rintro ⟨r, b', i', h'⟩ ⟨rfl, hc', _⟩
  exact OkG.val ⟨hp'.set _ ⟨hnn.1, Nat.le_succ_of_le hnn.2⟩, rfl, hc'⟩
 ·refine OkG.call (pick_ok hc' _ (by simp)) ?_
  rintro ⟨r, b', i', h'⟩ ⟨rfl, hc', _⟩
  exact OkG.val ⟨hp'.set _ ⟨hnn.1, Nat.le_succ_of_le hnn.2⟩, rfl, hc'⟩
 ·refine OkG.call (pick_ok hc' _ (by simp)) ?_
  rintro ⟨r, b', i', h'⟩ ⟨rfl, hc', _⟩
  exact OkG.val ⟨hp'.set _ ⟨hnn.1, Nat.le_succ_of_le hnn.2⟩, rfl, hc'⟩
 ·exact OkG.val ⟨hp'.set _ ⟨hnn.1, Nat.le_succ_of_le hnn.2⟩, rfl, hc'⟩
 ·rw [apx_some (by simp; omega)]
  simp only [Option.bind_some]
  exact OkG.val ⟨(hp.app (Sm.one hnn.1 hnn.2)).mono (Nat.le_refl _) (by omega), rfl, hc'⟩
 ·rw [tkx_ok k0 (by omega)]
  simp only [Option.bind_some]
  exact OkG.val ⟨⟨by simp; omega, fun m hm => hp'.nodes m (List.mem_of_mem_take hm)⟩, rfl, hc'⟩
 ·have := hnn.2
  rw [bind2, Option.bind_some, apx_some (by simp; omega)]
  simp only [Option.bind_some]
  rw [inx_some k0 k1', eqix]
  simp only [Option.bind_some, decide_true, cond_true, en]
  exact OkG.val ⟨hp'.set _ ⟨hnn.1, by simp; omega⟩, rfl, hc'⟩
 ·exact OkG.val ⟨hp', rfl, hc'⟩))
end Go.Proofs.YtficimgbanaafaaGreatX
namespace Go.Proofs.YtficimgbanaafaaGreatX
open Go Go.Proofs.YtficimgbanaafaaGreatT PT
set_option linter.all false
structure Ss (N c : Nat) (s : List Tb) : Prop where
 len : s.length ≤ N
 names : ∀ t ∈ s, t.1.size ≤ c
theorem Ss.mono {N M c d : Nat} {p : List Tb} (h : Ss N c p) (h1 : N ≤ M) (h2 : c ≤ d) : Ss M d p := ⟨Nat.le_trans h.len h1, fun n hn => Nat.le_trans (h.names n hn) h2⟩
theorem Ss.bsch {N c : Nat} {s : List Tb} (h : Ss N c s) (h1 : N ≤ 1073741824) (h2 : c ≤ 1073741824) : BSch s := ⟨Nat.le_trans h.len h1, fun n hn => by have := h.names n hn; omega⟩
theorem Ss.set {N c : Nat} {p : List Tb} (h : Ss N c p) (k : Nat) {n : Tb} (hn : n.1.size ≤ c) : Ss N c (p.set k n) := ⟨by simpa using h.len, fun m hm => (List.mem_or_eq_of_mem_set hm).elim (h.names m) (fun e => e ▸ hn)⟩
def tabs3 : List Tb := [((⟨#[116, 49]⟩ : ByteArray), (2, ())), ((⟨#[116, 50]⟩ : ByteArray), (3, ())), ((⟨#[116, 51]⟩ : ByteArray), (1, ()))]
theorem tabs3_ok : Ss 3 2 tabs3 := ⟨by decide, by
 intro t ht
 simp only [tabs3, List.mem_cons, List.not_mem_nil, or_false] at ht
 rcases ht with rfl | rfl | rfl <;> decide⟩
theorem tables_ok : F_spec_l03Tables = some tabs3 := U_spec_l03Tables.out rfl
theorem num_ok {a : Int} (h0 : 0 ≤ a) (h1 : a ≤ 100) : Ok (F_spec_l01Num a) (fun t => t.size ≤ 101) := (U_spec_l01Num a).ok (OkG.out (by
 refine OkG.bif (fun _ => OkG.val (by decide)) (fun hz => ?_)
 refine OkG.join (fun t => t.size ≤ 101) (Ok.of (Ok.loop (S := Int × ByteArray) (fun s => s.1.toNat) (fun s => 0 ≤ s.1 ∧ s.1 ≤ 100 ∧ s.2.size + s.1 ≤ 101) ?_ _ ⟨h0, h1, ?_⟩)) ?_
 ·rintro ⟨v, t⟩ ⟨v0, v1, ht⟩ G hG
  simp only at v0 v1 ht
  unfold L_spec_l01Numx0
  refine OkG.bif (fun h => ?_) (fun h => OkG.val (by simp only; omega))
  have hv : v ≠ 0 := by rintro rfl; simp at h
  rw [remx_ps v0 (by decide)]
  simp only [Option.bind_some]
  refine OkG.join (fun _ => True) (OkG.bif (fun _ => OkG.val trivial) (fun _ => OkG.val trivial)) ?_
  intro d _
  unfold J_spec_l01Numx1
  have hsz : (bsOf [IntKind.u8.wrap (IntKind.i64.wrap (48 + d))]).size = 1 := rfl
  have ha : ∃ z, addx (bsOf [IntKind.u8.wrap (IntKind.i64.wrap (48 + d))]) t = some z ∧ z.size = 1 + t.size := by
   unfold addx
   rw [show Nat.ble ((bsOf [IntKind.u8.wrap (IntKind.i64.wrap (48 + d))]).size + t.size) 4611686018427387904 = true from by rw [hsz, Nat.ble_eq]; omega]
   exact ⟨_, rfl, by rw [ByteArray.size_append, hsz]⟩
  obtain ⟨z, hz, hzs⟩ := ha
  rw [hz, quox_some v0 (by omega) (by decide)]
  simp only [Option.bind_some]
  exact hG _ ⟨by simp only; omega, by simp only; omega, by simp only; omega⟩ (by simp only; omega)
 ·show ((0 : Nat) : Int) + a ≤ 101
  omega
 ·intro t ht
  unfold J_spec_l01Numx0
  refine OkG.bif (fun h => ?_) (fun _ => OkG.val ht)
  have := of_decide_eq_true h
  omega))
theorem schema_ok {b : List Int} {i : Int} (hc : Cu b i) (h : Int) : Ok (F_spec_l03DrawSchema b i h) (fun y => Ss 9 200 y.1 ∧ y.2.1 = b ∧ Cu b y.2.2.1) := (U_spec_l03DrawSchema b i h).ok (OkG.out (by
 have h3 : Ss 9 200 tabs3 := tabs3_ok.mono (by decide) (by decide)
 have hl3 : tabs3.length = 3 := rfl
 rw [tables_ok]
 simp only [Option.bind_some]
 refine OkG.join (fun y => Ss 9 200 y.1 ∧ y.2.1 = b ∧ Cu b y.2.2.1) ?_ (fun s hs => OkG.val hs)
 refine OkG.call (once_ok hc h 6) ?_
 rintro ⟨r, b', i', h'⟩ ⟨rfl, hc'⟩
 refine OkG.bif (fun _ => ?_) (fun _ => OkG.val ⟨h3, rfl, hc'⟩)
 refine OkG.call (below_ok hc' _ 3) ?_
 rintro ⟨k, b', i', h'⟩ ⟨rfl, hc', k0, k1⟩
 have k1' := k1 (by decide)
 simp only at k0 k1' ⊢
 obtain ⟨n, en, hn⟩ := ix_ex (l := tabs3) k0 (by rw [hl3]; exact k1')
 simp only [en, Option.bind_some]
 refine OkG.call (below_ok hc' _ _) ?_
 rintro ⟨r4, b', i', h'⟩ ⟨rfl, hc', _⟩
 refine OkG.bif (fun _ => ?_) (fun _ => OkG.bif (fun _ => ?_) (fun _ => OkG.bif (fun _ => ?_) (fun _ => OkG.bif (fun _ => ?_) (fun _ => ?_))))
 ·refine OkG.call (pick_ok hc' _ (by simp)) ?_
  rintro ⟨r, b', i', h'⟩ ⟨rfl, hc', _⟩
  exact OkG.val ⟨h3.set _ (h3.names n hn), rfl, hc'⟩
 ·refine OkG.call (pickT_ok hc' _ (by simp)) ?_
  rintro ⟨t, b', i', h'⟩ ⟨rfl, hc', ht⟩
  refine OkG.val ⟨h3.set _ ?_, rfl, hc'⟩
  simp only [List.mem_cons, List.not_mem_nil, or_false] at ht
  show t.size ≤ 200
  rcases ht with rfl | rfl | rfl | rfl <;> decide
 ·rw [tkx_ok k0 (by rw [hl3]; omega)]
  simp only [Option.bind_some]
  exact OkG.val ⟨⟨by simp [hl3]; omega, fun m hm => h3.names m (List.mem_of_mem_take hm)⟩, rfl, hc'⟩
 ·refine Ok.of (Ok.loop (S := List STable × List Int × Int × Int) (fun s => 9 - s.1.length) (fun s => Ss 9 200 s.1 ∧ s.2.1 = b' ∧ Cu b' s.2.2.1) ?_ _ ⟨h3, rfl, hc'⟩)
  rintro ⟨s, b', i', h'⟩ ⟨hs, rfl, hc'⟩ G hG
  simp only at hs
  have hsl := hs.len
  unfold L_spec_l03DrawSchemax0
  refine OkG.call (below_ok hc' _ 2) ?_
  rintro ⟨r2, b', i', h'⟩ ⟨rfl, hc', q0, q1⟩
  have q1' := q1 (by decide)
  simp only at q0 q1' ⊢
  have hw : IntKind.i64.wrap (8 + r2) = 8 + r2 := wrap_sml (by omega) (by omega)
  rw [hw]
  refine OkG.bif (fun hb => ?_) (fun _ => OkG.val ⟨hs, rfl, hc'⟩)
  have hb' := of_decide_eq_true hb
  refine OkG.call (num_ok (by omega) (by omega)) ?_
  intro t ht
  have ha : ∃ z, addx (⟨#[122]⟩ : ByteArray) t = some z ∧ z.size = 1 + t.size := by
   have hsz : (⟨#[122]⟩ : ByteArray).size = 1 := rfl
   unfold addx
   rw [show Nat.ble ((⟨#[122]⟩ : ByteArray).size + t.size) 4611686018427387904 = true from by rw [hsz, Nat.ble_eq]; omega]
   exact ⟨_, rfl, by rw [ByteArray.size_append, hsz]⟩
  obtain ⟨z, hz, hzs⟩ := ha
  rw [hz]
  simp only [Option.bind_some]
  rw [apx_some (by simp; omega)]
  simp only [Option.bind_some]
  refine hG _ ⟨⟨by simp; omega, ?_⟩, rfl, hc'⟩ (by simp; omega)
  intro m hm
  rcases List.mem_append.1 hm with hm | hm
  ·exact hs.names m hm
  ·rw [List.mem_singleton.1 hm]; simp only; omega
 ·exact OkG.val ⟨h3, rfl, hc'⟩))
theorem draw8_ok {code : List Int} (hl : code.length ≤ 1073741824) : Ok (F_spec_l08Draw code) (fun y => y.1 = code ∧ Cu code y.2.1 ∧ Ss 9 200 y.2.2.2.1 ∧ Sm 4101 4 y.2.2.2.2) := (U_spec_l08Draw code).ok (OkG.out (by
 have h3 : Ss 9 200 tabs3 := tabs3_ok.mono (by decide) (by decide)
 refine OkG.call (new_ok hl) ?_
 rintro ⟨b', i', h'⟩ ⟨rfl, hc'⟩
 rw [tables_ok]
 simp only [Option.bind_some]
 refine OkG.join (fun s => Ss 9 200 s.1 ∧ s.2.1 = b' ∧ Cu b' s.2.2.1) ?_ ?_
 ·refine OkG.call (once_ok hc' _ 15) ?_
  rintro ⟨r, b', i', h'⟩ ⟨rfl, hc'⟩
  refine OkG.bif (fun _ => ?_) (fun _ => OkG.val ⟨h3, rfl, hc'⟩)
  refine OkG.call (schema_ok hc' _) ?_
  rintro ⟨s, b', i', h'⟩ ⟨hs, rfl, hc'⟩
  exact OkG.val ⟨hs, rfl, hc'⟩
 ·rintro ⟨s, b', i', h'⟩ ⟨hs, rfl, hc'⟩
  unfold J_spec_l08Drawx0
  refine OkG.call (rich_ok hc' _ hl) ?_
  rintro ⟨p, b', i', h'⟩ ⟨hp, rfl, hc'⟩
  refine OkG.call (slots_ok hc' _ hp (by decide) (by decide)) ?_
  rintro ⟨p2, b', i', h'⟩ ⟨hp2, rfl, hc'⟩
  refine OkG.call (once_ok hc' _ 15) ?_
  rintro ⟨r, b', i', h'⟩ ⟨rfl, hc'⟩
  refine OkG.bif (fun _ => ?_) (fun _ => OkG.val ⟨rfl, hc', hs, hp2.mono (by decide) (by decide)⟩)
  refine OkG.call (break_ok hc' _ hp2 (by decide) (by decide)) ?_
  rintro ⟨p3, b', i', h'⟩ ⟨hp3, rfl, hc'⟩
  exact OkG.val ⟨rfl, hc', hs, hp3⟩))
theorem step_ok {b : List Int} {i : Int} (hc : Cu b i) (h : Int) {s : List STable} (hs : BSch s) {p : List SNode} (hp : BPlan p) : Ok (F_spec_l08DrawStep b i h s p) (fun y => y.2.1 = b ∧ Cu b y.2.2.1) := (U_spec_l08DrawStep b i h s p).ok (OkG.out (by
 rw [V_spec_StepsAt hs hp]
 simp only [Option.bind_some]
 refine OkG.join (fun t => (t.1 = true → 0 < (stepsM s p).length) ∧ t.2.1 = b ∧ Cu b t.2.2.1) ?_ ?_
 ·refine OkG.bif (fun h0 => ?_) (fun _ => OkG.val ⟨fun h => (by cases h), rfl, hc⟩)
  have h0' := of_decide_eq_true h0
  refine OkG.call (below_ok hc _ 4) ?_
  rintro ⟨r, b', i', h'⟩ ⟨rfl, hc', _⟩
  exact OkG.val ⟨fun _ => by omega, rfl, hc'⟩
 ·rintro ⟨t, b', i', h'⟩ ⟨ht, rfl, hc'⟩
  unfold J_spec_l08DrawStepx0
  refine OkG.bif (fun h0 => ?_) (fun _ => ?_)
  ·have hpos := ht h0
   refine OkG.call (below_ok hc' _ _) ?_
   rintro ⟨k, b', i', h'⟩ ⟨rfl, hc', k0, k1⟩
   have k1' := k1 (by omega)
   simp only at k0 k1' ⊢
   obtain ⟨n, en, hn⟩ := ix_ex k0 k1'
   simp only [en, Option.bind_some]
   exact OkG.val ⟨rfl, hc'⟩
  ·refine OkG.call (below_ok hc' _ _) ?_
   rintro ⟨r, b', i', h'⟩ ⟨rfl, hc', _⟩
   refine OkG.call (below_ok hc' _ _) ?_
   rintro ⟨r, b', i', h'⟩ ⟨rfl, hc', _⟩
   exact OkG.val ⟨rfl, hc'⟩))
theorem apply_ok {code : List Int} (hl : code.length ≤ 1073741824) : Ok (F_spec_DrawApplyStep code) (fun y => Ss 9 200 y.1 ∧ Sm 4101 4 y.2.1) := (U_spec_DrawApplyStep code).ok (OkG.out (by
 refine OkG.call (draw8_ok hl) ?_
 rintro ⟨b', i', h', s, p⟩ ⟨rfl, hc', hs, hp⟩
 refine OkG.call (step_ok hc' _ (hs.bsch (by decide) (by decide)) (hp.bplan (by decide) (by decide))) ?_
 rintro ⟨x, b', i', h'⟩ ⟨rfl, hc'⟩
 exact OkG.val ⟨hs, hp⟩))
end Go.Proofs.YtficimgbanaafaaGreatX
namespace Go.Proofs.YtficimgbanaafaaGreatX
open Go Go.Proofs.YtficimgbanaafaaGreatT PT
set_option linter.all false
theorem V_impl_ApplyStep {s : List STable} (hs : BSch s) {p : List SNode} (hp : BPlan p) (x : SStep) : F_impl_ApplyStep s p x = some (if typedOk s p = true then applyM s p x else (p, false)) := (U_impl_ApplyStep s p x).out (by
 simp only [V_impl_TypedOk hs hp, V_impl_own hp, Option.bind_some]
 cases hty : typedOk s p with
 | false => simp
 | true =>
  obtain ⟨t, rfl, ht⟩ := typedOk_iff.1 hty
  simp [V_impl_apply ht])
theorem applyM_false {s : List Tb} {p : List Nd} {x : Sp} (h : (applyM s p x).2 = false) : (applyM s p x).1 = p := by
 unfold applyM at h ⊢
 split
 ·rename_i h0
  rw [if_pos h0] at h
  split
  ·rfl
  ·rename_i t ht
   simp only [ht] at h
   split
   ·rfl
   ·rename_i u hu
    simp only [hu] at h
    split
    ·rfl
    ·rename_i u' hu'
     simp only [hu'] at h
     split
     ·rename_i hok
      rw [if_pos hok] at h
      cases h
     ·rfl
 ·rfl
theorem nodeOk_cols6 {n : Nd} (h : nodeOk n = true) : n.2.2.2.2.2.2.1.length ≤ 6 := by
 obtain ⟨k, name, col, op, num, slot, cols, u⟩ := n
 simp only [nodeOk] at h
 simp only [Bool.and_eq_true] at h
 obtain ⟨⟨⟨⟨_, h2⟩, _⟩, _⟩, h5⟩ := h
 by_cases hk : k = 2
 ·subst hk
  rw [if_neg (by decide), if_neg (by decide), if_pos rfl] at h5
  simp only [Bool.and_eq_true] at h5
  have := okIn_iff.1 h5.1.1.1.2
  simp only; omega
 ·simp [hk] at h2
  simp [h2]
theorem typed_bp2 {s : List Tb} {p : List Nd} (h : typedOk s p = true) : BP2 p := by
 obtain ⟨t, rfl, ht⟩ := typedOk_iff.1 h
 refine ⟨ht.plan.bplan.len, fun n hn => ?_⟩
 have := nodeOk_cols6 (ht.plan.nodes n hn)
 omega
theorem Sm.bp2 {N c : Nat} {p : List Nd} (h : Sm N c p) (h1 : N ≤ 1073741824) (h2 : c ≤ 1073741824) : BP2 p := ⟨Nat.le_trans h.len h1, fun n hn => by have := (h.nodes n hn).2; omega⟩
theorem big_ok (code : List Int) : F_laws_big code = some (decide ((code.length : Int) > 1048576)) := (U_laws_big code).out rfl
theorem at_ok {code : List Int} (hl : code.length ≤ 1048576) {i : Int} (h0 : 0 ≤ i) : Ok (F_laws_at code i) (fun _ => True) := (U_laws_at code i).ok (OkG.out (by
 refine OkG.bif (fun h => ?_) (fun _ => ?_)
 ·obtain ⟨x, hx, _⟩ := ix_ex h0 (of_decide_eq_true h)
  rw [hx]
  exact OkG.val trivial
 ·exact OkG.val trivial))
theorem step_differs {s : List Tb} {p q : List Nd} (hp : typedOk s p = true) {x : Sp} (h : applyM s p x = (q, true)) (n : Int) : differs s p q n = -1 := by
 unfold differs
 cases okIn n 0 50 with
 | false => rfl
 | true =>
  rw [cond_true, findI_none.2]
  ·rfl
  ·rw [List.any_eq_false]
   intro i _
   unfold diffP
   by_cases h1 : (evalPlan s (storeFrom s i) p).2 = 0
   ·by_cases h2 : (evalPlan s (storeFrom s i) q).2 = 0
    ·simp [step_same hp h h1 h2]
    ·simp [h2]
   ·simp [h1]
end Go.Proofs.YtficimgbanaafaaGreatX
namespace Go.Proofs.YtficimgbanaafaaGreatX
open Go Go.Proofs.YtficimgbanaafaaGreatT PT
set_option linter.all false
inductive Chain (s : List Tb) (rules : List Int) : List Nd → List Sp → List Nd → Prop where
 | nil (p : List Nd) : Chain s rules p [] p
 | cons {p p' q : List Nd} {x : Sp} {xs : List Sp} (hp : typedOk s p = true) (ha : applyM s p x = (p', true)) (hr : hasR rules x = true) (h : Chain s rules p' xs q) : Chain s rules p (x :: xs) q
theorem Chain.rows {s : List Tb} {rules : List Int} {st : List Rows} (hst : storeOk s st = true) {p q : List Nd} {xs : List Sp} (h : Chain s rules p xs q) : rowsM s st q = rowsM s st p := by
 induction h with
 | nil p => rfl
 | cons hp ha hr h ih => rw [ih, step_rows hst hp ha]
theorem Chain.differs {s : List Tb} {rules : List Int} {p q : List Nd} {xs : List Sp} (h : Chain s rules p xs q) (n : Int) : differs s p q n = -1 := by
 unfold Go.Proofs.YtficimgbanaafaaGreatX.differs
 cases okIn n 0 50 with
 | false => rfl
 | true =>
  rw [cond_true, findI_none.2]
  ·rfl
  ·rw [List.any_eq_false]
   intro i _
   unfold diffP
   by_cases h1 : (evalPlan s (storeFrom s i) p).2 = 0
   ·by_cases h2 : (evalPlan s (storeFrom s i) q).2 = 0
    ·obtain ⟨a1, a2⟩ := eval_rows h1
     obtain ⟨_, b2⟩ := eval_rows h2
     simp [a2, b2, h.rows a1]
    ·simp [h2]
   ·simp [h1]
end Go.Proofs.YtficimgbanaafaaGreatX
namespace Go.Proofs.YtficimgbanaafaaGreatX
open Go Go.Proofs.YtficimgbanaafaaGreatT
set_option linter.all false
def CNd (n : Nd) : Prop := n.2.2.2.2.2.2.1.length ≤ 1073741824
end Go.Proofs.YtficimgbanaafaaGreatX
namespace Go.Proofs.YtficimgbanaafaaGreatX
open Go Go.Proofs.YtficimgbanaafaaGreatT
set_option linter.all false
structure COp (o : Opn) : Prop where
 l1 : o.2.1.length ≤ 1073741824
 c1 : ∀ n ∈ o.2.1, CNd n
 l2 : o.2.2.1.length ≤ 1073741824
 c2 : ∀ n ∈ o.2.2.1, CNd n
 l3 : o.2.2.2.1.length ≤ 1073741824
end Go.Proofs.YtficimgbanaafaaGreatX
namespace Go.Proofs.YtficimgbanaafaaGreatX
open Go Go.Proofs.YtficimgbanaafaaGreatT
set_option linter.all false
structure CEn (e : En) : Prop where
 l1 : e.2.1.length ≤ 1073741824
 c1 : ∀ n ∈ e.2.1, CNd n
 l2 : e.2.2.1.length ≤ 1073741824
 c2 : ∀ n ∈ e.2.2.1, CNd n
end Go.Proofs.YtficimgbanaafaaGreatX
namespace Go.Proofs.YtficimgbanaafaaGreatX
open Go Go.Proofs.YtficimgbanaafaaGreatT
set_option linter.all false
theorem pure_FnStep {a0 : List Int} (w0 : a0.length ≤ maxLen) : F_laws_FnStep a0 = some true := (U_laws_FnStep a0).out (by
 rw [big_ok, Option.bind_some]
 cases hb : decide ((a0.length : Int) > 1048576) with
 | true => rfl
 | false =>
  have hl := of_decide_eq_false hb
  obtain ⟨⟨s, p, x1, x2, u⟩, e, hs, hp⟩ := apply_ok (code := a0) (by omega)
  simp only at hs hp
  have bs := hs.bsch (by decide) (by decide)
  have bp := hp.bplan (by decide) (by decide)
  have b2 := hp.bp2 (by decide) (by decide)
  simp only [e, cond_false, Option.bind_some, V_spec_ApplyStep bs bp, V_impl_ApplyStep bs bp]
  cases hty : typedOk s p with
  | false => simp [V_impl_SamePlan b2]
  | true =>
   simp only [if_true]
   cases hr : applyM s p (x1, (x2, ())) with
   | mk q ok =>
    cases ok with
    | false =>
     have hq : q = p := by have := applyM_false (s := s) (p := p) (x := (x1, (x2, ()))) (by rw [hr]); rw [hr] at this; exact this
     subst hq
     simp [V_impl_SamePlan b2]
    | true =>
     obtain ⟨ht, hw⟩ := applyM_typed hty hr
     have bq := typed_bplan ht
     simp only [V_impl_SamePlan (typed_bp2 ht), Option.bind_some, bne_self_eq_false, cond_false, joinK_go, decide_true, Bool.not_true, J_laws_FnStepx0, V_impl_WidthOf bs bp, V_impl_WidthOf bs bq, hw, V_impl_DiffersAt bs bp bq, step_differs hty hr, J_laws_FnStepx1]
     obtain ⟨y1, e1, _⟩ := at_ok (code := a0) (by omega) (i := 0) (by decide)
     obtain ⟨y2, e2, _⟩ := at_ok (code := a0) (by omega) (i := 1) (by decide)
     simp only [e1, e2, Option.bind_some, V_spec_StoreFrom bs, V_impl_EvalPlan bs (storeFrom_b _) bp, V_impl_EvalPlan bs (storeFrom_b _) bq, V_impl_SameRows (evalPlan_small _ _ _)]
     generalize hsd : storeFrom s (IntKind.i64.wrap (IntKind.i64.wrap (y1 * 256) + y2)) = st
     by_cases h1 : (evalPlan s st p).2 = 0
     ·by_cases h2 : (evalPlan s st q).2 = 0
      ·simp [h1, h2, step_same hty hr h1 h2]
      ·simp [h1, bne_iff_ne.2 h2]
     ·simp [bne_iff_ne.2 h1])
theorem wl_ByteS {n : Nat} {x : List Int} (h : wfT (.sl n (.int .u8)) x) : x.length ≤ maxLen := h.1
end Go.Proofs.YtficimgbanaafaaGreatX
