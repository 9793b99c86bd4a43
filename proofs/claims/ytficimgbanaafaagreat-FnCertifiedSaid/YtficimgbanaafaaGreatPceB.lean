/- The plain law: the plain functions answer as the statement says. -/
import Derived.Test.YtficimgbanaafaaGreatPceA
set_option linter.all false
namespace Go.Proofs.YtficimgbanaafaaGreatX
open Go Go.Proofs.YtficimgbanaafaaGreatT PT
set_option linter.all false
theorem srtR_small {l : Rows} (h : SmallR l) : SmallR (srtR l) :=
 ⟨by rw [(srtR_perm l).length_eq]; exact h.len, fun r hr => h.row r ((srtR_perm l).mem_iff.1 hr)⟩
theorem V_v {l : Rows} (h : SmallR l) : F_10 l = some (srtR l) := (U_r l).out (by
 have hl := h.len
 have hr : ∀ r ∈ l, r.length ≤ 1073741824 := fun r hr => by have := h.row r hr; omega
 have d : decide ((l.length : Int) > 200) = false := by simp; omega
 have e : F_2r l = some (srtR l) := (U_25 l).out (by
  unfold sortRF okR
  have h3 : Nat.blt l.length 4611686018427387904 = true := by rw [Nat.blt_eq]; omega
  have h4 : l.all (fun r => Nat.ble r.length 1073741824) = true := by
   rw [List.all_eq_true]
   intro r hr2
   rw [Nat.ble_eq]; exact hr r hr2
  rw [h3, h4]; rfl)
 simp only [d, cond_false, V_10 (show l.length ≤ 1073741824 by omega) hr, Option.bind_some, e])
def sameBag (a b : Rows) : Bool := decide (srtR a = srtR b)
theorem V_1m {a b : Rows} (ha : SmallR a) (hb : SmallR b) : F_1u a b = some (sameBag a b) := (U_n a b).out (by
 have h1 := ha.len
 have h2 := hb.len
 have d1 : decide ((a.length : Int) ≤ 200) = true := by simp; omega
 have d2 : decide ((b.length : Int) ≤ 200) = true := by simp; omega
 simp only [d1, d2, cond_true, V_v ha, V_v hb, Option.bind_some, V_u (srtR_small ha), joinK_go, J_v, sameBag])
def bagP (s : List Tb) (p q : List Nd) (seed : Int) : Bool := decide ((evalPlan s (storeFrom s seed) p).2 = 0) && decide ((evalPlan s (storeFrom s seed) q).2 = 0) && !sameBag (evalPlan s (storeFrom s seed) p).1 (evalPlan s (storeFrom s seed) q).1
def bags (s : List Tb) (p q : List Nd) (n : Int) : Int := bif okIn n 0 50 then fint (findI (fun i : Nat => bagP s p q (i : Int)) (List.range n.toNat) 0) else -1
theorem V_1f {s : List STable} {p q : List SNode} {n : Int} (hs : BSch s) (hp : BPlan p) (hq : BPlan q) : F_1n s p q n = some (bags s p q n) := (U_d s p q n).out (by
 have : F_20 s p q n = some (bags s p q n) := (U_10 s p q n).out (by
  simp only [V_4, Option.bind_some, bags]
  cases h : okIn n 0 50 with
  | false => simp
  | true =>
   obtain ⟨k, rfl⟩ : ∃ k : Nat, n = (k : Int) := ⟨n.toNat, by have := okIn_iff.1 h; omega⟩
   have hk := (okIn_iff.1 h).2
   have e := loop_fnum (f := fun f z => L_n s p q (k : Int) f z.1 z.2) k (bagP s p q)
    (fun i a g hi => by
     have : decide ((i : Int) < (k : Int)) = true := by simp; omega
     simp only [L_n, this, cond_true, V_w hs, V_e hs (storeFrom_b _) hp, V_e hs (storeFrom_b _) hq, V_1m (evalPlan_small _ _ _) (evalPlan_small _ _ _), Option.bind_some, joinK_bif, joinK_go, J_1a, wrap_nat (show i < 9223372036854775807 by omega), beq_dec, bagP]
     cases decide ((evalPlan s (storeFrom s (i : Int)) p).2 = 0) <;> cases decide ((evalPlan s (storeFrom s (i : Int)) q).2 = 0) <;> simp)
    (fun a g => by simp [L_n]) 0
   rw [e]
   simp only [Int.toNat_natCast]
   cases findI (fun i : Nat => bagP s p q (i : Int)) (List.range k) 0 <;> simp [J_19, fint])
 rw [this]; rfl)
end Go.Proofs.YtficimgbanaafaaGreatX
namespace Go.Proofs.YtficimgbanaafaaGreatX
open Go Go.Proofs.YtficimgbanaafaaGreatT PT
set_option linter.all false
def evR (s : List Tb) (st : List Rows) : PT → Rows
 | .n0 n => match tabAt s n.2.1 with
  | some j => (st[j]?).getD []
  | none => []
 | .n1 n a => op1 n (evR s st a)
 | .n2 n a b => op2 n (evR s st a) (evR s st b)
theorem evalT_evR {s : List Tb} {st : List Rows} : ∀ {t : PT} {x : Rows}, evalT s st t = some x → x = evR s st t
 | .n0 n, x, h => by
  simp only [evalT] at h
  split at h
  ·rename_i j hj
   split at h
   ·rename_i t ht
    obtain ⟨rfl, _⟩ := capR_some h
    simp [evR, hj, ht]
   ·cases h
  ·cases h
 | .n1 n a, x, h => by
  simp only [evalT] at h
  split at h
  ·rename_i y hy
   obtain ⟨rfl, _⟩ := capR_some h
   simp only [evR]
   rw [evalT_evR hy]
  ·cases h
 | .n2 n a b, x, h => by
  simp only [evalT] at h
  split at h
  ·rename_i y hy
   split at h
   ·rename_i z hz
    obtain ⟨rfl, _⟩ := capR_some h
    simp only [evR]
    rw [evalT_evR hy, evalT_evR hz]
   ·cases h
  ·cases h
def WR (w : Int) (x : Rows) : Prop := ∀ r ∈ x, (r.length : Int) = w
theorem filterR_eq (n : Nd) (x : Rows) : filterR n x = x.filter fun r => holds n (kc n.2.2.1 r) := by
 unfold filterR
 induction x with
 | nil => rfl
 | cons r x ih =>
  simp only [List.flatMap_cons, ih, List.filter_cons]
  cases holds n (kc n.2.2.1 r) <;> simp
theorem evR_w {s : List Tb} {st : List Rows} (h : storeOk s st = true) : ∀ {t : PT} {w : Int}, wT s t = some w → WR w (evR s st t)
 | .n0 n, w, hw => by
  simp only [wT] at hw
  simp only [evR]
  split at hw
  ·rename_i j hj
   split at hw
   ·rename_i tb htb
    cases hw
    obtain ⟨t, h1, h2, _⟩ := storeOk_tab h htb
    simp only [hj, h1, Option.getD_some]
    exact h2.row
   ·cases hw
  ·cases hw
 | .n1 n a, w, hw => by
  simp only [wT] at hw
  simp only [evR]
  split at hw
  ·cases hw
  ·rename_i v hv
   have ih := evR_w h hv
   intro r hr
   simp only [op1] at hr
   split at hw
   ·rename_i hk
    split at hw
    ·cases hw
     rw [if_neg (by omega), if_pos hk] at hr
     simp only [keepR, List.mem_map] at hr
     obtain ⟨q, _, rfl⟩ := hr
     simp
    ·cases hw
   ·rename_i hk2
    have hvw : v = w := by
     split at hw
     ·split at hw
      ·cases hw; rfl
      ·cases hw
     ·cases hw; rfl
    subst hvw
    refine ih r ?_
    split at hr
    ·rw [filterR_eq] at hr; exact (List.mem_filter.1 hr).1
    ·split at hr
     ·exact srt_mem.1 hr
     ·split at hr
      ·exact List.mem_of_mem_take hr
      ·exact (onceR_sub _).1 r hr
 | .n2 n a b, w, hw => by
  simp only [wT] at hw
  simp only [evR]
  split at hw
  ·rename_i wa wb hwa hwb
   have ih1 := evR_w h hwa
   have ih2 := evR_w h hwb
   intro r hr
   simp only [op2] at hr
   split at hw
   ·rename_i hk
    split at hw
    ·cases hw
     rw [if_pos hk] at hr
     simp only [joinR, List.mem_flatMap] at hr
     obtain ⟨l, hl, q, hq, hr⟩ := hr
     have e1 := ih1 l hl
     have e2 := ih2 q hq
     cases hh : (!decide (kc n.2.2.1 l = -2000000) && decide (kc n.2.2.1 l = kc n.2.2.2.2.1 q)) <;> rw [hh] at hr <;> simp at hr
     rw [hr]; simp; omega
    ·cases hw
   ·rename_i hk
    split at hw
    ·rename_i hww
     cases hw
     rw [if_neg hk] at hr
     rcases List.mem_append.1 hr with hr | hr
     ·exact ih1 r hr
     ·have := ih2 r hr; omega
    ·cases hw
  ·cases hw
def stepO (a : Rows) (r : List Int) : Rows := bif decide (cnt a r = 0) then a ++ [r] else a
theorem onceR_def (x : Rows) : onceR x = x.foldl stepO [] := rfl
theorem cnt_zero {a : Rows} {r : List Int} : cnt a r = 0 ↔ r ∉ a := by
 unfold cnt
 rw [List.countP_eq_zero]
 constructor
 ·intro h hm; have := h r hm; simp at this
 ·intro h q hq hd
  simp only [decide_eq_true_eq] at hd
  exact h (hd ▸ hq)
theorem stepO_in {a : Rows} {r : List Int} (h : r ∈ a) : stepO a r = a := by
 have : ¬ cnt a r = 0 := fun e => cnt_zero.1 e h
 simp [stepO, this]
theorem stepO_out {a : Rows} {r : List Int} (h : r ∉ a) : stepO a r = a ++ [r] := by
 have : cnt a r = 0 := cnt_zero.2 h
 simp [stepO, this]
theorem foldO_filter (p : List Int → Bool) : ∀ (x a : Rows), (x.foldl stepO a).filter p = (x.filter p).foldl stepO (a.filter p)
 | [], a => rfl
 | r :: x, a => by
  simp only [List.foldl_cons]
  rw [foldO_filter p x]
  by_cases hm : r ∈ a
  ·rw [stepO_in hm]
   cases hp : p r with
   | true =>
    rw [List.filter_cons_of_pos hp, List.foldl_cons, stepO_in (List.mem_filter.2 ⟨hm, hp⟩)]
   | false => rw [List.filter_cons_of_neg (by simp [hp])]
  ·rw [stepO_out hm]
   cases hp : p r with
   | true =>
    rw [List.filter_cons_of_pos hp, List.foldl_cons, stepO_out (fun h => hm (List.mem_filter.1 h).1), List.filter_append]
    simp [hp]
   | false =>
    rw [List.filter_cons_of_neg (by simp [hp]), List.filter_append]
    simp [hp]
theorem onceR_filter (p : List Int → Bool) (x : Rows) : (onceR x).filter p = onceR (x.filter p) := by
 rw [onceR_def, onceR_def, foldO_filter]; rfl
theorem foldO_sub : ∀ (x a : Rows), (x.foldl stepO a).Sublist (a ++ x)
 | [], a => by simp
 | r :: x, a => by
  simp only [List.foldl_cons]
  by_cases hm : r ∈ a
  ·rw [stepO_in hm]
   exact (foldO_sub x a).trans (List.Sublist.append (List.Sublist.refl a) (List.sublist_cons_self r x))
  ·rw [stepO_out hm]
   have := foldO_sub x (a ++ [r])
   simpa using this
theorem onceR_sublist (x : Rows) : (onceR x).Sublist x := by have := foldO_sub x []; simpa [onceR_def] using this
theorem foldO_nodup : ∀ (x a : Rows), a.Nodup → (x.foldl stepO a).Nodup
 | [], a, h => h
 | r :: x, a, h => by
  simp only [List.foldl_cons]
  by_cases hm : r ∈ a
  ·rw [stepO_in hm]; exact foldO_nodup x a h
  ·rw [stepO_out hm]
   refine foldO_nodup x _ ?_
   rw [List.nodup_append]
   exact ⟨h, by simp, fun p hp q hq => by simp at hq; rintro rfl; exact hm (hq ▸ hp)⟩
theorem foldO_self : ∀ (x a : Rows), (a ++ x).Nodup → x.foldl stepO a = a ++ x
 | [], a, _ => by simp
 | r :: x, a, h => by
  simp only [List.foldl_cons]
  have hm : r ∉ a := fun hm => by
   rw [List.nodup_append] at h
   exact h.2.2 r hm r (by simp) rfl
  rw [stepO_out hm, foldO_self x (a ++ [r]) (by simpa using h)]
  simp
theorem onceR_self (x : Rows) : onceR (onceR x) = onceR x := by
 have h1 := foldO_nodup x [] List.nodup_nil
 have h2 := foldO_self (onceR x) [] (by simpa [onceR_def] using h1)
 rw [onceR_def (onceR x), h2]; rfl
theorem filter_filterR (n m : Nd) (z : Rows) : filterR n (filterR m z) = filterR m (filterR n z) := by
 simp only [filterR_eq, List.filter_filter]
 congr 1
 funext r
 exact Bool.and_comm _ _
theorem srt_filter (k : List Int → Int) (p : List Int → Bool) (z : Rows) : (srt k z).filter p = srt k (z.filter p) := by
 obtain ⟨h1, h2, _⟩ := srt_ok (key := k) z
 refine srt_of (List.Pairwise.filter p h1) (fun v => ?_)
 have := h2 v
 rw [List.filter_filter, List.filter_filter]
 have e : ∀ l : Rows, l.filter (fun x => (k x == v) && p x) = (l.filter (fun x => k x == v)).filter p := fun l => by
  rw [List.filter_filter]
  congr 1
  funext x
  exact Bool.and_comm _ _
 rw [e, e, this]
theorem once_srt (k : List Int → Int) (z : Rows) : onceR (srt k z) = srt k (onceR z) := by
 obtain ⟨h1, h2, _⟩ := srt_ok (key := k) z
 refine srt_of (List.Pairwise.sublist (onceR_sublist _) h1) (fun v => ?_)
 rw [onceR_filter, onceR_filter, h2 v]
theorem flatMap_bif {T : Type} (p : T → Bool) (f : T → Rows) : ∀ z : List T, z.flatMap (fun r => bif p r then f r else []) = (z.filter p).flatMap f
 | [] => rfl
 | r :: z => by
  simp only [List.flatMap_cons, List.filter_cons, flatMap_bif p f z]
  cases p r <;> simp
theorem kc_left {c : Int} {l r : List Int} (h0 : 0 ≤ c) (h : c < l.length) : kc c (l ++ r) = kc c l := by
 unfold kc
 rw [List.getD_eq_getElem?_getD, List.getD_eq_getElem?_getD, List.getElem?_append_left (by omega)]
theorem kc_right {c : Int} {l r : List Int} (h0 : (l.length : Int) ≤ c) : kc c (l ++ r) = kc (c - l.length) r := by
 unfold kc
 rw [List.getD_eq_getElem?_getD, List.getD_eq_getElem?_getD, List.getElem?_append_right (by omega)]
 congr 2
 omega
theorem filter_flatMap {T : Type} (p : List Int → Bool) (f : T → Rows) : ∀ z : List T, (z.flatMap f).filter p = z.flatMap fun t => (f t).filter p
 | [] => rfl
 | t :: z => by simp only [List.flatMap_cons, List.filter_append, filter_flatMap p f z]
theorem flatMap_congr2 {T : Type} {f g : T → Rows} : ∀ {z : List T}, (∀ t ∈ z, f t = g t) → z.flatMap f = z.flatMap g
 | [], _ => rfl
 | t :: z, h => by
  simp only [List.flatMap_cons]
  rw [h t (by simp), flatMap_congr2 (fun u hu => h u (by simp [hu]))]
theorem filter_joinL {n m : Nd} {x y : Rows} {w : Int} (hx : WR w x) (h0 : 0 ≤ n.2.2.1) (h1 : n.2.2.1 < w) : filterR n (joinR m x y) = joinR m (filterR n x) y := by
 have e : joinR m (filterR n x) y = x.flatMap fun l => bif holds n (kc n.2.2.1 l) then (y.flatMap fun r => bif !(decide (kc m.2.2.1 l = -2000000)) && decide (kc m.2.2.1 l = kc m.2.2.2.2.1 r) then [l ++ r] else []) else [] := by
  unfold joinR
  rw [filterR_eq, flatMap_bif]
 rw [e, filterR_eq]
 unfold joinR
 rw [filter_flatMap]
 refine flatMap_congr2 (fun l hl => ?_)
 have hw := hx l hl
 rw [filter_flatMap]
 have e2 : ∀ r : List Int, (bif !(decide (kc m.2.2.1 l = -2000000)) && decide (kc m.2.2.1 l = kc m.2.2.2.2.1 r) then [l ++ r] else []).filter (fun q => holds n (kc n.2.2.1 q)) =
   bif holds n (kc n.2.2.1 l) then (bif !(decide (kc m.2.2.1 l = -2000000)) && decide (kc m.2.2.1 l = kc m.2.2.2.2.1 r) then [l ++ r] else []) else [] := by
  intro r
  have hk := kc_left (c := n.2.2.1) (l := l) (r := r) h0 (by omega)
  cases hb : (!(decide (kc m.2.2.1 l = -2000000)) && decide (kc m.2.2.1 l = kc m.2.2.2.2.1 r)) <;> cases hh : holds n (kc n.2.2.1 l) <;> simp [hk, hh]
 rw [flatMap_congr2 (fun r _ => e2 r)]
 cases holds n (kc n.2.2.1 l) <;> simp
theorem filter_joinR {n m : Nd} {x y : Rows} {w : Int} (hx : WR w x) (h0 : w ≤ n.2.2.1) : filterR n (joinR m x y) = joinR m x (filterR (colN n (n.2.2.1 - w)) y) := by
 rw [filterR_eq]
 unfold joinR
 rw [filter_flatMap]
 refine flatMap_congr2 (fun l hl => ?_)
 have hw := hx l hl
 rw [filter_flatMap, filterR_eq, ← flatMap_bif]
 refine flatMap_congr2 (fun r _ => ?_)
 have hk := kc_right (c := n.2.2.1) (l := l) (r := r) (by omega)
 rw [hw] at hk
 have hh : ∀ v, holds (colN n (n.2.2.1 - w)) v = holds n v := fun v => rfl
 have hc : (colN n (n.2.2.1 - w)).2.2.1 = n.2.2.1 - w := rfl
 rw [hh, hc]
 cases hb : (!(decide (kc m.2.2.1 l = -2000000)) && decide (kc m.2.2.1 l = kc m.2.2.2.2.1 r)) <;> cases h2 : holds n (kc (n.2.2.1 - w) r) <;> simp [hk, h2]
theorem kc_map {l : List Int} {c : Int} (r : List Int) (h : c < l.length) (h0 : 0 ≤ c) : kc c (l.map fun c => kc c r) = kc (pick l c) r := by
 have hl : c.toNat < l.length := by omega
 unfold pick
 have e : kc c (l.map fun c => kc c r) = ((l.map fun c => kc c r)[c.toNat]?).getD 0 := by unfold kc; rw [List.getD_eq_getElem?_getD]
 rw [e, List.getElem?_map, List.getElem?_eq_getElem hl]
 rfl
theorem turn_evR {s : List Tb} {st : List Rows} (hst : storeOk s st = true) {r : Int} {u u' : PT} (g : Good u) (w : (wT s u).isSome = true) (h : turn s r u = some u') : evR s st u' = evR s st u := by
 cases u with
 | n0 n => cases h
 | n2 n a b => cases h
 | n1 n c =>
  simp only [turn] at h
  split at h
  rotate_left
  ·cases h
  rename_i hk
  obtain ⟨hm, hm2⟩ := hk
  have hr : okIn r 0 11 = true := by
   cases hr : okIn r 0 11 with
   | true => rfl
   | false => rw [ovr_out hr] at hm; exact absurd hm (neg_kind g)
  have hn := g.nodes n (by simp [PT.flat])
  rcases shapes g with ⟨m, rfl, har⟩ | ⟨m, d, rfl, har⟩ | ⟨m, d, e, rfl, har⟩
  ·cases h
  ·simp only [PT.hd] at hm2
   have hmo := g.nodes m (by simp [PT.flat])
   cases hwd : wT s d with
   | none => simp only [wT, hwd] at w; cases w
   | some x =>
   rcases rules hr with rfl | rfl | rfl | rfl | rfl | rfl | rfl | rfl | rfl | rfl | rfl | rfl
   ·have hk : n.1 = 1 := hm
    have hk2 : m.1 = 1 := hm2
    cases h
    simp only [evR, op1, hk, hk2, if_true]
    exact filter_filterR m n _
   ·have hk : n.1 = 1 := hm
    have hk2 : m.1 = 5 := hm2
    cases h
    simp only [evR, op1, hk, hk2, if_true, show ¬ (5 : Int) = 1 by omega, show ¬ (5 : Int) = 2 by omega, if_false]
    rw [filterR_eq, filterR_eq, srt_filter]
   ·have hk : n.1 = 6 := hm
    have hk2 : m.1 = 6 := hm2
    simp [turnC] at h
    obtain ⟨_, rfl⟩ := h
    have hk3 : (limN n m).1 = 6 := hk
    have e : (limN n m).2.2.2.2.1 = min n.2.2.2.2.1 m.2.2.2.2.1 := rfl
    simp only [evR, op1, hk, hk2, hk3, e, show ¬ (6 : Int) = 1 by omega, show ¬ (6 : Int) = 2 by omega, show ¬ (6 : Int) = 5 by omega, if_false, if_true]
    rw [List.take_take]
    congr 1
    omega
   ·have hk : n.1 = 5 := hm
    have hk2 : m.1 = 5 := hm2
    simp [turnC] at h
    obtain ⟨hc, rfl⟩ := h
    simp only [evR, op1, hk, hk2, show ¬ (5 : Int) = 1 by omega, show ¬ (5 : Int) = 2 by omega, if_false, if_true, hc]
    exact (srt_self (srt_ok _).1).symm
   ·have := ovr_two (r := 4) (by simp); rw [← hm2] at this; omega
   ·have := ovr_two (r := 5) (by simp); rw [← hm2] at this; omega
   ·have := ovr_two (r := 6) (by simp); rw [← hm2] at this; omega
   ·have hk : n.1 = 7 := hm
    have hk2 : m.1 = 7 := hm2
    simp [turnC] at h
    subst h
    simp only [evR, op1, hk, hk2, show ¬ (7 : Int) = 1 by omega, show ¬ (7 : Int) = 2 by omega, show ¬ (7 : Int) = 5 by omega, show ¬ (7 : Int) = 6 by omega, if_false]
    exact (onceR_self _).symm
   ·have hk : n.1 = 2 := hm
    have hk2 : m.1 = 2 := hm2
    simp [turnC] at h
    subst h
    have hk3 : (colsN m (n.2.2.2.2.2.2.1.map (pick m.2.2.2.2.2.2.1))).1 = 2 := hk2
    simp only [evR, op1, hk, hk2, hk3, show ¬ (2 : Int) = 1 by omega, if_false, if_true]
    have hall : ∀ c ∈ n.2.2.2.2.2.2.1, c < (m.2.2.2.2.2.2.1.length : Int) := by
     simp only [wT, hwd, hk, hk2, if_true] at w
     split at w
     ·cases w
     ·rename_i v hv
      split at hv
      ·cases hv
       split at w
       ·rename_i h1
        intro c hc
        have := List.all_eq_true.1 h1 c hc
        simpa using this
       ·cases w
      ·cases hv
    have hc0 := (nodeOk_keep hn hk).2.2
    simp only [keepR, List.map_map]
    refine List.map_congr_left (fun q _ => ?_)
    show (n.2.2.2.2.2.2.1.map (pick m.2.2.2.2.2.2.1)).map (fun c => kc c q) = n.2.2.2.2.2.2.1.map fun c => kc c (m.2.2.2.2.2.2.1.map fun c => kc c q)
    rw [List.map_map]
    refine List.map_congr_left (fun c hc => ?_)
    exact (kc_map q (hall c hc) (hc0 c hc).1).symm
   ·have hk : n.1 = 6 := hm
    have hk2 : m.1 = 2 := hm2
    simp [turnC] at h
    subst h
    simp only [evR, op1, hk, hk2, show ¬ (2 : Int) = 1 by omega, show ¬ (6 : Int) = 1 by omega, show ¬ (6 : Int) = 2 by omega, show ¬ (6 : Int) = 5 by omega, if_false, if_true]
    simp only [keepR, List.map_take]
   ·have hk : n.1 = 1 := hm
    have hk2 : m.1 = 2 := hm2
    simp [turnC] at h
    subst h
    have hk3 : (colN n (pick m.2.2.2.2.2.2.1 n.2.2.1)).1 = 1 := hk
    simp only [evR, op1, hk, hk2, hk3, show ¬ (2 : Int) = 1 by omega, if_false, if_true]
    have hc0 := node_col hn (.inl hk)
    have hlt : n.2.2.1 < (m.2.2.2.2.2.2.1.length : Int) := by
     simp only [wT, hwd, hk, hk2, if_true, show ¬ (1 : Int) = 2 by omega, if_false, true_or] at w
     split at w
     ·cases w
     ·rename_i v hv
      split at hv
      ·cases hv
       split at w
       ·rename_i h1; exact h1
       ·cases w
      ·cases hv
    rw [filterR_eq, filterR_eq]
    simp only [keepR, List.filter_map]
    congr 1
    refine List.filter_congr (fun q _ => ?_)
    simp only [Function.comp]
    rw [kc_map q hlt hc0]
    rfl
   ·have hk : n.1 = 7 := hm
    have hk2 : m.1 = 5 := hm2
    simp [turnC] at h
    subst h
    simp only [evR, op1, hk, hk2, show ¬ (5 : Int) = 1 by omega, show ¬ (5 : Int) = 2 by omega, show ¬ (7 : Int) = 1 by omega, show ¬ (7 : Int) = 2 by omega, show ¬ (7 : Int) = 5 by omega, show ¬ (7 : Int) = 6 by omega, if_false, if_true]
    exact (once_srt _ _).symm
  ·simp only [PT.hd] at hm2
   cases hwd : wT s d with
   | none => simp only [wT, hwd] at w; cases w
   | some x =>
   cases hwe : wT s e with
   | none => simp only [wT, hwd, hwe] at w; cases w
   | some y =>
   have hx := evR_w hst hwd
   rcases rules hr with rfl | rfl | rfl | rfl | rfl | rfl | rfl | rfl | rfl | rfl | rfl | rfl
   ·have := ovr_one (r := 0) rfl (by simp) (by simp) (by simp); rw [← hm2] at this; omega
   ·have := ovr_one (r := 1) rfl (by simp) (by simp) (by simp); rw [← hm2] at this; omega
   ·have := ovr_one (r := 2) rfl (by simp) (by simp) (by simp); rw [← hm2] at this; omega
   ·have := ovr_one (r := 3) rfl (by simp) (by simp) (by simp); rw [← hm2] at this; omega
   ·have hk : n.1 = 1 := hm
    have hk2 : m.1 = 4 := hm2
    simp [turnC] at h
    subst h
    simp only [evR, op1, op2, hk, hk2, show ¬ (4 : Int) = 3 by omega, if_false, if_true]
    rw [filterR_eq, filterR_eq, filterR_eq, List.filter_append]
   ·have hk : n.1 = 1 := hm
    have hk2 : m.1 = 3 := hm2
    simp [turnC, hwd, oint] at h
    obtain ⟨hc, rfl⟩ := h
    simp only [evR, op1, op2, hk, hk2, if_true]
    exact (filter_joinL hx (node_col hn (.inl hk)) hc).symm
   ·have hk : n.1 = 1 := hm
    have hk2 : m.1 = 3 := hm2
    simp [turnC, hwd, oint] at h
    obtain ⟨hc, rfl⟩ := h
    have hk3 : (colN n (n.2.2.1 - x)).1 = 1 := hk
    simp only [evR, op1, op2, hk, hk2, hk3, if_true]
    exact (filter_joinR hx hc).symm
   ·have := ovr_one (r := 7) rfl (by simp) (by simp) (by simp); rw [← hm2] at this; omega
   ·have := ovr_one (r := 8) rfl (by simp) (by simp) (by simp); rw [← hm2] at this; omega
   ·have := ovr_one (r := 9) rfl (by simp) (by simp) (by simp); rw [← hm2] at this; omega
   ·have := ovr_one (r := 10) rfl (by simp) (by simp) (by simp); rw [← hm2] at this; omega
   ·have := ovr_one (r := 11) rfl (by simp) (by simp) (by simp); rw [← hm2] at this; omega
theorem put_evR {s : List Tb} {st : List Rows} : ∀ {t : PT} {k : Nat} {u v : PT}, (subs t)[k]? = some u → evR s st v = evR s st u → evR s st (put t k v) = evR s st t
 | .n0 n, 0, u, v, h, hw => by simp [subs] at h; subst h; simpa [put] using hw
 | .n1 n a, 0, u, v, h, hw => by simp [subs] at h; subst h; simpa [put] using hw
 | .n2 n a b, 0, u, v, h, hw => by simp [subs] at h; subst h; simpa [put] using hw
 | .n0 n, k + 1, u, v, h, _ => by simp [subs] at h
 | .n1 n a, k + 1, u, v, h, hw => by
  have h' : (subs a)[k]? = some u := by simpa [subs] using h
  simp only [put, evR, put_evR h' hw]
 | .n2 n a b, k + 1, u, v, h, hw => by
  have h' : (subs a ++ subs b)[k]? = some u := by simpa [subs] using h
  simp only [put]
  by_cases hk : k < a.size
  ·rw [if_pos hk]
   rw [List.getElem?_append_left (by simpa using hk)] at h'
   simp only [evR, put_evR h' hw]
  ·rw [if_neg hk]
   rw [List.getElem?_append_right (by simp; omega), subs_len] at h'
   simp only [evR, put_evR h' hw]
def rowsM (s : List Tb) (st : List Rows) (p : List Nd) : Rows := match planT p with
 | some t => evR s st t
 | none => []
theorem step_rows {s : List Tb} {st : List Rows} (hst : storeOk s st = true) {p q : List Nd} (hp : typedOk s p = true) {x : Sp} (h : applyM s p x = (q, true)) : rowsM s st q = rowsM s st p := by
 obtain ⟨t, rfl, ht⟩ := typedOk_iff.1 hp
 obtain ⟨k, u, u', _, hu, hu', rfl, h1, h2, h3⟩ := applyM_tree ht h
 unfold rowsM
 rw [planT_flat h1, planT_flat ht.plan]
 have hm := mem_of_get hu
 exact put_evR hu (turn_evR hst (subs_good ht.plan.good hm) (subs_w ht.w hm) hu')
theorem eval_rows {s : List Tb} {st : List Rows} {p : List Nd} (h : (evalPlan s st p).2 = 0) : storeOk s st = true ∧ (evalPlan s st p).1 = rowsM s st p := by
 unfold evalPlan at h ⊢
 unfold rowsM
 split at h
 rotate_left
 ·simp at h
 rename_i hc
 rw [if_pos hc]
 refine ⟨hc.1, ?_⟩
 split at h
 ·rename_i t ht
  split at h
  ·rename_i x hx
   simp only [ht, hx]
   exact evalT_evR hx
  ·simp at h
 ·simp at h
end Go.Proofs.YtficimgbanaafaaGreatX
namespace Go.Proofs.YtficimgbanaafaaGreatX
open Go Go.Proofs.YtficimgbanaafaaGreatT PT
set_option linter.all false
theorem and255 (x : Int) : 0 ≤ andV .i64 x 255 ∧ andV .i64 x 255 ≤ 255 := by
 have h : (BitVec.ofInt 64 x &&& BitVec.ofInt 64 255).toNat ≤ 255 := by
  rw [BitVec.toNat_and]
  exact Nat.le_trans Nat.and_le_right (by decide)
 have e : andV .i64 x 255 = ((BitVec.ofInt 64 x &&& BitVec.ofInt 64 255).toNat : Int) := by
  show IntKind.i64.wrap _ = _
  exact wrap_sml (by show -9223372036854775808 ≤ ((BitVec.ofInt 64 x &&& BitVec.ofInt 64 255).toNat : Int); omega) (by show ((BitVec.ofInt 64 x &&& BitVec.ofInt 64 255).toNat : Int) ≤ 9223372036854775807; omega)
 rw [e]; omega
theorem ix_ex {T : Type} {l : List T} {r : Int} (h0 : 0 ≤ r) (h1 : r < l.length) : ∃ x, ix l r = some x ∧ x ∈ l := by
 obtain ⟨k, rfl⟩ : ∃ k : Nat, r = k := ⟨r.toNat, by omega⟩
 have hk : k < l.length := by omega
 exact ⟨l[k], ix_some (List.getElem?_eq_getElem hk), List.getElem_mem hk⟩
theorem shr_ex (a : Int) {b : Int} (h : 0 ≤ b) : ∃ z, shrV .i64 a b = some z := by simp [shrV, h]
structure Cu (b : List Int) (i : Int) : Prop where
 len : b.length ≤ 1073741824
 lo : 0 ≤ i
abbrev CuQ (b : List Int) (P : Int → Prop) (y : Int × List Int × Int × Int) : Prop := y.2.1 = b ∧ Cu b y.2.2.1 ∧ P y.1
theorem byte_ok {b : List Int} {i : Int} (hc : Cu b i) (h : Int) : Ok (F_m b i h) (CuQ b fun r => 0 ≤ r ∧ r ≤ 255) := (U_2u b i h).ok (by
 obtain ⟨z1, e1⟩ := shr_ex (IntKind.i64.wrap ((IntKind.i64.wrap (h * 6364136223846793005)) + 1442695040888963407)) (b := 33) (by decide)
 obtain ⟨z2, e2⟩ := shr_ex (IntKind.i64.wrap ((IntKind.i64.wrap (h * 6364136223846793005)) + 1442695040888963407)) (b := 45) (by decide)
 rw [e1, e2]
 simp only [Option.bind_some, joinK_bif, joinK_go, J_2r]
 have hlo := hc.lo
 have hln := hc.len
 by_cases hi : i < b.length
 ·obtain ⟨x, hx, _⟩ := ix_ex hlo hi
  rw [hx]
  simp only [hi, decide_true, cond_true, Option.bind_some, joinK_go]
  exact ⟨_, rfl, rfl, ⟨hln, by simp only; rw [wrap_sml (x := i + 1) (by omega) (by omega)]; omega⟩, and255 _⟩
 ·simp only [hi, decide_false, cond_false, joinK_go]
  exact ⟨_, rfl, rfl, hc, and255 _⟩)
theorem remx_ps {a b : Int} (ha : 0 ≤ a) (hb : 0 < b) : remx a b = some (a % b) := by
 unfold remx
 have : (b == 0) = false := by simp; omega
 rw [this, Int.tmod_eq_emod_of_nonneg ha]; rfl
theorem below_ok {b : List Int} {i : Int} (hc : Cu b i) (h n : Int) : Ok (F_0 b i h n) (CuQ b fun r => 0 ≤ r ∧ (0 < n → r < n)) := (U_2t b i h n).ok (OkG.out (by
 refine OkG.bif (fun h0 => ?_) (fun h0 => OkG.bif (fun h1 => ?_) (fun h1 => ?_))
 ·have := of_decide_eq_true h0
  exact OkG.val ⟨rfl, hc, by omega, by simp only; omega⟩
 ·have h0' := of_decide_eq_false h0
  refine OkG.call (byte_ok hc h) ?_
  rintro ⟨r, b', i', h'⟩ ⟨rfl, hc', hr, _⟩
  simp only at hr ⊢
  rw [remx_ps hr (by omega)]
  refine OkG.val ⟨rfl, hc', Int.emod_nonneg _ (by omega), fun h => Int.emod_lt_of_pos _ h⟩
 ·have h0' := of_decide_eq_false h0
  refine OkG.call (byte_ok hc h) ?_
  rintro ⟨r, b', i', h'⟩ ⟨rfl, hc', hr, hr'⟩
  refine OkG.call (byte_ok hc' h') ?_
  rintro ⟨r2, b', i', h'⟩ ⟨rfl, hc', hs, hs'⟩
  refine OkG.call (byte_ok hc' h') ?_
  rintro ⟨r3, b', i', h'⟩ ⟨rfl, hc', ht, ht'⟩
  simp only at hr hr' hs hs' ht ht' ⊢
  rw [wrap_sml (x := r * 65536) (by omega) (by omega), wrap_sml (x := r2 * 256) (by omega) (by omega), wrap_sml (x := r * 65536 + r2 * 256) (by omega) (by omega), wrap_sml (x := r * 65536 + r2 * 256 + r3) (by omega) (by omega), remx_ps (by omega) (by omega)]
  exact OkG.val ⟨rfl, hc', Int.emod_nonneg _ (by omega), fun h => Int.emod_lt_of_pos _ h⟩))
theorem once_ok {b : List Int} {i : Int} (hc : Cu b i) (h n : Int) : Ok (F_a b i h n) (fun y => y.2.1 = b ∧ Cu b y.2.2.1) := (U_32 b i h n).ok (OkG.out (by
 refine OkG.call (below_ok hc h n) ?_
 rintro ⟨r, b', i', h'⟩ ⟨rfl, hc', _⟩
 exact OkG.val ⟨rfl, hc'⟩))
theorem pick_ok {b : List Int} {i : Int} (hc : Cu b i) (h : Int) {l : List Int} (hl : 0 < l.length) : Ok (F_d b i h l) (CuQ b fun r => r ∈ l) := (U_33 b i h l).ok (OkG.out (by
 refine OkG.call (below_ok hc h l.length) ?_
 rintro ⟨r, b', i', h'⟩ ⟨rfl, hc', h0, h1⟩
 have h1' := h1 (by omega)
 simp only at h0 h1' ⊢
 obtain ⟨x, hx, hm⟩ := ix_ex h0 h1'
 rw [hx]
 exact OkG.val ⟨rfl, hc', hm⟩))
theorem pickT_ok {b : List Int} {i : Int} (hc : Cu b i) (h : Int) {l : List ByteArray} (hl : 0 < l.length) : Ok (F_3c b i h l) (fun y => y.2.1 = b ∧ Cu b y.2.2.1 ∧ y.1 ∈ l) := (U_34 b i h l).ok (OkG.out (by
 refine OkG.call (below_ok hc h l.length) ?_
 rintro ⟨r, b', i', h'⟩ ⟨rfl, hc', h0, h1⟩
 have h1' := h1 (by omega)
 simp only at h0 h1' ⊢
 obtain ⟨x, hx, hm⟩ := ix_ex h0 h1'
 rw [hx]
 exact OkG.val ⟨rfl, hc', hm⟩))
theorem new_ok {b : List Int} (hb : b.length ≤ 1073741824) : Ok (F_39 b) (fun y => y.1 = b ∧ Cu b y.2.1) := (U_2z b).ok (OkG.out (by
 refine OkG.join (fun _ => True) (Ok.of (Ok.loop (S := Int × Int) (fun s => b.length - s.2.toNat) (fun s => 0 ≤ s.2 ∧ s.2 ≤ b.length) ?_ _ ⟨by simp, by simp⟩)) ?_
 ·rintro ⟨v, i⟩ ⟨h0, h1⟩ G hG
  simp only at h0 h1
  unfold L_24
  refine OkG.join (fun c => c = true → i < b.length) ?_ ?_
  ·refine OkG.bif (fun h => ?_) (fun h => ?_)
   ·exact OkG.val fun _ => of_decide_eq_true h
   ·exact OkG.val fun h => by cases h
  ·intro c hc
   refine OkG.bif (fun h => ?_) (fun h => OkG.val trivial)
   have hi := hc h
   obtain ⟨x, hx, _⟩ := ix_ex h0 hi
   rw [hx]
   simp only [Option.bind_some]
   refine hG _ ?_ ?_
   ·simp only; rw [wrap_sml (by omega) (by omega)]; omega
   ·simp only; rw [wrap_sml (by omega) (by omega)]; omega
 ·intro s _
  exact OkG.val ⟨rfl, hb, by simp⟩))
theorem size_ok {b : List Int} (hb : b.length ≤ 1073741824) {m : Int} (h0 : 1 ≤ m) : Ok (F_3d b m) (fun r => 1 ≤ r ∧ r ≤ m) := (U_35 b m).ok (OkG.out (by
 rw [quox_some (by omega) (by omega) (by omega)]
 simp only [Option.bind_some]
 have : IntKind.i64.wrap (2 + (b.length : Int) / 16) = 2 + (b.length : Int) / 16 := wrap_sml (by omega) (by omega)
 rw [this]
 refine OkG.bif (fun h => OkG.val ⟨h0, Int.le_refl _⟩) (fun h => ?_)
 have := of_decide_eq_false h
 exact OkG.val ⟨by omega, by omega⟩))
end Go.Proofs.YtficimgbanaafaaGreatX
namespace Go.Proofs.YtficimgbanaafaaGreatX
open Go Go.Proofs.YtficimgbanaafaaGreatT PT
set_option linter.all false
structure Sm (N c : Nat) (p : List Nd) : Prop where
 len : p.length ≤ N
 nodes : ∀ n ∈ p, n.2.1.size ≤ 100 ∧ n.2.2.2.2.2.2.1.length ≤ c
theorem Sm.mono {N M c d : Nat} {p : List Nd} (h : Sm N c p) (h1 : N ≤ M) (h2 : c ≤ d) : Sm M d p := ⟨Nat.le_trans h.len h1, fun n hn => ⟨(h.nodes n hn).1, Nat.le_trans (h.nodes n hn).2 h2⟩⟩
theorem Sm.bplan {N c : Nat} {p : List Nd} (h : Sm N c p) (h1 : N ≤ 1073741824) (h2 : c ≤ 1073741824) : BPlan p := ⟨Nat.le_trans h.len h1, fun n hn => ⟨by have := (h.nodes n hn).1; omega, by have := (h.nodes n hn).2; omega⟩⟩
theorem Sm.one {c : Nat} {n : Nd} (h1 : n.2.1.size ≤ 100) (h2 : n.2.2.2.2.2.2.1.length ≤ c) : Sm 1 c [n] := ⟨by simp, fun m hm => by rw [List.mem_singleton.1 hm]; exact ⟨h1, h2⟩⟩
theorem Sm.app {N M c : Nat} {p q : List Nd} (h : Sm N c p) (k : Sm M c q) : Sm (N + M) c (p ++ q) := ⟨by have := h.len; have := k.len; simp; omega, fun n hn => (List.mem_append.1 hn).elim (h.nodes n) (k.nodes n)⟩
theorem Sm.flat2 {N M c : Nat} {p q : List Nd} (h : Sm N c p) (k : Sm M c q) : Sm (N + M) c [p, q].flatten := by simpa using h.app k
theorem Sm.flat3 {N M K c : Nat} {p q r : List Nd} (h : Sm N c p) (k : Sm M c q) (l : Sm K c r) : Sm (N + (M + K)) c [p, q, r].flatten := by simpa using h.app (k.app l)
theorem joined_ok {l : List (List Nd)} {N c : Nat} (hl : l.length ≤ 1000) (h : Sm N c l.flatten) (h1 : N ≤ 1073741824) (h2 : c ≤ 1073741824) : Ok (F_1 l) (Sm N c) := ⟨_, V_j hl (h.bplan h1 h2), h⟩
abbrev PlQ (b : List Int) (N : Nat) (y : List SNode × Int × List Int × Int × Int) : Prop := Sm N 3 y.1 ∧ y.2.2.1 = b ∧ Cu b y.2.2.2.1
theorem e100 : ByteArray.empty.size ≤ 100 := by decide
theorem draw_step {b : List Int} (n : Nat) (hn : n ≤ 10) (IH : ∀ (d i h : Int), Cu b i → 0 ≤ d → d + 1 ≤ n → Ok (F_5 b i h d) (PlQ b (4 ^ n))) (d i h : Int) (hc : Cu b i) (hd : d ≤ n) :
  Ok (F_5 b i h d) (PlQ b (4 ^ (n + 1))) := (U_39 b i h d).ok (OkG.out (by
 have h41 : 4 ^ (n + 1) = 4 * 4 ^ n := by rw [Nat.pow_succ]; omega
 have h4p : 1 ≤ 4 ^ n := Nat.one_le_pow _ _ (by decide)
 have h4m : 4 ^ n ≤ 4 ^ 10 := Nat.pow_le_pow_right (by decide) hn
 have h4c : 4 ^ 10 = 1048576 := by decide
 have h4b : 4 ^ n ≤ 1048576 := by omega
 refine OkG.call (pick_ok hc h (by simp)) ?_
 rintro ⟨r, b', i', h'⟩ ⟨rfl, hc', _⟩
 refine OkG.join (fun v => d ≤ 1 → v = 0) ?_ ?_
 ·exact OkG.bif (fun _ => OkG.val fun _ => rfl) (fun h => OkG.val fun h' => by have := of_decide_eq_false h; omega)
 intro v hv
 unfold J_2w
 refine OkG.bif (fun _ => ?_) (fun h0 => ?_)
 ·refine OkG.call (below_ok hc' h' 3) ?_
  rintro ⟨r1, b', i', h'⟩ ⟨rfl, hc', hr, hr'⟩
  have hr3 := hr' (by decide)
  simp only at hr hr3 ⊢
  obtain ⟨z4, e4, m4⟩ := ix_ex (l := [(⟨#[116, 49]⟩ : ByteArray), (⟨#[116, 50]⟩ : ByteArray), (⟨#[116, 51]⟩ : ByteArray)]) hr (by simp; omega)
  obtain ⟨z5, e5, m5⟩ := ix_ex (l := [(2 : Int), 3, 1]) hr (by simp; omega)
  rw [e4, e5]
  refine OkG.val ⟨(Sm.one ?_ (by simp)).mono (by omega) (Nat.le_refl _), rfl, hc'⟩
  simp only [List.mem_cons, List.not_mem_nil, or_false] at m4
  rcases m4 with rfl | rfl | rfl <;> decide
 have hd2 : 2 ≤ d := by
  rcases Int.lt_or_le d 2 with h | h
  ·rw [hv (by omega)] at h0; cases h0
  ·exact h
 have hn2 : 2 ≤ n := by omega
 have h42 : 4 ^ 2 ≤ 4 ^ n := Nat.pow_le_pow_right (by decide) hn2
 have hw1 : IntKind.i64.wrap (d - 1) = d - 1 := wrap_sml (by omega) (by omega)
 have hw2 : IntKind.i64.wrap (d - 2) = d - 2 := wrap_sml (by omega) (by omega)
 simp only [hw1, hw2]
 have sub1 : ∀ i h, Cu b' i → Ok (F_5 b' i h (d - 1)) (PlQ b' (4 ^ n)) := fun i h hc => IH _ i h hc (by omega) (by omega)
 have sub2 : ∀ i h, Cu b' i → Ok (F_5 b' i h (d - 2)) (PlQ b' (4 ^ n)) := fun i h hc => IH _ i h hc (by omega) (by omega)
 refine OkG.bif (fun _ => ?_) (fun _ => OkG.bif (fun _ => ?_) (fun _ => ?_))
 ·refine OkG.call (sub1 _ _ hc') ?_
  rintro ⟨p1, w1, b', i', h'⟩ ⟨s1, rfl, hc'⟩
  refine OkG.call (sub2 _ _ hc') ?_
  rintro ⟨p2, w2, b', i', h'⟩ ⟨s2, rfl, hc'⟩
  refine OkG.call (below_ok hc' _ _) ?_
  rintro ⟨r1, b', i', h'⟩ ⟨rfl, hc', _⟩
  refine OkG.call (below_ok hc' _ _) ?_
  rintro ⟨r2, b', i', h'⟩ ⟨rfl, hc', _⟩
  refine OkG.call (joined_ok (by simp) (Sm.flat3 (Sm.one e100 (Nat.zero_le 3)) s1 s2) (by omega) (by decide)) ?_
  intro q hq
  exact OkG.val ⟨hq.mono (by omega) (Nat.le_refl _), rfl, hc'⟩
 ·refine OkG.call (sub1 _ _ hc') ?_
  rintro ⟨p1, w1, b', i', h'⟩ ⟨s1, rfl, hc'⟩
  refine OkG.call (sub2 _ _ hc') ?_
  rintro ⟨p2, w2, b', i', h'⟩ ⟨s2, rfl, hc'⟩
  refine OkG.join (fun s => Sm (4 ^ n + 1) 3 s.1 ∧ Sm (4 ^ n + 1) 3 s.2.2) ?_ ?_
  ·refine OkG.bif (fun _ => ?_) (fun _ => OkG.val ⟨s1.mono (by omega) (Nat.le_refl _), s2.mono (by omega) (Nat.le_refl _)⟩)
   refine OkG.call (joined_ok (by simp) (Sm.flat2 (Sm.one e100 (by simp)) s1) (by omega) (by decide)) ?_
   intro q1 hq1
   refine OkG.call (joined_ok (by simp) (Sm.flat2 (Sm.one e100 (by simp)) s2) (by omega) (by decide)) ?_
   intro q2 hq2
   exact OkG.val ⟨hq1.mono (by omega) (Nat.le_refl _), hq2.mono (by omega) (Nat.le_refl _)⟩
  ·rintro ⟨q1, w, q2⟩ ⟨t1, t2⟩
   unfold J_2x
   refine OkG.call (joined_ok (by simp) (Sm.flat3 (Sm.one e100 (Nat.zero_le 3)) t1 t2) (by omega) (by decide)) ?_
   intro q hq
   exact OkG.val ⟨hq.mono (by omega) (Nat.le_refl _), rfl, hc'⟩
 ·refine OkG.call (sub1 _ _ hc') ?_
  rintro ⟨p1, w1, b', i', h'⟩ ⟨s1, rfl, hc'⟩
  refine OkG.join (fun s => s.2.2.1.size ≤ 100 ∧ s.2.2.2.2.2.2.2.1.length ≤ 3 ∧ s.2.2.2.2.2.2.2.2.1 = b' ∧ Cu b' s.2.2.2.2.2.2.2.2.2.1) ?_ ?_
  ·refine OkG.bif (fun _ => ?_) (fun _ => OkG.bif (fun _ => ?_) (fun _ => OkG.bif (fun _ => ?_) (fun _ => OkG.bif (fun _ => ?_) (fun _ => ?_))))
   ·refine OkG.call (below_ok hc' _ _) ?_
    rintro ⟨r1, b', i', h'⟩ ⟨rfl, hc', _⟩
    refine OkG.call (below_ok hc' _ _) ?_
    rintro ⟨r2, b', i', h'⟩ ⟨rfl, hc', _⟩
    refine OkG.bif (fun _ => ?_) (fun _ => ?_)
    ·refine OkG.call (below_ok hc' _ _) ?_
     rintro ⟨r3, b', i', h'⟩ ⟨rfl, hc', _⟩
     exact OkG.val ⟨e100, by simp, rfl, hc'⟩
    ·exact OkG.val ⟨e100, by simp, rfl, hc'⟩
   ·refine OkG.join (fun s => s.2.1.size ≤ 100 ∧ s.2.2.2.2.2.2.1.length ≤ 3 ∧ s.2.2.2.2.2.2.2.1 = b' ∧ Cu b' s.2.2.2.2.2.2.2.2.1) ?_ ?_
    ·refine OkG.call (below_ok hc' _ 3) ?_
     rintro ⟨r1, b', i', h'⟩ ⟨rfl, hc', hr, hr'⟩
     have hr3 := hr' (by decide)
     simp only at hr hr3 ⊢
     have hw : IntKind.i64.wrap (1 + r1) = 1 + r1 := wrap_sml (by omega) (by omega)
     rw [hw]
     refine Ok.of (Ok.loop (S := Int × ByteArray × Int × Int × Int × Bool × List Int × Int × List Int × Int × Int) (fun s => s.2.2.2.2.2.2.2.1.toNat) (fun s => 0 ≤ s.2.2.2.2.2.2.2.1 ∧ s.2.2.2.2.2.2.2.1 + s.2.2.2.2.2.2.1.length ≤ 3 ∧ s.2.1.size ≤ 100 ∧ s.2.2.2.2.2.2.2.2.1 = b' ∧ Cu b' s.2.2.2.2.2.2.2.2.2.1) ?_ _ ⟨by simp only; omega, by simp; omega, e100, rfl, hc'⟩)
     rintro ⟨a1, a2, a3, a4, a5, a6, cs, k, b', i', h'⟩ ⟨k0, k3, n1, rfl, hc'⟩ G hG
     simp only at k0 k3
     unfold L_26
     refine OkG.bif (fun hk => ?_) (fun hk => OkG.val ⟨n1, by simp only; omega, rfl, hc'⟩)
     have hk' : k > 0 := of_decide_eq_true hk
     refine OkG.call (below_ok hc' _ _) ?_
     rintro ⟨r3, b', i', h'⟩ ⟨rfl, hc', _⟩
     rw [apx_some (by simp; omega)]
     simp only [Option.bind_some]
     have hw : IntKind.i64.wrap (k - 1) = k - 1 := wrap_sml (by omega) (by omega)
     rw [hw]
     exact hG _ ⟨by simp only; omega, by simp; omega, n1, rfl, hc'⟩ (by simp only; omega)
    ·rintro ⟨a1, a2, a3, a4, a5, a6, cs, b', i', h'⟩ ⟨n1, n2, rfl, hc'⟩
     exact OkG.val ⟨n1, n2, rfl, hc'⟩
   ·refine OkG.call (below_ok hc' _ _) ?_
    rintro ⟨r1, b', i', h'⟩ ⟨rfl, hc', _⟩
    exact OkG.val ⟨e100, by simp, rfl, hc'⟩
   ·refine OkG.call (below_ok hc' _ _) ?_
    rintro ⟨r1, b', i', h'⟩ ⟨rfl, hc', _⟩
    exact OkG.val ⟨e100, by simp, rfl, hc'⟩
   ·exact OkG.val ⟨e100, by simp, rfl, hc'⟩
  ·rintro ⟨w, a1, a2, a3, a4, a5, a6, cs, b', i', h'⟩ ⟨n1, n2, rfl, hc'⟩
   unfold J_2y
   refine OkG.call (joined_ok (by simp) (Sm.flat2 (Sm.one (n := (a1, a2, a3, a4, a5, a6, cs, ())) n1 n2) s1) (by omega) (by decide)) ?_
   intro q hq
   exact OkG.val ⟨hq.mono (by omega) (Nat.le_refl _), rfl, hc'⟩))
theorem plan_ok {b : List Int} : ∀ (n : Nat), n ≤ 10 → ∀ (d i h : Int), Cu b i → d ≤ n → Ok (F_5 b i h d) (PlQ b (4 ^ (n + 1)))
 | 0, hn, d, i, h, hc, hd => draw_step 0 hn (fun d' i h hc h0 h1 => by omega) d i h hc hd
 | n + 1, hn, d, i, h, hc, hd => draw_step (n + 1) hn (fun d' i h hc h0 h1 => plan_ok n (by omega) d' i h hc (by omega)) d i h hc hd
end Go.Proofs.YtficimgbanaafaaGreatX
namespace Go.Proofs.YtficimgbanaafaaGreatX
open Go Go.Proofs.YtficimgbanaafaaGreatT PT
set_option linter.all false
abbrev PnQ (b : List Int) (N c : Nat) (y : List SNode × List Int × Int × Int) : Prop := Sm N c y.1 ∧ y.2.1 = b ∧ Cu b y.2.2.1
theorem rich_ok {b : List Int} {i : Int} (hc : Cu b i) (h : Int) {code : List Int} (hl : code.length ≤ 1073741824) : Ok (F_3k b i h code) (PnQ b 4100 3) := (U_3j b i h code).ok (OkG.out (by
 refine OkG.call (size_ok hl (by decide)) ?_
 intro m hm
 refine OkG.call (below_ok hc h m) ?_
 rintro ⟨r, b', i', h'⟩ ⟨rfl, hc', h0, h1⟩
 have h1' := h1 (by omega)
 simp only at h0 h1' ⊢
 have hw : IntKind.i64.wrap (1 + r) = 1 + r := wrap_sml (by omega) (by omega)
 rw [hw]
 refine OkG.call (plan_ok 5 (by decide) _ _ _ hc' (by omega)) ?_
 rintro ⟨p, w, b', i', h'⟩ ⟨sp, rfl, hc'⟩
 refine OkG.join (fun s => Sm 4100 3 s.1 ∧ s.2.1 = b' ∧ Cu b' s.2.2.1) ?_ (fun s hs => OkG.val hs)
 refine OkG.call (below_ok hc' _ 4) ?_
 rintro ⟨r4, b', i', h'⟩ ⟨rfl, hc', q0, q1⟩
 have q1' := q1 (by decide)
 simp only at q0 q1' sp ⊢
 have hw : IntKind.i64.wrap (1 + r4) = 1 + r4 := wrap_sml (by omega) (by omega)
 rw [hw]
 refine Ok.of (Ok.loop (S := List SNode × Int × Int × List Int × Int × Int) (fun s => s.2.2.1.toNat) (fun s => 0 ≤ s.2.2.1 ∧ s.2.2.1 ≤ 4 ∧ Sm (4100 - s.2.2.1.toNat) 3 s.1 ∧ s.2.2.2.1 = b' ∧ Cu b' s.2.2.2.2.1) ?_ _ ⟨by simp only; omega, by simp only; omega, sp.mono (by simp only; omega) (Nat.le_refl _), rfl, hc'⟩)
 rintro ⟨p1, w1, k, b', i', h'⟩ ⟨k0, k4, s1, rfl, hc'⟩ G hG
 simp only at k0 k4 s1
 unfold L_28
 refine OkG.bif (fun hk => ?_) (fun hk => OkG.val ⟨s1.mono (by omega) (Nat.le_refl _), rfl, hc'⟩)
 have hk' : k > 0 := of_decide_eq_true hk
 refine OkG.join (fun s => Sm (4100 - (k - 1).toNat) 3 s.1 ∧ s.2.2.1 = b' ∧ Cu b' s.2.2.2.1) ?_ ?_
 ·refine OkG.call (pick_ok hc' _ (by simp)) ?_
  rintro ⟨v, b', i', h'⟩ ⟨rfl, hc', _⟩
  refine OkG.join (fun s => s.2.2.1.size ≤ 100 ∧ s.2.2.2.2.2.2.2.1.length ≤ 3 ∧ s.2.2.2.2.2.2.2.2.1 = b' ∧ Cu b' s.2.2.2.2.2.2.2.2.2.1) ?_ ?_
  ·refine OkG.bif (fun _ => ?_) (fun _ => OkG.bif (fun _ => ?_) (fun _ => OkG.bif (fun _ => ?_) (fun _ => OkG.bif (fun _ => ?_) (fun _ => ?_))))
   ·refine OkG.call (below_ok hc' _ _) ?_
    rintro ⟨r1, b', i', h'⟩ ⟨rfl, hc', _⟩
    refine OkG.call (below_ok hc' _ _) ?_
    rintro ⟨r2, b', i', h'⟩ ⟨rfl, hc', _⟩
    refine OkG.bif (fun _ => ?_) (fun _ => ?_)
    ·refine OkG.call (below_ok hc' _ _) ?_
     rintro ⟨r3, b', i', h'⟩ ⟨rfl, hc', _⟩
     exact OkG.val ⟨e100, by simp, rfl, hc'⟩
    ·exact OkG.val ⟨e100, by simp, rfl, hc'⟩
   ·refine OkG.join (fun s => s.2.1.size ≤ 100 ∧ s.2.2.2.2.2.2.1.length ≤ 3 ∧ s.2.2.2.2.2.2.2.1 = b' ∧ Cu b' s.2.2.2.2.2.2.2.2.1) ?_ ?_
    ·refine OkG.call (below_ok hc' _ 3) ?_
     rintro ⟨r1, b', i', h'⟩ ⟨rfl, hc', hr, hr'⟩
     have hr3 := hr' (by decide)
     simp only at hr hr3 ⊢
     have hw : IntKind.i64.wrap (1 + r1) = 1 + r1 := wrap_sml (by omega) (by omega)
     rw [hw]
     refine Ok.of (Ok.loop (S := Int × ByteArray × Int × Int × Int × Bool × List Int × Int × List Int × Int × Int) (fun s => s.2.2.2.2.2.2.2.1.toNat) (fun s => 0 ≤ s.2.2.2.2.2.2.2.1 ∧ s.2.2.2.2.2.2.2.1 + s.2.2.2.2.2.2.1.length ≤ 3 ∧ s.2.1.size ≤ 100 ∧ s.2.2.2.2.2.2.2.2.1 = b' ∧ Cu b' s.2.2.2.2.2.2.2.2.2.1) ?_ _ ⟨by simp only; omega, by simp; omega, e100, rfl, hc'⟩)
     rintro ⟨a1, a2, a3, a4, a5, a6, cs, j, b', i', h'⟩ ⟨j0, j3, n1, rfl, hc'⟩ G hG
     simp only at j0 j3
     unfold L_29
     refine OkG.bif (fun hj => ?_) (fun hj => OkG.val ⟨n1, by simp only; omega, rfl, hc'⟩)
     have hj' : j > 0 := of_decide_eq_true hj
     refine OkG.call (below_ok hc' _ _) ?_
     rintro ⟨r3, b', i', h'⟩ ⟨rfl, hc', _⟩
     rw [apx_some (by simp; omega)]
     simp only [Option.bind_some]
     have hw : IntKind.i64.wrap (j - 1) = j - 1 := wrap_sml (by omega) (by omega)
     rw [hw]
     exact hG _ ⟨by simp only; omega, by simp; omega, n1, rfl, hc'⟩ (by simp only; omega)
    ·rintro ⟨a1, a2, a3, a4, a5, a6, cs, b', i', h'⟩ ⟨n1, n2, rfl, hc'⟩
     exact OkG.val ⟨n1, n2, rfl, hc'⟩
   ·refine OkG.call (below_ok hc' _ _) ?_
    rintro ⟨r1, b', i', h'⟩ ⟨rfl, hc', _⟩
    exact OkG.val ⟨e100, by simp, rfl, hc'⟩
   ·refine OkG.call (below_ok hc' _ _) ?_
    rintro ⟨r1, b', i', h'⟩ ⟨rfl, hc', _⟩
    exact OkG.val ⟨e100, by simp, rfl, hc'⟩
   ·exact OkG.val ⟨e100, by simp, rfl, hc'⟩
  ·rintro ⟨w, a1, a2, a3, a4, a5, a6, cs, b', i', h'⟩ ⟨n1, n2, rfl, hc'⟩
   unfold J_33
   refine OkG.call (joined_ok (by simp) (Sm.flat2 (Sm.one (n := (a1, a2, a3, a4, a5, a6, cs, ())) n1 n2) s1) (by omega) (by decide)) ?_
   intro q hq
   exact OkG.val ⟨hq.mono (by omega) (Nat.le_refl _), rfl, hc'⟩
 ·rintro ⟨p2, w2, b', i', h'⟩ ⟨s2, rfl, hc'⟩
  unfold J_32
  have hw : IntKind.i64.wrap (k - 1) = k - 1 := wrap_sml (by omega) (by omega)
  rw [hw]
  exact hG _ ⟨by simp only; omega, by simp only; omega, s2, rfl, hc'⟩ (by simp only; omega)))
theorem liftL_sm {c : Nat} : ∀ (l : List Nd) (i : Nat), (∀ n ∈ l, n.2.1.size ≤ 100 ∧ n.2.2.2.2.2.2.1.length ≤ c) → ∀ n ∈ liftL l i, n.2.1.size ≤ 100 ∧ n.2.2.2.2.2.2.1.length ≤ c
 | [], i, h, n, hn => by simp [liftL] at hn
 | m :: l, i, h, n, hn => by
  have hm := h m (by simp)
  have hl : ∀ n ∈ l, n.2.1.size ≤ 100 ∧ n.2.2.2.2.2.2.1.length ≤ c := fun n hn => h n (by simp [hn])
  simp only [liftL] at hn
  split at hn
  ·rcases List.mem_cons.1 hn with rfl | hn
   ·exact hm
   ·exact liftL_sm l _ hl n hn
  ·rcases List.mem_cons.1 hn with rfl | hn
   ·exact hm
   ·exact liftL_sm l _ hl n hn
theorem Sm.lift {N c : Nat} {p : List Nd} (h : Sm N c p) : Sm N c (liftL p 0) := ⟨by rw [liftL_len]; exact h.len, liftL_sm p 0 h.nodes⟩
theorem slots_ok {b : List Int} {i : Int} (hc : Cu b i) (h : Int) {p : List SNode} {N c : Nat} (hp : Sm N c p) (h1 : N ≤ 1073741824) (h2 : c ≤ 1073741824) : Ok (F_3l b i h p) (PnQ b N c) := (U_3k b i h p).ok (OkG.out (by
 refine OkG.join (fun s => s.2.1 = b ∧ Cu b s.2.2.1) ?_ (fun s hs => OkG.val ⟨hp, hs.1, hs.2⟩)
 refine OkG.call (once_ok hc h 3) ?_
 rintro ⟨r, b', i', h'⟩ ⟨rfl, hc'⟩
 refine OkG.bif (fun _ => ?_) (fun _ => OkG.val ⟨rfl, hc'⟩)
 rw [V_2g (hp.bplan h1 h2)]
 simp only [Option.bind_some]
 refine OkG.bif (fun hl => ?_) (fun _ => OkG.val ⟨rfl, hc'⟩)
 refine OkG.val ⟨?_, rfl, hc'⟩
 unfold lift at hl ⊢
 split at hl
 ·rename_i hcl
  rw [if_pos hcl]
  exact hp.lift
 ·cases hl))
theorem Sm.set {N c : Nat} {p : List Nd} (h : Sm N c p) (k : Nat) {n : Nd} (hn : n.2.1.size ≤ 100 ∧ n.2.2.2.2.2.2.1.length ≤ c) : Sm N c (p.set k n) := ⟨by simpa using h.len, fun m hm => (List.mem_or_eq_of_mem_set hm).elim (h.nodes m) (fun e => e ▸ hn)⟩
theorem tkx_ok {T : Type} {l : List T} {r : Int} (h0 : 0 ≤ r) (h1 : r ≤ l.length) : tkx l r = some (l.take r.toNat) := by simp [tkx, h0, h1]
theorem break_ok {b : List Int} {i : Int} (hc : Cu b i) (h : Int) {p : List SNode} {N c : Nat} (hp : Sm N c p) (h1 : N ≤ 1073741824) (h2 : c ≤ 1073741824) : Ok (F_1g b i h p) (PnQ b (N + 1) (c + 1)) := (U_36 b i h p).ok (OkG.out (by
 have hpl := hp.len
 have hp' : Sm (N + 1) (c + 1) p := hp.mono (by omega) (by omega)
 refine OkG.join (fun s => (s.1 = false → p ≠ []) ∧ s.2.1 = b ∧ Cu b s.2.2.1) ?_ ?_
 ·refine OkG.call (once_ok hc h 8) ?_
  rintro ⟨r, b', i', h'⟩ ⟨rfl, hc'⟩
  refine OkG.bif (fun _ => OkG.val ⟨fun h => (by cases h), rfl, hc'⟩) (fun _ => OkG.val ⟨fun h hp0 => ?_, rfl, hc'⟩)
  rw [hp0] at h
  simp at h
 rintro ⟨e, b', i', h'⟩ ⟨he, rfl, hc'⟩
 unfold J_2u
 refine OkG.bif (fun _ => OkG.val ⟨hp', rfl, hc'⟩) (fun hf => ?_)
 have hpos : 0 < p.length := List.length_pos_iff.2 (he hf)
 refine OkG.call (below_ok hc' _ _) ?_
 rintro ⟨k, b', i', h'⟩ ⟨rfl, hc', k0, k1⟩
 have k1' := k1 (by omega)
 simp only at k0 k1' ⊢
 obtain ⟨n, en, hn⟩ := ix_ex k0 k1'
 have hnn := hp.nodes n hn
 simp only [en, Option.bind_some]
 refine OkG.call (below_ok hc' _ _) ?_
 rintro ⟨r7, b', i', h'⟩ ⟨rfl, hc', _⟩
 refine OkG.bif (fun _ => ?_) (fun _ => OkG.bif (fun _ => ?_) (fun _ => OkG.bif (fun _ => ?_) (fun _ => OkG.bif (fun _ => ?_) (fun _ => OkG.bif (fun _ => ?_) (fun _ => OkG.bif (fun _ => ?_) (fun _ => OkG.bif (fun _ => ?_) (fun _ => ?_)))))))
 ·refine OkG.call (below_ok hc' _ _) ?_
  rintro ⟨r, b', i', h'⟩ ⟨rfl, hc', _⟩
  exact OkG.val ⟨hp'.set _ ⟨hnn.1, Nat.le_succ_of_le hnn.2⟩, rfl, hc'⟩
 ·refine OkG.call (pick_ok hc' _ (by simp)) ?_
  rintro ⟨r, b', i', h'⟩ ⟨rfl, hc', _⟩
  exact OkG.val ⟨hp'.set _ ⟨hnn.1, Nat.le_succ_of_le hnn.2⟩, rfl, hc'⟩
 ·refine OkG.call (pick_ok hc' _ (by simp)) ?_
  rintro ⟨r, b', i', h'⟩ ⟨rfl, hc', _⟩
  exact OkG.val ⟨hp'.set _ ⟨hnn.1, Nat.le_succ_of_le hnn.2⟩, rfl, hc'⟩
 ·exact OkG.val ⟨hp'.set _ ⟨hnn.1, Nat.le_succ_of_le hnn.2⟩, rfl, hc'⟩
 ·rw [apx_some (by simp; omega)]
  simp only [Option.bind_some]
  exact OkG.val ⟨(hp.app (Sm.one hnn.1 hnn.2)).mono (Nat.le_refl _) (by omega), rfl, hc'⟩
 ·rw [tkx_ok k0 (by omega)]
  simp only [Option.bind_some]
  exact OkG.val ⟨⟨by simp; omega, fun m hm => hp'.nodes m (List.mem_of_mem_take hm)⟩, rfl, hc'⟩
 ·have := hnn.2
  rw [bind2, Option.bind_some, apx_some (by simp; omega)]
  simp only [Option.bind_some]
  rw [inx_some k0 k1', eqix]
  simp only [Option.bind_some, decide_true, cond_true, en]
  exact OkG.val ⟨hp'.set _ ⟨hnn.1, by simp; omega⟩, rfl, hc'⟩
 ·exact OkG.val ⟨hp', rfl, hc'⟩))
end Go.Proofs.YtficimgbanaafaaGreatX
namespace Go.Proofs.YtficimgbanaafaaGreatX
open Go Go.Proofs.YtficimgbanaafaaGreatT PT
set_option linter.all false
structure Ss (N c : Nat) (s : List Tb) : Prop where
 len : s.length ≤ N
 names : ∀ t ∈ s, t.1.size ≤ c
theorem Ss.mono {N M c d : Nat} {p : List Tb} (h : Ss N c p) (h1 : N ≤ M) (h2 : c ≤ d) : Ss M d p := ⟨Nat.le_trans h.len h1, fun n hn => Nat.le_trans (h.names n hn) h2⟩
theorem Ss.bsch {N c : Nat} {s : List Tb} (h : Ss N c s) (h1 : N ≤ 1073741824) (h2 : c ≤ 1073741824) : BSch s := ⟨Nat.le_trans h.len h1, fun n hn => by have := h.names n hn; omega⟩
theorem Ss.set {N c : Nat} {p : List Tb} (h : Ss N c p) (k : Nat) {n : Tb} (hn : n.1.size ≤ c) : Ss N c (p.set k n) := ⟨by simpa using h.len, fun m hm => (List.mem_or_eq_of_mem_set hm).elim (h.names m) (fun e => e ▸ hn)⟩
def tabs3 : List Tb := [((⟨#[116, 49]⟩ : ByteArray), (2, ())), ((⟨#[116, 50]⟩ : ByteArray), (3, ())), ((⟨#[116, 51]⟩ : ByteArray), (1, ()))]
theorem tabs3_ok : Ss 3 2 tabs3 := ⟨by decide, by
 intro t ht
 simp only [tabs3, List.mem_cons, List.not_mem_nil, or_false] at ht
 rcases ht with rfl | rfl | rfl <;> decide⟩
theorem tables_ok : F_1i = some tabs3 := U_3g.out rfl
theorem num_ok {a : Int} (h0 : 0 ≤ a) (h1 : a ≤ 100) : Ok (F_3a a) (fun t => t.size ≤ 101) := (U_30 a).ok (OkG.out (by
 refine OkG.bif (fun _ => OkG.val (by decide)) (fun hz => ?_)
 refine OkG.join (fun t => t.size ≤ 101) (Ok.of (Ok.loop (S := Int × ByteArray) (fun s => s.1.toNat) (fun s => 0 ≤ s.1 ∧ s.1 ≤ 100 ∧ s.2.size + s.1 ≤ 101) ?_ _ ⟨h0, h1, ?_⟩)) ?_
 ·rintro ⟨v, t⟩ ⟨v0, v1, ht⟩ G hG
  simp only at v0 v1 ht
  unfold L_25
  refine OkG.bif (fun h => ?_) (fun h => OkG.val (by simp only; omega))
  have hv : v ≠ 0 := by rintro rfl; simp at h
  rw [remx_ps v0 (by decide)]
  simp only [Option.bind_some]
  refine OkG.join (fun _ => True) (OkG.bif (fun _ => OkG.val trivial) (fun _ => OkG.val trivial)) ?_
  intro d _
  unfold J_2t
  have hsz : (bsOf [IntKind.u8.wrap (IntKind.i64.wrap (48 + d))]).size = 1 := rfl
  have ha : ∃ z, addx (bsOf [IntKind.u8.wrap (IntKind.i64.wrap (48 + d))]) t = some z ∧ z.size = 1 + t.size := by
   unfold addx
   rw [show Nat.ble ((bsOf [IntKind.u8.wrap (IntKind.i64.wrap (48 + d))]).size + t.size) 4611686018427387904 = true from by rw [hsz, Nat.ble_eq]; omega]
   exact ⟨_, rfl, by rw [ByteArray.size_append, hsz]⟩
  obtain ⟨z, hz, hzs⟩ := ha
  rw [hz, quox_some v0 (by omega) (by decide)]
  simp only [Option.bind_some]
  exact hG _ ⟨by simp only; omega, by simp only; omega, by simp only; omega⟩ (by simp only; omega)
 ·show ((0 : Nat) : Int) + a ≤ 101
  omega
 ·intro t ht
  unfold J_2s
  refine OkG.bif (fun h => ?_) (fun _ => OkG.val ht)
  have := of_decide_eq_true h
  omega))
theorem schema_ok {b : List Int} {i : Int} (hc : Cu b i) (h : Int) : Ok (F_3g b i h) (fun y => Ss 9 200 y.1 ∧ y.2.1 = b ∧ Cu b y.2.2.1) := (U_3e b i h).ok (OkG.out (by
 have h3 : Ss 9 200 tabs3 := tabs3_ok.mono (by decide) (by decide)
 have hl3 : tabs3.length = 3 := rfl
 rw [tables_ok]
 simp only [Option.bind_some]
 refine OkG.join (fun y => Ss 9 200 y.1 ∧ y.2.1 = b ∧ Cu b y.2.2.1) ?_ (fun s hs => OkG.val hs)
 refine OkG.call (once_ok hc h 6) ?_
 rintro ⟨r, b', i', h'⟩ ⟨rfl, hc'⟩
 refine OkG.bif (fun _ => ?_) (fun _ => OkG.val ⟨h3, rfl, hc'⟩)
 refine OkG.call (below_ok hc' _ 3) ?_
 rintro ⟨k, b', i', h'⟩ ⟨rfl, hc', k0, k1⟩
 have k1' := k1 (by decide)
 simp only at k0 k1' ⊢
 obtain ⟨n, en, hn⟩ := ix_ex (l := tabs3) k0 (by rw [hl3]; exact k1')
 simp only [en, Option.bind_some]
 refine OkG.call (below_ok hc' _ _) ?_
 rintro ⟨r4, b', i', h'⟩ ⟨rfl, hc', _⟩
 refine OkG.bif (fun _ => ?_) (fun _ => OkG.bif (fun _ => ?_) (fun _ => OkG.bif (fun _ => ?_) (fun _ => OkG.bif (fun _ => ?_) (fun _ => ?_))))
 ·refine OkG.call (pick_ok hc' _ (by simp)) ?_
  rintro ⟨r, b', i', h'⟩ ⟨rfl, hc', _⟩
  exact OkG.val ⟨h3.set _ (h3.names n hn), rfl, hc'⟩
 ·refine OkG.call (pickT_ok hc' _ (by simp)) ?_
  rintro ⟨t, b', i', h'⟩ ⟨rfl, hc', ht⟩
  refine OkG.val ⟨h3.set _ ?_, rfl, hc'⟩
  simp only [List.mem_cons, List.not_mem_nil, or_false] at ht
  show t.size ≤ 200
  rcases ht with rfl | rfl | rfl | rfl <;> decide
 ·rw [tkx_ok k0 (by rw [hl3]; omega)]
  simp only [Option.bind_some]
  exact OkG.val ⟨⟨by simp [hl3]; omega, fun m hm => h3.names m (List.mem_of_mem_take hm)⟩, rfl, hc'⟩
 ·refine Ok.of (Ok.loop (S := List STable × List Int × Int × Int) (fun s => 9 - s.1.length) (fun s => Ss 9 200 s.1 ∧ s.2.1 = b' ∧ Cu b' s.2.2.1) ?_ _ ⟨h3, rfl, hc'⟩)
  rintro ⟨s, b', i', h'⟩ ⟨hs, rfl, hc'⟩ G hG
  simp only at hs
  have hsl := hs.len
  unfold L_27
  refine OkG.call (below_ok hc' _ 2) ?_
  rintro ⟨r2, b', i', h'⟩ ⟨rfl, hc', q0, q1⟩
  have q1' := q1 (by decide)
  simp only at q0 q1' ⊢
  have hw : IntKind.i64.wrap (8 + r2) = 8 + r2 := wrap_sml (by omega) (by omega)
  rw [hw]
  refine OkG.bif (fun hb => ?_) (fun _ => OkG.val ⟨hs, rfl, hc'⟩)
  have hb' := of_decide_eq_true hb
  refine OkG.call (num_ok (by omega) (by omega)) ?_
  intro t ht
  have ha : ∃ z, addx (⟨#[122]⟩ : ByteArray) t = some z ∧ z.size = 1 + t.size := by
   have hsz : (⟨#[122]⟩ : ByteArray).size = 1 := rfl
   unfold addx
   rw [show Nat.ble ((⟨#[122]⟩ : ByteArray).size + t.size) 4611686018427387904 = true from by rw [hsz, Nat.ble_eq]; omega]
   exact ⟨_, rfl, by rw [ByteArray.size_append, hsz]⟩
  obtain ⟨z, hz, hzs⟩ := ha
  rw [hz]
  simp only [Option.bind_some]
  rw [apx_some (by simp; omega)]
  simp only [Option.bind_some]
  refine hG _ ⟨⟨by simp; omega, ?_⟩, rfl, hc'⟩ (by simp; omega)
  intro m hm
  rcases List.mem_append.1 hm with hm | hm
  ·exact hs.names m hm
  ·rw [List.mem_singleton.1 hm]; simp only; omega
 ·exact OkG.val ⟨h3, rfl, hc'⟩))
theorem draw8_ok {code : List Int} (hl : code.length ≤ 1073741824) : Ok (F_3j code) (fun y => y.1 = code ∧ Cu code y.2.1 ∧ Ss 9 200 y.2.2.2.1 ∧ Sm 4101 4 y.2.2.2.2) := (U_3i code).ok (OkG.out (by
 have h3 : Ss 9 200 tabs3 := tabs3_ok.mono (by decide) (by decide)
 refine OkG.call (new_ok hl) ?_
 rintro ⟨b', i', h'⟩ ⟨rfl, hc'⟩
 rw [tables_ok]
 simp only [Option.bind_some]
 refine OkG.join (fun s => Ss 9 200 s.1 ∧ s.2.1 = b' ∧ Cu b' s.2.2.1) ?_ ?_
 ·refine OkG.call (once_ok hc' _ 15) ?_
  rintro ⟨r, b', i', h'⟩ ⟨rfl, hc'⟩
  refine OkG.bif (fun _ => ?_) (fun _ => OkG.val ⟨h3, rfl, hc'⟩)
  refine OkG.call (schema_ok hc' _) ?_
  rintro ⟨s, b', i', h'⟩ ⟨hs, rfl, hc'⟩
  exact OkG.val ⟨hs, rfl, hc'⟩
 ·rintro ⟨s, b', i', h'⟩ ⟨hs, rfl, hc'⟩
  unfold J_35
  refine OkG.call (rich_ok hc' _ hl) ?_
  rintro ⟨p, b', i', h'⟩ ⟨hp, rfl, hc'⟩
  refine OkG.call (slots_ok hc' _ hp (by decide) (by decide)) ?_
  rintro ⟨p2, b', i', h'⟩ ⟨hp2, rfl, hc'⟩
  refine OkG.call (once_ok hc' _ 15) ?_
  rintro ⟨r, b', i', h'⟩ ⟨rfl, hc'⟩
  refine OkG.bif (fun _ => ?_) (fun _ => OkG.val ⟨rfl, hc', hs, hp2.mono (by decide) (by decide)⟩)
  refine OkG.call (break_ok hc' _ hp2 (by decide) (by decide)) ?_
  rintro ⟨p3, b', i', h'⟩ ⟨hp3, rfl, hc'⟩
  exact OkG.val ⟨rfl, hc', hs, hp3⟩))
theorem step_ok {b : List Int} {i : Int} (hc : Cu b i) (h : Int) {s : List STable} (hs : BSch s) {p : List SNode} (hp : BPlan p) : Ok (F_3m b i h s p) (fun y => y.2.1 = b ∧ Cu b y.2.2.1) := (U_3l b i h s p).ok (OkG.out (by
 rw [V_2l hs hp]
 simp only [Option.bind_some]
 refine OkG.join (fun t => (t.1 = true → 0 < (stepsM s p).length) ∧ t.2.1 = b ∧ Cu b t.2.2.1) ?_ ?_
 ·refine OkG.bif (fun h0 => ?_) (fun _ => OkG.val ⟨fun h => (by cases h), rfl, hc⟩)
  have h0' := of_decide_eq_true h0
  refine OkG.call (below_ok hc _ 4) ?_
  rintro ⟨r, b', i', h'⟩ ⟨rfl, hc', _⟩
  exact OkG.val ⟨fun _ => by omega, rfl, hc'⟩
 ·rintro ⟨t, b', i', h'⟩ ⟨ht, rfl, hc'⟩
  unfold J_34
  refine OkG.bif (fun h0 => ?_) (fun _ => ?_)
  ·have hpos := ht h0
   refine OkG.call (below_ok hc' _ _) ?_
   rintro ⟨k, b', i', h'⟩ ⟨rfl, hc', k0, k1⟩
   have k1' := k1 (by omega)
   simp only at k0 k1' ⊢
   obtain ⟨n, en, hn⟩ := ix_ex k0 k1'
   simp only [en, Option.bind_some]
   exact OkG.val ⟨rfl, hc'⟩
  ·refine OkG.call (below_ok hc' _ _) ?_
   rintro ⟨r, b', i', h'⟩ ⟨rfl, hc', _⟩
   refine OkG.call (below_ok hc' _ _) ?_
   rintro ⟨r, b', i', h'⟩ ⟨rfl, hc', _⟩
   exact OkG.val ⟨rfl, hc'⟩))
end Go.Proofs.YtficimgbanaafaaGreatX
namespace Go.Proofs.YtficimgbanaafaaGreatX
open Go Go.Proofs.YtficimgbanaafaaGreatT PT
set_option linter.all false
theorem V_1c {s : List STable} (hs : BSch s) {p : List SNode} (hp : BPlan p) (x : SStep) : F_1k s p x = some (if typedOk s p = true then applyM s p x else (p, false)) := (U_9 s p x).out (by
 simp only [V_m hs hp, V_8 hp, Option.bind_some]
 cases hty : typedOk s p with
 | false => simp
 | true =>
  obtain ⟨t, rfl, ht⟩ := typedOk_iff.1 hty
  simp [V_1q ht])
theorem applyM_false {s : List Tb} {p : List Nd} {x : Sp} (h : (applyM s p x).2 = false) : (applyM s p x).1 = p := by
 unfold applyM at h ⊢
 split
 ·rename_i h0
  rw [if_pos h0] at h
  split
  ·rfl
  ·rename_i t ht
   simp only [ht] at h
   split
   ·rfl
   ·rename_i u hu
    simp only [hu] at h
    split
    ·rfl
    ·rename_i u' hu'
     simp only [hu'] at h
     split
     ·rename_i hok
      rw [if_pos hok] at h
      cases h
     ·rfl
 ·rfl
theorem nodeOk_cols6 {n : Nd} (h : nodeOk n = true) : n.2.2.2.2.2.2.1.length ≤ 6 := by
 obtain ⟨k, name, col, op, num, slot, cols, u⟩ := n
 simp only [nodeOk] at h
 simp only [Bool.and_eq_true] at h
 obtain ⟨⟨⟨⟨_, h2⟩, _⟩, _⟩, h5⟩ := h
 by_cases hk : k = 2
 ·subst hk
  rw [if_neg (by decide), if_neg (by decide), if_pos rfl] at h5
  simp only [Bool.and_eq_true] at h5
  have := okIn_iff.1 h5.1.1.1.2
  simp only; omega
 ·simp [hk] at h2
  simp [h2]
theorem typed_bp2 {s : List Tb} {p : List Nd} (h : typedOk s p = true) : BP2 p := by
 obtain ⟨t, rfl, ht⟩ := typedOk_iff.1 h
 refine ⟨ht.plan.bplan.len, fun n hn => ?_⟩
 have := nodeOk_cols6 (ht.plan.nodes n hn)
 omega
theorem Sm.bp2 {N c : Nat} {p : List Nd} (h : Sm N c p) (h1 : N ≤ 1073741824) (h2 : c ≤ 1073741824) : BP2 p := ⟨Nat.le_trans h.len h1, fun n hn => by have := (h.nodes n hn).2; omega⟩
theorem big_ok (code : List Int) : F_29 code = some (decide ((code.length : Int) > 1048576)) := (U_1j code).out rfl
end Go.Proofs.YtficimgbanaafaaGreatX
namespace Go.Proofs.YtficimgbanaafaaGreatX
open Go Go.Proofs.YtficimgbanaafaaGreatT PT
set_option linter.all false
inductive Chain (s : List Tb) (rules : List Int) : List Nd → List Sp → List Nd → Prop where
 | nil (p : List Nd) : Chain s rules p [] p
 | cons {p p' q : List Nd} {x : Sp} {xs : List Sp} (hp : typedOk s p = true) (ha : applyM s p x = (p', true)) (hr : hasR rules x = true) (h : Chain s rules p' xs q) : Chain s rules p (x :: xs) q
theorem Chain.rows {s : List Tb} {rules : List Int} {st : List Rows} (hst : storeOk s st = true) {p q : List Nd} {xs : List Sp} (h : Chain s rules p xs q) : rowsM s st q = rowsM s st p := by
 induction h with
 | nil p => rfl
 | cons hp ha hr h ih => rw [ih, step_rows hst hp ha]
theorem Chain.differs {s : List Tb} {rules : List Int} {p q : List Nd} {xs : List Sp} (h : Chain s rules p xs q) (n : Int) : differs s p q n = -1 := by
 unfold Go.Proofs.YtficimgbanaafaaGreatX.differs
 cases okIn n 0 50 with
 | false => rfl
 | true =>
  rw [cond_true, findI_none.2]
  ·rfl
  ·rw [List.any_eq_false]
   intro i _
   unfold diffP
   by_cases h1 : (evalPlan s (storeFrom s i) p).2 = 0
   ·by_cases h2 : (evalPlan s (storeFrom s i) q).2 = 0
    ·obtain ⟨a1, a2⟩ := eval_rows h1
     obtain ⟨_, b2⟩ := eval_rows h2
     simp [a2, b2, h.rows a1]
    ·simp [h2]
   ·simp [h1]
end Go.Proofs.YtficimgbanaafaaGreatX
namespace Go.Proofs.YtficimgbanaafaaGreatX
open Go Go.Proofs.YtficimgbanaafaaGreatT PT
set_option linter.all false
def cellT (v : Int) : List UInt8 := if v = -2000000 then [45] else Lib.itoa v
def rowT (row : List Int) : List UInt8 := if row = [] then [40, 41] else Lib.join (row.map cellT) [44]
def VB (r : List Int) : Prop := ∀ v ∈ r, -2000000 ≤ v ∧ v ≤ 1000000
def VR (x : Rows) : Prop := ∀ r ∈ x, VB r
theorem vb_kc {c : Int} {r : List Int} (h : VB r) : -2000000 ≤ kc c r ∧ kc c r ≤ 1000000 := by
 unfold kc
 rw [List.getD_eq_getElem?_getD]
 cases hx : r[c.toNat]? with
 | none => simp
 | some v => simpa using h v (List.mem_of_getElem? hx)
theorem VR.op1 {n : Nd} {x : Rows} (h : VR x) : VR (op1 n x) := by
 unfold Go.Proofs.YtficimgbanaafaaGreatX.op1
 split
 ·rw [filterR_eq]; exact fun r hr => h r (List.mem_filter.1 hr).1
 ·split
  ·intro r hr
   unfold keepR at hr
   obtain ⟨r', hr', rfl⟩ := List.mem_map.1 hr
   intro v hv
   obtain ⟨c, _, rfl⟩ := List.mem_map.1 hv
   exact vb_kc (h r' hr')
  ·split
   ·exact fun r hr => h r (srt_mem.1 hr)
   ·split
    ·exact fun r hr => h r (List.mem_of_mem_take hr)
    ·exact fun r hr => h r ((onceR_sublist x).subset hr)
theorem VR.op2 {n : Nd} {x y : Rows} (h : VR x) (k : VR y) : VR (op2 n x y) := by
 unfold Go.Proofs.YtficimgbanaafaaGreatX.op2
 split
 ·intro r hr
  unfold joinR at hr
  obtain ⟨a, ha, hr⟩ := List.mem_flatMap.1 hr
  obtain ⟨b, hb, hr⟩ := List.mem_flatMap.1 hr
  cases hc : !(decide (kc n.2.2.1 a = -2000000)) && decide (kc n.2.2.1 a = kc n.2.2.2.2.1 b) with
  | false => rw [hc] at hr; simp at hr
  | true =>
   rw [hc] at hr
   simp at hr
   subst hr
   intro v hv
   rcases List.mem_append.1 hv with hv | hv
   ·exact h a ha v hv
   ·exact k b hb v hv
 ·intro r hr
  rcases List.mem_append.1 hr with hr | hr
  ·exact h r hr
  ·exact k r hr
end Go.Proofs.YtficimgbanaafaaGreatX
namespace Go.Proofs.YtficimgbanaafaaGreatX
open Go Go.Proofs.YtficimgbanaafaaGreatT PT
set_option linter.all false
def allR : List Int := [0, 1, 2, 3, 4, 5, 6, 7, 8, 9, 10, 11]
end Go.Proofs.YtficimgbanaafaaGreatX
namespace Go.Proofs.YtficimgbanaafaaGreatX
open Go Go.Proofs.YtficimgbanaafaaGreatT
set_option linter.all false
structure RSm (x : Rows) : Prop where
 len : x.length ≤ 40
 row : ∀ r ∈ x, VB r ∧ r.length ≤ 6
theorem RSm.take {x : Rows} (h : RSm x) (k : Nat) : RSm (x.take k) := ⟨by rw [List.length_take]; have := h.len; omega, fun r hr => h.row r (List.mem_of_mem_take hr)⟩
end Go.Proofs.YtficimgbanaafaaGreatX
namespace Go.Proofs.YtficimgbanaafaaGreatX
open Go Go.Proofs.YtficimgbanaafaaGreatT PT
set_option linter.all false
def fillN (v : List Int) (n : Nd) : Nd := if n.2.2.2.2.2.1 = true then (n.1, n.2.1, n.2.2.1, n.2.2.2.1, pick v n.2.2.2.2.1, false, n.2.2.2.2.2.2.1, ()) else n
def fillT (v : List Int) : PT → PT
 | .n0 n => .n0 (fillN v n)
 | .n1 n a => .n1 (fillN v n) (fillT v a)
 | .n2 n a b => .n2 (fillN v n) (fillT v a) (fillT v b)
theorem fillN_kind (v : List Int) (n : Nd) : (fillN v n).1 = n.1 := by unfold fillN; split <;> rfl
theorem fillN_name (v : List Int) (n : Nd) : (fillN v n).2.1 = n.2.1 := by unfold fillN; split <;> rfl
theorem fillN_col (v : List Int) (n : Nd) : (fillN v n).2.2.1 = n.2.2.1 := by unfold fillN; split <;> rfl
theorem fillN_cols (v : List Int) (n : Nd) : (fillN v n).2.2.2.2.2.2.1 = n.2.2.2.2.2.2.1 := by unfold fillN; split <;> rfl
theorem fillN_off {v : List Int} {n : Nd} (h : n.2.2.2.2.2.1 = false) : fillN v n = n := by unfold fillN; rw [if_neg (by rw [h]; decide)]
theorem fillN_colN (v : List Int) (n : Nd) (c : Int) : fillN v (colN n c) = colN (fillN v n) c := by
 unfold fillN colN
 simp only
 split <;> rfl
theorem fillN_colsN (v : List Int) (n : Nd) (c : List Int) : fillN v (colsN n c) = colsN (fillN v n) c := by
 unfold fillN colsN
 simp only
 split <;> rfl
theorem fillT_flat (v : List Int) : ∀ t : PT, (fillT v t).flat = t.flat.map (fillN v)
 | .n0 n => rfl
 | .n1 n a => by simp [fillT, PT.flat, fillT_flat v a]
 | .n2 n a b => by simp [fillT, PT.flat, fillT_flat v a, fillT_flat v b]
theorem fillT_size (v : List Int) : ∀ t : PT, (fillT v t).size = t.size
 | .n0 n => rfl
 | .n1 n a => by simp [fillT, PT.size, fillT_size v a]
 | .n2 n a b => by simp [fillT, PT.size, fillT_size v a, fillT_size v b]
theorem fillT_depth (v : List Int) : ∀ t : PT, (fillT v t).depth = t.depth
 | .n0 n => rfl
 | .n1 n a => by simp [fillT, PT.depth, fillT_depth v a]
 | .n2 n a b => by simp [fillT, PT.depth, fillT_depth v a, fillT_depth v b]
theorem fillT_ok (v : List Int) : ∀ {t : PT}, t.ok → (fillT v t).ok
 | .n0 n, h => by simp only [fillT, PT.ok, fillN_kind]; exact h
 | .n1 n a, h => ⟨by rw [fillN_kind]; exact h.1, fillT_ok v h.2⟩
 | .n2 n a b, h => ⟨by rw [fillN_kind]; exact h.1, fillT_ok v h.2.1, fillT_ok v h.2.2⟩
theorem fillT_hd (v : List Int) (t : PT) : (fillT v t).hd = fillN v t.hd := by cases t <;> rfl
theorem nodeOk_slot2 {n : Nd} (h : nodeOk n = true) (hs : n.2.2.2.2.2.1 = true) : (n.1 = 1 ∨ n.1 = 6) ∧ 0 ≤ n.2.2.2.2.1 ∧ n.2.2.2.2.1 ≤ 39 := by
 obtain ⟨k, name, col, op, num, slot, cols, u⟩ := n
 simp only at hs
 subst hs
 simp only [nodeOk] at h
 simp only [Bool.and_eq_true] at h
 obtain ⟨⟨_, h4⟩, h5⟩ := h
 have := okIn_iff.1 (show okIn num 0 39 = true by simpa using h4)
 refine ⟨?_, this⟩
 by_cases k0 : k = 0
 ·subst k0; simp at h5
 ·by_cases k1 : k = 1
  ·exact .inl k1
  ·by_cases k6 : k = 6
   ·exact .inr k6
   ·exfalso
    rw [if_neg k0, if_neg k1] at h5
    by_cases k2 : k = 2
    ·subst k2; simp at h5
    ·rw [if_neg k2] at h5
     by_cases k3 : k = 3
     ·subst k3; simp at h5
     ·rw [if_neg k3] at h5
      by_cases k5 : k = 5
      ·subst k5; simp at h5
      ·rw [if_neg k5, if_neg k6] at h5
       by_cases k4 : k = 4 ∨ k = 7
       ·rw [if_pos k4] at h5; simp at h5
       ·rw [if_neg k4] at h5; cases h5
theorem nodeOk_fill {v : List Int} (hv : ∀ x ∈ v, 0 ≤ x ∧ x ≤ 4) {n : Nd} (h : nodeOk n = true) : nodeOk (fillN v n) = true := by
 cases hs : n.2.2.2.2.2.1 with
 | false => rw [fillN_off hs]; exact h
 | true =>
  obtain ⟨hk, _⟩ := nodeOk_slot2 h hs
  have hp : 0 ≤ pick v n.2.2.2.2.1 ∧ pick v n.2.2.2.2.1 ≤ 4 := by
   unfold pick
   cases hx : v[n.2.2.2.2.1.toNat]? with
   | none => simp
   | some x => simpa using hv x (List.mem_of_getElem? hx)
  obtain ⟨k, name, col, op, num, slot, cols, u⟩ := n
  simp only at hs hk hp
  subst hs
  unfold fillN
  simp only [if_true]
  generalize pick v num = w at hp
  simp only [nodeOk] at h ⊢
  simp only [Bool.and_eq_true] at h ⊢
  obtain ⟨⟨⟨⟨a, b⟩, c⟩, d⟩, e⟩ := h
  refine ⟨⟨⟨⟨a, b⟩, c⟩, by simp⟩, ?_⟩
  rcases hk with rfl | rfl
  ·rw [if_neg (by decide), if_pos rfl] at e ⊢
   simp only [Bool.and_eq_true] at e ⊢
   obtain ⟨⟨⟨e1, e2⟩, e3⟩, e4⟩ := e
   refine ⟨⟨⟨e1, e2⟩, okIn_iff.2 ⟨by omega, by omega⟩⟩, ?_⟩
   have : op ≠ 3 := by rintro rfl; simp at e4
   simp [this]
  ·simp only [show ¬ ((6 : Int) = 0) by decide, show ¬ ((6 : Int) = 1) by decide, show ¬ ((6 : Int) = 2) by decide, show ¬ ((6 : Int) = 3) by decide, show ¬ ((6 : Int) = 5) by decide, if_false, if_true] at e ⊢
   simp only [Bool.and_eq_true] at e ⊢
   exact ⟨e.1, okIn_iff.2 ⟨by omega, by omega⟩⟩
theorem fill_plan {v : List Int} (hv : ∀ x ∈ v, 0 ≤ x ∧ x ≤ 4) {t : PT} (h : PlanT t) : PlanT (fillT v t) :=
 ⟨fillT_ok v h.ok, by rw [fillT_depth]; exact h.deep, by rw [fillT_size]; exact h.size, fun n hn => by
  rw [fillT_flat] at hn
  obtain ⟨m, hm, rfl⟩ := List.mem_map.1 hn
  exact nodeOk_fill hv (h.nodes m hm)⟩
theorem fill_w {s : List Tb} (v : List Int) : ∀ {t : PT}, Good t → wT s (fillT v t) = wT s t
 | .n0 n, g => by simp only [fillT, wT, fillN_name]
 | .n1 n a, g => by simp only [fillT, wT, fill_w v g.c1, fillN_kind, fillN_col, fillN_cols]
 | .n2 n a b, g => by
  have hn : nodeOk n = true := g.nodes n (by simp [PT.flat])
  have hs : n.2.2.2.2.2.1 = false := by
   cases hs : n.2.2.2.2.2.1 with
   | false => rfl
   | true =>
    obtain ⟨hk, _⟩ := nodeOk_slot2 hn hs
    have := g.ok.1
    rcases hk with hk | hk <;> rw [hk] at this <;> exact absurd this (by decide)
  simp only [fillT, wT, fill_w v g.l2, fill_w v g.r2, fillN_off hs]
theorem fill_typed {s : List Tb} {v : List Int} (hv : ∀ x ∈ v, 0 ≤ x ∧ x ≤ 4) {t : PT} (h : Typed s t) : Typed s (fillT v t) := ⟨fill_plan hv h.plan, h.sch, by rw [fill_w v h.plan.good]; exact h.w⟩
theorem fill_turn {s : List Tb} {v : List Int} {r : Int} {u u' : PT} (g : Good u) (h : turn s r u = some u') : turn s r (fillT v u) = some (fillT v u') := by
 cases u with
 | n0 n => cases h
 | n2 n a b => cases h
 | n1 n c =>
  simp only [turn, fillT] at h ⊢
  split at h
  rotate_left
  ·cases h
  rename_i hk
  rw [fillT_hd, fillN_kind, fillN_kind, if_pos hk]
  cases c with
  | n0 m => cases h
  | n1 m d =>
   simp only [turnC, fillT] at h ⊢
   split at h
   ·rename_i hr
    rw [if_pos hr]
    split at h
    ·cases h
    ·rename_i hns
     cases h
     have h1 : n.2.2.2.2.2.1 = false := by cases hx : n.2.2.2.2.2.1 with | false => rfl | true => exact absurd (.inl hx) hns
     have h2 : m.2.2.2.2.2.1 = false := by cases hx : m.2.2.2.2.2.1 with | false => rfl | true => exact absurd (.inr hx) hns
     rw [fillN_off h1, fillN_off h2, if_neg hns, fillT, fillN_off (n := limN n m) h1]
   ·rename_i hr
    rw [if_neg hr]
    split at h
    ·rename_i hr3
     rw [if_pos hr3]
     split at h
     ·rename_i hc
      cases h
      rw [fillN_col, fillN_col, if_pos hc]
      rfl
     ·cases h
    ·rename_i hr3
     rw [if_neg hr3]
     split at h
     ·rename_i hr7
      rw [if_pos hr7]
      cases h
      rfl
     ·rename_i hr7
      rw [if_neg hr7]
      split at h
      ·rename_i hr8
       rw [if_pos hr8]
       cases h
       simp only [fillT, fillN_colsN, fillN_cols]
      ·rename_i hr8
       rw [if_neg hr8]
       split at h
       ·rename_i hr10
        rw [if_pos hr10]
        cases h
        simp only [fillT, fillN_colN, fillN_cols, fillN_col]
       ·rename_i hr10
        rw [if_neg hr10]
        cases h
        rfl
  | n2 m d e =>
   have gd : Good d := g.c1.l2
   simp only [turnC, fillT] at h ⊢
   rw [fill_w v gd, fillN_col]
   split at h
   ·rename_i hr
    rw [if_pos hr]
    cases h
    rfl
   ·rename_i hr
    rw [if_neg hr]
    split at h
    ·rename_i hr5
     rw [if_pos hr5]
     split at h
     ·rename_i hc
      rw [if_pos hc]
      cases h
      rfl
     ·cases h
    ·rename_i hr5
     rw [if_neg hr5]
     split at h
     ·cases h
     ·rename_i hc
      rw [if_neg hc]
      cases h
      simp only [fillT, fillN_colN]
theorem fill_put (v : List Int) : ∀ (t : PT) (k : Nat) (u : PT), put (fillT v t) k (fillT v u) = fillT v (put t k u)
 | t, 0, u => by cases t <;> simp [put, fillT]
 | .n0 n, k + 1, u => rfl
 | .n1 n a, k + 1, u => by simp [put, fillT, fill_put v a k u]
 | .n2 n a b, k + 1, u => by
  simp only [put, fillT, fillT_size]
  split
  ·simp [fillT, fill_put v a k u]
  ·simp [fillT, fill_put v b _ u]
theorem fill_subs (v : List Int) : ∀ t : PT, subs (fillT v t) = (subs t).map (fillT v)
 | .n0 n => rfl
 | .n1 n a => by simp [subs, fillT, fill_subs v a]
 | .n2 n a b => by simp [subs, fillT, fill_subs v a, fill_subs v b]
theorem fill_apply {s : List Tb} {v : List Int} (hv : ∀ x ∈ v, 0 ≤ x ∧ x ≤ 4) {p q : List Nd} (hp : typedOk s p = true) {x : Sp} (h : applyM s p x = (q, true)) :
  typedOk s (p.map (fillN v)) = true ∧ applyM s (p.map (fillN v)) x = (q.map (fillN v), true) := by
 obtain ⟨t, rfl, ht⟩ := typedOk_iff.1 hp
 obtain ⟨k, u, u', hk, hu, hu', rfl, h1, h2, h3⟩ := applyM_tree ht h
 rw [← fillT_flat, ← fillT_flat]
 have hT := fill_typed hv ht
 refine ⟨typedOk_iff.2 ⟨_, rfl, hT⟩, ?_⟩
 have g := subs_good ht.plan.good (mem_of_get hu)
 have hus : (subs (fillT v t))[k]? = some (fillT v u) := by rw [fill_subs, List.getElem?_map, hu]; rfl
 have hP := fill_plan hv h1
 unfold applyM
 simp only [hk, Int.natCast_nonneg, if_true, planT_flat hT.plan, Int.toNat_natCast, hus, fill_turn g hu']
 rw [← put_flat hus, fill_put, if_pos (planOk_iff.2 ⟨_, hP, rfl⟩)]
theorem Chain.fill {s : List Tb} {rules : List Int} {v : List Int} (hv : ∀ x ∈ v, 0 ≤ x ∧ x ≤ 4) {p q : List Nd} {xs : List Sp} (h : Chain s rules p xs q) : Chain s rules (p.map (fillN v)) xs (q.map (fillN v)) := by
 induction h with
 | nil p => exact .nil _
 | cons hp ha hr h ih =>
  obtain ⟨h1, h2⟩ := fill_apply hv hp ha
  exact .cons h1 h2 hr ih
theorem applyM_rule {s : List Tb} {p q : List Nd} (hp : typedOk s p = true) {x : Sp} (h : applyM s p x = (q, true)) : hasR allR x = true := by
 obtain ⟨t, rfl, ht⟩ := typedOk_iff.1 hp
 obtain ⟨k, u, u', hk, hu, hu', _⟩ := applyM_tree ht h
 have g := subs_good ht.plan.good (mem_of_get hu)
 have hr : okIn x.1 0 11 = true := by
  cases hr : okIn x.1 0 11 with
  | true => rfl
  | false =>
   cases u with
   | n0 n => cases hu'
   | n2 n a b => cases hu'
   | n1 n c =>
    simp only [turn] at hu'
    split at hu'
    ·rename_i hc
     have h1 := hc.1
     rw [ovr_out hr] at h1
     have := g.ok.1
     rw [h1] at this
     exact absurd this (by decide)
    ·cases hu'
 have := rules hr
 simp only [hasR, allR, List.any_cons, List.any_nil, Bool.or_false]
 rcases this with h | h | h | h | h | h | h | h | h | h | h | h <;> rw [h] <;> simp
end Go.Proofs.YtficimgbanaafaaGreatX
namespace Go.Proofs.YtficimgbanaafaaGreatX
open Go Go.Proofs.YtficimgbanaafaaGreatT PT
set_option linter.all false
theorem V_2d {s : List STable} (hs : BSch s) {p : List SNode} (hp : BPlan p) (x : SStep) : F_2v s p x = some (if typedOk s p = true then applyM s p x else (p, false)) := (U_2d s p x).out (by
 obtain ⟨r, k, u0⟩ := x
 simp only [V_b hp, V_i hs hp, Option.bind_some]
 cases hty : typedOk s p with
 | false => simp
 | true =>
  obtain ⟨t, rfl, ht⟩ := typedOk_iff.1 hty
  have hsz := ht.plan.size
  have hw : IntKind.i64.wrap ((t.flat.length : Int) - 2) = (t.flat.length : Int) - 2 := by simp only [len_flat]; rw [wrap_sml] <;> omega
  simp only [V_6, Option.bind_some, hw, Bool.not_true, cond_false, if_true]
  cases hr : okIn r 0 11 with
  | false =>
   have : applyM s t.flat (r, k, u0) = (t.flat, false) := by
    unfold applyM
    simp only [planT_flat ht.plan]
    by_cases h0 : 0 ≤ k
    ·rw [if_pos h0]
     cases hu : (subs t)[k.toNat]? with
     | none => rfl
     | some u =>
      have g := subs_good ht.plan.good (mem_of_get hu)
      have hn := ovr_out hr
      have ht' : turn s r u = none := turn_none (by rintro n c rfl ⟨h1, _⟩; rw [hn] at h1; exact neg_kind g h1)
      simp only [ht']
    ·rw [if_neg h0]
   rw [this]; simp
  | true =>
  cases hin : okIn k 0 ((t.flat.length : Int) - 2) with
  | false =>
   have hn : ¬ (0 ≤ k ∧ k ≤ (t.flat.length : Int) - 2) := fun h' => by rw [okIn_iff.2 h'] at hin; cases hin
   have : applyM s t.flat (r, k, u0) = (t.flat, false) := by
    unfold applyM
    simp only [planT_flat ht.plan]
    by_cases h0 : 0 ≤ k
    ·rw [if_pos h0]
     cases hu : (subs t)[k.toNat]? with
     | none => rfl
     | some u =>
      have hat := subs_at (At.root t) hu
      have hle := hat.le
      have ht' : turn s r u = none := by
       cases u with
       | n0 n => rfl
       | n1 n c => have := c.size_pos; simp only [PT.size, len_flat] at hle hn; omega
       | n2 n a b => rfl
      simp only [ht']
    ·rw [if_neg h0]
   rw [this]; simp
  | true =>
   have hk := okIn_iff.1 hin
   obtain ⟨j, rfl⟩ : ∃ j : Nat, k = j := ⟨k.toNat, by omega⟩
   have hj : j < (subs t).length := by simp only [subs_len, len_flat] at hk ⊢; omega
   have hu : (subs t)[j]? = some (subs t)[j] := List.getElem?_eq_getElem hj
   generalize (subs t)[j] = u at hu
   have hm := mem_of_get hu
   have hat := subs_at (At.root t) hu
   rw [Nat.zero_add] at hat
   have g := subs_good ht.plan.good hm
   have w := subs_w ht.w hm
   have ha : applyM s t.flat (r, (j : Int), u0) = (match turn s r u with
     | none => (t.flat, false)
     | some u' => if planOk (t.flat.take j ++ (u'.flat ++ t.flat.drop (j + u.size))) = true then (t.flat.take j ++ (u'.flat ++ t.flat.drop (j + u.size)), true) else (t.flat, false)) := by
    unfold applyM
    simp only [planT_flat ht.plan]
    rw [if_pos (by omega)]
    simp only [Int.toNat_natCast, hu]
    all_goals (cases turn s r u <;> rfl)
   rw [ha]
   have hx := ix_some hat.hd
   have hle := hat.le
   have hw1 : IntKind.i64.wrap ((j : Int) + 1) = ((j + 1 : Nat) : Int) := wrap_nat (by simp only [len_flat] at hk; omega)
   have hj1 : t.flat[j + 1]? = some t.flat[j + 1] := List.getElem?_eq_getElem (by simp only [len_flat] at hk ⊢; omega)
   have hx1 := ix_some hj1
   simp only [Bool.not_true, cond_false, joinK_go, J_2f, V_19 hr, Option.bind_some, hx, hw1, hx1, bne_dec]
   by_cases hm1 : u.hd.1 = (ovr r).1
   rotate_left
   ·have ht' : turn s r u = none := turn_none (by rintro n c rfl ⟨h1, _⟩; exact hm1 h1)
    simp [hm1, ht']
   have ha := ovr_up hr
   rw [← hm1] at ha
   match u, hu, hm, hat, g, w, hx, hle, hm1, ha with
   | .n0 n, _, _, _, g, _, _, _, _, ha => have := g.ok; simp only [PT.ok, PT.hd] at this ha; omega
   | .n2 n a b, _, _, _, g, _, _, _, _, ha => have := g.ok.1; simp only [PT.hd] at this ha; omega
   | .n1 n c, hu, hm, hat, g, w, hx, hle, hm1, ha =>
   have hc := hat.c1.hd
   rw [hj1] at hc
   have hc := Option.some.inj hc
   rw [hc]
   by_cases hm2 : c.hd.1 = (ovr r).2
   rotate_left
   ·have ht' : turn s r (.n1 n c) = none := turn_none (by rintro n' c' e ⟨_, h1⟩; cases e; exact hm2 h1)
    simp [hm1, hm2, ht']
   have ht' : turn s r (.n1 n c) = turnC s r n c := by
    simp only [turn]
    exact if_pos ⟨hm1, hm2⟩
   obtain ⟨l, e1, e2⟩ := V_18 ht.sch ht.plan.pl (by simp; omega) hat g w hr hm1 hm2
   have hend := hat.V_2 g ht.plan.pl
   simp only [hm1, hm2, decide_true, Bool.not_true, cond_false, joinK_go, J_2g, e1, Option.bind_some]
   cases hu' : turnC s r n c with
   | none => simp [ht', hu']
   | some u' =>
    have hl := e2 u' hu'
    subst hl
    rw [hu'] at ht'
    obtain ⟨b1, b2⟩ := next_bplan ht.plan g ht' hat
    have hcat : F_1 [t.flat.take j, u'.flat, t.flat.drop (j + (PT.n1 n c).size)] = some (t.flat.take j ++ (u'.flat ++ t.flat.drop (j + (PT.n1 n c).size))) := by
     have hf : [t.flat.take j, u'.flat, t.flat.drop (j + (PT.n1 n c).size)].flatten = t.flat.take j ++ (u'.flat ++ t.flat.drop (j + (PT.n1 n c).size)) := by simp
     rw [V_j (by simp) (by rw [hf]; exact ⟨by omega, b2⟩), hf]
    simp only [Option.isSome_some, Bool.not_true, cond_false, slx0 (show j ≤ t.flat.length by omega), hend, slxE hle, Option.bind_some, hcat, V_a ⟨by omega, b2⟩, ht']
    cases planOk (t.flat.take j ++ (u'.flat ++ t.flat.drop (j + (PT.n1 n c).size))) <;> simp)
def stepA (s : List Tb) (p : List Nd) (x : Sp) : List Nd × Bool := if typedOk s p = true then applyM s p x else (p, false)
theorem stepA_b {s : List Tb} {p : List Nd} (hb : BPlan p) (h2 : BP2 p) (x : Sp) : BPlan (stepA s p x).1 ∧ BP2 (stepA s p x).1 := by
 unfold stepA
 split
 ·rename_i hty
  cases ha : (applyM s p x).2 with
  | false => rw [applyM_false ha]; exact ⟨hb, h2⟩
  | true =>
   have := (applyM_typed hty (x := x) (q := (applyM s p x).1) (by rw [← ha])).1
   exact ⟨typed_bplan this, typed_bp2 this⟩
 ·exact ⟨hb, h2⟩
def replayM (s : List Tb) : List Nd → List Sp → List Nd × Nat
 | p, [] => (p, 0)
 | p, x :: xs => if (stepA s p x).2 = true then ((replayM s (stepA s p x).1 xs).1, (replayM s (stepA s p x).1 xs).2 + 1) else (p, 0)
theorem replay_le (s : List Tb) : ∀ (xs : List Sp) (p : List Nd), (replayM s p xs).2 ≤ xs.length
 | [], p => by simp [replayM]
 | x :: xs, p => by
  simp only [replayM]
  split
  ·have := replay_le s xs (stepA s p x).1; simp; omega
  ·simp
theorem replay_b (s : List Tb) : ∀ (xs : List Sp) (p : List Nd), BPlan p → BP2 p → BPlan (replayM s p xs).1 ∧ BP2 (replayM s p xs).1
 | [], p, hb, h2 => ⟨hb, h2⟩
 | x :: xs, p, hb, h2 => by
  simp only [replayM]
  split
  ·obtain ⟨h3, h4⟩ := stepA_b (s := s) hb h2 x
   exact replay_b s xs _ h3 h4
  ·exact ⟨hb, h2⟩
theorem replay_chain {s : List Tb} : ∀ (xs : List Sp) (p : List Nd), typedOk s p = true → (replayM s p xs).2 = xs.length → Chain s allR p xs (replayM s p xs).1 ∧ typedOk s (replayM s p xs).1 = true
 | [], p, hp, _ => ⟨.nil p, hp⟩
 | x :: xs, p, hp, h => by
  simp only [replayM] at h ⊢
  have e : stepA s p x = applyM s p x := by unfold stepA; rw [if_pos hp]
  cases ha : (stepA s p x).2 with
  | false => rw [ha] at h; simp at h
  | true =>
   rw [ha] at h
   simp only [if_true, List.length_cons] at h ⊢
   have ha' : applyM s p x = ((stepA s p x).1, true) := by rw [← ha, e]
   have ht := (applyM_typed hp ha').1
   obtain ⟨hc, hq⟩ := replay_chain xs (stepA s p x).1 ht (by omega)
   exact ⟨.cons hp ha' (applyM_rule hp ha') hc, hq⟩
theorem replay_loop {s : List STable} (hs : BSch s) {xs : List SStep} (hl : xs.length ≤ 20) {p : List SNode} (hb : BPlan p) (h2 : BP2 p) {L : (List SNode × Int × List SNode × Int → Option (Ex (List SNode × Int) (List SNode × Int × List SNode))) → List SNode × Int × List SNode × Int → Option (Ex (List SNode × Int) (List SNode × Int × List SNode))}
  (h1 : ∀ f v2 v3 v4 (k : Nat) x, BPlan v4 → xs[k]? = some x → L f (v2, v3, v4, (k : Int)) = bif !(stepA s v4 x).2 then some (.ret (v4, (k : Int))) else f (v2, v3, (stepA s v4 x).1, ((k + 1 : Nat) : Int)))
  (hE : ∀ f v2 v3 v4, L f (v2, v3, v4, (xs.length : Int)) = some (.go (v2, v3, v4))) :
  Ok (loopF L ([], 0, p, 0)) (fun x => match x with | .ret r => r = ((replayM s p xs).1, ((replayM s p xs).2 : Int)) | .go z => z.2.2 = (replayM s p xs).1 ∧ (replayM s p xs).2 = xs.length) := by
 refine Ok.loop (S := List SNode × Int × List SNode × Int) (fun z => xs.length - z.2.2.2.toNat)
  (fun z => ∃ k : Nat, z.2.2.2 = k ∧ k ≤ xs.length ∧ BPlan z.2.2.1 ∧ BP2 z.2.2.1 ∧ (replayM s z.2.2.1 (xs.drop k)).1 = (replayM s p xs).1 ∧ (replayM s z.2.2.1 (xs.drop k)).2 + k = (replayM s p xs).2) ?_ _ ⟨0, rfl, Nat.zero_le _, hb, h2, by simp, by simp⟩
 rintro ⟨v2, v3, v4, v5⟩ ⟨k, hk, hkl, hb, h2, r1, r2⟩ G hG
 simp only at hk hb h2 r1 r2
 subst hk
 by_cases hlt : k < xs.length
 ·have hx := List.getElem?_eq_getElem hlt
  rw [List.drop_eq_getElem_cons hlt] at r1 r2
  simp only [replayM] at r1 r2
  obtain ⟨b3, b4⟩ := stepA_b (s := s) hb h2 xs[k]
  cases ha : (stepA s v4 xs[k]).2 with
  | false =>
   rw [ha] at r1 r2
   simp only [Bool.false_eq_true, if_false, Nat.zero_add] at r1 r2
   refine ⟨.ret (v4, (k : Int)), fun g _ => by dsimp only; rw [h1 g v2 v3 v4 k _ hb hx, ha]; rfl, ?_⟩
   simp only
   rw [r1, r2]
  | true =>
   rw [ha] at r1 r2
   simp only [if_true] at r1 r2
   obtain ⟨x, e, hq⟩ := hG (v2, v3, (stepA s v4 xs[k]).1, ((k + 1 : Nat) : Int)) ⟨k + 1, rfl, by omega, b3, b4, r1, by simp only; omega⟩ (by simp only; omega)
   exact ⟨x, fun g hg => by dsimp only; rw [h1 g v2 v3 v4 k _ hb hx, ha]; exact e g hg, hq⟩
 ·have hke : k = xs.length := by omega
  subst hke
  rw [List.drop_length] at r1 r2
  simp only [replayM, Nat.zero_add] at r1 r2
  exact ⟨.go (v2, v3, v4), fun g _ => hE g v2 v3 v4, r1, r2.symm⟩
def replayR (s : List Tb) (p : List Nd) (xs : List Sp) : List Nd × Int := if xs.length ≤ 20 then ((replayM s p xs).1, ((replayM s p xs).2 : Int)) else (p, 0)
theorem V_1l {s : List STable} (hs : BSch s) {p : List SNode} (hb : BPlan p) (h2 : BP2 p) (xs : List SStep) : F_1t s p xs = some (replayR s p xs) := (U_m s p xs).out (by
 rw [V_8 hb, Option.bind_some]
 unfold replayR
 by_cases hl : xs.length ≤ 20
 ·rw [show decide ((xs.length : Int) > 20) = false by simp; omega, cond_false, if_pos hl]
  obtain ⟨x, e, hx⟩ := replay_loop hs hl hb h2 (L := fun f z => L_f s xs f z.1 z.2.1 z.2.2.1 z.2.2.2)
   (fun f v2 v3 v4 k x hb hx => by
    have l1 := (List.getElem?_eq_some_iff.1 hx).1
    simp only [L_f, lt_nat hx, cond_true, ix_some hx, Option.bind_some, wrap_nat (show k < 9223372036854775807 by omega)]
    rw [show ((x.1, (x.2.1, ())) : SStep) = x from rfl, V_1c hs hb]
    rfl)
   (fun f v2 v3 v4 => by simp [L_f])
  rw [e]
  cases x with
  | ret r => simp only at hx; rw [hx]; rfl
  | go z => obtain ⟨z1, z2, z3⟩ := z; simp only at hx; simp [hx.1, hx.2]
 ·rw [show decide ((xs.length : Int) > 20) = true by simp; omega, if_neg hl]
  rfl)
theorem V_15 {s : List STable} (hs : BSch s) {p : List SNode} (hb : BPlan p) (h2 : BP2 p) (xs : List SStep) : F_1e s p xs = some (replayR s p xs) := (U_2l s p xs).out (by
 rw [V_b hb, Option.bind_some]
 unfold replayR
 by_cases hl : xs.length ≤ 20
 ·rw [show decide ((xs.length : Int) > 20) = false by simp; omega, cond_false, if_pos hl]
  obtain ⟨x, e, hx⟩ := replay_loop hs hl hb h2 (L := fun f z => L_1c s xs f z.1 z.2.1 z.2.2.1 z.2.2.2)
   (fun f v2 v3 v4 k x hb hx => by
    have l1 := (List.getElem?_eq_some_iff.1 hx).1
    simp only [L_1c, lt_nat hx, cond_true, ix_some hx, Option.bind_some, wrap_nat (show k < 9223372036854775807 by omega)]
    rw [V_14 hs hb]
    rfl)
   (fun f v2 v3 v4 => by simp [L_1c])
  rw [e]
  cases x with
  | ret r => simp only at hx; rw [hx]; rfl
  | go z => obtain ⟨z1, z2, z3⟩ := z; simp only at hx; simp [hx.1, hx.2]
 ·rw [show decide ((xs.length : Int) > 20) = true by simp; omega, if_neg hl]
  rfl)
def certM (s : List Tb) (p q : List Nd) (xs : List Sp) : Bool := typedOk s p && decide (xs.length ≤ 20) && decide ((replayM s p xs).2 = xs.length) && decide ((replayM s p xs).1 = q)
theorem replayR_b {s : List Tb} {p : List Nd} (hb : BPlan p) (h2 : BP2 p) (xs : List Sp) : BPlan (replayR s p xs).1 ∧ BP2 (replayR s p xs).1 := by
 unfold replayR
 split
 ·exact replay_b s xs p hb h2
 ·exact ⟨hb, h2⟩
theorem V_1d {s : List STable} (hs : BSch s) {p q : List SNode} (hb : BPlan p) (h2 : BP2 p) (xs : List SStep) : F_1l s p q xs = some (certM s p q xs) := (U_b s p q xs).out (by
 obtain ⟨_, r2⟩ := replayR_b (s := s) hb h2 xs
 rw [V_m hs hb]
 unfold certM
 cases hty : typedOk s p with
 | false => simp
 | true =>
  by_cases hl : xs.length ≤ 20
  ·have hd : decide ((xs.length : Int) > 20) = false := by simp; omega
   simp only [Option.bind_some, Bool.not_true, cond_false, hd, joinK_go, J_h, V_1l hs hb h2 xs, V_1n r2]
   have e : replayR s p xs = ((replayM s p xs).1, ((replayM s p xs).2 : Int)) := by unfold replayR; rw [if_pos hl]
   rw [e]
   simp only [decide_eq_true hl, Bool.true_and]
   by_cases hx : (replayM s p xs).2 = xs.length
   ·simp [hx]
   ·have h3 : (((replayM s p xs).2 : Int) == (xs.length : Int)) = false := by simp; omega
    simp [h3, hx]
  ·have hd : decide ((xs.length : Int) > 20) = true := by simp; omega
   simp [hd, hl])
theorem V_2e {s : List STable} (hs : BSch s) {p q : List SNode} (hb : BPlan p) (h2 : BP2 p) (xs : List SStep) : F_2w s p q xs = some (certM s p q xs) := (U_2f s p q xs).out (by
 obtain ⟨_, r2⟩ := replayR_b (s := s) hb h2 xs
 rw [V_15 hs hb h2, V_i hs hb]
 unfold certM
 cases hty : typedOk s p with
 | false => simp
 | true =>
  by_cases hl : xs.length ≤ 20
  ·have hd : decide ((xs.length : Int) ≤ 20) = true := by simp; omega
   simp only [Option.bind_some, cond_true, hd, V_2i r2]
   have e : replayR s p xs = ((replayM s p xs).1, ((replayM s p xs).2 : Int)) := by unfold replayR; rw [if_pos hl]
   rw [e]
   simp only [decide_eq_true hl, Bool.true_and]
   by_cases hx : (replayM s p xs).2 = xs.length
   ·simp [hx]
   ·have h3 : (((replayM s p xs).2 : Int) == (xs.length : Int)) = false := by simp; omega
    simp [h3, hx]
  ·have hd : decide ((xs.length : Int) ≤ 20) = false := by simp; omega
   simp [hd, hl])
end Go.Proofs.YtficimgbanaafaaGreatX
namespace Go.Proofs.YtficimgbanaafaaGreatX
open Go Go.Proofs.YtficimgbanaafaaGreatT PT
set_option linter.all false
theorem nodeOk_name {n : Nd} (h : nodeOk n = true) : n.2.1.size ≤ 100 := by
 obtain ⟨k, name, col, op, num, slot, cols, u⟩ := n
 simp only [nodeOk] at h
 simp only [Bool.and_eq_true] at h
 obtain ⟨⟨⟨⟨h1, _⟩, _⟩, _⟩, h5⟩ := h
 by_cases hk : k = 0
 ·subst hk
  rw [if_pos rfl] at h5
  simp only [Bool.and_eq_true] at h5
  have := wordOk_len h5.1.1.1
  simp only; omega
 ·simp [hk] at h1
  simp [h1]
theorem typed_sm {s : List Tb} {p : List Nd} (h : typedOk s p = true) : Sm 40 6 p := by
 obtain ⟨t, rfl, ht⟩ := typedOk_iff.1 h
 exact ⟨by have := ht.plan.size; simpa using this, fun n hn => ⟨nodeOk_name (ht.plan.nodes n hn), nodeOk_cols6 (ht.plan.nodes n hn)⟩⟩
theorem stepA_sm {s : List Tb} {p : List Nd} (h : Sm 4101 6 p) (x : Sp) : Sm 4101 6 (stepA s p x).1 := by
 unfold stepA
 split
 ·rename_i hty
  cases ha : (applyM s p x).2 with
  | false => rw [applyM_false ha]; exact h
  | true => exact (typed_sm (applyM_typed hty (x := x) (q := (applyM s p x).1) (by rw [← ha])).1).mono (by decide) (Nat.le_refl _)
 ·exact h
theorem replay_sm (s : List Tb) : ∀ (xs : List Sp) (p : List Nd), Sm 4101 6 p → Sm 4101 6 (replayM s p xs).1
 | [], p, h => h
 | x :: xs, p, h => by
  simp only [replayM]
  split
  ·exact replay_sm s xs _ (stepA_sm h x)
  ·exact h
theorem steps_draw {b : List Int} {i : Int} (hc : Cu b i) (h : Int) {s : List STable} (hs : BSch s) {p : List SNode} (hp : Sm 4101 6 p) {n : Int} (hn : n ≤ 3) : Ok (F_3n b i h s p n) (fun y => y.1.length ≤ 3 ∧ y.2.1 = b ∧ Cu b y.2.2.1) := (U_3m b i h s p n).ok (OkG.out (by
 refine OkG.join (fun t => t.1.length ≤ 3 ∧ t.2.1 = b ∧ Cu b t.2.2.1) ?_ (fun t ht => OkG.val ht)
 refine Ok.of (Ok.loop (S := List SNode × List SStep × Int × List Int × Int × Int) (fun z => (3 - z.2.2.1).toNat) (fun z => Sm 4101 6 z.1 ∧ 0 ≤ z.2.2.1 ∧ z.2.2.1 ≤ 3 ∧ (z.2.1.length : Int) = z.2.2.1 ∧ z.2.2.2.1 = b ∧ Cu b z.2.2.2.2.1) ?_ _ ⟨hp, by simp, by simp, by simp, rfl, hc⟩)
 rintro ⟨p1, out, j, b', i', h'⟩ ⟨sp, j0, j3, hl, rfl, hc'⟩ G hG
 simp only at j0 j3 hl sp
 unfold L_2a
 refine OkG.bif (fun hb => ?_) (fun _ => OkG.val ⟨by simp only; omega, rfl, hc'⟩)
 have hb' : j < n := of_decide_eq_true hb
 have bp := sp.bplan (by decide) (by decide)
 refine OkG.call (step_ok hc' _ hs bp) ?_
 rintro ⟨⟨x1, x2, u⟩, b', i', h'⟩ ⟨rfl, hc'⟩
 have e := V_2d hs bp (x1, (x2, ()))
 have hsm := stepA_sm (s := s) sp (x1, (x2, ()))
 unfold stepA at hsm
 simp only [e, Option.bind_some]
 rw [apx_some (by simp; omega)]
 simp only [Option.bind_some]
 have hw : IntKind.i64.wrap (j + 1) = j + 1 := wrap_sml (by omega) (by omega)
 rw [hw]
 exact hG _ ⟨hsm, by simp only; omega, by simp only; omega, by simp; omega, rfl, hc'⟩ (by simp only; omega)))
theorem cert_draw {code : List Int} (hl : code.length ≤ 1073741824) : Ok (F_2y code) (fun y => Ss 9 200 y.1 ∧ Sm 4101 4 y.2.1) := (U_2h code).ok (OkG.out (by
 refine OkG.call (draw8_ok hl) ?_
 rintro ⟨b', i', h', s, p⟩ ⟨rfl, hc', hs, hp⟩
 have bs := hs.bsch (by decide) (by decide)
 have hp6 : Sm 4101 6 p := hp.mono (Nat.le_refl _) (by decide)
 have bp := hp.bplan (by decide) (by decide)
 have b2 := hp.bp2 (by decide) (by decide)
 refine OkG.call (below_ok hc' _ 4) ?_
 rintro ⟨n, b', i', h'⟩ ⟨rfl, hc', n0, n1⟩
 have n1' := n1 (by decide)
 simp only at n0 n1' ⊢
 refine OkG.call (steps_draw hc' _ bs hp6 (by omega)) ?_
 rintro ⟨xs, b', i', h'⟩ ⟨hxl, rfl, hc'⟩
 simp only at hxl ⊢
 have e : replayR s p xs = ((replayM s p xs).1, ((replayM s p xs).2 : Int)) := by unfold replayR; rw [if_pos (by omega)]
 have hle := replay_le s xs p
 have hsm := replay_sm s xs p hp6
 rw [V_15 bs bp b2, e]
 simp only [Option.bind_some]
 refine OkG.join (fun t => t.2.1 = b' ∧ Cu b' t.2.2.1) ?_ ?_
 ·refine OkG.call (below_ok hc' _ 4) ?_
  rintro ⟨r, b', i', h'⟩ ⟨rfl, hc', _⟩
  refine OkG.bif (fun _ => ?_) (fun _ => OkG.val ⟨rfl, hc'⟩)
  rw [tkx_ok (by omega) (by omega)]
  simp only [Option.bind_some]
  exact OkG.val ⟨rfl, hc'⟩
 ·rintro ⟨ys, b', i', h'⟩ ⟨rfl, hc'⟩
  unfold J_2h
  refine OkG.call (once_ok hc' _ 5) ?_
  rintro ⟨r, b', i', h'⟩ ⟨rfl, hc'⟩
  refine OkG.bif (fun _ => ?_) (fun _ => OkG.val ⟨hs, hp⟩)
  refine OkG.call (break_ok hc' _ hsm (by decide) (by decide)) ?_
  rintro ⟨q, b', i', h'⟩ ⟨hq, rfl, hc'⟩
  exact OkG.val ⟨hs, hp⟩))
theorem fill_loop {v : List Int} (hv : v.length = 40) {p : List SNode} (hl : p.length ≤ 1073741824) (hn : ∀ n ∈ p, nodeOk n = true) : loopF (fun f s => L_1s v p f s.1 s.2.1 s.2.2.1 s.2.2.2) ([], false, p, 0) = some (.go ([], false, p.map (fillN v))) := by
 refine loopF_ind (S := List SNode × Bool × List SNode × Int) (A := Ex (List SNode × Bool) (List SNode × Bool × List SNode)) (fun z => p.length - z.2.2.2.toNat)
  (fun z => z.1 = [] ∧ z.2.1 = false ∧ ∃ k : Nat, z.2.2.2 = k ∧ k ≤ p.length ∧ z.2.2.1 = (p.take k).map (fillN v) ++ p.drop k) (fun _ => .go ([], false, p.map (fillN v))) ?_ _ ⟨rfl, rfl, 0, rfl, Nat.zero_le _, by simp⟩
 rintro ⟨v3, v4, v5, i⟩ ⟨h3, h4, k, hk, hkl, h5⟩ g hg
 simp only at h3 h4 hk h5
 subst h3 h4 hk
 simp only [L_1s]
 by_cases hlt : k < p.length
 ·have hx : p[k]? = some p[k] := List.getElem?_eq_getElem hlt
  have hw := wrap_nat (show k < 9223372036854775807 by omega)
  have htl : ((p.take k).map (fillN v)).length = k := by simp; omega
  have h5x : v5[k]? = some p[k] := by
   rw [h5, List.getElem?_append_right (by omega), htl, Nat.sub_self, List.getElem?_drop]
   simpa using hx
  have h5l : k < v5.length := (List.getElem?_eq_some_iff.1 h5x).1
  have hset : ∀ y, v5.set k y = (p.take k).map (fillN v) ++ (y :: p.drop (k + 1)) := by
   intro y
   rw [h5, List.set_append_right _ _ (by omega), htl, Nat.sub_self, List.drop_eq_getElem_cons hlt, List.set_cons_zero]
  have hnext : ((p.take (k + 1)).map (fillN v) ++ p.drop (k + 1)) = (p.take k).map (fillN v) ++ (fillN v p[k] :: p.drop (k + 1)) := by
   rw [List.take_add_one, hx, List.map_append, List.append_assoc]
   rfl
  have hnk := hn p[k] (mem_of_get hx)
  rw [lt_nat hx, cond_true, ix_some h5x]
  simp only [Option.bind_some]
  cases hs : p[k].2.2.2.2.2.1 with
  | false =>
   simp only [Bool.not_false, cond_true, joinK_go, J_7, hw]
   refine hg _ ⟨rfl, rfl, k + 1, rfl, by omega, ?_⟩ (by simp only; omega)
   simp only
   rw [hnext, fillN_off hs, h5, List.drop_eq_getElem_cons hlt]
  | true =>
   obtain ⟨_, m0, m1⟩ := nodeOk_slot2 hnk hs
   have hge : decide (p[k].2.2.2.2.1 ≥ (v.length : Int)) = false := by simp; omega
   have hp := pick_some (l := v) m0 (by omega)
   simp only [Bool.not_true, cond_false, hge, hp, Option.bind_some, Int.toNat_natCast, ix_set h5l, List.set_set, joinK_go, J_7, hw]
   refine hg _ ⟨rfl, rfl, k + 1, rfl, by omega, ?_⟩ (by simp only; omega)
   simp only
   rw [hnext, hset]
   congr 2
   unfold fillN
   rw [if_pos hs]
 ·have hke : k = p.length := by omega
  subst hke
  simp [h5]
theorem V_s {v : List Int} (hl : v.length = 40) (hv : ∀ x ∈ v, 0 ≤ x ∧ x ≤ 4) {s : List Tb} {p : List SNode} (hp : typedOk s p = true) : F_y p v = some (p.map (fillN v), true) := (U_g p v).out (by
 have bp := typed_bplan hp
 obtain ⟨t, rfl, ht⟩ := typedOk_iff.1 hp
 have hP := fill_plan hv ht.plan
 have h1 : planOk t.flat = true := planOk_iff.2 ⟨_, ht.plan, rfl⟩
 have h2 : planOk (t.flat.map (fillN v)) = true := planOk_iff.2 ⟨_, hP, (fillT_flat v t).symm⟩
 have b2 : BPlan (t.flat.map (fillN v)) := by rw [← fillT_flat]; exact hP.bplan
 rw [V_f bp, h1, Option.bind_some, Bool.not_true, cond_false, V_8 bp, Option.bind_some, fill_loop hl bp.len ht.plan.nodes, joinK_go]
 unfold J_l
 rw [V_f b2, h2]
 rfl)
theorem Chain.bags {s : List Tb} {rules : List Int} {p q : List Nd} {xs : List Sp} (h : Chain s rules p xs q) (n : Int) : bags s p q n = -1 := by
 unfold Go.Proofs.YtficimgbanaafaaGreatX.bags
 cases okIn n 0 50 with
 | false => rfl
 | true =>
  rw [cond_true, findI_none.2]
  ·rfl
  ·rw [List.any_eq_false]
   intro i _
   unfold bagP
   by_cases h1 : (evalPlan s (storeFrom s i) p).2 = 0
   ·by_cases h2 : (evalPlan s (storeFrom s i) q).2 = 0
    ·obtain ⟨a1, a2⟩ := eval_rows h1
     obtain ⟨_, b2⟩ := eval_rows h2
     simp [a2, b2, h.rows a1, sameBag]
    ·simp [h2]
   ·simp [h1]
theorem at_pos {code : List Int} (hl : code.length ≤ 1048576) (hb : ∀ x ∈ code, 0 ≤ x ∧ x ≤ 255) {i : Int} (h0 : 0 ≤ i) (h1 : i ≤ 100) : Ok (F_28 code i) (fun y => 0 ≤ y) := (U_1i code i).ok (OkG.out (by
 refine OkG.bif (fun h => ?_) (fun _ => ?_)
 ·obtain ⟨x, hx, hm⟩ := ix_ex h0 (of_decide_eq_true h)
  have := hb x hm
  rw [hx]
  simp only [Option.bind_some]
  rw [wrap_sml (by omega) (by omega)]
  exact OkG.val (by omega)
 ·have e : IntKind.i64.wrap (IntKind.i64.wrap (i * 13) + IntKind.i64.wrap ((code.length : Int) * 5)) = i * 13 + (code.length : Int) * 5 := by
   rw [wrap_sml (x := i * 13) (by omega) (by omega), wrap_sml (x := (code.length : Int) * 5) (by omega) (by omega), wrap_sml (by omega) (by omega)]
  rw [e, remx_ps (by omega) (by decide)]
  exact OkG.val (Int.emod_nonneg _ (by decide))))
theorem values_ok {code : List Int} (hl : code.length ≤ 1048576) (hb : ∀ x ∈ code, 0 ≤ x ∧ x ≤ 255) : Ok (loopF (fun f s => L_1u code f s.1 s.2) ([], 0)) (fun x => match x with | .ret _ => False | .go v => v.length = 40 ∧ ∀ x ∈ v, 0 ≤ x ∧ x ≤ 4) := by
 refine Ok.loop (S := List Int × Int) (fun z => (40 - z.2).toNat) (fun z => 0 ≤ z.2 ∧ z.2 ≤ 40 ∧ (z.1.length : Int) = z.2 ∧ ∀ x ∈ z.1, 0 ≤ x ∧ x ≤ 4) ?_ _ ⟨by simp, by simp, by simp, by simp⟩
 rintro ⟨v, j⟩ ⟨j0, j1, hv, ha⟩ G hG
 simp only at j0 j1 hv ha
 unfold L_1u
 refine OkG.bif (fun h => ?_) (fun h => OkG.val ⟨?_, ha⟩)
 ·have hj : j < 40 := of_decide_eq_true h
  refine OkG.call (at_pos hl hb j0 (by omega)) ?_
  intro y hy
  rw [remx_ps hy (by decide)]
  simp only [Option.bind_some]
  rw [apx_some (by simp; omega)]
  simp only [Option.bind_some]
  have hw : IntKind.i64.wrap (j + 1) = j + 1 := wrap_sml (by omega) (by omega)
  rw [hw]
  refine hG _ ⟨by simp only; omega, by simp only; omega, by simp; omega, ?_⟩ (by simp only; omega)
  intro x hx
  rcases List.mem_append.1 hx with hx | hx
  ·exact ha x hx
  ·rw [List.mem_singleton.1 hx]
   have := Int.emod_nonneg y (show (5 : Int) ≠ 0 by decide)
   have := Int.emod_lt_of_pos y (show (0 : Int) < 5 by decide)
   omega
 ·have hj : ¬ j < 40 := of_decide_eq_false h
  show v.length = 40
  omega
end Go.Proofs.YtficimgbanaafaaGreatX
namespace Go.Proofs.YtficimgbanaafaaGreatX
open Go Go.Proofs.YtficimgbanaafaaGreatT
set_option linter.all false
def CNd (n : Nd) : Prop := n.2.2.2.2.2.2.1.length ≤ 1073741824
end Go.Proofs.YtficimgbanaafaaGreatX
namespace Go.Proofs.YtficimgbanaafaaGreatX
open Go Go.Proofs.YtficimgbanaafaaGreatT
set_option linter.all false
structure COp (o : Opn) : Prop where
 l1 : o.2.1.length ≤ 1073741824
 c1 : ∀ n ∈ o.2.1, CNd n
 l2 : o.2.2.1.length ≤ 1073741824
 c2 : ∀ n ∈ o.2.2.1, CNd n
 l3 : o.2.2.2.1.length ≤ 1073741824
end Go.Proofs.YtficimgbanaafaaGreatX
namespace Go.Proofs.YtficimgbanaafaaGreatX
open Go Go.Proofs.YtficimgbanaafaaGreatT
set_option linter.all false
structure CEn (e : En) : Prop where
 l1 : e.2.1.length ≤ 1073741824
 c1 : ∀ n ∈ e.2.1, CNd n
 l2 : e.2.2.1.length ≤ 1073741824
 c2 : ∀ n ∈ e.2.2.1, CNd n
end Go.Proofs.YtficimgbanaafaaGreatX
namespace Go.Proofs.YtficimgbanaafaaGreatX
open Go Go.Proofs.YtficimgbanaafaaGreatT
set_option linter.all false
theorem wl_ByteT {n : Nat} {x : List Int} (h : wfT (.sl n (.int .u8)) x) : x.length ≤ maxLen ∧ ∀ y ∈ x, 0 ≤ y ∧ y ≤ 255 := by
 refine ⟨h.1, fun y hy => ?_⟩
 have h2 := h.2 y hy
 have h3 : (Lit.int .u8 y).wf = true := h2
 have e1 : IntKind.u8.min = 0 := rfl
 have e2 : IntKind.u8.max = 255 := rfl
 simp [Lit.wf, e1, e2] at h3
 omega
theorem pure_FnCertified {a0 : List Int} (w0 : a0.length ≤ maxLen ∧ ∀ y ∈ a0, 0 ≤ y ∧ y ≤ 255) : F_27 a0 = some true := (U_1h a0).out (by
 rw [big_ok, Option.bind_some]
 cases hb : decide ((a0.length : Int) > 1048576) with
 | true => rfl
 | false =>
  have hl := of_decide_eq_false hb
  obtain ⟨⟨s, p, q, xs⟩, e, hs, hp⟩ := cert_draw (code := a0) (by omega)
  simp only at hs hp
  have bs := hs.bsch (by decide) (by decide)
  have bp := hp.bplan (by decide) (by decide)
  have b2 := hp.bp2 (by decide) (by decide)
  simp only [e, cond_false, Option.bind_some, V_1d bs bp b2, V_2e bs bp b2, bne_self_eq_false]
  cases hc : certM s p q xs with
  | false => rfl
  | true =>
   unfold certM at hc
   simp only [Bool.and_eq_true, decide_eq_true_eq] at hc
   obtain ⟨⟨⟨hty, _⟩, h2⟩, h3⟩ := hc
   obtain ⟨hch, hq⟩ := replay_chain xs p hty h2
   rw [h3] at hch hq
   obtain ⟨x, ex, hx⟩ := values_ok (code := a0) (by omega) w0.2
   simp only [Bool.not_true, cond_false, ex]
   cases x with
   | ret r => exact hx.elim
   | go v =>
    obtain ⟨v1, v2⟩ := hx
    have hf := hch.fill v2
    obtain ⟨t, rfl, ht⟩ := typedOk_iff.1 hty
    obtain ⟨t2, rfl, ht2⟩ := typedOk_iff.1 hq
    have b3 : BPlan (t.flat.map (fillN v)) := by rw [← fillT_flat]; exact (fill_plan v2 ht.plan).bplan
    have b4 : BPlan (t2.flat.map (fillN v)) := by rw [← fillT_flat]; exact (fill_plan v2 ht2.plan).bplan
    simp only [joinK_go, J_1o, V_s v1 v2 hty, V_s v1 v2 hq, Option.bind_some, cond_true, V_1g bs b3 b4, hf.differs, V_1f bs b3 b4, hf.bags]
    rfl)
end Go.Proofs.YtficimgbanaafaaGreatX
