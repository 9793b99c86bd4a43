/- The plain law: the plain functions answer as the statement says. -/
import Derived.Test.YtlebkomgiibknaaGreatDoorPimA
set_option linter.all false
namespace Go.Proofs.YtlebkomgiibknaaGreatDoorX
open Go Go.Proofs.YtlebkomgiibknaaGreatDoorT PT
set_option linter.all false
theorem ev_filter {n : SNode} {x : Rows} {w : Int} (hn : nodeOk n = true) (hk : n.1 = 1) (h : RW w x) (h0 : 0 ≤ n.2.2.1) (h1 : n.2.2.1 < w) :
  loopF (fun f s => L_5 n x f s.1 s.2) ([], 0) = some (filterR n x, decide (((filterR n x).length : Int) ≤ 200)) := by
 have hl := h.len
 exact loop_cat (f := fun f s => L_5 n x f s.1 s.2) x (fun r => bif holds n (kc n.2.2.1 r) then [r] else []) (fun a => (a, decide ((a.length : Int) ≤ 200))) 1 (fun r _ => by cases holds n (kc n.2.2.1 r) <;> simp) []
  (fun i r a g hx ha => by
   have l1 := (List.getElem?_eq_some_iff.1 hx).1
   have hr := h.okr h0 h1 r (mem_of_get hx)
   simp only [List.length_nil] at ha
   simp only [L_5, lt_nat hx, cond_true, ix_some hx, Option.bind_some, ix_kc hr, V_1s hn hk, joinK_bif, joinK_bind, joinK_go, J_1k, wrap_nat (show i < 9223372036854775807 by omega)]
   rw [apx_some (by simp; omega)]
   cases hh : holds n (kc n.2.2.1 r) <;> simp [hh])
  (fun a g => by simp [L_5])
theorem ev_keep {n : SNode} {x : Rows} {w : Int} (h : RW w x) (hc : n.2.2.2.2.2.2.1.length ≤ 6) (h0 : ∀ c ∈ n.2.2.2.2.2.2.1, 0 ≤ c ∧ c < w) :
  loopF (fun f s => L_6 n x f s.1 s.2) ([], 0) = some (keepR n x, decide (((keepR n x).length : Int) ≤ 200)) := by
 have hl := h.len
 have e := loop_cat (f := fun f s => L_6 n x f s.1 s.2) x (fun r => [n.2.2.2.2.2.2.1.map fun c => kc c r]) (fun a => (a, decide ((a.length : Int) ≤ 200))) 1 (fun r _ => by simp) []
  (fun i r a g hx ha => by
   have l1 := (List.getElem?_eq_some_iff.1 hx).1
   simp only [List.length_nil] at ha
   have e2 := loop_map (f := fun f s => L_s n r f s.1 s.2) (R := Ex (Rows × Bool) Rows) n.2.2.2.2.2.2.1 (fun c => kc c r) (by omega)
    (fun j c a g hj ha => by
     have l2 := (List.getElem?_eq_some_iff.1 hj).1
     have hr : OkR c r := h.okr (h0 c (mem_of_get hj)).1 (h0 c (mem_of_get hj)).2 r (mem_of_get hx)
     simp only [L_s, lt_nat hj, cond_true, ix_some hj, Option.bind_some, ix_kc hr, wrap_nat (show j < 9223372036854775807 by omega)]
     rw [apx_some (by simp [ha]; omega)]; rfl)
    (fun a g => by simp [L_s])
   simp only [L_6, lt_nat hx, cond_true, ix_some hx, Option.bind_some, e2, joinK_go, J_1m, J_1l, wrap_nat (show i < 9223372036854775807 by omega)]
   rw [apx_some (by simp; omega)]; rfl)
  (fun a g => by simp [L_6])
 rw [e]
 have e2 : x.flatMap (fun r => [n.2.2.2.2.2.2.1.map fun c => kc c r]) = keepR n x := by
  simp only [keepR]
  clear e hl h
  induction x with
  | nil => rfl
  | cons r x ih => rw [List.flatMap_cons, ih]; rfl
 rw [List.nil_append, e2]
theorem ev_once {x : Rows} {w : Int} (h : RW w x) (hw : w ≤ 64) : loopF (fun f s => L_8 x f s.1 s.2) ([], 0) = some (onceR x, decide (((onceR x).length : Int) ≤ 200)) := by
 have hl := h.len
 exact loop_st (f := fun f s => L_8 x f s.1 s.2) x (fun a r => bif decide (cnt a r = 0) then a ++ [r] else a) (fun a => (a, decide ((a.length : Int) ≤ 200))) (fun i a => a.length ≤ i ∧ ∀ r ∈ a, r.length ≤ 64)
  (fun i r a g hx ha => by
   have l1 := (List.getElem?_eq_some_iff.1 hx).1
   simp only [L_8, lt_nat hx, cond_true, ix_some hx, Option.bind_some, V_1o (a := a) (x := r) (by omega) (fun r hr => by have := ha.2 r hr; omega), joinK_bif, joinK_bind, joinK_go, J_1q, wrap_nat (show i < 9223372036854775807 by omega)]
   rw [apx_some (by simp; omega)]
   have : ((cnt a r : Int) == 0) = decide (cnt a r = 0) := by rw [beq_dec]; simp
   rw [this]
   cases decide (cnt a r = 0) <;> rfl)
  (fun i r a hx ha => by
   have := h.short hw r (mem_of_get hx)
   cases decide (cnt a r = 0) with
   | true => exact ⟨by simp; omega, fun q hq => by rcases List.mem_append.1 hq with hq | hq; exact ha.2 q hq; rw [List.mem_singleton.1 hq]; exact this⟩
   | false => exact ⟨by simp; omega, ha.2⟩)
  (fun a g _ => by simp [L_8]) [] (by simp)
theorem ev_join {n : SNode} {x y : Rows} {w v : Int} (h : RW w x) (k : RW v y) (hw : w ≤ 64) (hv : v ≤ 64) (h0 : 0 ≤ n.2.2.1) (h1 : n.2.2.1 < w) (k0 : 0 ≤ n.2.2.2.2.1) (k1 : n.2.2.2.2.1 < v) :
  loopF (fun f s => L_7 [x, y] n x f s.1 s.2) ([], 0) = some (joinR n x y, decide (((joinR n x y).length : Int) ≤ 200)) := by
 have hl := h.len
 have kl := k.len
 exact loop_cat (f := fun f s => L_7 [x, y] n x f s.1 s.2) x (fun l => y.flatMap fun r => bif !(decide (kc n.2.2.1 l = -2000000)) && decide (kc n.2.2.1 l = kc n.2.2.2.2.1 r) then [l ++ r] else []) (fun a => (a, decide ((a.length : Int) ≤ 200))) 200
  (fun l _ => by have := fm_len (fun r => !(decide (kc n.2.2.1 l = -2000000)) && decide (kc n.2.2.1 l = kc n.2.2.2.2.1 r)) (fun r => l ++ r) y; omega) []
  (fun i l a g hx ha => by
   have l1 := (List.getElem?_eq_some_iff.1 hx).1
   simp only [List.length_nil] at ha
   have hr := h.okr h0 h1 l (mem_of_get hx)
   have hls := h.short hw l (mem_of_get hx)
   have e2 := loop_cat (f := fun f s => L_t n l y f s.1 s.2) y (fun r => bif !(decide (kc n.2.2.1 l = -2000000)) && decide (kc n.2.2.1 l = kc n.2.2.2.2.1 r) then [l ++ r] else []) (fun a => (Ex.go a : Ex (Rows × Bool) Rows)) 1
    (fun r _ => by cases (!(decide (kc n.2.2.1 l = -2000000)) && decide (kc n.2.2.1 l = kc n.2.2.2.2.1 r)) <;> simp) a
    (fun j r b g hy hb => by
     have l2 := (List.getElem?_eq_some_iff.1 hy).1
     have hq := k.okr k0 k1 r (mem_of_get hy)
     have hrs := k.short hv r (mem_of_get hy)
     have e3 := V_2d (l := [l, r]) (by simp) (by simp; omega)
     simp only [L_t, lt_nat hy, cond_true, ix_some hy, Option.bind_some, ix_kc hr, ix_kc hq, joinK_bif, joinK_bind, joinK_go, J_1p, e3, J_1o, wrap_nat (show j < 9223372036854775807 by omega), beq_dec, bne_dec]
     rw [apx_some (by simp; omega)]
     generalize decide (kc n.2.2.1 l = -2000000) = d1
     generalize decide (kc n.2.2.1 l = kc n.2.2.2.2.1 r) = d2
     cases d1 <;> cases d2 <;> simp)
    (fun b g => by simp [L_t])
   simp only [L_7, lt_nat hx, cond_true, ix_some hx, ix1, Option.bind_some, e2, joinK_go, J_1n, wrap_nat (show i < 9223372036854775807 by omega)])
  (fun a g => by simp [L_7])
theorem V_i {s : List STable} {st : List Rows} (h : storeOk s st = true) {p : List SNode} (hp : Pl p) : ∀ (t : PT) (k : Nat) (w : Int), At p k t → Good t → wT s t = some w → EvOut (evalT s st t) (F_c s st p k)
 | .n0 n, k, w, ha, g, hw => by
  have hk := kind0 (n := n) g.ok
  have hx : p[k]? = some n := ha.hd
  have hso : schemaOk s = true := by simp only [storeOk, Bool.and_eq_true] at h; exact h.1.1
  have hl := schemaOk_len hso
  simp only [wT] at hw
  split at hw
  ·rename_i j hj
   split at hw
   ·rename_i tb htb
    cases hw
    obtain ⟨t, h1, h2, h3⟩ := storeOk_tab h htb
    simp only [evalT, hj, h1]
    obtain ⟨z, e1, e2⟩ := evOut_cap t
    refine ⟨z, (U_0 s st p k).out ?_, e2⟩
    simp only [ha.V_0 g hp, kids, Option.bind_some]
    rw [loopF_of (r := .go ([], false, [])) 1 (by
     intro n hn
     obtain ⟨m, rfl⟩ : ∃ m, n = m + 1 := ⟨n - 1, by omega⟩
     simp [loopK, L_0])]
    simp only [joinK_go, J_4, ix_some hx, Option.bind_some, hk, beq_dec, decide_true, cond_true, V_r (show s.length ≤ 1073741824 by omega), Option.bind_some, hj, fint_some, ix_some h1]
    exact e1
   ·cases hw
  ·cases hw
 | .n1 n a, k, w, ha, g, hw => by
  have hk := kind1 (n := n) g.ok.1
  have hx : p[k]? = some n := ha.hd
  have hn : nodeOk n = true := g.hd
  have hso : schemaOk s = true := by simp only [storeOk, Bool.and_eq_true] at h; exact h.1.1
  simp only [wT] at hw
  split at hw
  ·cases hw
  rename_i v hv
  have hvr := wT_range hso g.c1 hv
  obtain ⟨x, i1, i2⟩ := V_i h hp a (k + 1) v ha.c1 g.c1 hv
  have fin : ∀ r, F_c s st p k = some r → EvOut (evalT s st (.n1 n a)) (some r) → EvOut (evalT s st (.n1 n a)) (F_c s st p k) := fun r e h => by rw [e]; exact h
  have hkids := ha.V_0 g hp
  simp only [kids] at hkids
  generalize ((k + 1 : Nat) : Int) = j1 at *
  cases he : evalT s st a with
  | none =>
   rw [he] at i1
   refine fin ([], false) ((U_0 s st p k).out ?_) ⟨[], by simp [evalT, he], by simp [evalT, he]⟩
   simp only [hkids, Option.bind_some]
   rw [loopF_of (r := .ret ([], false)) 1 (by
    intro n hn
    obtain ⟨m, rfl⟩ : ∃ m, n = m + 1 := ⟨n - 1, by omega⟩
    simp only [loopK, L_0, ix0, Option.bind_some, i1]
    simp)]
   simp
  | some x' =>
   rw [he] at i1
   have := i2 x' he
   subst this
   have hrw := evalT_rw h g.c1 hv he
   have hl := hrw.len
   have main : ∀ r, r = some (op1 n x, decide (((op1 n x).length : Int) ≤ 200)) → EvOut (evalT s st (.n1 n a)) r := by
    rintro r rfl
    simp only [evalT, he]
    exact evOut_cap _
   refine main _ ((U_0 s st p k).out ?_)
   simp only [hkids, Option.bind_some]
   rw [eval_k1 (x := x) (fun g => by
     simp only [L_0, ix0, Option.bind_some, i1]
     rw [apx_some (by simp)]
     simp) (fun g => by simp [L_0])]
   simp only [joinK_go, J_4, ix_some hx, ix0, Option.bind_some]
   rcases hk with hk | hk | hk | hk | hk
   ·
    have h0 := node_col hn (.inl hk)
    have h1 : n.2.2.1 < v := by
     rw [if_neg (by omega), if_pos (.inl hk)] at hw
     split at hw
     ·assumption
     ·cases hw
    rw [ev_filter hn hk hrw h0 h1]
    simp [hk, op1]
   ·
    have h0 := nodeOk_keep hn hk
    rw [if_pos hk] at hw
    split at hw
    ·rename_i hall
     simp only [List.all_eq_true, decide_eq_true_eq] at hall
     rw [ev_keep hrw h0.2.1 (fun c hc => ⟨(h0.2.2 c hc).1, hall c hc⟩)]
     simp [hk, op1]
    ·cases hw
   ·
    have h0 := node_col hn (.inr (.inr hk))
    have h1 : n.2.2.1 < v := by
     rw [if_neg (by omega), if_pos (.inr hk)] at hw
     split at hw
     ·assumption
     ·cases hw
    simp only [V_2b (show x.length ≤ 2147483648 by omega), V_1l (hrw.okr h0 h1) (show x.length ≤ 2147483648 by omega), Option.bind_some]
    simp [hk, op1]
   ·
    have h0 := node_num hn (.inr hk)
    have e : slx x 0 (mmx false n.2.2.2.2.1 (x.length : Int)) = some (x.take n.2.2.2.2.1.toNat) := by
     obtain ⟨m, hm⟩ : ∃ m : Nat, n.2.2.2.2.1 = (m : Int) := ⟨n.2.2.2.2.1.toNat, by omega⟩
     rw [hm]
     by_cases hc : m < x.length
     ·have : mmx false (m : Int) (x.length : Int) = (m : Int) := by
       have d : decide ((x.length : Int) < (m : Int)) = false := by simp; omega
       simp only [mmx, cond_false, d]
      rw [this, slx0 (by omega)]; simp
     ·have : mmx false (m : Int) (x.length : Int) = (x.length : Int) := by
       by_cases hh : x.length < m
       ·have d : decide ((x.length : Int) < (m : Int)) = true := by simp; omega
        simp only [mmx, cond_false, d, cond_true]
       ·have d : decide ((x.length : Int) < (m : Int)) = false := by simp; omega
        simp only [mmx, cond_false, d]; omega
      rw [this, slx0 (by omega)]
      have e1 : x.take m = x := List.take_of_length_le (by omega)
      simp [e1]
    simp [hk, e, op1]
   ·
    rw [ev_once hrw (by omega)]
    simp [hk, op1]
 | .n2 n a b, k, w, ha, g, hw => by
  have hk := kind2 (n := n) g.ok.1
  have hx : p[k]? = some n := ha.hd
  have hn : nodeOk n = true := g.hd
  have hso : schemaOk s = true := by simp only [storeOk, Bool.and_eq_true] at h; exact h.1.1
  simp only [wT] at hw
  split at hw
  case h_2 => cases hw
  rename_i wa wb hwa hwb
  have hra := wT_range hso g.l2 hwa
  have hrb := wT_range hso g.r2 hwb
  obtain ⟨x, i1, i2⟩ := V_i h hp a (k + 1) wa ha.l2 g.l2 hwa
  obtain ⟨y, j1, j2⟩ := V_i h hp b (k + 1 + a.size) wb ha.r2 g.r2 hwb
  have fin : ∀ r, F_c s st p k = some r → EvOut (evalT s st (.n2 n a b)) (some r) → EvOut (evalT s st (.n2 n a b)) (F_c s st p k) := fun r e h => by rw [e]; exact h
  have hkids := ha.V_0 g hp
  simp only [kids] at hkids
  generalize ((k + 1 : Nat) : Int) = k1 at *
  generalize ((k + 1 + a.size : Nat) : Int) = k2 at *
  cases he : evalT s st a with
  | none =>
   rw [he] at i1
   refine fin ([], false) ((U_0 s st p k).out ?_) ⟨[], by simp [evalT, he], by simp [evalT, he]⟩
   simp only [hkids, Option.bind_some]
   rw [loopF_of (r := .ret ([], false)) 1 (by
    intro n hn
    obtain ⟨m, rfl⟩ : ∃ m, n = m + 1 := ⟨n - 1, by omega⟩
    simp only [loopK, L_0, ix0, Option.bind_some, i1]
    simp)]
   simp
  | some x' =>
   rw [he] at i1
   have := i2 x' he
   subst this
   cases hf : evalT s st b with
   | none =>
    rw [hf] at j1
    refine fin ([], false) ((U_0 s st p k).out ?_) ⟨[], by simp [evalT, he, hf], by simp [evalT, he, hf]⟩
    simp only [hkids, Option.bind_some]
    rw [loopF_of (r := .ret ([], false)) 2 (by
     intro n hn
     obtain ⟨m, rfl⟩ : ∃ m, n = m + 2 := ⟨n - 2, by omega⟩
     simp only [loopK, L_0, ix0, Option.bind_some, i1]
     rw [apx_some (by simp)]
     simp [ix1, j1])]
    simp
   | some y' =>
    rw [hf] at j1
    have := j2 y' hf
    subst this
    have hrx := evalT_rw h g.l2 hwa he
    have hry := evalT_rw h g.r2 hwb hf
    have hlx := hrx.len
    have hly := hry.len
    have main : ∀ r, r = some (op2 n x y, decide (((op2 n x y).length : Int) ≤ 200)) → EvOut (evalT s st (.n2 n a b)) r := by
     rintro r rfl
     simp only [evalT, he, hf]
     exact evOut_cap _
    refine main _ ((U_0 s st p k).out ?_)
    simp only [hkids, Option.bind_some]
    rw [eval_k2 (x := x) (y := y) (fun g => by
      simp only [L_0, ix0, Option.bind_some, i1]
      rw [apx_some (by simp)]
      simp) (fun g => by
      simp only [L_0, ix1, Option.bind_some, j1]
      rw [apx_some (by simp)]
      simp) (fun g => by simp [L_0])]
    simp only [joinK_go, J_4, ix_some hx, ix0, ix1, Option.bind_some]
    rcases hk with hk | hk
    ·
     have h0 := node_col hn (.inr (.inl hk))
     have h1 := node_num hn (.inl hk)
     rw [if_pos hk] at hw
     split at hw
     ·rename_i hc
      rw [ev_join hrx hry (by omega) (by omega) h0 hc.1 h1 hc.2.1]
      simp [hk, op2]
     ·cases hw
    ·
     have hc := V_2c (l := [x, y]) (by simp) (by simp; omega)
     simp [hk, hc, op2]
end Go.Proofs.YtlebkomgiibknaaGreatDoorX
namespace Go.Proofs.YtlebkomgiibknaaGreatDoorX
open Go Go.Proofs.YtlebkomgiibknaaGreatDoorT PT
set_option linter.all false
def evalPlan (s : List Tb) (st : List Rows) (p : List Nd) : Rows × Int :=
 if storeOk s st = true ∧ typedOk s p = true ∧ hasSlot p = false then match planT p with
  | some t => match evalT s st t with
   | some x => (x, 0)
   | none => ([], 2)
  | none => ([], 1)
 else ([], 1)
structure SmallR (x : Rows) : Prop where
 len : x.length ≤ 200
 row : ∀ r ∈ x, r.length ≤ 64
theorem SmallR.nil : SmallR [] := ⟨by simp, by simp⟩
theorem evalPlan_small (s : List Tb) (st : List Rows) (p : List Nd) : SmallR (evalPlan s st p).1 := by
 unfold evalPlan
 split
 ·rename_i h
  obtain ⟨h1, h2, h3⟩ := h
  obtain ⟨t, rfl, ht⟩ := typedOk_iff.1 h2
  rw [planT_flat ht.plan]
  dsimp only
  cases he : evalT s st t with
  | none => exact SmallR.nil
  | some x =>
   cases hw : wT s t with
   | none => have := ht.w; rw [hw] at this; cases this
   | some w =>
    have := evalT_rw h1 ht.plan.good hw he
    have h2 := wT_range ht.sch ht.plan.good hw
    exact ⟨this.len, this.short h2.2⟩
 ·exact SmallR.nil
theorem V_10 {s : List STable} {st : List Rows} {p : List SNode} (hs : BSch s) (hst : BRows st) (hp : BPlan p) : F_15 s st p = some (evalPlan s st p) := (U_j s st p).out (by
 simp only [V_1y hs hst, V_a hs hp, V_21 hp.len, Option.bind_some, joinK_bif, joinK_go, joinK_bind, J_t]
 unfold evalPlan
 cases h1 : storeOk s st with
 | false => simp
 | true =>
  cases h2 : typedOk s p with
  | false => simp
  | true =>
   cases h3 : hasSlot p with
   | true => simp
   | false =>
    obtain ⟨t, rfl, ht⟩ := typedOk_iff.1 h2
    rw [planT_flat ht.plan]
    cases hw : wT s t with
    | none => have := ht.w; rw [hw] at this; cases this
    | some w =>
     obtain ⟨x, e1, e2⟩ := V_i h1 ht.plan.pl t 0 w (At.root t) ht.plan.good hw
     rw [show ((0 : Nat) : Int) = 0 from rfl] at e1
     simp only [e1, Option.bind_some]
     cases he : evalT s st t with
     | none => simp
     | some y =>
      have := e2 y he
      subst this
      have hr := evalT_rw h1 ht.plan.good hw he
      have hl := hr.len
      have hwr := wT_range ht.sch ht.plan.good hw
      simp [V_24 (l := x) (by omega) (fun r hr' => by have := hr.short hwr.2 r hr'; omega)])
theorem zip_all {T : Type} [DecidableEq T] : ∀ {a b : List T}, a.length = b.length → (a.zip b).all (fun p => decide (p.1 = p.2)) = decide (a = b)
 | [], [], _ => rfl
 | x :: a, y :: b, h => by
  simp only [List.zip_cons_cons, List.all_cons, zip_all (a := a) (b := b) (by simpa using h)]
  by_cases h : x = y <;> simp [h]
theorem V_1u {a b : Rows} (ha : SmallR a) : F_21 a b = some (decide (a = b)) := (U_t a b).out (by
 have : F_2u a b = some (decide (a = b)) := (U_25 a b).out (by
  have hla := ha.len
  by_cases hl : a.length = b.length
  ·have e := loop_chk (f := fun f z => L_14 a b f z.1 z.2) (a.zip b) (fun _ p => decide (p.1 = p.2)) false
    (fun i p v g hp => by
     obtain ⟨x, y⟩ := p
     have l1 := (List.getElem?_eq_some_iff.1 hp).1
     simp only [List.length_zip] at l1
     obtain ⟨hx, hy⟩ := List.getElem?_zip_eq_some.1 hp
     have hs := ha.row x (mem_of_get hx)
     simp only [L_14, lt_nat hx, cond_true, ix_some hx, ix_some hy, Option.bind_some, V_s (show x.length ≤ 2147483648 by omega), wrap_nat (show i < 9223372036854775807 by omega)]
     by_cases h : x = y <;> simp [h])
    (fun v g => by simp [L_14, hl]) false
   rw [e, allI_const, zip_all hl, hl]
   cases decide (a = b) <;> simp [J_22]
  ·have : ((a.length : Int) != (b.length : Int)) = true := by simp; omega
   have h2 : a ≠ b := fun h => hl (by rw [h])
   simp [this, h2])
 rw [this]; rfl)
end Go.Proofs.YtlebkomgiibknaaGreatDoorX
namespace Go.Proofs.YtlebkomgiibknaaGreatDoorX
open Go Go.Proofs.YtlebkomgiibknaaGreatDoorT PT
set_option linter.all false
def nxt (x : Int) : Int := (x * 75 + 74) % 65537
def OkX (x : Int) : Prop := 0 ≤ x ∧ x ≤ 65536
theorem nxt_ok (x : Int) : OkX (nxt x) := by unfold OkX nxt; omega
theorem remx_pos {a b : Int} (ha : 0 ≤ a) (hb : 0 < b) : remx a b = some (a % b) := by
 have : (b == 0) = false := by simp; omega
 rw [remx, this]
 simp only [cond_false]
 rw [Int.tmod_eq_emod_of_nonneg ha]
theorem V_18 {x : Int} (h : OkX x) : F_1h x = some (nxt x, nxt x) := (U_1q x).out (by
 obtain ⟨h0, h1⟩ := h
 rw [wrap_in (x := 75 * x) (by omega) (by omega), wrap_in (x := 75 * x + 74) (by omega) (by omega), remx_pos (by omega) (by omega)]
 simp only [Option.bind_some, nxt]
 rw [show 75 * x = x * 75 by omega])
def cellV (y : Int) : Int := if y % 6 = 5 then -2000000 else y % 6
def rowF : Nat → Int → List Int × Int
 | 0, x => ([], x)
 | k + 1, x => (cellV (nxt x) :: (rowF k (nxt x)).1, (rowF k (nxt x)).2)
def rowsF (w : Nat) : Nat → Int → Rows × Int
 | 0, x => ([], x)
 | k + 1, x => ((rowF w x).1 :: (rowsF w k (rowF w x).2).1, (rowsF w k (rowF w x).2).2)
def tabsF : List Tb → Int → List Rows
 | [], _ => []
 | t :: ts, x => (rowsF t.2.1.toNat (nxt x % 5).toNat (nxt x)).1 :: tabsF ts (rowsF t.2.1.toNat (nxt x % 5).toNat (nxt x)).2
def storeFrom (s : List Tb) (seed : Int) : List Rows := if schemaOk s = true ∧ okIn seed 0 65536 = true then tabsF s seed else []
theorem rowF_ok : ∀ (k : Nat) {x : Int}, OkX x → (rowF k x).1.length = k ∧ OkX (rowF k x).2
 | 0, x, h => ⟨rfl, h⟩
 | k + 1, x, h => by
  obtain ⟨h1, h2⟩ := rowF_ok k (nxt_ok x)
  exact ⟨by simp [rowF, h1], h2⟩
theorem rowsF_ok (w : Nat) : ∀ (k : Nat) {x : Int}, OkX x → (rowsF w k x).1.length = k ∧ OkX (rowsF w k x).2 ∧ ∀ r ∈ (rowsF w k x).1, r.length = w
 | 0, x, h => ⟨rfl, h, by simp [rowsF]⟩
 | k + 1, x, h => by
  obtain ⟨h1, h2⟩ := rowF_ok w h
  obtain ⟨h3, h4, h5⟩ := rowsF_ok w k h2
  refine ⟨by simp [rowsF, h3], h4, fun r hr => ?_⟩
  simp only [rowsF, List.mem_cons] at hr
  rcases hr with rfl | hr
  ·exact h1
  ·exact h5 r hr
theorem tabsF_ok : ∀ {ts : List Tb} {x : Int}, OkX x → (∀ t ∈ ts, t.2.1 ≤ 6) → (tabsF ts x).length = ts.length ∧ ∀ q ∈ tabsF ts x, q.length ≤ 4 ∧ ∀ r ∈ q, r.length ≤ 6
 | [], x, h, _ => ⟨rfl, by simp [tabsF]⟩
 | t :: ts, x, h, ht => by
  obtain ⟨h1, h2, h3⟩ := rowsF_ok t.2.1.toNat (nxt x % 5).toNat (nxt_ok x)
  obtain ⟨h4, h5⟩ := tabsF_ok (ts := ts) h2 (fun u hu => ht u (by simp [hu]))
  have := ht t (by simp)
  refine ⟨by simp [tabsF, h4], fun q hq => ?_⟩
  simp only [tabsF, List.mem_cons] at hq
  rcases hq with rfl | hq
  ·exact ⟨by omega, fun r hr => by have := h3 r hr; omega⟩
  ·exact h5 q hq
theorem storeFrom_b {s : List Tb} (seed : Int) : BRows (storeFrom s seed) := by
 unfold storeFrom
 split
 ·rename_i h
  obtain ⟨h1, h2⟩ := tabsF_ok (ts := s) (x := seed) (by have := okIn_iff.1 h.2; exact this) (fun t ht => (schemaOk_get h.1 ht).2.2)
  have := schemaOk_len h.1
  exact ⟨by omega, fun t ht => by have := (h2 t ht).1; omega, fun t ht r hr => by have := (h2 t ht).2 r hr; omega⟩
 ·exact ⟨by simp, by simp, by simp⟩
theorem sf_i2 {z : STable} {x : Int} (hx : OkX x) (hw : 0 ≤ z.2.1) (hw6 : z.2.1 ≤ 6) {E : Type} : ∀ {f : (List Int × Int × Int → Option (Ex E (List Int × Int))) → List Int × Int × Int → Option (Ex E (List Int × Int))},
  (∀ (a : List Int) (y : Int) (j : Nat) (g : List Int × Int × Int → Option (Ex E (List Int × Int))), OkX y → (j : Int) < z.2.1 → a.length = j → f g (a, y, (j : Int)) = g (a ++ [cellV (nxt y)], nxt y, ((j + 1 : Nat) : Int))) →
  (∀ (a : List Int) (y : Int) (g : List Int × Int × Int → Option (Ex E (List Int × Int))), f g (a, y, z.2.1) = some (.go (a, y))) →
  loopF f ([], x, 0) = some (.go (rowF z.2.1.toNat x)) := by
 intro f h1 h2
 refine loopF_ind (fun s => (z.2.1 - s.2.2).toNat) (fun s => ∃ (a : List Int) (y : Int) (j : Nat), s = (a, y, (j : Int)) ∧ OkX y ∧ (j : Int) ≤ z.2.1 ∧ a.length = j ∧ (a ++ (rowF (z.2.1.toNat - j) y).1, (rowF (z.2.1.toNat - j) y).2) = rowF z.2.1.toNat x)
  (fun _ => Ex.go (rowF z.2.1.toNat x)) ?_ _ ⟨[], x, 0, rfl, hx, hw, rfl, by simp⟩
 rintro s ⟨a, y, j, rfl, hy, hj, hl, he⟩ g hg
 by_cases h : (j : Int) < z.2.1
 ·rw [h1 a y j g hy h hl]
  refine hg _ ⟨_, _, j + 1, rfl, nxt_ok y, by omega, by simp [hl], ?_⟩ (by dsimp only; omega)
  obtain ⟨m, hm⟩ : ∃ m, z.2.1.toNat - j = m + 1 := ⟨z.2.1.toNat - j - 1, by omega⟩
  rw [hm] at he
  rw [show z.2.1.toNat - (j + 1) = m by omega, ← he]
  simp [rowF]
 ·have : (j : Int) = z.2.1 := by omega
  rw [show z.2.1.toNat - j = 0 by omega] at he
  rw [this, h2 a y g, ← he]
  simp [rowF]
theorem V_1x {s : List STable} {seed : Int} (hs : BSch s) : F_25 s seed = some (storeFrom s seed) := (U_z s seed).out (by
 simp only [V_o hs, V_6, Option.bind_some, joinK_bif, joinK_go, J_15]
 unfold storeFrom
 cases h1 : schemaOk s with
 | false => simp
 | true =>
  cases h2 : okIn seed 0 65536 with
  | false => simp
  | true =>
   have hlen := schemaOk_len h1
   have hmain : loopF (fun f s_1 => L_l s f s_1.1 s_1.2.1 s_1.2.2) ([], seed, 0) = some (.go (tabsF s seed)) := by
    refine loopF_ind (fun q => ((s.length : Int) - q.2.2).toNat) (fun q => ∃ (a : List Rows) (y : Int) (j : Nat), q = (a, y, (j : Int)) ∧ OkX y ∧ j ≤ s.length ∧ a.length = j ∧ a ++ tabsF (s.drop j) y = tabsF s seed)
     (fun _ => Ex.go (tabsF s seed)) ?_ _ ⟨[], seed, 0, rfl, okIn_iff.1 h2, by omega, rfl, by simp⟩
    rintro q ⟨a, y, j, rfl, hy, hj, hl, he⟩ g hg
    dsimp only
    by_cases h : j < s.length
    ·have hx : s[j]? = some s[j] := List.getElem?_eq_getElem h
     have hwd := schemaOk_get h1 (mem_of_get hx)
     rw [List.drop_eq_getElem_cons h] at he
     generalize s[j] = z at *
     have hny := nxt_ok y
     have hr : loopF (fun f s => L_20 z (nxt y % 5) f s.1 s.2.1 s.2.2) ([], nxt y, 0) = some (.go (rowsF z.2.1.toNat (nxt y % 5).toNat (nxt y))) := by
      refine loopF_ind (fun q => ((nxt y % 5) - q.2.2).toNat) (fun q => ∃ (b : Rows) (u : Int) (k : Nat), q = (b, u, (k : Int)) ∧ OkX u ∧ (k : Int) ≤ nxt y % 5 ∧ b.length = k ∧
        (b ++ (rowsF z.2.1.toNat ((nxt y % 5).toNat - k) u).1, (rowsF z.2.1.toNat ((nxt y % 5).toNat - k) u).2) = rowsF z.2.1.toNat (nxt y % 5).toNat (nxt y))
       (fun _ => Ex.go (rowsF z.2.1.toNat (nxt y % 5).toNat (nxt y))) ?_ _ ⟨[], nxt y, 0, rfl, hny, by omega, rfl, by simp⟩
      rintro q ⟨b, u, k, rfl, hu, hk, hlb, heb⟩ g hg
      dsimp only
      simp only [L_20]
      by_cases hc : (k : Int) < nxt y % 5
      ·rw [decide_eq_true hc]
       have e2 := sf_i2 (z := z) (x := u) hu (by omega) (by omega) (f := fun f s => L_m z f s.1 s.2.1 s.2.2)
        (fun c v m g hv hm hlc => by
         have hnv := nxt_ok v
         simp only [L_m]
         rw [decide_eq_true hm]
         simp only [cond_true, V_18 hv, Option.bind_some, remx_pos hnv.1 (show (0 : Int) < 6 by omega), joinK_bif, joinK_go, J_1b, wrap_nat (show m < 9223372036854775807 by omega), beq_dec]
         unfold cellV
         by_cases h5 : nxt v % 6 = 5
         ·rw [decide_eq_true h5, if_pos h5]
          simp only [cond_true]
          rw [apx_some (by simp; omega)]; rfl
         ·rw [decide_eq_false h5, if_neg h5]
          simp only [cond_false]
          rw [apx_some (by simp; omega)]; rfl)
        (fun c v g => by simp [L_m])
       simp only [cond_true, e2, joinK_go, J_1a]
       rw [apx_some (by simp; omega)]
       simp only [Option.bind_some, joinK_go, J_19, wrap_nat (show k < 9223372036854775807 by omega)]
       obtain ⟨h6, h7⟩ := rowF_ok z.2.1.toNat hu
       refine hg _ ⟨_, _, k + 1, rfl, h7, by omega, by simp [hlb], ?_⟩ (by dsimp only; omega)
       obtain ⟨m, hm⟩ : ∃ m, (nxt y % 5).toNat - k = m + 1 := ⟨(nxt y % 5).toNat - k - 1, by omega⟩
       rw [hm] at heb
       rw [show (nxt y % 5).toNat - (k + 1) = m by omega, ← heb]
       simp [rowsF]
      ·rw [decide_eq_false hc]
       rw [show (nxt y % 5).toNat - k = 0 by omega] at heb
       rw [← heb]
       simp [rowsF]
     simp only [L_l, lt_nat hx, cond_true, ix_some hx, Option.bind_some, V_18 hy, remx_pos hny.1 (show (0 : Int) < 5 by omega), hr, joinK_go, J_18]
     rw [apx_some (by simp; omega)]
     simp only [Option.bind_some, joinK_go, J_17, wrap_nat (show j < 9223372036854775807 by omega)]
     obtain ⟨h6, h7, _⟩ := rowsF_ok z.2.1.toNat (nxt y % 5).toNat hny
     refine hg _ ⟨_, _, j + 1, rfl, h7, by omega, by simp [hl], ?_⟩ (by dsimp only; omega)
     rw [← he]
     simp [tabsF]
    ·have : j = s.length := by omega
     subst this
     simp only [List.drop_length, tabsF, List.append_nil] at he
     simp [L_l, he]
   simp [hmain, J_16])
end Go.Proofs.YtlebkomgiibknaaGreatDoorX
namespace Go.Proofs.YtlebkomgiibknaaGreatDoorX
open Go Go.Proofs.YtlebkomgiibknaaGreatDoorT PT
set_option linter.all false
def diffP (s : List Tb) (p q : List Nd) (seed : Int) : Bool := decide ((evalPlan s (storeFrom s seed) p).2 = 0) && decide ((evalPlan s (storeFrom s seed) q).2 = 0) && !decide ((evalPlan s (storeFrom s seed) p).1 = (evalPlan s (storeFrom s seed) q).1)
def differs (s : List Tb) (p q : List Nd) (n : Int) : Int := bif okIn n 0 50 then fint (findI (fun i : Nat => diffP s p q (i : Int)) (List.range n.toNat) 0) else -1
theorem loop_fnum {S : Type} {f : (S × Int → Option (Ex Int S)) → S × Int → Option (Ex Int S)} (n : Nat) (p : Int → Bool)
  (h1 : ∀ (i : Nat) a (g : S × Int → Option (Ex Int S)), i < n → f g (a, (i : Int)) = bif p i then some (.ret (i : Int)) else g (a, ((i + 1 : Nat) : Int)))
  (h2 : ∀ a (g : S × Int → Option (Ex Int S)), f g (a, (n : Int)) = some (.go a)) (a : S) :
  loopF f (a, 0) = some (match findI (fun i : Nat => p (i : Int)) (List.range n) 0 with | some j => .ret (j : Int) | none => .go a) := by
 exact loop_find (f := f) (List.range n) (fun i : Nat => p (i : Int)) (fun i => (i : Int))
  (fun i x a g hx => by
   have l1 := (List.getElem?_eq_some_iff.1 hx).1
   simp at l1
   have : x = i := by
    have := hx
    rw [List.getElem?_range l1] at this
    simpa using this.symm
   subst this
   exact h1 x a g l1)
  (fun a g => by simpa using h2 a g) a
theorem V_1p {s : List STable} {p q : List SNode} {n : Int} (hs : BSch s) (hp : BPlan p) (hq : BPlan q) : F_14 s p q n = some (differs s p q n) := (U_i s p q n).out (by
 have : F_2a s p q n = some (differs s p q n) := (U_18 s p q n).out (by
  simp only [V_6, Option.bind_some, differs]
  cases h : okIn n 0 50 with
  | false => simp
  | true =>
   obtain ⟨k, rfl⟩ : ∃ k : Nat, n = (k : Int) := ⟨n.toNat, by have := okIn_iff.1 h; omega⟩
   have hk := (okIn_iff.1 h).2
   have e := loop_fnum (f := fun f z => L_r s p q (k : Int) f z.1 z.2) k (diffP s p q)
    (fun i a g hi => by
     have : decide ((i : Int) < (k : Int)) = true := by simp; omega
     simp only [L_r, this, cond_true, V_1x hs, V_10 hs (storeFrom_b _) hp, V_10 hs (storeFrom_b _) hq, V_1u (evalPlan_small _ _ _), Option.bind_some, joinK_bif, joinK_go, J_1j, wrap_nat (show i < 9223372036854775807 by omega), beq_dec, diffP]
     cases decide ((evalPlan s (storeFrom s (i : Int)) p).2 = 0) <;> cases decide ((evalPlan s (storeFrom s (i : Int)) q).2 = 0) <;> simp)
    (fun a g => by simp [L_r]) 0
   rw [e]
   simp only [Int.toNat_natCast]
   cases findI (fun i : Nat => diffP s p q (i : Int)) (List.range k) 0 <;> simp [J_1i, fint])
 rw [this]; rfl)
end Go.Proofs.YtlebkomgiibknaaGreatDoorX
namespace Go.Proofs.YtlebkomgiibknaaGreatDoorX
open Go Go.Proofs.YtlebkomgiibknaaGreatDoorT PT
set_option linter.all false
def vb (n : Nat) : List Int := if n < 128 then [(n : Int)] else ((128 + n % 128 : Nat) : Int) :: vb (n / 128)
termination_by n
decreasing_by omega
def zig (x : Int) : Nat := if x < 0 then (-2 * x - 1).toNat else (2 * x).toNat
def numB (x : Int) : List Int := if okIn x (-1000000) 1000000 = true then vb (zig x) else []
end Go.Proofs.YtlebkomgiibknaaGreatDoorX
namespace Go.Proofs.YtlebkomgiibknaaGreatDoorX
open Go Go.Proofs.YtlebkomgiibknaaGreatDoorT PT
set_option linter.all false
def chkS (s c : Int) : Int := (IntKind.i64.wrap ((IntKind.i64.wrap (269 * s)) + (IntKind.i64.wrap c))).tmod 999983
def chk (b : List Int) : Int := b.foldl chkS 5
def frame (b : List Int) : List Int × Bool := if b.length ≤ 4000 then ([80, 83] ++ numB b.length ++ b ++ numB (chk b), true) else ([], false)
end Go.Proofs.YtlebkomgiibknaaGreatDoorX
namespace Go.Proofs.YtlebkomgiibknaaGreatDoorX
open Go Go.Proofs.YtlebkomgiibknaaGreatDoorT PT
set_option linter.all false
theorem zip_eq {T : Type} [DecidableEq T] : ∀ {a b : List T}, a.length = b.length → (a.zip b).all (fun p => decide (p.1 = p.2)) = decide (a = b)
 | [], [], _ => rfl
 | [], _ :: _, h => by simp at h
 | _ :: _, [], h => by simp at h
 | x :: a, y :: b, h => by
  simp only [List.zip_cons_cons, List.all_cons, zip_eq (a := a) (b := b) (by simpa using h)]
  by_cases h : x = y <;> simp [h]
structure BP2 (p : List Nd) : Prop where
 len : p.length ≤ 1073741824
 cols : ∀ n ∈ p, n.2.2.2.2.2.2.1.length ≤ 1073741824
theorem V_n {a b : List SNode} (h : BP2 a) : F_18 a b = some (decide (a = b)) := (U_s a b).out (by
 have : F_2v a b = some (decide (a = b)) := (U_26 a b).out (by
  by_cases hl : a.length = b.length
  ·have e := loop_chk (f := fun f z => L_15 a b f z.1 z.2) (a.zip b) (fun _ p => decide (p.1 = p.2)) false
    (fun i p v g hp => by
     obtain ⟨x, y⟩ := p
     have l1 := (List.getElem?_eq_some_iff.1 hp).1
     simp only [List.length_zip] at l1
     obtain ⟨hx, hy⟩ := List.getElem?_zip_eq_some.1 hp
     have h2 := h.len
     have h3 := h.cols x (mem_of_get hx)
     have h4 := V_1 (a := x) (b := y) (by omega)
     simp only [L_15, lt_nat hx, cond_true, ix_some hx, ix_some hy, Option.bind_some, wrap_nat (show i < 9223372036854775807 by omega)]
     erw [h4]
     by_cases h : x = y <;> simp [h])
    (fun v g => by simp [L_15, hl]) false
   rw [e, allI_const, zip_eq hl, hl]
   cases decide (a = b) <;> simp [J_23]
  ·have : ((a.length : Int) != (b.length : Int)) = true := by simp; omega
   have h2 : a ≠ b := fun h => hl (by rw [h])
   simp [this, h2])
 simp [this])
end Go.Proofs.YtlebkomgiibknaaGreatDoorX
namespace Go.Proofs.YtlebkomgiibknaaGreatDoorX
open Go Go.Proofs.YtlebkomgiibknaaGreatDoorT PT
set_option linter.all false
abbrev En := Int × List Nd × List Nd × Int × Int × Unit
abbrev Shf := Int × List Tb × List En × Int × Int × Int × Int × Int × Int × Unit
structure BShelf (h : Shf) : Prop where
 sch : BSch h.2.1
 len : h.2.2.1.length ≤ 1073741824
 tpl : ∀ e ∈ h.2.2.1, BPlan e.2.1 ∧ BP2 e.2.1
 pln : ∀ e ∈ h.2.2.1, BPlan e.2.2.1
end Go.Proofs.YtlebkomgiibknaaGreatDoorX
namespace Go.Proofs.YtlebkomgiibknaaGreatDoorX
open Go Go.Proofs.YtlebkomgiibknaaGreatDoorT PT
set_option linter.all false
def evR (s : List Tb) (st : List Rows) : PT → Rows
 | .n0 n => match tabAt s n.2.1 with
  | some j => (st[j]?).getD []
  | none => []
 | .n1 n a => op1 n (evR s st a)
 | .n2 n a b => op2 n (evR s st a) (evR s st b)
theorem evalT_evR {s : List Tb} {st : List Rows} : ∀ {t : PT} {x : Rows}, evalT s st t = some x → x = evR s st t
 | .n0 n, x, h => by
  simp only [evalT] at h
  split at h
  ·rename_i j hj
   split at h
   ·rename_i t ht
    obtain ⟨rfl, _⟩ := capR_some h
    simp [evR, hj, ht]
   ·cases h
  ·cases h
 | .n1 n a, x, h => by
  simp only [evalT] at h
  split at h
  ·rename_i y hy
   obtain ⟨rfl, _⟩ := capR_some h
   simp only [evR]
   rw [evalT_evR hy]
  ·cases h
 | .n2 n a b, x, h => by
  simp only [evalT] at h
  split at h
  ·rename_i y hy
   split at h
   ·rename_i z hz
    obtain ⟨rfl, _⟩ := capR_some h
    simp only [evR]
    rw [evalT_evR hy, evalT_evR hz]
   ·cases h
  ·cases h
def WR (w : Int) (x : Rows) : Prop := ∀ r ∈ x, (r.length : Int) = w
theorem filterR_eq (n : Nd) (x : Rows) : filterR n x = x.filter fun r => holds n (kc n.2.2.1 r) := by
 unfold filterR
 induction x with
 | nil => rfl
 | cons r x ih =>
  simp only [List.flatMap_cons, ih, List.filter_cons]
  cases holds n (kc n.2.2.1 r) <;> simp
theorem evR_w {s : List Tb} {st : List Rows} (h : storeOk s st = true) : ∀ {t : PT} {w : Int}, wT s t = some w → WR w (evR s st t)
 | .n0 n, w, hw => by
  simp only [wT] at hw
  simp only [evR]
  split at hw
  ·rename_i j hj
   split at hw
   ·rename_i tb htb
    cases hw
    obtain ⟨t, h1, h2, _⟩ := storeOk_tab h htb
    simp only [hj, h1, Option.getD_some]
    exact h2.row
   ·cases hw
  ·cases hw
 | .n1 n a, w, hw => by
  simp only [wT] at hw
  simp only [evR]
  split at hw
  ·cases hw
  ·rename_i v hv
   have ih := evR_w h hv
   intro r hr
   simp only [op1] at hr
   split at hw
   ·rename_i hk
    split at hw
    ·cases hw
     rw [if_neg (by omega), if_pos hk] at hr
     simp only [keepR, List.mem_map] at hr
     obtain ⟨q, _, rfl⟩ := hr
     simp
    ·cases hw
   ·rename_i hk2
    have hvw : v = w := by
     split at hw
     ·split at hw
      ·cases hw; rfl
      ·cases hw
     ·cases hw; rfl
    subst hvw
    refine ih r ?_
    split at hr
    ·rw [filterR_eq] at hr; exact (List.mem_filter.1 hr).1
    ·split at hr
     ·exact srt_mem.1 hr
     ·split at hr
      ·exact List.mem_of_mem_take hr
      ·exact (onceR_sub _).1 r hr
 | .n2 n a b, w, hw => by
  simp only [wT] at hw
  simp only [evR]
  split at hw
  ·rename_i wa wb hwa hwb
   have ih1 := evR_w h hwa
   have ih2 := evR_w h hwb
   intro r hr
   simp only [op2] at hr
   split at hw
   ·rename_i hk
    split at hw
    ·cases hw
     rw [if_pos hk] at hr
     simp only [joinR, List.mem_flatMap] at hr
     obtain ⟨l, hl, q, hq, hr⟩ := hr
     have e1 := ih1 l hl
     have e2 := ih2 q hq
     cases hh : (!decide (kc n.2.2.1 l = -2000000) && decide (kc n.2.2.1 l = kc n.2.2.2.2.1 q)) <;> rw [hh] at hr <;> simp at hr
     rw [hr]; simp; omega
    ·cases hw
   ·rename_i hk
    split at hw
    ·rename_i hww
     cases hw
     rw [if_neg hk] at hr
     rcases List.mem_append.1 hr with hr | hr
     ·exact ih1 r hr
     ·have := ih2 r hr; omega
    ·cases hw
  ·cases hw
def stepO (a : Rows) (r : List Int) : Rows := bif decide (cnt a r = 0) then a ++ [r] else a
theorem onceR_def (x : Rows) : onceR x = x.foldl stepO [] := rfl
theorem cnt_zero {a : Rows} {r : List Int} : cnt a r = 0 ↔ r ∉ a := by
 unfold cnt
 rw [List.countP_eq_zero]
 constructor
 ·intro h hm; have := h r hm; simp at this
 ·intro h q hq hd
  simp only [decide_eq_true_eq] at hd
  exact h (hd ▸ hq)
theorem stepO_in {a : Rows} {r : List Int} (h : r ∈ a) : stepO a r = a := by
 have : ¬ cnt a r = 0 := fun e => cnt_zero.1 e h
 simp [stepO, this]
theorem stepO_out {a : Rows} {r : List Int} (h : r ∉ a) : stepO a r = a ++ [r] := by
 have : cnt a r = 0 := cnt_zero.2 h
 simp [stepO, this]
theorem foldO_filter (p : List Int → Bool) : ∀ (x a : Rows), (x.foldl stepO a).filter p = (x.filter p).foldl stepO (a.filter p)
 | [], a => rfl
 | r :: x, a => by
  simp only [List.foldl_cons]
  rw [foldO_filter p x]
  by_cases hm : r ∈ a
  ·rw [stepO_in hm]
   cases hp : p r with
   | true =>
    rw [List.filter_cons_of_pos hp, List.foldl_cons, stepO_in (List.mem_filter.2 ⟨hm, hp⟩)]
   | false => rw [List.filter_cons_of_neg (by simp [hp])]
  ·rw [stepO_out hm]
   cases hp : p r with
   | true =>
    rw [List.filter_cons_of_pos hp, List.foldl_cons, stepO_out (fun h => hm (List.mem_filter.1 h).1), List.filter_append]
    simp [hp]
   | false =>
    rw [List.filter_cons_of_neg (by simp [hp]), List.filter_append]
    simp [hp]
theorem onceR_filter (p : List Int → Bool) (x : Rows) : (onceR x).filter p = onceR (x.filter p) := by
 rw [onceR_def, onceR_def, foldO_filter]; rfl
theorem foldO_sub : ∀ (x a : Rows), (x.foldl stepO a).Sublist (a ++ x)
 | [], a => by simp
 | r :: x, a => by
  simp only [List.foldl_cons]
  by_cases hm : r ∈ a
  ·rw [stepO_in hm]
   exact (foldO_sub x a).trans (List.Sublist.append (List.Sublist.refl a) (List.sublist_cons_self r x))
  ·rw [stepO_out hm]
   have := foldO_sub x (a ++ [r])
   simpa using this
theorem onceR_sublist (x : Rows) : (onceR x).Sublist x := by have := foldO_sub x []; simpa [onceR_def] using this
theorem foldO_nodup : ∀ (x a : Rows), a.Nodup → (x.foldl stepO a).Nodup
 | [], a, h => h
 | r :: x, a, h => by
  simp only [List.foldl_cons]
  by_cases hm : r ∈ a
  ·rw [stepO_in hm]; exact foldO_nodup x a h
  ·rw [stepO_out hm]
   refine foldO_nodup x _ ?_
   rw [List.nodup_append]
   exact ⟨h, by simp, fun p hp q hq => by simp at hq; rintro rfl; exact hm (hq ▸ hp)⟩
theorem foldO_self : ∀ (x a : Rows), (a ++ x).Nodup → x.foldl stepO a = a ++ x
 | [], a, _ => by simp
 | r :: x, a, h => by
  simp only [List.foldl_cons]
  have hm : r ∉ a := fun hm => by
   rw [List.nodup_append] at h
   exact h.2.2 r hm r (by simp) rfl
  rw [stepO_out hm, foldO_self x (a ++ [r]) (by simpa using h)]
  simp
theorem onceR_self (x : Rows) : onceR (onceR x) = onceR x := by
 have h1 := foldO_nodup x [] List.nodup_nil
 have h2 := foldO_self (onceR x) [] (by simpa [onceR_def] using h1)
 rw [onceR_def (onceR x), h2]; rfl
theorem filter_filterR (n m : Nd) (z : Rows) : filterR n (filterR m z) = filterR m (filterR n z) := by
 simp only [filterR_eq, List.filter_filter]
 congr 1
 funext r
 exact Bool.and_comm _ _
theorem srt_filter (k : List Int → Int) (p : List Int → Bool) (z : Rows) : (srt k z).filter p = srt k (z.filter p) := by
 obtain ⟨h1, h2, _⟩ := srt_ok (key := k) z
 refine srt_of (List.Pairwise.filter p h1) (fun v => ?_)
 have := h2 v
 rw [List.filter_filter, List.filter_filter]
 have e : ∀ l : Rows, l.filter (fun x => (k x == v) && p x) = (l.filter (fun x => k x == v)).filter p := fun l => by
  rw [List.filter_filter]
  congr 1
  funext x
  exact Bool.and_comm _ _
 rw [e, e, this]
theorem once_srt (k : List Int → Int) (z : Rows) : onceR (srt k z) = srt k (onceR z) := by
 obtain ⟨h1, h2, _⟩ := srt_ok (key := k) z
 refine srt_of (List.Pairwise.sublist (onceR_sublist _) h1) (fun v => ?_)
 rw [onceR_filter, onceR_filter, h2 v]
theorem flatMap_bif {T : Type} (p : T → Bool) (f : T → Rows) : ∀ z : List T, z.flatMap (fun r => bif p r then f r else []) = (z.filter p).flatMap f
 | [] => rfl
 | r :: z => by
  simp only [List.flatMap_cons, List.filter_cons, flatMap_bif p f z]
  cases p r <;> simp
theorem kc_left {c : Int} {l r : List Int} (h0 : 0 ≤ c) (h : c < l.length) : kc c (l ++ r) = kc c l := by
 unfold kc
 rw [List.getD_eq_getElem?_getD, List.getD_eq_getElem?_getD, List.getElem?_append_left (by omega)]
theorem kc_right {c : Int} {l r : List Int} (h0 : (l.length : Int) ≤ c) : kc c (l ++ r) = kc (c - l.length) r := by
 unfold kc
 rw [List.getD_eq_getElem?_getD, List.getD_eq_getElem?_getD, List.getElem?_append_right (by omega)]
 congr 2
 omega
theorem filter_flatMap {T : Type} (p : List Int → Bool) (f : T → Rows) : ∀ z : List T, (z.flatMap f).filter p = z.flatMap fun t => (f t).filter p
 | [] => rfl
 | t :: z => by simp only [List.flatMap_cons, List.filter_append, filter_flatMap p f z]
theorem flatMap_congr2 {T : Type} {f g : T → Rows} : ∀ {z : List T}, (∀ t ∈ z, f t = g t) → z.flatMap f = z.flatMap g
 | [], _ => rfl
 | t :: z, h => by
  simp only [List.flatMap_cons]
  rw [h t (by simp), flatMap_congr2 (fun u hu => h u (by simp [hu]))]
theorem filter_joinL {n m : Nd} {x y : Rows} {w : Int} (hx : WR w x) (h0 : 0 ≤ n.2.2.1) (h1 : n.2.2.1 < w) : filterR n (joinR m x y) = joinR m (filterR n x) y := by
 have e : joinR m (filterR n x) y = x.flatMap fun l => bif holds n (kc n.2.2.1 l) then (y.flatMap fun r => bif !(decide (kc m.2.2.1 l = -2000000)) && decide (kc m.2.2.1 l = kc m.2.2.2.2.1 r) then [l ++ r] else []) else [] := by
  unfold joinR
  rw [filterR_eq, flatMap_bif]
 rw [e, filterR_eq]
 unfold joinR
 rw [filter_flatMap]
 refine flatMap_congr2 (fun l hl => ?_)
 have hw := hx l hl
 rw [filter_flatMap]
 have e2 : ∀ r : List Int, (bif !(decide (kc m.2.2.1 l = -2000000)) && decide (kc m.2.2.1 l = kc m.2.2.2.2.1 r) then [l ++ r] else []).filter (fun q => holds n (kc n.2.2.1 q)) =
   bif holds n (kc n.2.2.1 l) then (bif !(decide (kc m.2.2.1 l = -2000000)) && decide (kc m.2.2.1 l = kc m.2.2.2.2.1 r) then [l ++ r] else []) else [] := by
  intro r
  have hk := kc_left (c := n.2.2.1) (l := l) (r := r) h0 (by omega)
  cases hb : (!(decide (kc m.2.2.1 l = -2000000)) && decide (kc m.2.2.1 l = kc m.2.2.2.2.1 r)) <;> cases hh : holds n (kc n.2.2.1 l) <;> simp [hk, hh]
 rw [flatMap_congr2 (fun r _ => e2 r)]
 cases holds n (kc n.2.2.1 l) <;> simp
theorem filter_joinR {n m : Nd} {x y : Rows} {w : Int} (hx : WR w x) (h0 : w ≤ n.2.2.1) : filterR n (joinR m x y) = joinR m x (filterR (colN n (n.2.2.1 - w)) y) := by
 rw [filterR_eq]
 unfold joinR
 rw [filter_flatMap]
 refine flatMap_congr2 (fun l hl => ?_)
 have hw := hx l hl
 rw [filter_flatMap, filterR_eq, ← flatMap_bif]
 refine flatMap_congr2 (fun r _ => ?_)
 have hk := kc_right (c := n.2.2.1) (l := l) (r := r) (by omega)
 rw [hw] at hk
 have hh : ∀ v, holds (colN n (n.2.2.1 - w)) v = holds n v := fun v => rfl
 have hc : (colN n (n.2.2.1 - w)).2.2.1 = n.2.2.1 - w := rfl
 rw [hh, hc]
 cases hb : (!(decide (kc m.2.2.1 l = -2000000)) && decide (kc m.2.2.1 l = kc m.2.2.2.2.1 r)) <;> cases h2 : holds n (kc (n.2.2.1 - w) r) <;> simp [hk, h2]
theorem kc_map {l : List Int} {c : Int} (r : List Int) (h : c < l.length) (h0 : 0 ≤ c) : kc c (l.map fun c => kc c r) = kc (pick l c) r := by
 have hl : c.toNat < l.length := by omega
 unfold pick
 have e : kc c (l.map fun c => kc c r) = ((l.map fun c => kc c r)[c.toNat]?).getD 0 := by unfold kc; rw [List.getD_eq_getElem?_getD]
 rw [e, List.getElem?_map, List.getElem?_eq_getElem hl]
 rfl
theorem turn_evR {s : List Tb} {st : List Rows} (hst : storeOk s st = true) {r : Int} {u u' : PT} (g : Good u) (w : (wT s u).isSome = true) (h : turn s r u = some u') : evR s st u' = evR s st u := by
 cases u with
 | n0 n => cases h
 | n2 n a b => cases h
 | n1 n c =>
  simp only [turn] at h
  split at h
  rotate_left
  ·cases h
  rename_i hk
  obtain ⟨hm, hm2⟩ := hk
  have hr : okIn r 0 11 = true := by
   cases hr : okIn r 0 11 with
   | true => rfl
   | false => rw [ovr_out hr] at hm; exact absurd hm (neg_kind g)
  have hn := g.nodes n (by simp [PT.flat])
  rcases shapes g with ⟨m, rfl, har⟩ | ⟨m, d, rfl, har⟩ | ⟨m, d, e, rfl, har⟩
  ·cases h
  ·simp only [PT.hd] at hm2
   have hmo := g.nodes m (by simp [PT.flat])
   cases hwd : wT s d with
   | none => simp only [wT, hwd] at w; cases w
   | some x =>
   rcases rules hr with rfl | rfl | rfl | rfl | rfl | rfl | rfl | rfl | rfl | rfl | rfl | rfl
   ·have hk : n.1 = 1 := hm
    have hk2 : m.1 = 1 := hm2
    cases h
    simp only [evR, op1, hk, hk2, if_true]
    exact filter_filterR m n _
   ·have hk : n.1 = 1 := hm
    have hk2 : m.1 = 5 := hm2
    cases h
    simp only [evR, op1, hk, hk2, if_true, show ¬ (5 : Int) = 1 by omega, show ¬ (5 : Int) = 2 by omega, if_false]
    rw [filterR_eq, filterR_eq, srt_filter]
   ·have hk : n.1 = 6 := hm
    have hk2 : m.1 = 6 := hm2
    simp [turnC] at h
    obtain ⟨_, rfl⟩ := h
    have hk3 : (limN n m).1 = 6 := hk
    have e : (limN n m).2.2.2.2.1 = min n.2.2.2.2.1 m.2.2.2.2.1 := rfl
    simp only [evR, op1, hk, hk2, hk3, e, show ¬ (6 : Int) = 1 by omega, show ¬ (6 : Int) = 2 by omega, show ¬ (6 : Int) = 5 by omega, if_false, if_true]
    rw [List.take_take]
    congr 1
    omega
   ·have hk : n.1 = 5 := hm
    have hk2 : m.1 = 5 := hm2
    simp [turnC] at h
    obtain ⟨hc, rfl⟩ := h
    simp only [evR, op1, hk, hk2, show ¬ (5 : Int) = 1 by omega, show ¬ (5 : Int) = 2 by omega, if_false, if_true, hc]
    exact (srt_self (srt_ok _).1).symm
   ·have := ovr_two (r := 4) (by simp); rw [← hm2] at this; omega
   ·have := ovr_two (r := 5) (by simp); rw [← hm2] at this; omega
   ·have := ovr_two (r := 6) (by simp); rw [← hm2] at this; omega
   ·have hk : n.1 = 7 := hm
    have hk2 : m.1 = 7 := hm2
    simp [turnC] at h
    subst h
    simp only [evR, op1, hk, hk2, show ¬ (7 : Int) = 1 by omega, show ¬ (7 : Int) = 2 by omega, show ¬ (7 : Int) = 5 by omega, show ¬ (7 : Int) = 6 by omega, if_false]
    exact (onceR_self _).symm
   ·have hk : n.1 = 2 := hm
    have hk2 : m.1 = 2 := hm2
    simp [turnC] at h
    subst h
    have hk3 : (colsN m (n.2.2.2.2.2.2.1.map (pick m.2.2.2.2.2.2.1))).1 = 2 := hk2
    simp only [evR, op1, hk, hk2, hk3, show ¬ (2 : Int) = 1 by omega, if_false, if_true]
    have hall : ∀ c ∈ n.2.2.2.2.2.2.1, c < (m.2.2.2.2.2.2.1.length : Int) := by
     simp only [wT, hwd, hk, hk2, if_true] at w
     split at w
     ·cases w
     ·rename_i v hv
      split at hv
      ·cases hv
       split at w
       ·rename_i h1
        intro c hc
        have := List.all_eq_true.1 h1 c hc
        simpa using this
       ·cases w
      ·cases hv
    have hc0 := (nodeOk_keep hn hk).2.2
    simp only [keepR, List.map_map]
    refine List.map_congr_left (fun q _ => ?_)
    show (n.2.2.2.2.2.2.1.map (pick m.2.2.2.2.2.2.1)).map (fun c => kc c q) = n.2.2.2.2.2.2.1.map fun c => kc c (m.2.2.2.2.2.2.1.map fun c => kc c q)
    rw [List.map_map]
    refine List.map_congr_left (fun c hc => ?_)
    exact (kc_map q (hall c hc) (hc0 c hc).1).symm
   ·have hk : n.1 = 6 := hm
    have hk2 : m.1 = 2 := hm2
    simp [turnC] at h
    subst h
    simp only [evR, op1, hk, hk2, show ¬ (2 : Int) = 1 by omega, show ¬ (6 : Int) = 1 by omega, show ¬ (6 : Int) = 2 by omega, show ¬ (6 : Int) = 5 by omega, if_false, if_true]
    simp only [keepR, List.map_take]
   ·have hk : n.1 = 1 := hm
    have hk2 : m.1 = 2 := hm2
    simp [turnC] at h
    subst h
    have hk3 : (colN n (pick m.2.2.2.2.2.2.1 n.2.2.1)).1 = 1 := hk
    simp only [evR, op1, hk, hk2, hk3, show ¬ (2 : Int) = 1 by omega, if_false, if_true]
    have hc0 := node_col hn (.inl hk)
    have hlt : n.2.2.1 < (m.2.2.2.2.2.2.1.length : Int) := by
     simp only [wT, hwd, hk, hk2, if_true, show ¬ (1 : Int) = 2 by omega, if_false, true_or] at w
     split at w
     ·cases w
     ·rename_i v hv
      split at hv
      ·cases hv
       split at w
       ·rename_i h1; exact h1
       ·cases w
      ·cases hv
    rw [filterR_eq, filterR_eq]
    simp only [keepR, List.filter_map]
    congr 1
    refine List.filter_congr (fun q _ => ?_)
    simp only [Function.comp]
    rw [kc_map q hlt hc0]
    rfl
   ·have hk : n.1 = 7 := hm
    have hk2 : m.1 = 5 := hm2
    simp [turnC] at h
    subst h
    simp only [evR, op1, hk, hk2, show ¬ (5 : Int) = 1 by omega, show ¬ (5 : Int) = 2 by omega, show ¬ (7 : Int) = 1 by omega, show ¬ (7 : Int) = 2 by omega, show ¬ (7 : Int) = 5 by omega, show ¬ (7 : Int) = 6 by omega, if_false, if_true]
    exact (once_srt _ _).symm
  ·simp only [PT.hd] at hm2
   cases hwd : wT s d with
   | none => simp only [wT, hwd] at w; cases w
   | some x =>
   cases hwe : wT s e with
   | none => simp only [wT, hwd, hwe] at w; cases w
   | some y =>
   have hx := evR_w hst hwd
   rcases rules hr with rfl | rfl | rfl | rfl | rfl | rfl | rfl | rfl | rfl | rfl | rfl | rfl
   ·have := ovr_one (r := 0) rfl (by simp) (by simp) (by simp); rw [← hm2] at this; omega
   ·have := ovr_one (r := 1) rfl (by simp) (by simp) (by simp); rw [← hm2] at this; omega
   ·have := ovr_one (r := 2) rfl (by simp) (by simp) (by simp); rw [← hm2] at this; omega
   ·have := ovr_one (r := 3) rfl (by simp) (by simp) (by simp); rw [← hm2] at this; omega
   ·have hk : n.1 = 1 := hm
    have hk2 : m.1 = 4 := hm2
    simp [turnC] at h
    subst h
    simp only [evR, op1, op2, hk, hk2, show ¬ (4 : Int) = 3 by omega, if_false, if_true]
    rw [filterR_eq, filterR_eq, filterR_eq, List.filter_append]
   ·have hk : n.1 = 1 := hm
    have hk2 : m.1 = 3 := hm2
    simp [turnC, hwd, oint] at h
    obtain ⟨hc, rfl⟩ := h
    simp only [evR, op1, op2, hk, hk2, if_true]
    exact (filter_joinL hx (node_col hn (.inl hk)) hc).symm
   ·have hk : n.1 = 1 := hm
    have hk2 : m.1 = 3 := hm2
    simp [turnC, hwd, oint] at h
    obtain ⟨hc, rfl⟩ := h
    have hk3 : (colN n (n.2.2.1 - x)).1 = 1 := hk
    simp only [evR, op1, op2, hk, hk2, hk3, if_true]
    exact (filter_joinR hx hc).symm
   ·have := ovr_one (r := 7) rfl (by simp) (by simp) (by simp); rw [← hm2] at this; omega
   ·have := ovr_one (r := 8) rfl (by simp) (by simp) (by simp); rw [← hm2] at this; omega
   ·have := ovr_one (r := 9) rfl (by simp) (by simp) (by simp); rw [← hm2] at this; omega
   ·have := ovr_one (r := 10) rfl (by simp) (by simp) (by simp); rw [← hm2] at this; omega
   ·have := ovr_one (r := 11) rfl (by simp) (by simp) (by simp); rw [← hm2] at this; omega
theorem put_evR {s : List Tb} {st : List Rows} : ∀ {t : PT} {k : Nat} {u v : PT}, (subs t)[k]? = some u → evR s st v = evR s st u → evR s st (put t k v) = evR s st t
 | .n0 n, 0, u, v, h, hw => by simp [subs] at h; subst h; simpa [put] using hw
 | .n1 n a, 0, u, v, h, hw => by simp [subs] at h; subst h; simpa [put] using hw
 | .n2 n a b, 0, u, v, h, hw => by simp [subs] at h; subst h; simpa [put] using hw
 | .n0 n, k + 1, u, v, h, _ => by simp [subs] at h
 | .n1 n a, k + 1, u, v, h, hw => by
  have h' : (subs a)[k]? = some u := by simpa [subs] using h
  simp only [put, evR, put_evR h' hw]
 | .n2 n a b, k + 1, u, v, h, hw => by
  have h' : (subs a ++ subs b)[k]? = some u := by simpa [subs] using h
  simp only [put]
  by_cases hk : k < a.size
  ·rw [if_pos hk]
   rw [List.getElem?_append_left (by simpa using hk)] at h'
   simp only [evR, put_evR h' hw]
  ·rw [if_neg hk]
   rw [List.getElem?_append_right (by simp; omega), subs_len] at h'
   simp only [evR, put_evR h' hw]
def rowsM (s : List Tb) (st : List Rows) (p : List Nd) : Rows := match planT p with
 | some t => evR s st t
 | none => []
theorem step_rows {s : List Tb} {st : List Rows} (hst : storeOk s st = true) {p q : List Nd} (hp : typedOk s p = true) {x : Sp} (h : applyM s p x = (q, true)) : rowsM s st q = rowsM s st p := by
 obtain ⟨t, rfl, ht⟩ := typedOk_iff.1 hp
 obtain ⟨k, u, u', _, hu, hu', rfl, h1, h2, h3⟩ := applyM_tree ht h
 unfold rowsM
 rw [planT_flat h1, planT_flat ht.plan]
 have hm := mem_of_get hu
 exact put_evR hu (turn_evR hst (subs_good ht.plan.good hm) (subs_w ht.w hm) hu')
theorem eval_rows {s : List Tb} {st : List Rows} {p : List Nd} (h : (evalPlan s st p).2 = 0) : storeOk s st = true ∧ (evalPlan s st p).1 = rowsM s st p := by
 unfold evalPlan at h ⊢
 unfold rowsM
 split at h
 rotate_left
 ·simp at h
 rename_i hc
 rw [if_pos hc]
 refine ⟨hc.1, ?_⟩
 split at h
 ·rename_i t ht
  split at h
  ·rename_i x hx
   simp only [ht, hx]
   exact evalT_evR hx
  ·simp at h
 ·simp at h
end Go.Proofs.YtlebkomgiibknaaGreatDoorX
namespace Go.Proofs.YtlebkomgiibknaaGreatDoorX
open Go Go.Proofs.YtlebkomgiibknaaGreatDoorT PT
set_option linter.all false
theorem and255 (x : Int) : 0 ≤ andV .i64 x 255 ∧ andV .i64 x 255 ≤ 255 := by
 have h : (BitVec.ofInt 64 x &&& BitVec.ofInt 64 255).toNat ≤ 255 := by
  rw [BitVec.toNat_and]
  exact Nat.le_trans Nat.and_le_right (by decide)
 have e : andV .i64 x 255 = ((BitVec.ofInt 64 x &&& BitVec.ofInt 64 255).toNat : Int) := by
  show IntKind.i64.wrap _ = _
  exact wrap_sml (by show -9223372036854775808 ≤ ((BitVec.ofInt 64 x &&& BitVec.ofInt 64 255).toNat : Int); omega) (by show ((BitVec.ofInt 64 x &&& BitVec.ofInt 64 255).toNat : Int) ≤ 9223372036854775807; omega)
 rw [e]; omega
theorem ix_ex {T : Type} {l : List T} {r : Int} (h0 : 0 ≤ r) (h1 : r < l.length) : ∃ x, ix l r = some x ∧ x ∈ l := by
 obtain ⟨k, rfl⟩ : ∃ k : Nat, r = k := ⟨r.toNat, by omega⟩
 have hk : k < l.length := by omega
 exact ⟨l[k], ix_some (List.getElem?_eq_getElem hk), List.getElem_mem hk⟩
theorem shr_ex (a : Int) {b : Int} (h : 0 ≤ b) : ∃ z, shrV .i64 a b = some z := by simp [shrV, h]
structure Cu (b : List Int) (i : Int) : Prop where
 len : b.length ≤ 1073741824
 lo : 0 ≤ i
abbrev CuQ (b : List Int) (P : Int → Prop) (y : Int × List Int × Int × Int) : Prop := y.2.1 = b ∧ Cu b y.2.2.1 ∧ P y.1
theorem byte_ok {b : List Int} {i : Int} (hc : Cu b i) (h : Int) : Ok (F_n b i h) (CuQ b fun r => 0 ≤ r ∧ r ≤ 255) := (U_39 b i h).ok (by
 obtain ⟨z1, e1⟩ := shr_ex (IntKind.i64.wrap ((IntKind.i64.wrap (h * 6364136223846793005)) + 1442695040888963407)) (b := 33) (by decide)
 obtain ⟨z2, e2⟩ := shr_ex (IntKind.i64.wrap ((IntKind.i64.wrap (h * 6364136223846793005)) + 1442695040888963407)) (b := 45) (by decide)
 rw [e1, e2]
 simp only [Option.bind_some, joinK_bif, joinK_go, J_2x]
 have hlo := hc.lo
 have hln := hc.len
 by_cases hi : i < b.length
 ·obtain ⟨x, hx, _⟩ := ix_ex hlo hi
  rw [hx]
  simp only [hi, decide_true, cond_true, Option.bind_some, joinK_go]
  exact ⟨_, rfl, rfl, ⟨hln, by simp only; rw [wrap_sml (x := i + 1) (by omega) (by omega)]; omega⟩, and255 _⟩
 ·simp only [hi, decide_false, cond_false, joinK_go]
  exact ⟨_, rfl, rfl, hc, and255 _⟩)
theorem remx_ps {a b : Int} (ha : 0 ≤ a) (hb : 0 < b) : remx a b = some (a % b) := by
 unfold remx
 have : (b == 0) = false := by simp; omega
 rw [this, Int.tmod_eq_emod_of_nonneg ha]; rfl
theorem below_ok {b : List Int} {i : Int} (hc : Cu b i) (h n : Int) : Ok (F_0 b i h n) (CuQ b fun r => 0 ≤ r ∧ (0 < n → r < n)) := (U_38 b i h n).ok (OkG.out (by
 refine OkG.bif (fun h0 => ?_) (fun h0 => OkG.bif (fun h1 => ?_) (fun h1 => ?_))
 ·have := of_decide_eq_true h0
  exact OkG.val ⟨rfl, hc, by omega, by simp only; omega⟩
 ·have h0' := of_decide_eq_false h0
  refine OkG.call (byte_ok hc h) ?_
  rintro ⟨r, b', i', h'⟩ ⟨rfl, hc', hr, _⟩
  simp only at hr ⊢
  rw [remx_ps hr (by omega)]
  refine OkG.val ⟨rfl, hc', Int.emod_nonneg _ (by omega), fun h => Int.emod_lt_of_pos _ h⟩
 ·have h0' := of_decide_eq_false h0
  refine OkG.call (byte_ok hc h) ?_
  rintro ⟨r, b', i', h'⟩ ⟨rfl, hc', hr, hr'⟩
  refine OkG.call (byte_ok hc' h') ?_
  rintro ⟨r2, b', i', h'⟩ ⟨rfl, hc', hs, hs'⟩
  refine OkG.call (byte_ok hc' h') ?_
  rintro ⟨r3, b', i', h'⟩ ⟨rfl, hc', ht, ht'⟩
  simp only at hr hr' hs hs' ht ht' ⊢
  rw [wrap_sml (x := r * 65536) (by omega) (by omega), wrap_sml (x := r2 * 256) (by omega) (by omega), wrap_sml (x := r * 65536 + r2 * 256) (by omega) (by omega), wrap_sml (x := r * 65536 + r2 * 256 + r3) (by omega) (by omega), remx_ps (by omega) (by omega)]
  exact OkG.val ⟨rfl, hc', Int.emod_nonneg _ (by omega), fun h => Int.emod_lt_of_pos _ h⟩))
theorem once_ok {b : List Int} {i : Int} (hc : Cu b i) (h n : Int) : Ok (F_9 b i h n) (fun y => y.2.1 = b ∧ Cu b y.2.2.1) := (U_3g b i h n).ok (OkG.out (by
 refine OkG.call (below_ok hc h n) ?_
 rintro ⟨r, b', i', h'⟩ ⟨rfl, hc', _⟩
 exact OkG.val ⟨rfl, hc'⟩))
theorem pick_ok {b : List Int} {i : Int} (hc : Cu b i) (h : Int) {l : List Int} (hl : 0 < l.length) : Ok (F_a b i h l) (CuQ b fun r => r ∈ l) := (U_3h b i h l).ok (OkG.out (by
 refine OkG.call (below_ok hc h l.length) ?_
 rintro ⟨r, b', i', h'⟩ ⟨rfl, hc', h0, h1⟩
 have h1' := h1 (by omega)
 simp only at h0 h1' ⊢
 obtain ⟨x, hx, hm⟩ := ix_ex h0 h1'
 rw [hx]
 exact OkG.val ⟨rfl, hc', hm⟩))
theorem pickT_ok {b : List Int} {i : Int} (hc : Cu b i) (h : Int) {l : List ByteArray} (hl : 0 < l.length) : Ok (F_3r b i h l) (fun y => y.2.1 = b ∧ Cu b y.2.2.1 ∧ y.1 ∈ l) := (U_3i b i h l).ok (OkG.out (by
 refine OkG.call (below_ok hc h l.length) ?_
 rintro ⟨r, b', i', h'⟩ ⟨rfl, hc', h0, h1⟩
 have h1' := h1 (by omega)
 simp only at h0 h1' ⊢
 obtain ⟨x, hx, hm⟩ := ix_ex h0 h1'
 rw [hx]
 exact OkG.val ⟨rfl, hc', hm⟩))
theorem new_ok {b : List Int} (hb : b.length ≤ 1073741824) : Ok (F_3p b) (fun y => y.1 = b ∧ Cu b y.2.1) := (U_3e b).ok (OkG.out (by
 refine OkG.join (fun _ => True) (Ok.of (Ok.loop (S := Int × Int) (fun s => b.length - s.2.toNat) (fun s => 0 ≤ s.2 ∧ s.2 ≤ b.length) ?_ _ ⟨by simp, by simp⟩)) ?_
 ·rintro ⟨v, i⟩ ⟨h0, h1⟩ G hG
  simp only at h0 h1
  unfold L_2b
  refine OkG.join (fun c => c = true → i < b.length) ?_ ?_
  ·refine OkG.bif (fun h => ?_) (fun h => ?_)
   ·exact OkG.val fun _ => of_decide_eq_true h
   ·exact OkG.val fun h => by cases h
  ·intro c hc
   refine OkG.bif (fun h => ?_) (fun h => OkG.val trivial)
   have hi := hc h
   obtain ⟨x, hx, _⟩ := ix_ex h0 hi
   rw [hx]
   simp only [Option.bind_some]
   refine hG _ ?_ ?_
   ·simp only; rw [wrap_sml (by omega) (by omega)]; omega
   ·simp only; rw [wrap_sml (by omega) (by omega)]; omega
 ·intro s _
  exact OkG.val ⟨rfl, hb, by simp⟩))
theorem size_ok {b : List Int} (hb : b.length ≤ 1073741824) {m : Int} (h0 : 1 ≤ m) : Ok (F_3s b m) (fun r => 1 ≤ r ∧ r ≤ m) := (U_3j b m).ok (OkG.out (by
 rw [quox_some (by omega) (by omega) (by omega)]
 simp only [Option.bind_some]
 have : IntKind.i64.wrap (2 + (b.length : Int) / 16) = 2 + (b.length : Int) / 16 := wrap_sml (by omega) (by omega)
 rw [this]
 refine OkG.bif (fun h => OkG.val ⟨h0, Int.le_refl _⟩) (fun h => ?_)
 have := of_decide_eq_false h
 exact OkG.val ⟨by omega, by omega⟩))
end Go.Proofs.YtlebkomgiibknaaGreatDoorX
namespace Go.Proofs.YtlebkomgiibknaaGreatDoorX
open Go Go.Proofs.YtlebkomgiibknaaGreatDoorT PT
set_option linter.all false
structure Sm (N c : Nat) (p : List Nd) : Prop where
 len : p.length ≤ N
 nodes : ∀ n ∈ p, n.2.1.size ≤ 100 ∧ n.2.2.2.2.2.2.1.length ≤ c
theorem Sm.mono {N M c d : Nat} {p : List Nd} (h : Sm N c p) (h1 : N ≤ M) (h2 : c ≤ d) : Sm M d p := ⟨Nat.le_trans h.len h1, fun n hn => ⟨(h.nodes n hn).1, Nat.le_trans (h.nodes n hn).2 h2⟩⟩
theorem Sm.bplan {N c : Nat} {p : List Nd} (h : Sm N c p) (h1 : N ≤ 1073741824) (h2 : c ≤ 1073741824) : BPlan p := ⟨Nat.le_trans h.len h1, fun n hn => ⟨by have := (h.nodes n hn).1; omega, by have := (h.nodes n hn).2; omega⟩⟩
theorem Sm.one {c : Nat} {n : Nd} (h1 : n.2.1.size ≤ 100) (h2 : n.2.2.2.2.2.2.1.length ≤ c) : Sm 1 c [n] := ⟨by simp, fun m hm => by rw [List.mem_singleton.1 hm]; exact ⟨h1, h2⟩⟩
theorem Sm.app {N M c : Nat} {p q : List Nd} (h : Sm N c p) (k : Sm M c q) : Sm (N + M) c (p ++ q) := ⟨by have := h.len; have := k.len; simp; omega, fun n hn => (List.mem_append.1 hn).elim (h.nodes n) (k.nodes n)⟩
theorem Sm.flat2 {N M c : Nat} {p q : List Nd} (h : Sm N c p) (k : Sm M c q) : Sm (N + M) c [p, q].flatten := by simpa using h.app k
theorem Sm.flat3 {N M K c : Nat} {p q r : List Nd} (h : Sm N c p) (k : Sm M c q) (l : Sm K c r) : Sm (N + (M + K)) c [p, q, r].flatten := by simpa using h.app (k.app l)
theorem joined_ok {l : List (List Nd)} {N c : Nat} (hl : l.length ≤ 1000) (h : Sm N c l.flatten) (h1 : N ≤ 1073741824) (h2 : c ≤ 1073741824) : Ok (F_1 l) (Sm N c) := ⟨_, V_w hl (h.bplan h1 h2), h⟩
abbrev PlQ (b : List Int) (N : Nat) (y : List SNode × Int × List Int × Int × Int) : Prop := Sm N 3 y.1 ∧ y.2.2.1 = b ∧ Cu b y.2.2.2.1
theorem e100 : ByteArray.empty.size ≤ 100 := by decide
theorem draw_step {b : List Int} (n : Nat) (hn : n ≤ 10) (IH : ∀ (d i h : Int), Cu b i → 0 ≤ d → d + 1 ≤ n → Ok (F_5 b i h d) (PlQ b (4 ^ n))) (d i h : Int) (hc : Cu b i) (hd : d ≤ n) :
  Ok (F_5 b i h d) (PlQ b (4 ^ (n + 1))) := (U_3n b i h d).ok (OkG.out (by
 have h41 : 4 ^ (n + 1) = 4 * 4 ^ n := by rw [Nat.pow_succ]; omega
 have h4p : 1 ≤ 4 ^ n := Nat.one_le_pow _ _ (by decide)
 have h4m : 4 ^ n ≤ 4 ^ 10 := Nat.pow_le_pow_right (by decide) hn
 have h4c : 4 ^ 10 = 1048576 := by decide
 have h4b : 4 ^ n ≤ 1048576 := by omega
 refine OkG.call (pick_ok hc h (by simp)) ?_
 rintro ⟨r, b', i', h'⟩ ⟨rfl, hc', _⟩
 refine OkG.join (fun v => d ≤ 1 → v = 0) ?_ ?_
 ·exact OkG.bif (fun _ => OkG.val fun _ => rfl) (fun h => OkG.val fun h' => by have := of_decide_eq_false h; omega)
 intro v hv
 unfold J_30
 refine OkG.bif (fun _ => ?_) (fun h0 => ?_)
 ·refine OkG.call (below_ok hc' h' 3) ?_
  rintro ⟨r1, b', i', h'⟩ ⟨rfl, hc', hr, hr'⟩
  have hr3 := hr' (by decide)
  simp only at hr hr3 ⊢
  obtain ⟨z4, e4, m4⟩ := ix_ex (l := [(⟨#[116, 49]⟩ : ByteArray), (⟨#[116, 50]⟩ : ByteArray), (⟨#[116, 51]⟩ : ByteArray)]) hr (by simp; omega)
  obtain ⟨z5, e5, m5⟩ := ix_ex (l := [(2 : Int), 3, 1]) hr (by simp; omega)
  rw [e4, e5]
  refine OkG.val ⟨(Sm.one ?_ (by simp)).mono (by omega) (Nat.le_refl _), rfl, hc'⟩
  simp only [List.mem_cons, List.not_mem_nil, or_false] at m4
  rcases m4 with rfl | rfl | rfl <;> decide
 have hd2 : 2 ≤ d := by
  rcases Int.lt_or_le d 2 with h | h
  ·rw [hv (by omega)] at h0; cases h0
  ·exact h
 have hn2 : 2 ≤ n := by omega
 have h42 : 4 ^ 2 ≤ 4 ^ n := Nat.pow_le_pow_right (by decide) hn2
 have hw1 : IntKind.i64.wrap (d - 1) = d - 1 := wrap_sml (by omega) (by omega)
 have hw2 : IntKind.i64.wrap (d - 2) = d - 2 := wrap_sml (by omega) (by omega)
 simp only [hw1, hw2]
 have sub1 : ∀ i h, Cu b' i → Ok (F_5 b' i h (d - 1)) (PlQ b' (4 ^ n)) := fun i h hc => IH _ i h hc (by omega) (by omega)
 have sub2 : ∀ i h, Cu b' i → Ok (F_5 b' i h (d - 2)) (PlQ b' (4 ^ n)) := fun i h hc => IH _ i h hc (by omega) (by omega)
 refine OkG.bif (fun _ => ?_) (fun _ => OkG.bif (fun _ => ?_) (fun _ => ?_))
 ·refine OkG.call (sub1 _ _ hc') ?_
  rintro ⟨p1, w1, b', i', h'⟩ ⟨s1, rfl, hc'⟩
  refine OkG.call (sub2 _ _ hc') ?_
  rintro ⟨p2, w2, b', i', h'⟩ ⟨s2, rfl, hc'⟩
  refine OkG.call (below_ok hc' _ _) ?_
  rintro ⟨r1, b', i', h'⟩ ⟨rfl, hc', _⟩
  refine OkG.call (below_ok hc' _ _) ?_
  rintro ⟨r2, b', i', h'⟩ ⟨rfl, hc', _⟩
  refine OkG.call (joined_ok (by simp) (Sm.flat3 (Sm.one e100 (Nat.zero_le 3)) s1 s2) (by omega) (by decide)) ?_
  intro q hq
  exact OkG.val ⟨hq.mono (by omega) (Nat.le_refl _), rfl, hc'⟩
 ·refine OkG.call (sub1 _ _ hc') ?_
  rintro ⟨p1, w1, b', i', h'⟩ ⟨s1, rfl, hc'⟩
  refine OkG.call (sub2 _ _ hc') ?_
  rintro ⟨p2, w2, b', i', h'⟩ ⟨s2, rfl, hc'⟩
  refine OkG.join (fun s => Sm (4 ^ n + 1) 3 s.1 ∧ Sm (4 ^ n + 1) 3 s.2.2) ?_ ?_
  ·refine OkG.bif (fun _ => ?_) (fun _ => OkG.val ⟨s1.mono (by omega) (Nat.le_refl _), s2.mono (by omega) (Nat.le_refl _)⟩)
   refine OkG.call (joined_ok (by simp) (Sm.flat2 (Sm.one e100 (by simp)) s1) (by omega) (by decide)) ?_
   intro q1 hq1
   refine OkG.call (joined_ok (by simp) (Sm.flat2 (Sm.one e100 (by simp)) s2) (by omega) (by decide)) ?_
   intro q2 hq2
   exact OkG.val ⟨hq1.mono (by omega) (Nat.le_refl _), hq2.mono (by omega) (Nat.le_refl _)⟩
  ·rintro ⟨q1, w, q2⟩ ⟨t1, t2⟩
   unfold J_31
   refine OkG.call (joined_ok (by simp) (Sm.flat3 (Sm.one e100 (Nat.zero_le 3)) t1 t2) (by omega) (by decide)) ?_
   intro q hq
   exact OkG.val ⟨hq.mono (by omega) (Nat.le_refl _), rfl, hc'⟩
 ·refine OkG.call (sub1 _ _ hc') ?_
  rintro ⟨p1, w1, b', i', h'⟩ ⟨s1, rfl, hc'⟩
  refine OkG.join (fun s => s.2.2.1.size ≤ 100 ∧ s.2.2.2.2.2.2.2.1.length ≤ 3 ∧ s.2.2.2.2.2.2.2.2.1 = b' ∧ Cu b' s.2.2.2.2.2.2.2.2.2.1) ?_ ?_
  ·refine OkG.bif (fun _ => ?_) (fun _ => OkG.bif (fun _ => ?_) (fun _ => OkG.bif (fun _ => ?_) (fun _ => OkG.bif (fun _ => ?_) (fun _ => ?_))))
   ·refine OkG.call (below_ok hc' _ _) ?_
    rintro ⟨r1, b', i', h'⟩ ⟨rfl, hc', _⟩
    refine OkG.call (below_ok hc' _ _) ?_
    rintro ⟨r2, b', i', h'⟩ ⟨rfl, hc', _⟩
    refine OkG.bif (fun _ => ?_) (fun _ => ?_)
    ·refine OkG.call (below_ok hc' _ _) ?_
     rintro ⟨r3, b', i', h'⟩ ⟨rfl, hc', _⟩
     exact OkG.val ⟨e100, by simp, rfl, hc'⟩
    ·exact OkG.val ⟨e100, by simp, rfl, hc'⟩
   ·refine OkG.join (fun s => s.2.1.size ≤ 100 ∧ s.2.2.2.2.2.2.1.length ≤ 3 ∧ s.2.2.2.2.2.2.2.1 = b' ∧ Cu b' s.2.2.2.2.2.2.2.2.1) ?_ ?_
    ·refine OkG.call (below_ok hc' _ 3) ?_
     rintro ⟨r1, b', i', h'⟩ ⟨rfl, hc', hr, hr'⟩
     have hr3 := hr' (by decide)
     simp only at hr hr3 ⊢
     have hw : IntKind.i64.wrap (1 + r1) = 1 + r1 := wrap_sml (by omega) (by omega)
     rw [hw]
     refine Ok.of (Ok.loop (S := Int × ByteArray × Int × Int × Int × Bool × List Int × Int × List Int × Int × Int) (fun s => s.2.2.2.2.2.2.2.1.toNat) (fun s => 0 ≤ s.2.2.2.2.2.2.2.1 ∧ s.2.2.2.2.2.2.2.1 + s.2.2.2.2.2.2.1.length ≤ 3 ∧ s.2.1.size ≤ 100 ∧ s.2.2.2.2.2.2.2.2.1 = b' ∧ Cu b' s.2.2.2.2.2.2.2.2.2.1) ?_ _ ⟨by simp only; omega, by simp; omega, e100, rfl, hc'⟩)
     rintro ⟨a1, a2, a3, a4, a5, a6, cs, k, b', i', h'⟩ ⟨k0, k3, n1, rfl, hc'⟩ G hG
     simp only at k0 k3
     unfold L_2c
     refine OkG.bif (fun hk => ?_) (fun hk => OkG.val ⟨n1, by simp only; omega, rfl, hc'⟩)
     have hk' : k > 0 := of_decide_eq_true hk
     refine OkG.call (below_ok hc' _ _) ?_
     rintro ⟨r3, b', i', h'⟩ ⟨rfl, hc', _⟩
     rw [apx_some (by simp; omega)]
     simp only [Option.bind_some]
     have hw : IntKind.i64.wrap (k - 1) = k - 1 := wrap_sml (by omega) (by omega)
     rw [hw]
     exact hG _ ⟨by simp only; omega, by simp; omega, n1, rfl, hc'⟩ (by simp only; omega)
    ·rintro ⟨a1, a2, a3, a4, a5, a6, cs, b', i', h'⟩ ⟨n1, n2, rfl, hc'⟩
     exact OkG.val ⟨n1, n2, rfl, hc'⟩
   ·refine OkG.call (below_ok hc' _ _) ?_
    rintro ⟨r1, b', i', h'⟩ ⟨rfl, hc', _⟩
    exact OkG.val ⟨e100, by simp, rfl, hc'⟩
   ·refine OkG.call (below_ok hc' _ _) ?_
    rintro ⟨r1, b', i', h'⟩ ⟨rfl, hc', _⟩
    exact OkG.val ⟨e100, by simp, rfl, hc'⟩
   ·exact OkG.val ⟨e100, by simp, rfl, hc'⟩
  ·rintro ⟨w, a1, a2, a3, a4, a5, a6, cs, b', i', h'⟩ ⟨n1, n2, rfl, hc'⟩
   unfold J_32
   refine OkG.call (joined_ok (by simp) (Sm.flat2 (Sm.one (n := (a1, a2, a3, a4, a5, a6, cs, ())) n1 n2) s1) (by omega) (by decide)) ?_
   intro q hq
   exact OkG.val ⟨hq.mono (by omega) (Nat.le_refl _), rfl, hc'⟩))
theorem plan_ok {b : List Int} : ∀ (n : Nat), n ≤ 10 → ∀ (d i h : Int), Cu b i → d ≤ n → Ok (F_5 b i h d) (PlQ b (4 ^ (n + 1)))
 | 0, hn, d, i, h, hc, hd => draw_step 0 hn (fun d' i h hc h0 h1 => by omega) d i h hc hd
 | n + 1, hn, d, i, h, hc, hd => draw_step (n + 1) hn (fun d' i h hc h0 h1 => plan_ok n (by omega) d' i h hc (by omega)) d i h hc hd
end Go.Proofs.YtlebkomgiibknaaGreatDoorX
namespace Go.Proofs.YtlebkomgiibknaaGreatDoorX
open Go Go.Proofs.YtlebkomgiibknaaGreatDoorT PT
set_option linter.all false
abbrev PnQ (b : List Int) (N c : Nat) (y : List SNode × List Int × Int × Int) : Prop := Sm N c y.1 ∧ y.2.1 = b ∧ Cu b y.2.2.1
theorem rich_ok {b : List Int} {i : Int} (hc : Cu b i) (h : Int) {code : List Int} (hl : code.length ≤ 1073741824) : Ok (F_3x b i h code) (PnQ b 4100 3) := (U_3v b i h code).ok (OkG.out (by
 refine OkG.call (size_ok hl (by decide)) ?_
 intro m hm
 refine OkG.call (below_ok hc h m) ?_
 rintro ⟨r, b', i', h'⟩ ⟨rfl, hc', h0, h1⟩
 have h1' := h1 (by omega)
 simp only at h0 h1' ⊢
 have hw : IntKind.i64.wrap (1 + r) = 1 + r := wrap_sml (by omega) (by omega)
 rw [hw]
 refine OkG.call (plan_ok 5 (by decide) _ _ _ hc' (by omega)) ?_
 rintro ⟨p, w, b', i', h'⟩ ⟨sp, rfl, hc'⟩
 refine OkG.join (fun s => Sm 4100 3 s.1 ∧ s.2.1 = b' ∧ Cu b' s.2.2.1) ?_ (fun s hs => OkG.val hs)
 refine OkG.call (below_ok hc' _ 4) ?_
 rintro ⟨r4, b', i', h'⟩ ⟨rfl, hc', q0, q1⟩
 have q1' := q1 (by decide)
 simp only at q0 q1' sp ⊢
 have hw : IntKind.i64.wrap (1 + r4) = 1 + r4 := wrap_sml (by omega) (by omega)
 rw [hw]
 refine Ok.of (Ok.loop (S := List SNode × Int × Int × List Int × Int × Int) (fun s => s.2.2.1.toNat) (fun s => 0 ≤ s.2.2.1 ∧ s.2.2.1 ≤ 4 ∧ Sm (4100 - s.2.2.1.toNat) 3 s.1 ∧ s.2.2.2.1 = b' ∧ Cu b' s.2.2.2.2.1) ?_ _ ⟨by simp only; omega, by simp only; omega, sp.mono (by simp only; omega) (Nat.le_refl _), rfl, hc'⟩)
 rintro ⟨p1, w1, k, b', i', h'⟩ ⟨k0, k4, s1, rfl, hc'⟩ G hG
 simp only at k0 k4 s1
 unfold L_2e
 refine OkG.bif (fun hk => ?_) (fun hk => OkG.val ⟨s1.mono (by omega) (Nat.le_refl _), rfl, hc'⟩)
 have hk' : k > 0 := of_decide_eq_true hk
 refine OkG.join (fun s => Sm (4100 - (k - 1).toNat) 3 s.1 ∧ s.2.2.1 = b' ∧ Cu b' s.2.2.2.1) ?_ ?_
 ·refine OkG.call (pick_ok hc' _ (by simp)) ?_
  rintro ⟨v, b', i', h'⟩ ⟨rfl, hc', _⟩
  refine OkG.join (fun s => s.2.2.1.size ≤ 100 ∧ s.2.2.2.2.2.2.2.1.length ≤ 3 ∧ s.2.2.2.2.2.2.2.2.1 = b' ∧ Cu b' s.2.2.2.2.2.2.2.2.2.1) ?_ ?_
  ·refine OkG.bif (fun _ => ?_) (fun _ => OkG.bif (fun _ => ?_) (fun _ => OkG.bif (fun _ => ?_) (fun _ => OkG.bif (fun _ => ?_) (fun _ => ?_))))
   ·refine OkG.call (below_ok hc' _ _) ?_
    rintro ⟨r1, b', i', h'⟩ ⟨rfl, hc', _⟩
    refine OkG.call (below_ok hc' _ _) ?_
    rintro ⟨r2, b', i', h'⟩ ⟨rfl, hc', _⟩
    refine OkG.bif (fun _ => ?_) (fun _ => ?_)
    ·refine OkG.call (below_ok hc' _ _) ?_
     rintro ⟨r3, b', i', h'⟩ ⟨rfl, hc', _⟩
     exact OkG.val ⟨e100, by simp, rfl, hc'⟩
    ·exact OkG.val ⟨e100, by simp, rfl, hc'⟩
   ·refine OkG.join (fun s => s.2.1.size ≤ 100 ∧ s.2.2.2.2.2.2.1.length ≤ 3 ∧ s.2.2.2.2.2.2.2.1 = b' ∧ Cu b' s.2.2.2.2.2.2.2.2.1) ?_ ?_
    ·refine OkG.call (below_ok hc' _ 3) ?_
     rintro ⟨r1, b', i', h'⟩ ⟨rfl, hc', hr, hr'⟩
     have hr3 := hr' (by decide)
     simp only at hr hr3 ⊢
     have hw : IntKind.i64.wrap (1 + r1) = 1 + r1 := wrap_sml (by omega) (by omega)
     rw [hw]
     refine Ok.of (Ok.loop (S := Int × ByteArray × Int × Int × Int × Bool × List Int × Int × List Int × Int × Int) (fun s => s.2.2.2.2.2.2.2.1.toNat) (fun s => 0 ≤ s.2.2.2.2.2.2.2.1 ∧ s.2.2.2.2.2.2.2.1 + s.2.2.2.2.2.2.1.length ≤ 3 ∧ s.2.1.size ≤ 100 ∧ s.2.2.2.2.2.2.2.2.1 = b' ∧ Cu b' s.2.2.2.2.2.2.2.2.2.1) ?_ _ ⟨by simp only; omega, by simp; omega, e100, rfl, hc'⟩)
     rintro ⟨a1, a2, a3, a4, a5, a6, cs, j, b', i', h'⟩ ⟨j0, j3, n1, rfl, hc'⟩ G hG
     simp only at j0 j3
     unfold L_2f
     refine OkG.bif (fun hj => ?_) (fun hj => OkG.val ⟨n1, by simp only; omega, rfl, hc'⟩)
     have hj' : j > 0 := of_decide_eq_true hj
     refine OkG.call (below_ok hc' _ _) ?_
     rintro ⟨r3, b', i', h'⟩ ⟨rfl, hc', _⟩
     rw [apx_some (by simp; omega)]
     simp only [Option.bind_some]
     have hw : IntKind.i64.wrap (j - 1) = j - 1 := wrap_sml (by omega) (by omega)
     rw [hw]
     exact hG _ ⟨by simp only; omega, by simp; omega, n1, rfl, hc'⟩ (by simp only; omega)
    ·rintro ⟨a1, a2, a3, a4, a5, a6, cs, b', i', h'⟩ ⟨n1, n2, rfl, hc'⟩
     exact OkG.val ⟨n1, n2, rfl, hc'⟩
   ·refine OkG.call (below_ok hc' _ _) ?_
    rintro ⟨r1, b', i', h'⟩ ⟨rfl, hc', _⟩
    exact OkG.val ⟨e100, by simp, rfl, hc'⟩
   ·refine OkG.call (below_ok hc' _ _) ?_
    rintro ⟨r1, b', i', h'⟩ ⟨rfl, hc', _⟩
    exact OkG.val ⟨e100, by simp, rfl, hc'⟩
   ·exact OkG.val ⟨e100, by simp, rfl, hc'⟩
  ·rintro ⟨w, a1, a2, a3, a4, a5, a6, cs, b', i', h'⟩ ⟨n1, n2, rfl, hc'⟩
   unfold J_36
   refine OkG.call (joined_ok (by simp) (Sm.flat2 (Sm.one (n := (a1, a2, a3, a4, a5, a6, cs, ())) n1 n2) s1) (by omega) (by decide)) ?_
   intro q hq
   exact OkG.val ⟨hq.mono (by omega) (Nat.le_refl _), rfl, hc'⟩
 ·rintro ⟨p2, w2, b', i', h'⟩ ⟨s2, rfl, hc'⟩
  unfold J_35
  have hw : IntKind.i64.wrap (k - 1) = k - 1 := wrap_sml (by omega) (by omega)
  rw [hw]
  exact hG _ ⟨by simp only; omega, by simp only; omega, s2, rfl, hc'⟩ (by simp only; omega)))
theorem liftL_sm {c : Nat} : ∀ (l : List Nd) (i : Nat), (∀ n ∈ l, n.2.1.size ≤ 100 ∧ n.2.2.2.2.2.2.1.length ≤ c) → ∀ n ∈ liftL l i, n.2.1.size ≤ 100 ∧ n.2.2.2.2.2.2.1.length ≤ c
 | [], i, h, n, hn => by simp [liftL] at hn
 | m :: l, i, h, n, hn => by
  have hm := h m (by simp)
  have hl : ∀ n ∈ l, n.2.1.size ≤ 100 ∧ n.2.2.2.2.2.2.1.length ≤ c := fun n hn => h n (by simp [hn])
  simp only [liftL] at hn
  split at hn
  ·rcases List.mem_cons.1 hn with rfl | hn
   ·exact hm
   ·exact liftL_sm l _ hl n hn
  ·rcases List.mem_cons.1 hn with rfl | hn
   ·exact hm
   ·exact liftL_sm l _ hl n hn
theorem Sm.lift {N c : Nat} {p : List Nd} (h : Sm N c p) : Sm N c (liftL p 0) := ⟨by rw [liftL_len]; exact h.len, liftL_sm p 0 h.nodes⟩
theorem slots_ok {b : List Int} {i : Int} (hc : Cu b i) (h : Int) {p : List SNode} {N c : Nat} (hp : Sm N c p) (h1 : N ≤ 1073741824) (h2 : c ≤ 1073741824) : Ok (F_3y b i h p) (PnQ b N c) := (U_3w b i h p).ok (OkG.out (by
 refine OkG.join (fun s => s.2.1 = b ∧ Cu b s.2.2.1) ?_ (fun s hs => OkG.val ⟨hp, hs.1, hs.2⟩)
 refine OkG.call (once_ok hc h 3) ?_
 rintro ⟨r, b', i', h'⟩ ⟨rfl, hc'⟩
 refine OkG.bif (fun _ => ?_) (fun _ => OkG.val ⟨rfl, hc'⟩)
 rw [V_2u (hp.bplan h1 h2)]
 simp only [Option.bind_some]
 refine OkG.bif (fun hl => ?_) (fun _ => OkG.val ⟨rfl, hc'⟩)
 refine OkG.val ⟨?_, rfl, hc'⟩
 unfold lift at hl ⊢
 split at hl
 ·rename_i hcl
  rw [if_pos hcl]
  exact hp.lift
 ·cases hl))
theorem Sm.set {N c : Nat} {p : List Nd} (h : Sm N c p) (k : Nat) {n : Nd} (hn : n.2.1.size ≤ 100 ∧ n.2.2.2.2.2.2.1.length ≤ c) : Sm N c (p.set k n) := ⟨by simpa using h.len, fun m hm => (List.mem_or_eq_of_mem_set hm).elim (h.nodes m) (fun e => e ▸ hn)⟩
theorem tkx_ok {T : Type} {l : List T} {r : Int} (h0 : 0 ≤ r) (h1 : r ≤ l.length) : tkx l r = some (l.take r.toNat) := by simp [tkx, h0, h1]
theorem break_ok {b : List Int} {i : Int} (hc : Cu b i) (h : Int) {p : List SNode} {N c : Nat} (hp : Sm N c p) (h1 : N ≤ 1073741824) (h2 : c ≤ 1073741824) : Ok (F_3t b i h p) (PnQ b (N + 1) (c + 1)) := (U_3k b i h p).ok (OkG.out (by
 have hpl := hp.len
 have hp' : Sm (N + 1) (c + 1) p := hp.mono (by omega) (by omega)
 refine OkG.join (fun s => (s.1 = false → p ≠ []) ∧ s.2.1 = b ∧ Cu b s.2.2.1) ?_ ?_
 ·refine OkG.call (once_ok hc h 8) ?_
  rintro ⟨r, b', i', h'⟩ ⟨rfl, hc'⟩
  refine OkG.bif (fun _ => OkG.val ⟨fun h => (by cases h), rfl, hc'⟩) (fun _ => OkG.val ⟨fun h hp0 => ?_, rfl, hc'⟩)
  rw [hp0] at h
  simp at h
 rintro ⟨e, b', i', h'⟩ ⟨he, rfl, hc'⟩
 unfold J_2y
 refine OkG.bif (fun _ => OkG.val ⟨hp', rfl, hc'⟩) (fun hf => ?_)
 have hpos : 0 < p.length := List.length_pos_iff.2 (he hf)
 refine OkG.call (below_ok hc' _ _) ?_
 rintro ⟨k, b', i', h'⟩ ⟨rfl, hc', k0, k1⟩
 have k1' := k1 (by omega)
 simp only at k0 k1' ⊢
 obtain ⟨n, en, hn⟩ := ix_ex k0 k1'
 have hnn := hp.nodes n hn
 simp only [en, Option.bind_some]
 refine OkG.call (below_ok hc' _ _) ?_
 rintro ⟨r7, b', i', h'⟩ ⟨rfl, hc', _⟩
 refine OkG.bif (fun _ => ?_) (fun _ => OkG.bif (fun _ => ?_) (fun _ => OkG.bif (fun _ => ?_) (fun _ => OkG.bif (fun _ => ?_) (fun _ => OkG.bif (fun _ => ?_) (fun _ => OkG.bif (fun _ => ?_) (fun _ => OkG.bif (fun _ => ?_) (fun _ => ?_)))))))
 ·refine OkG.call (below_ok hc' _ _) ?_
  rintro ⟨r, b', i', h'⟩ ⟨rfl, hc', _⟩
  exact OkG.val ⟨hp'.set _ ⟨hnn.1, Nat.le_succ_of_le hnn.2⟩, rfl, hc'⟩
 ·refine OkG.call (pick_ok hc' _ (by simp)) ?_
  rintro ⟨r, b', i', h'⟩ ⟨rfl, hc', _⟩
  exact OkG.val ⟨hp'.set _ ⟨hnn.1, Nat.le_succ_of_le hnn.2⟩, rfl, hc'⟩
 ·refine OkG.call (pick_ok hc' _ (by simp)) ?_
  rintro ⟨r, b', i', h'⟩ ⟨rfl, hc', _⟩
  exact OkG.val ⟨hp'.set _ ⟨hnn.1, Nat.le_succ_of_le hnn.2⟩, rfl, hc'⟩
 ·exact OkG.val ⟨hp'.set _ ⟨hnn.1, Nat.le_succ_of_le hnn.2⟩, rfl, hc'⟩
 ·rw [apx_some (by simp; omega)]
  simp only [Option.bind_some]
  exact OkG.val ⟨(hp.app (Sm.one hnn.1 hnn.2)).mono (Nat.le_refl _) (by omega), rfl, hc'⟩
 ·rw [tkx_ok k0 (by omega)]
  simp only [Option.bind_some]
  exact OkG.val ⟨⟨by simp; omega, fun m hm => hp'.nodes m (List.mem_of_mem_take hm)⟩, rfl, hc'⟩
 ·have := hnn.2
  rw [bind2, Option.bind_some, apx_some (by simp; omega)]
  simp only [Option.bind_some]
  rw [inx_some k0 k1', eqix]
  simp only [Option.bind_some, decide_true, cond_true, en]
  exact OkG.val ⟨hp'.set _ ⟨hnn.1, by simp; omega⟩, rfl, hc'⟩
 ·exact OkG.val ⟨hp', rfl, hc'⟩))
end Go.Proofs.YtlebkomgiibknaaGreatDoorX
namespace Go.Proofs.YtlebkomgiibknaaGreatDoorX
open Go Go.Proofs.YtlebkomgiibknaaGreatDoorT PT
set_option linter.all false
structure Ss (N c : Nat) (s : List Tb) : Prop where
 len : s.length ≤ N
 names : ∀ t ∈ s, t.1.size ≤ c
theorem Ss.mono {N M c d : Nat} {p : List Tb} (h : Ss N c p) (h1 : N ≤ M) (h2 : c ≤ d) : Ss M d p := ⟨Nat.le_trans h.len h1, fun n hn => Nat.le_trans (h.names n hn) h2⟩
theorem Ss.bsch {N c : Nat} {s : List Tb} (h : Ss N c s) (h1 : N ≤ 1073741824) (h2 : c ≤ 1073741824) : BSch s := ⟨Nat.le_trans h.len h1, fun n hn => by have := h.names n hn; omega⟩
theorem Ss.set {N c : Nat} {p : List Tb} (h : Ss N c p) (k : Nat) {n : Tb} (hn : n.1.size ≤ c) : Ss N c (p.set k n) := ⟨by simpa using h.len, fun m hm => (List.mem_or_eq_of_mem_set hm).elim (h.names m) (fun e => e ▸ hn)⟩
def tabs3 : List Tb := [((⟨#[116, 49]⟩ : ByteArray), (2, ())), ((⟨#[116, 50]⟩ : ByteArray), (3, ())), ((⟨#[116, 51]⟩ : ByteArray), (1, ()))]
theorem tabs3_ok : Ss 3 2 tabs3 := ⟨by decide, by
 intro t ht
 simp only [tabs3, List.mem_cons, List.not_mem_nil, or_false] at ht
 rcases ht with rfl | rfl | rfl <;> decide⟩
theorem tables_ok : F_1p = some tabs3 := U_3s.out rfl
theorem num_ok {a : Int} (h0 : 0 ≤ a) (h1 : a ≤ 100) : Ok (F_o a) (fun t => t.size ≤ 101) := (U_7 a).ok (OkG.out (by
 refine OkG.bif (fun _ => OkG.val (by decide)) (fun hz => ?_)
 refine OkG.join (fun t => t.size ≤ 101) (Ok.of (Ok.loop (S := Int × ByteArray) (fun s => s.1.toNat) (fun s => 0 ≤ s.1 ∧ s.1 ≤ 100 ∧ s.2.size + s.1 ≤ 101) ?_ _ ⟨h0, h1, ?_⟩)) ?_
 ·rintro ⟨v, t⟩ ⟨v0, v1, ht⟩ G hG
  simp only at v0 v1 ht
  unfold L_1q
  refine OkG.bif (fun h => ?_) (fun h => OkG.val (by simp only; omega))
  have hv : v ≠ 0 := by rintro rfl; simp at h
  rw [remx_ps v0 (by decide)]
  simp only [Option.bind_some]
  refine OkG.join (fun _ => True) (OkG.bif (fun _ => OkG.val trivial) (fun _ => OkG.val trivial)) ?_
  intro d _
  unfold J_2
  have hsz : (bsOf [IntKind.u8.wrap (IntKind.i64.wrap (48 + d))]).size = 1 := rfl
  have ha : ∃ z, addx (bsOf [IntKind.u8.wrap (IntKind.i64.wrap (48 + d))]) t = some z ∧ z.size = 1 + t.size := by
   unfold addx
   rw [show Nat.ble ((bsOf [IntKind.u8.wrap (IntKind.i64.wrap (48 + d))]).size + t.size) 4611686018427387904 = true from by rw [hsz, Nat.ble_eq]; omega]
   exact ⟨_, rfl, by rw [ByteArray.size_append, hsz]⟩
  obtain ⟨z, hz, hzs⟩ := ha
  rw [hz, quox_some v0 (by omega) (by decide)]
  simp only [Option.bind_some]
  exact hG _ ⟨by simp only; omega, by simp only; omega, by simp only; omega⟩ (by simp only; omega)
 ·show ((0 : Nat) : Int) + a ≤ 101
  omega
 ·intro t ht
  unfold J_k
  refine OkG.bif (fun h => ?_) (fun _ => OkG.val ht)
  have := of_decide_eq_true h
  omega))
theorem schema_ok {b : List Int} {i : Int} (hc : Cu b i) (h : Int) : Ok (F_3u b i h) (fun y => Ss 9 200 y.1 ∧ y.2.1 = b ∧ Cu b y.2.2.1) := (U_3q b i h).ok (OkG.out (by
 have h3 : Ss 9 200 tabs3 := tabs3_ok.mono (by decide) (by decide)
 have hl3 : tabs3.length = 3 := rfl
 rw [tables_ok]
 simp only [Option.bind_some]
 refine OkG.join (fun y => Ss 9 200 y.1 ∧ y.2.1 = b ∧ Cu b y.2.2.1) ?_ (fun s hs => OkG.val hs)
 refine OkG.call (once_ok hc h 6) ?_
 rintro ⟨r, b', i', h'⟩ ⟨rfl, hc'⟩
 refine OkG.bif (fun _ => ?_) (fun _ => OkG.val ⟨h3, rfl, hc'⟩)
 refine OkG.call (below_ok hc' _ 3) ?_
 rintro ⟨k, b', i', h'⟩ ⟨rfl, hc', k0, k1⟩
 have k1' := k1 (by decide)
 simp only at k0 k1' ⊢
 obtain ⟨n, en, hn⟩ := ix_ex (l := tabs3) k0 (by rw [hl3]; exact k1')
 simp only [en, Option.bind_some]
 refine OkG.call (below_ok hc' _ _) ?_
 rintro ⟨r4, b', i', h'⟩ ⟨rfl, hc', _⟩
 refine OkG.bif (fun _ => ?_) (fun _ => OkG.bif (fun _ => ?_) (fun _ => OkG.bif (fun _ => ?_) (fun _ => OkG.bif (fun _ => ?_) (fun _ => ?_))))
 ·refine OkG.call (pick_ok hc' _ (by simp)) ?_
  rintro ⟨r, b', i', h'⟩ ⟨rfl, hc', _⟩
  exact OkG.val ⟨h3.set _ (h3.names n hn), rfl, hc'⟩
 ·refine OkG.call (pickT_ok hc' _ (by simp)) ?_
  rintro ⟨t, b', i', h'⟩ ⟨rfl, hc', ht⟩
  refine OkG.val ⟨h3.set _ ?_, rfl, hc'⟩
  simp only [List.mem_cons, List.not_mem_nil, or_false] at ht
  show t.size ≤ 200
  rcases ht with rfl | rfl | rfl | rfl <;> decide
 ·rw [tkx_ok k0 (by rw [hl3]; omega)]
  simp only [Option.bind_some]
  exact OkG.val ⟨⟨by simp [hl3]; omega, fun m hm => h3.names m (List.mem_of_mem_take hm)⟩, rfl, hc'⟩
 ·refine Ok.of (Ok.loop (S := List STable × List Int × Int × Int) (fun s => 9 - s.1.length) (fun s => Ss 9 200 s.1 ∧ s.2.1 = b' ∧ Cu b' s.2.2.1) ?_ _ ⟨h3, rfl, hc'⟩)
  rintro ⟨s, b', i', h'⟩ ⟨hs, rfl, hc'⟩ G hG
  simp only at hs
  have hsl := hs.len
  unfold L_2d
  refine OkG.call (below_ok hc' _ 2) ?_
  rintro ⟨r2, b', i', h'⟩ ⟨rfl, hc', q0, q1⟩
  have q1' := q1 (by decide)
  simp only at q0 q1' ⊢
  have hw : IntKind.i64.wrap (8 + r2) = 8 + r2 := wrap_sml (by omega) (by omega)
  rw [hw]
  refine OkG.bif (fun hb => ?_) (fun _ => OkG.val ⟨hs, rfl, hc'⟩)
  have hb' := of_decide_eq_true hb
  refine OkG.call (num_ok (by omega) (by omega)) ?_
  intro t ht
  have ha : ∃ z, addx (⟨#[122]⟩ : ByteArray) t = some z ∧ z.size = 1 + t.size := by
   have hsz : (⟨#[122]⟩ : ByteArray).size = 1 := rfl
   unfold addx
   rw [show Nat.ble ((⟨#[122]⟩ : ByteArray).size + t.size) 4611686018427387904 = true from by rw [hsz, Nat.ble_eq]; omega]
   exact ⟨_, rfl, by rw [ByteArray.size_append, hsz]⟩
  obtain ⟨z, hz, hzs⟩ := ha
  rw [hz]
  simp only [Option.bind_some]
  rw [apx_some (by simp; omega)]
  simp only [Option.bind_some]
  refine hG _ ⟨⟨by simp; omega, ?_⟩, rfl, hc'⟩ (by simp; omega)
  intro m hm
  rcases List.mem_append.1 hm with hm | hm
  ·exact hs.names m hm
  ·rw [List.mem_singleton.1 hm]; simp only; omega
 ·exact OkG.val ⟨h3, rfl, hc'⟩))
theorem draw8_ok {code : List Int} (hl : code.length ≤ 1073741824) : Ok (F_3w code) (fun y => y.1 = code ∧ Cu code y.2.1 ∧ Ss 9 200 y.2.2.2.1 ∧ Sm 4101 4 y.2.2.2.2) := (U_3u code).ok (OkG.out (by
 have h3 : Ss 9 200 tabs3 := tabs3_ok.mono (by decide) (by decide)
 refine OkG.call (new_ok hl) ?_
 rintro ⟨b', i', h'⟩ ⟨rfl, hc'⟩
 rw [tables_ok]
 simp only [Option.bind_some]
 refine OkG.join (fun s => Ss 9 200 s.1 ∧ s.2.1 = b' ∧ Cu b' s.2.2.1) ?_ ?_
 ·refine OkG.call (once_ok hc' _ 15) ?_
  rintro ⟨r, b', i', h'⟩ ⟨rfl, hc'⟩
  refine OkG.bif (fun _ => ?_) (fun _ => OkG.val ⟨h3, rfl, hc'⟩)
  refine OkG.call (schema_ok hc' _) ?_
  rintro ⟨s, b', i', h'⟩ ⟨hs, rfl, hc'⟩
  exact OkG.val ⟨hs, rfl, hc'⟩
 ·rintro ⟨s, b', i', h'⟩ ⟨hs, rfl, hc'⟩
  unfold J_37
  refine OkG.call (rich_ok hc' _ hl) ?_
  rintro ⟨p, b', i', h'⟩ ⟨hp, rfl, hc'⟩
  refine OkG.call (slots_ok hc' _ hp (by decide) (by decide)) ?_
  rintro ⟨p2, b', i', h'⟩ ⟨hp2, rfl, hc'⟩
  refine OkG.call (once_ok hc' _ 15) ?_
  rintro ⟨r, b', i', h'⟩ ⟨rfl, hc'⟩
  refine OkG.bif (fun _ => ?_) (fun _ => OkG.val ⟨rfl, hc', hs, hp2.mono (by decide) (by decide)⟩)
  refine OkG.call (break_ok hc' _ hp2 (by decide) (by decide)) ?_
  rintro ⟨p3, b', i', h'⟩ ⟨hp3, rfl, hc'⟩
  exact OkG.val ⟨rfl, hc', hs, hp3⟩))
end Go.Proofs.YtlebkomgiibknaaGreatDoorX
namespace Go.Proofs.YtlebkomgiibknaaGreatDoorX
open Go Go.Proofs.YtlebkomgiibknaaGreatDoorT PT
set_option linter.all false
theorem V_1n {s : List STable} (hs : BSch s) {p : List SNode} (hp : BPlan p) (x : SStep) : F_1s s p x = some (if typedOk s p = true then applyM s p x else (p, false)) := (U_c s p x).out (by
 simp only [V_a hs hp, V_b hp, Option.bind_some]
 cases hty : typedOk s p with
 | false => simp
 | true =>
  obtain ⟨t, rfl, ht⟩ := typedOk_iff.1 hty
  simp [V_h ht])
theorem nodeOk_cols6 {n : Nd} (h : nodeOk n = true) : n.2.2.2.2.2.2.1.length ≤ 6 := by
 obtain ⟨k, name, col, op, num, slot, cols, u⟩ := n
 simp only [nodeOk] at h
 simp only [Bool.and_eq_true] at h
 obtain ⟨⟨⟨⟨_, h2⟩, _⟩, _⟩, h5⟩ := h
 by_cases hk : k = 2
 ·subst hk
  rw [if_neg (by decide), if_neg (by decide), if_pos rfl] at h5
  simp only [Bool.and_eq_true] at h5
  have := okIn_iff.1 h5.1.1.1.2
  simp only; omega
 ·simp [hk] at h2
  simp [h2]
theorem typed_bp2 {s : List Tb} {p : List Nd} (h : typedOk s p = true) : BP2 p := by
 obtain ⟨t, rfl, ht⟩ := typedOk_iff.1 h
 refine ⟨ht.plan.bplan.len, fun n hn => ?_⟩
 have := nodeOk_cols6 (ht.plan.nodes n hn)
 omega
theorem Sm.bp2 {N c : Nat} {p : List Nd} (h : Sm N c p) (h1 : N ≤ 1073741824) (h2 : c ≤ 1073741824) : BP2 p := ⟨Nat.le_trans h.len h1, fun n hn => by have := (h.nodes n hn).2; omega⟩
theorem big_ok (code : List Int) : F_2l code = some (decide ((code.length : Int) > 1048576)) := (U_1u code).out rfl
end Go.Proofs.YtlebkomgiibknaaGreatDoorX
namespace Go.Proofs.YtlebkomgiibknaaGreatDoorX
open Go Go.Proofs.YtlebkomgiibknaaGreatDoorT PT
set_option linter.all false
inductive Chain (s : List Tb) (rules : List Int) : List Nd → List Sp → List Nd → Prop where
 | nil (p : List Nd) : Chain s rules p [] p
 | cons {p p' q : List Nd} {x : Sp} {xs : List Sp} (hp : typedOk s p = true) (ha : applyM s p x = (p', true)) (hr : hasR rules x = true) (h : Chain s rules p' xs q) : Chain s rules p (x :: xs) q
theorem Chain.rows {s : List Tb} {rules : List Int} {st : List Rows} (hst : storeOk s st = true) {p q : List Nd} {xs : List Sp} (h : Chain s rules p xs q) : rowsM s st q = rowsM s st p := by
 induction h with
 | nil p => rfl
 | cons hp ha hr h ih => rw [ih, step_rows hst hp ha]
theorem Chain.differs {s : List Tb} {rules : List Int} {p q : List Nd} {xs : List Sp} (h : Chain s rules p xs q) (n : Int) : differs s p q n = -1 := by
 unfold Go.Proofs.YtlebkomgiibknaaGreatDoorX.differs
 cases okIn n 0 50 with
 | false => rfl
 | true =>
  rw [cond_true, findI_none.2]
  ·rfl
  ·rw [List.any_eq_false]
   intro i _
   unfold diffP
   by_cases h1 : (evalPlan s (storeFrom s i) p).2 = 0
   ·by_cases h2 : (evalPlan s (storeFrom s i) q).2 = 0
    ·obtain ⟨a1, a2⟩ := eval_rows h1
     obtain ⟨_, b2⟩ := eval_rows h2
     simp [a2, b2, h.rows a1]
    ·simp [h2]
   ·simp [h1]
theorem replay_ok {s : List STable} (hs : BSch s) {rules : List Int} {p q : List SNode} {xs : List SStep} (hp : BPlan p) (hl : xs.length ≤ 20) (h : Chain s rules p xs q) : F_1z s p xs = some (q, (xs.length : Int)) := (U_q s p xs).out (by
 rw [V_b hp, Option.bind_some]
 rw [show decide ((xs.length : Int) > 20) = false by simp; omega, cond_false]
 obtain ⟨x, e, hx⟩ := Ok.loop (Q := fun x : Ex (List SNode × Int) (List SNode × Int × List SNode) => match x with | .ret _ => False | .go s => s.2.2 = q)
  (f := fun f s' => L_1z s xs f s'.1 s'.2.1 s'.2.2.1 s'.2.2.2) (S := List SNode × Int × List SNode × Int) (fun z => xs.length - z.2.2.2.toNat)
  (fun z => ∃ k : Nat, z.2.2.2 = k ∧ k ≤ xs.length ∧ Chain s rules z.2.2.1 (xs.drop k) q) (by
   rintro ⟨v2, v3, v4, v5⟩ ⟨k, hk, hkl, hc⟩ G hG
   simp only at hk hc ⊢
   subst hk
   unfold L_1z
   refine OkG.bif (fun hb => ?_) (fun hb => ?_)
   ·have hb' := of_decide_eq_true hb
    have hkl' : k < xs.length := by omega
    have hx := List.getElem?_eq_getElem hkl'
    rw [ix_some hx]
    rw [List.drop_eq_getElem_cons hkl'] at hc
    cases hc with
    | cons hp ha hr h =>
     rename_i p'
     simp only [Option.bind_some]
     rw [V_1n hs (typed_bplan hp), if_pos hp]
     rw [show applyM s v4 (xs[k].1, (xs[k].2.1, ())) = applyM s v4 xs[k] from rfl, ha]
     simp only [Option.bind_some, Bool.not_true, cond_false]
     have hw : IntKind.i64.wrap ((k : Int) + 1) = ((k + 1 : Nat) : Int) := wrap_nat (by omega)
     rw [hw]
     exact hG _ ⟨k + 1, rfl, by omega, h⟩ (by simp only; omega)
   ·have hb' := of_decide_eq_false hb
    have : k = xs.length := by omega
    subst this
    rw [List.drop_length] at hc
    cases hc
    exact OkG.val rfl) ([], 0, p, 0) ⟨0, rfl, Nat.zero_le _, by simpa using h⟩
 rw [e]
 cases x with
 | ret r => exact hx.elim
 | go z => simp only at hx; simp [hx])
theorem cert_ok {s : List STable} (hs : BSch s) {rules : List Int} {p q : List SNode} {xs : List SStep} (hp : typedOk s p = true) (hq : typedOk s q = true) (hl : xs.length ≤ 20) (h : Chain s rules p xs q) : F_1t s p q xs = some true := (U_f s p q xs).out (by
 have bp := typed_bplan hp
 rw [V_a hs bp, hp]
 have : decide ((xs.length : Int) > 20) = false := by simp; omega
 simp [this, replay_ok hs bp hl h, V_n (typed_bp2 hq)])
end Go.Proofs.YtlebkomgiibknaaGreatDoorX
namespace Go.Proofs.YtlebkomgiibknaaGreatDoorX
open Go Go.Proofs.YtlebkomgiibknaaGreatDoorT
set_option linter.all false
def bA (l : List UInt8) : ByteArray := ⟨l.toArray⟩
theorem bA_app (a b : List UInt8) : bA a ++ bA b = bA (a ++ b) := by
 apply ByteArray.ext
 simp [bA]
theorem bA_size (a : List UInt8) : (bA a).size = a.length := by simp [bA, ByteArray.size]
theorem bA_data (t : ByteArray) : bA t.data.toList = t := by apply ByteArray.ext; simp [bA]
theorem digit_byte {u : Nat} (h : u < 10) : bsOf [IntKind.u8.wrap (IntKind.i64.wrap (48 + (u : Int)))] = bA [UInt8.ofNat (48 + u)] := by
 have h1 : IntKind.i64.wrap (48 + (u : Int)) = 48 + u := wrap_sml (by omega) (by omega)
 have h2 : IntKind.u8.wrap (48 + (u : Int)) = 48 + u := by
  have : u = 0 ∨ u = 1 ∨ u = 2 ∨ u = 3 ∨ u = 4 ∨ u = 5 ∨ u = 6 ∨ u = 7 ∨ u = 8 ∨ u = 9 := by omega
  rcases this with rfl | rfl | rfl | rfl | rfl | rfl | rfl | rfl | rfl | rfl <;> rfl
 rw [h1, h2]
 have h3 : (48 + (u : Int)).toNat = 48 + u := by omega
 apply ByteArray.ext
 simp [bsOf, bA, h3]
theorem decDigits_small {u : Nat} (h : u < 10) : Lib.decDigits u = [UInt8.ofNat (48 + u)] := by rw [Lib.decDigits, dif_pos h]
theorem decDigits_big {u : Nat} (h : ¬ u < 10) : Lib.decDigits u = Lib.decDigits (u / 10) ++ [UInt8.ofNat (48 + u % 10)] := by rw [Lib.decDigits, dif_neg h]
def digs (u : Nat) (t : List UInt8) : List UInt8 := if u = 0 then t else Lib.decDigits u ++ t
theorem digs_step {u : Nat} (h : u ≠ 0) (t : List UInt8) : digs (u / 10) (UInt8.ofNat (48 + u % 10) :: t) = digs u t := by
 unfold digs
 rw [if_neg h]
 by_cases hs : u < 10
 ·rw [if_pos (by omega), decDigits_small hs, Nat.mod_eq_of_lt hs]; rfl
 ·rw [if_neg (by omega), decDigits_big hs]; simp
theorem addx_bA {a b : List UInt8} (h : a.length + b.length ≤ 4611686018427387904) : addx (bA a) (bA b) = some (bA (a ++ b)) := by
 unfold addx
 rw [bA_size, bA_size, Nat.ble_eq_true_of_le h, cond_true, bA_app]
theorem tmod_abs (v : Int) : v.tmod 10 = if v < 0 then -((v.natAbs % 10 : Nat) : Int) else ((v.natAbs % 10 : Nat) : Int) := by
 by_cases h : v < 0
 ·rw [if_pos h]
  obtain ⟨u, rfl⟩ : ∃ u : Nat, v = -(u : Int) := ⟨v.natAbs, by omega⟩
  rw [Int.neg_tmod]
  simp [Int.natAbs_neg]
  rfl
 ·rw [if_neg h]
  obtain ⟨u, rfl⟩ : ∃ u : Nat, v = (u : Int) := ⟨v.natAbs, by omega⟩
  rfl
theorem tdiv_abs (v : Int) : (v.tdiv 10).natAbs = v.natAbs / 10 := by
 rw [Int.natAbs_tdiv]; rfl
theorem num_loop (v : Int) (t : ByteArray) (k : Nat) (h0 : -9223372036854775808 ≤ v) (h1 : v ≤ 9223372036854775807) (hk : v.natAbs < 10 ^ k) (ht : t.size + k ≤ 100) :
  loopF (fun f s => L_1q f s.1 s.2) (v, t) = some (.go (bA (digs v.natAbs t.data.toList))) := by
 refine loopF_ind (S := Int × ByteArray) (A := Ex ByteArray ByteArray) (fun s => s.1.natAbs) (fun s => -9223372036854775808 ≤ s.1 ∧ s.1 ≤ 9223372036854775807 ∧ ∃ k, s.1.natAbs < 10 ^ k ∧ s.2.size + k ≤ 100) (fun s => .go (bA (digs s.1.natAbs s.2.data.toList))) ?_ (v, t) ⟨h0, h1, k, hk, ht⟩
 rintro ⟨v, t⟩ ⟨h0, h1, k, hk, ht⟩ g hg
 simp only at h0 h1 hk ht ⊢
 unfold L_1q
 by_cases hv : v = 0
 ·subst hv
  simp [digs, bA_data]
 ·have hb : (v != 0) = true := bne_iff_ne.2 hv
  have hk1 : k ≠ 0 := by rintro rfl; simp at hk; omega
  obtain ⟨k', rfl⟩ := Nat.exists_eq_succ_of_ne_zero hk1
  have hu : v.natAbs % 10 < 10 := Nat.mod_lt _ (by decide)
  have hrem : remx v 10 = some (v.tmod 10) := rfl
  have hd : (joinK (bif decide (v.tmod 10 < 0) then some (Ex.go (R := Ex ByteArray ByteArray) (IntKind.i64.wrap (0 - v.tmod 10))) else some (.go (v.tmod 10))) fun s => J_2 v t g s) = J_2 v t g ((v.natAbs % 10 : Nat) : Int) := by
   rw [tmod_abs]
   by_cases hn : v < 0
   ·rw [if_pos hn]
    by_cases hz : v.natAbs % 10 = 0
    ·simp [hz]
    ·have : decide (-((v.natAbs % 10 : Nat) : Int) < 0) = true := by simp; omega
     rw [this, cond_true, joinK_go, show 0 - -((v.natAbs % 10 : Nat) : Int) = ((v.natAbs % 10 : Nat) : Int) by omega, wrap_sml (by omega) (by omega)]
   ·rw [if_neg hn]
    have : decide (((v.natAbs % 10 : Nat) : Int) < 0) = false := by simp; omega
    rw [this, cond_false, joinK_go]
  have hq : quox v 10 = some (v.tdiv 10) := by
   unfold quox
   have hab := tdiv_abs v
   rw [show ((10 : Int) == 0) = false from rfl, cond_false, wrap_sml (by omega) (by omega)]
  have hpw : 10 ^ (k' + 1) = 10 * 10 ^ k' := by rw [Nat.pow_succ]; omega
  have hab := tdiv_abs v
  rw [hb, cond_true, hrem, Option.bind_some, hd]
  unfold J_2
  rw [digit_byte hu]
  have ha : addx (bA [UInt8.ofNat (48 + v.natAbs % 10)]) t = some (bA (UInt8.ofNat (48 + v.natAbs % 10) :: t.data.toList)) := by
   have := addx_bA (a := [UInt8.ofNat (48 + v.natAbs % 10)]) (b := t.data.toList) (by simp; have : t.data.size = t.size := rfl; omega)
   rw [bA_data] at this
   exact this
  rw [ha, hq]
  simp only [Option.bind_some]
  rw [hg _ ⟨by simp only; omega, by simp only; omega, k', by simp only; omega, by simp only [bA_size, List.length_cons, Array.length_toList]; have : t.data.size = t.size := rfl; omega⟩ (by simp only; omega)]
  simp only [hab]
  rw [show (bA (UInt8.ofNat (48 + v.natAbs % 10) :: t.data.toList)).data.toList = UInt8.ofNat (48 + v.natAbs % 10) :: t.data.toList by simp [bA], digs_step (by omega)]
theorem nDigits_le : ∀ (k u : Nat), u < 10 ^ (k + 1) → Lib.nDigits u ≤ k + 1
 | 0, u, h => by rw [Lib.nDigits_small (by simpa using h)]; omega
 | k + 1, u, h => by
  by_cases hs : u < 10
  ·rw [Lib.nDigits_small hs]; omega
  ·rw [Lib.nDigits_big hs]
   have : 10 ^ (k + 1 + 1) = 10 * 10 ^ (k + 1) := by rw [Nat.pow_succ]; omega
   have := nDigits_le k (u / 10) (by omega)
   omega
theorem dec_len {u : Nat} (h : u < 100000000000000000000) : (Lib.decDigits u).length ≤ 20 := by
 rw [Lib.decDigits_length]
 exact nDigits_le 19 u h
def numT (a : Int) : ByteArray := bA (Lib.itoa a)
theorem V_1h {a : Int} (h0 : -9223372036854775808 ≤ a) (h1 : a ≤ 9223372036854775807) : F_o a = some (numT a) := (U_7 a).out (by
 unfold numT Lib.itoa
 by_cases ha : a = 0
 ·subst ha
  simp [decDigits_small]
  rfl
 ·have hb : (a == 0) = false := by simp [ha]
  rw [hb, cond_false, num_loop a ByteArray.empty 19 h0 h1 (by omega) (by decide), joinK_go]
  unfold J_k digs
  have hn : ¬ a.natAbs = 0 := by omega
  rw [if_neg hn]
  have he : ByteArray.empty.data.toList = [] := rfl
  rw [he, List.append_nil]
  by_cases hneg : a < 0
  ·have hm : (⟨#[45]⟩ : ByteArray) = bA [45] := rfl
   have hl : (Lib.decDigits a.natAbs).length ≤ 20 := dec_len (by omega)
   rw [decide_eq_true hneg, cond_true, if_pos hneg, hm, addx_bA (by simp; omega)]
   rfl
  ·rw [decide_eq_false hneg, cond_false, if_neg hneg, show a.toNat = a.natAbs by omega])
end Go.Proofs.YtlebkomgiibknaaGreatDoorX
namespace Go.Proofs.YtlebkomgiibknaaGreatDoorX
open Go Go.Proofs.YtlebkomgiibknaaGreatDoorT PT
set_option linter.all false
def cellT (v : Int) : List UInt8 := if v = -2000000 then [45] else Lib.itoa v
def rowT (row : List Int) : List UInt8 := if row = [] then [40, 41] else Lib.join (row.map cellT) [44]
theorem itoa_len {a : Int} (h0 : -9223372036854775808 ≤ a) (h1 : a ≤ 9223372036854775807) : (Lib.itoa a).length ≤ 21 := by
 unfold Lib.itoa
 split
 ·have := dec_len (u := a.natAbs) (by omega); simp; omega
 ·have := dec_len (u := a.toNat) (by omega); omega
def VB (r : List Int) : Prop := ∀ v ∈ r, -2000000 ≤ v ∧ v ≤ 1000000
theorem lens_le {T : Type} (f : T → List UInt8) (b : Nat) : ∀ (l : List T), (∀ x ∈ l, (f x).length ≤ b) → Lib.lens (l.map f) ≤ b * l.length
 | [], _ => by simp [Lib.lens]
 | x :: l, h => by
  have h1 := h x (by simp)
  have h2 := lens_le f b l (fun y hy => h y (by simp [hy]))
  simp only [Lib.lens, List.map_cons, List.sum_cons, List.length_cons] at h2 ⊢
  rw [Nat.mul_succ]
  omega
def VR (x : Rows) : Prop := ∀ r ∈ x, VB r
theorem vb_kc {c : Int} {r : List Int} (h : VB r) : -2000000 ≤ kc c r ∧ kc c r ≤ 1000000 := by
 unfold kc
 rw [List.getD_eq_getElem?_getD]
 cases hx : r[c.toNat]? with
 | none => simp
 | some v => simpa using h v (List.mem_of_getElem? hx)
theorem VR.op1 {n : Nd} {x : Rows} (h : VR x) : VR (op1 n x) := by
 unfold Go.Proofs.YtlebkomgiibknaaGreatDoorX.op1
 split
 ·rw [filterR_eq]; exact fun r hr => h r (List.mem_filter.1 hr).1
 ·split
  ·intro r hr
   unfold keepR at hr
   obtain ⟨r', hr', rfl⟩ := List.mem_map.1 hr
   intro v hv
   obtain ⟨c, _, rfl⟩ := List.mem_map.1 hv
   exact vb_kc (h r' hr')
  ·split
   ·exact fun r hr => h r (srt_mem.1 hr)
   ·split
    ·exact fun r hr => h r (List.mem_of_mem_take hr)
    ·exact fun r hr => h r ((onceR_sublist x).subset hr)
theorem VR.op2 {n : Nd} {x y : Rows} (h : VR x) (k : VR y) : VR (op2 n x y) := by
 unfold Go.Proofs.YtlebkomgiibknaaGreatDoorX.op2
 split
 ·intro r hr
  unfold joinR at hr
  obtain ⟨a, ha, hr⟩ := List.mem_flatMap.1 hr
  obtain ⟨b, hb, hr⟩ := List.mem_flatMap.1 hr
  cases hc : !(decide (kc n.2.2.1 a = -2000000)) && decide (kc n.2.2.1 a = kc n.2.2.2.2.1 b) with
  | false => rw [hc] at hr; simp at hr
  | true =>
   rw [hc] at hr
   simp at hr
   subst hr
   intro v hv
   rcases List.mem_append.1 hv with hv | hv
   ·exact h a ha v hv
   ·exact k b hb v hv
 ·intro r hr
  rcases List.mem_append.1 hr with hr | hr
  ·exact h r hr
  ·exact k r hr
end Go.Proofs.YtlebkomgiibknaaGreatDoorX
namespace Go.Proofs.YtlebkomgiibknaaGreatDoorX
open Go Go.Proofs.YtlebkomgiibknaaGreatDoorT PT
set_option linter.all false
def allR : List Int := [0, 1, 2, 3, 4, 5, 6, 7, 8, 9, 10, 11]
theorem steps_rule {s : List Tb} {p : List Nd} {x : Sp} (h : x ∈ stepsM s p) : hasR allR x = true ∧ 0 ≤ x.1 ∧ x.1 < 12 ∧ 0 ≤ x.2.1 ∧ x.2.1 < p.length := by
 unfold stepsM at h
 split at h
 rotate_left
 ·simp at h
 obtain ⟨k, hk, hx⟩ := List.mem_flatMap.1 h
 unfold stepsRow at hx
 obtain ⟨r, hr, rfl⟩ := List.mem_map.1 hx
 have h1 := List.mem_range.1 (List.mem_filter.1 hr).1
 have h2 := List.mem_range.1 hk
 refine ⟨?_, by simp, by simp; omega, by simp, by simp; omega⟩
 simp only [hasR, allR, List.any_cons, List.any_nil, Bool.or_false]
 have : r = 0 ∨ r = 1 ∨ r = 2 ∨ r = 3 ∨ r = 4 ∨ r = 5 ∨ r = 6 ∨ r = 7 ∨ r = 8 ∨ r = 9 ∨ r = 10 ∨ r = 11 := by omega
 rcases this with rfl | rfl | rfl | rfl | rfl | rfl | rfl | rfl | rfl | rfl | rfl | rfl <;> simp
def SpB (xs : List Sp) : Prop := ∀ x ∈ xs, 0 ≤ x.1 ∧ x.1 < 12 ∧ 0 ≤ x.2.1 ∧ x.2.1 < 41
theorem improve_ch {s : List Tb} {sz : List Int} : ∀ (n : Nat) (p : List Nd) (st : List Sp), typedOk s p = true → good s sz p = true → ∃ xs q, improveM s sz n p st = (q, st ++ xs) ∧ Chain s allR p xs q ∧ xs.length ≤ n ∧ typedOk s q = true ∧ good s sz q = true ∧ costOf s sz q ≤ costOf s sz p ∧ SpB xs ∧ (xs.length < n → (bestM s sz q).2 = false)
 | 0, p, st, hp, hg => ⟨[], p, by simp [improveM], .nil p, by simp, hp, hg, Int.le_refl _, fun x hx => by simp at hx, fun h => by simp at h⟩
 | n + 1, p, st, hp, hg => by
  simp only [improveM]
  cases hf : (bestM s sz p).2 with
  | false => exact ⟨[], p, by simp, .nil p, by simp, hp, hg, Int.le_refl _, fun x hx => by simp at hx, fun _ => hf⟩
  | true =>
   obtain ⟨hx, _, hlt⟩ := bestM_mem hf
   obtain ⟨_, h2⟩ := stepsM_mem hx
   obtain ⟨hr, r1, r2, r3, r4⟩ := steps_rule hx
   have ha : applyM s p (bestM s sz p).1 = ((applyM s p (bestM s sz p).1).1, true) := by rw [← h2]
   have ht := (applyM_typed hp ha).1
   obtain ⟨xs, q, e, hc, hl, hq, hgq, hcost, hsp, hn⟩ := improve_ch n (applyM s p (bestM s sz p).1).1 (st ++ [(bestM s sz p).1]) ht (step_good hg hx)
   have h40 : p.length ≤ 40 := by obtain ⟨t, e1, hT⟩ := typedOk_iff.1 hp; have := hT.plan.size; rw [e1]; simpa using this
   refine ⟨(bestM s sz p).1 :: xs, q, by simp only [if_true]; rw [e]; simp, .cons hp ha hr hc, by simp; omega, hq, hgq, by omega, ?_, fun h => hn (by simp at h; omega)⟩
   intro x hx'
   rcases List.mem_cons.1 hx' with rfl | hx'
   ·exact ⟨r1, r2, r3, by omega⟩
   ·exact hsp x hx'
theorem good_typed {s : List Tb} {sz : List Int} {p : List Nd} (h : good s sz p = true) : typedOk s p = true := by
 unfold good at h
 simp only [Bool.and_eq_true] at h
 simp_all
end Go.Proofs.YtlebkomgiibknaaGreatDoorX
namespace Go.Proofs.YtlebkomgiibknaaGreatDoorX
open Go Go.Proofs.YtlebkomgiibknaaGreatDoorT
set_option linter.all false
@[simp] theorem bA_list (l : List UInt8) : (bA l).data.toList = l := by simp [bA]
theorem addx_g {a b : ByteArray} (h : a.size + b.size ≤ 4611686018427387904) : addx a b = some (bA (a.data.toList ++ b.data.toList)) := by
 have := addx_bA (a := a.data.toList) (b := b.data.toList) (by simp only [Array.length_toList]; exact h)
 rwa [bA_data, bA_data] at this
theorem V_3a {a : Int} (h0 : -9223372036854775808 ≤ a) (h1 : a ≤ 9223372036854775807) : F_41 a = some (numT a) := (U_41 a).out (by
 unfold itoaF
 rw [decide_eq_true h0, decide_eq_true h1]
 rfl)
theorem V_19 {a : Int} (h0 : -9223372036854775808 ≤ a) (h1 : a ≤ 9223372036854775807) : F_1e a = some (numT a) := (U_1h a).out (by rw [V_3a h0 h1]; rfl)
theorem V_3b {xs : List ByteArray} {sep : ByteArray} (h1 : xs.length ≤ 140737488355328) (h2 : (Lib.join (xs.map (·.data.toList)) sep.data.toList).length ≤ 140737488355328) : F_42 xs sep = some (bA (Lib.join (xs.map (·.data.toList)) sep.data.toList), xs) := (U_42 xs sep).out (by
 unfold joinF
 rw [Nat.ble_eq_true_of_le h1, Nat.ble_eq_true_of_le h2]
 rfl)
end Go.Proofs.YtlebkomgiibknaaGreatDoorX
namespace Go.Proofs.YtlebkomgiibknaaGreatDoorX
open Go Go.Proofs.YtlebkomgiibknaaGreatDoorT
set_option linter.all false
structure RSm (x : Rows) : Prop where
 len : x.length ≤ 40
 row : ∀ r ∈ x, VB r ∧ r.length ≤ 6
theorem RSm.take {x : Rows} (h : RSm x) (k : Nat) : RSm (x.take k) := ⟨by rw [List.length_take]; have := h.len; omega, fun r hr => h.row r (List.mem_of_mem_take hr)⟩
end Go.Proofs.YtlebkomgiibknaaGreatDoorX
namespace Go.Proofs.YtlebkomgiibknaaGreatDoorX
open Go Go.Proofs.YtlebkomgiibknaaGreatDoorT
set_option linter.all false
def stepT (x : Sp) : List UInt8 := Lib.itoa x.1 ++ 64 :: Lib.itoa x.2.1
def stepsText (xs : List Sp) : ByteArray := bA (Lib.join (xs.map stepT) [32])
theorem joinC_len {T : Type} (c : UInt8) (f : T → List UInt8) (b : Nat) (l : List T) (h : ∀ x ∈ l, (f x).length ≤ b) : (Lib.join (l.map f) [c]).length ≤ (b + 1) * l.length := by
 cases l with
 | nil => simp [Lib.join_nil]
 | cons x l =>
  have := lens_le f b (x :: l) h
  rw [List.map_cons, Lib.join_length, ← List.map_cons]
  have e : (b + 1) * (x :: l).length = b * (x :: l).length + (x :: l).length := by rw [Nat.add_mul, Nat.one_mul]
  rw [e]
  simp only [List.length_cons, List.length_nil, List.length_map] at this ⊢
  omega
theorem joinC_snoc (c : UInt8) (l : List (List UInt8)) (x : List UInt8) (h : l ≠ []) : Lib.join (l ++ [x]) [c] = Lib.join l [c] ++ c :: x := by
 obtain ⟨y, l, rfl⟩ := List.exists_cons_of_ne_nil h
 rw [List.cons_append, Lib.join_cons, Lib.join_cons]
 simp [Lib.joinTail]
theorem stepT_len {x : Sp} (h : 0 ≤ x.1 ∧ x.1 < 12 ∧ 0 ≤ x.2.1 ∧ x.2.1 < 41) : (stepT x).length ≤ 43 := by
 have h1 := itoa_len (a := x.1) (by omega) (by omega)
 have h2 := itoa_len (a := x.2.1) (by omega) (by omega)
 unfold stepT
 simp only [List.length_append, List.length_cons]
 omega
theorem step_cat {x : Sp} (h : 0 ≤ x.1 ∧ x.1 < 12 ∧ 0 ≤ x.2.1 ∧ x.2.1 < 41) : ((addx (numT x.1) (⟨#[64]⟩ : ByteArray)).bind fun z => (addx z (numT x.2.1)).bind fun z => some z) = some (bA (stepT x)) := by
 have h1 := itoa_len (a := x.1) (by omega) (by omega)
 have h2 := itoa_len (a := x.2.1) (by omega) (by omega)
 have h64 : (⟨#[64]⟩ : ByteArray).data.toList = [64] := rfl
 rw [addx_g (by rw [numT, bA_size]; show _ + 1 ≤ _; omega), Option.bind_some, addx_g (by rw [bA_size, numT, numT, bA_size, List.length_append, bA_list, h64]; simp only [List.length_cons, List.length_nil]; omega), Option.bind_some]
 simp only [numT, bA_list, h64, stepT]
 congr 2
 simp
theorem V_1v {x : SStep} (h : 0 ≤ x.1 ∧ x.1 < 12 ∧ 0 ≤ x.2.1 ∧ x.2.1 < 41) : F_22 x = some (bA (stepT x)) := (U_w x).out (by
 rw [V_19 (by omega) (by omega), Option.bind_some]
 simp only [V_19 (show -9223372036854775808 ≤ x.2.1 by omega) (by omega), Option.bind_some]
 exact step_cat h)
theorem V_2y {x : SStep} (h : 0 ≤ x.1 ∧ x.1 < 12 ∧ 0 ≤ x.2.1 ∧ x.2.1 < 41) : F_3i x = some (bA (stepT x)) := (U_32 x).out (by
 rw [V_1h (by omega) (by omega), Option.bind_some]
 simp only [V_1h (show -9223372036854775808 ≤ x.2.1 by omega) (by omega), Option.bind_some]
 exact step_cat h)
theorem V_15 {xs : List SStep} (hl : xs.length ≤ 20) (h : SpB xs) : F_24 xs = some (stepsText xs) := (U_y xs).out (by
 have e := loop_map (f := fun f s => L_k xs f s.1 s.2) xs (fun x => bA (stepT x)) (by omega)
  (fun i x a g hx ha => by
   have l1 := (List.getElem?_eq_some_iff.1 hx).1
   have hv := h x (mem_of_get hx)
   have hw := wrap_nat (show i < 9223372036854775807 by omega)
   simp only [L_k, lt_nat hx, cond_true, ix_some hx, Option.bind_some]
   rw [show ((x.1, (x.2.1, ())) : SStep) = x from rfl, V_1v hv, Option.bind_some, apx_some (by simp [ha]; omega)]
   simp only [Option.bind_some, hw])
  (fun a g => by simp [L_k])
 have hm : (xs.map fun x => bA (stepT x)).map (·.data.toList) = xs.map stepT := by simp
 have hj := joinC_len 32 stepT 43 xs (fun x hx => stepT_len (h x hx))
 have hc : (⟨#[32]⟩ : ByteArray).data.toList = [32] := rfl
 have hs : F_2i (xs.map fun x => bA (stepT x)) = some (stepsText xs, xs.map fun x => bA (stepT x)) := (U_1p _).out (by
  rw [V_3b (by simp; omega) (by rw [hm, hc]; omega), hm, hc]
  rfl)
 rw [show decide ((xs.length : Int) > 20) = false by simp; omega, cond_false, e, joinK_go]
 unfold J_14
 rw [hs]
 rfl)
theorem steps_take (xs : List Sp) {k : Nat} {v : Sp} (hv : xs[k]? = some v) : Lib.join ((xs.take (k + 1)).map stepT) [32] = if k = 0 then stepT v else Lib.join ((xs.take k).map stepT) [32] ++ 32 :: stepT v := by
 have e : xs.take (k + 1) = xs.take k ++ [v] := by rw [List.take_add_one, hv]; rfl
 rw [e, List.map_append, List.map_cons, List.map_nil]
 have l1 := (List.getElem?_eq_some_iff.1 hv).1
 by_cases hk : k = 0
 ·subst hk
  simp [Lib.join_one]
 ·rw [if_neg hk, joinC_snoc]
  intro h
  have := congrArg List.length h
  rw [List.length_map, List.length_take, List.length_nil] at this
  omega
theorem V_1f {xs : List SStep} (hl : xs.length ≤ 20) (h : SpB xs) : F_3k xs = some (stepsText xs) := (U_34 xs).out (by
 have key : ∀ k, k ≤ xs.length → (Lib.join ((xs.take k).map stepT) [32]).length ≤ 44 * k := by
  intro k hk
  have := joinC_len 32 stepT 43 (xs.take k) (fun v hv => stepT_len (h v (List.mem_of_mem_take hv)))
  rw [List.length_take, Nat.min_eq_left hk] at this
  exact this
 have e := loopF_ind (S := ByteArray × Int) (A := Ex ByteArray ByteArray) (f := fun f s => L_29 xs f s.1 s.2) (fun s => xs.length - s.2.toNat) (fun s => ∃ k : Nat, s.2 = k ∧ k ≤ xs.length ∧ s.1 = bA (Lib.join ((xs.take k).map stepT) [32]))
  (fun _ => .go (stepsText xs)) (by
   rintro ⟨t, i⟩ ⟨k, hk, hkl, ht⟩ g hg
   simp only at hk ht
   subst hk ht
   simp only [L_29]
   by_cases hlt : k < xs.length
   ·have hx := List.getElem?_eq_getElem hlt
    have hv := h xs[k] (mem_of_get hx)
    have hw := wrap_nat (show k < 9223372036854775807 by omega)
    have hkk := key k hkl
    have hcl := stepT_len hv
    rw [lt_nat hx, cond_true]
    have pre : (joinK (bif decide ((k : Int) > 0) then (addx (bA (Lib.join ((xs.take k).map stepT) [32])) (⟨#[32]⟩ : ByteArray)).bind (fun z3 => some (Ex.go (R := Ex ByteArray ByteArray) z3)) else some (.go (bA (Lib.join ((xs.take k).map stepT) [32])))) fun s => J_6 xs k g s) =
      J_6 xs k g (bA (Lib.join ((xs.take k).map stepT) [32] ++ if k = 0 then [] else [32])) := by
     by_cases hk0 : k = 0
     ·subst hk0; simp
     ·have h32 : (⟨#[32]⟩ : ByteArray).data.toList = [32] := rfl
      rw [show decide ((k : Int) > 0) = true by simp; omega, cond_true, addx_g (by rw [bA_size]; show _ + 1 ≤ _; omega), if_neg hk0]
      simp only [Option.bind_some, joinK_go, bA_list, h32]
    rw [pre]
    have hsz : (bA (Lib.join ((xs.take k).map stepT) [32] ++ if k = 0 then [] else [32])).size ≤ 44 * k + 1 := by
     rw [bA_size, List.length_append]
     split <;> simp only [List.length_nil, List.length_cons] <;> omega
    unfold J_6
    rw [ix_some hx, Option.bind_some, V_2y hv, Option.bind_some, addx_g (by rw [bA_size (stepT xs[k])]; omega), Option.bind_some, hw]
    refine hg _ ⟨k + 1, rfl, by omega, ?_⟩ (by simp only; omega)
    rw [steps_take xs hx]
    by_cases hk0 : k = 0
    ·subst hk0; simp [Lib.join_nil]
    ·simp [hk0]
   ·have hke : k = xs.length := by omega
    subst hke
    simp [stepsText]) (ByteArray.empty, 0) ⟨0, rfl, Nat.zero_le _, by simp [Lib.join_nil]; rfl⟩
 rw [show decide ((xs.length : Int) > 20) = false by simp; omega, cond_false, e]
 rfl)
end Go.Proofs.YtlebkomgiibknaaGreatDoorX
namespace Go.Proofs.YtlebkomgiibknaaGreatDoorX
open Go Go.Proofs.YtlebkomgiibknaaGreatDoorT
set_option linter.all false
theorem stx_ex {T : Type} {l : List T} {i : Int} {x : T} (h0 : 0 ≤ i) (h1 : i < l.length) : ∃ m, stx l i x = some m ∧ m.length = l.length := by
 obtain ⟨k, rfl⟩ : ∃ k : Nat, i = k := ⟨i.toNat, by omega⟩
 refine ⟨l.set k x, ?_, by simp⟩
 unfold stx
 simp [h1]
 try omega
theorem sizes_ok {b : List Int} {i : Int} (hc : Cu b i) (h : Int) {s : List STable} (hs : s.length ≤ 9) : Ok (F_40 b i h s) (fun y => y.1.length ≤ 10 ∧ y.2.1 = b ∧ Cu b y.2.2.1) := (U_3z b i h s).ok (OkG.out (by
 refine OkG.join (fun t => t.1.length ≤ 9 ∧ t.2.1 = b ∧ Cu b t.2.2.1) ?_ ?_
 ·refine Ok.of (Ok.loop (S := List Int × Int × List Int × Int × Int) (fun z => s.length - z.2.1.toNat) (fun z => 0 ≤ z.2.1 ∧ z.2.1 ≤ s.length ∧ (z.1.length : Int) = z.2.1 ∧ z.2.2.1 = b ∧ Cu b z.2.2.2.1) ?_ _ ⟨by simp, by simp, by simp, rfl, hc⟩)
  rintro ⟨v, j, b', i', h'⟩ ⟨j0, j1, hv, rfl, hc'⟩ G hG
  simp only at j0 j1 hv
  unfold L_2g
  refine OkG.bif (fun hb => ?_) (fun _ => OkG.val ⟨by simp only; omega, rfl, hc'⟩)
  have hb' : j < s.length := of_decide_eq_true hb
  refine OkG.call (below_ok hc' _ _) ?_
  rintro ⟨r1, b', i', h'⟩ ⟨rfl, hc', _⟩
  refine OkG.call (below_ok hc' _ _) ?_
  rintro ⟨r2, b', i', h'⟩ ⟨rfl, hc', _⟩
  refine OkG.call (pick_ok hc' _ (by simp)) ?_
  rintro ⟨r3, b', i', h'⟩ ⟨rfl, hc', _⟩
  rw [apx_some (by simp; omega)]
  simp only [Option.bind_some]
  have hw : IntKind.i64.wrap (j + 1) = j + 1 := wrap_sml (by omega) (by omega)
  rw [hw]
  exact hG _ ⟨by simp only; omega, by simp only; omega, by simp; omega, rfl, hc'⟩ (by simp only; omega)
 ·rintro ⟨v, b', i', h'⟩ ⟨hv, rfl, hc'⟩
  simp only at hv
  unfold J_38
  refine OkG.join (fun t => t.1.length ≤ 10 ∧ t.2.1 = b' ∧ Cu b' t.2.2.1) ?_ ?_
  ·refine OkG.call (once_ok hc' _ 12) ?_
   rintro ⟨r, b', i', h'⟩ ⟨rfl, hc'⟩
   refine OkG.bif (fun _ => ?_) (fun _ => OkG.val ⟨by simp only; omega, rfl, hc'⟩)
   rw [apx_some (by simp; omega)]
   simp only [Option.bind_some]
   exact OkG.val ⟨by simp; omega, rfl, hc'⟩
  ·rintro ⟨v, b', i', h'⟩ ⟨hv, rfl, hc'⟩
   simp only at hv
   unfold J_39
   refine OkG.join (fun t => t.1.length ≤ 10 ∧ t.2.1 = b' ∧ Cu b' t.2.2.1) ?_ (fun t ht => OkG.val ht)
   refine OkG.join (fun t => (t.1 = true → 0 < v.length) ∧ t.2.1 = b' ∧ Cu b' t.2.2.1) ?_ ?_
   ·refine OkG.call (once_ok hc' _ 15) ?_
    rintro ⟨r, b', i', h'⟩ ⟨rfl, hc'⟩
    refine OkG.bif (fun _ => OkG.val ⟨fun h => ?_, rfl, hc'⟩) (fun _ => OkG.val ⟨fun h => (by cases h), rfl, hc'⟩)
    have : (v.length : Int) > 0 := of_decide_eq_true h
    omega
   ·rintro ⟨t, b', i', h'⟩ ⟨ht, rfl, hc'⟩
    unfold J_3a
    refine OkG.bif (fun h => ?_) (fun _ => OkG.val ⟨hv, rfl, hc'⟩)
    have hp := ht h
    refine OkG.call (pick_ok hc' _ (by simp)) ?_
    rintro ⟨r3, b', i', h'⟩ ⟨rfl, hc', _⟩
    obtain ⟨x, ex, _⟩ := ix_ex (l := v) (r := 0) (by decide) (by omega)
    obtain ⟨m, em, hm⟩ := stx_ex (l := v) (i := 0) (x := r3) (by decide) (by omega)
    simp only [ex, em, Option.bind_some]
    exact OkG.val ⟨by simp only; omega, rfl, hc'⟩))
theorem improve_draw {code : List Int} (hl : code.length ≤ 1073741824) : Ok (F_3a code) (fun y => Ss 9 200 y.1 ∧ y.2.1.length ≤ 10 ∧ Sm 4101 4 y.2.2) := (U_2t code).ok (OkG.out (by
 have h : Ok (F_3b code) (fun y => Ss 9 200 y.1 ∧ y.2.1.length ≤ 10 ∧ Sm 4101 4 y.2.2) := (U_2u code).ok (OkG.out (by
  refine OkG.call (draw8_ok hl) ?_
  rintro ⟨b', i', h', s, p⟩ ⟨rfl, hc', hs, hp⟩
  refine OkG.call (sizes_ok hc' _ hs.len) ?_
  rintro ⟨z, b', i', h'⟩ ⟨hz, rfl, hc'⟩
  exact OkG.val ⟨hs, hz, hp⟩))
 refine OkG.call h ?_
 rintro ⟨s, z, p⟩ ⟨hs, hz, hp⟩
 exact OkG.val ⟨hs, hz, hp⟩))
end Go.Proofs.YtlebkomgiibknaaGreatDoorX
namespace Go.Proofs.YtlebkomgiibknaaGreatDoorX
open Go Go.Proofs.YtlebkomgiibknaaGreatDoorT
set_option linter.all false
def CNd (n : Nd) : Prop := n.2.2.2.2.2.2.1.length ≤ 1073741824
end Go.Proofs.YtlebkomgiibknaaGreatDoorX
namespace Go.Proofs.YtlebkomgiibknaaGreatDoorX
open Go Go.Proofs.YtlebkomgiibknaaGreatDoorT
set_option linter.all false
structure COp (o : Opn) : Prop where
 l1 : o.2.1.length ≤ 1073741824
 c1 : ∀ n ∈ o.2.1, CNd n
 l2 : o.2.2.1.length ≤ 1073741824
 c2 : ∀ n ∈ o.2.2.1, CNd n
 l3 : o.2.2.2.1.length ≤ 1073741824
end Go.Proofs.YtlebkomgiibknaaGreatDoorX
namespace Go.Proofs.YtlebkomgiibknaaGreatDoorX
open Go Go.Proofs.YtlebkomgiibknaaGreatDoorT
set_option linter.all false
structure CEn (e : En) : Prop where
 l1 : e.2.1.length ≤ 1073741824
 c1 : ∀ n ∈ e.2.1, CNd n
 l2 : e.2.2.1.length ≤ 1073741824
 c2 : ∀ n ∈ e.2.2.1, CNd n
end Go.Proofs.YtlebkomgiibknaaGreatDoorX
namespace Go.Proofs.YtlebkomgiibknaaGreatDoorX
open Go Go.Proofs.YtlebkomgiibknaaGreatDoorT
set_option linter.all false
theorem wl_ByteS {n : Nat} {x : List Int} (h : wfT (.sl n (.int .u8)) x) : x.length ≤ maxLen := h.1
end Go.Proofs.YtlebkomgiibknaaGreatDoorX
namespace Go.Proofs.YtlebkomgiibknaaGreatDoorX
open Go Go.Proofs.YtlebkomgiibknaaGreatDoorT
set_option linter.all false
theorem pure_FnImproved {a0 : List Int} (w0 : a0.length ≤ maxLen) : F_2k a0 = some true := (U_1t a0).out (by
 rw [big_ok, Option.bind_some]
 cases hb : decide ((a0.length : Int) > 1048576) with
 | true => rfl
 | false =>
  have hl := of_decide_eq_false hb
  obtain ⟨⟨s, sz, p⟩, e, hs, hz, hp⟩ := improve_draw (code := a0) (by omega)
  simp only at hs hz hp
  have bs := hs.bsch (by decide) (by decide)
  have bp := hp.bplan (by decide) (by decide)
  have b2 := hp.bp2 (by decide) (by decide)
  have bz : sz.length ≤ 2147483648 := by omega
  simp only [e, cond_false, Option.bind_some, V_2t bs bz bp, V_11 bs bz bp]
  cases hg : good s sz p with
  | false =>
   have hneg : costOf s sz p < 0 := by
    rcases Int.lt_or_le (costOf s sz p) 0 with h | h
    ·exact h
    ·have := costOf_good.1 h; rw [hg] at this; cases this
   have hb0 : (bestM s sz p).2 = false := by unfold bestM; rw [if_pos hneg]
   have hi : improveM s sz 20 p [] = (p, []) := by simp [improveM, hb0]
   have hsb : savedBy s sz p = -1 := by unfold savedBy; rw [if_pos hneg]
   rw [hi]
   have hSp : SpB [] := fun x hx => by simp at hx
   simp only [V_n b2, V_15 (xs := []) (by simp) hSp, V_1f (xs := []) (by simp) hSp, Option.bind_some, decide_true, Bool.not_true, cond_false, beq_self_eq_true, bne_self_eq_false, joinK_go, J_c, V_3 bs bz bp, V_d bs bz bp, V_13 bs bz bp, V_1e bs bz bp, J_d, decide_eq_true hneg, cond_true, V_14 bs bz bp, hsb]
   rfl
  | true =>
   have hty := good_typed hg
   obtain ⟨xs, q, es, hc, hxl, hq, hgq, hcost, hSp, hn⟩ := improve_ch (sz := sz) 20 p [] hty hg
   rw [es]
   have bq := typed_bplan hq
   have h0 := costOf_good.2 hg
   have h0q := costOf_good.2 hgq
   have hsb : savedBy s sz p = costOf s sz p - costOf s sz q := by
    unfold savedBy
    rw [if_neg (by omega), es]
   simp only [List.nil_append]
   simp only [V_n (typed_bp2 hq), V_15 hxl hSp, V_1f hxl hSp, Option.bind_some, decide_true, Bool.not_true, cond_false, beq_self_eq_true, bne_self_eq_false, joinK_go, J_c, V_3 bs bz bp, V_d bs bz bp, V_13 bs bz bp, V_1e bs bz bp, J_d,
    show decide (costOf s sz p < 0) = false by simp; omega, V_3 bs bz bq, cert_ok bs hty hq hxl hc, cond_true, decide_eq_true hcost, V_14 bs bz bp, hsb, wrap_cost, V_1p bs bp bq, hc.differs, V_1z bs bz bq, hgq, Bool.true_and]
   by_cases h20 : xs.length = 20
   ·simp [h20]
   ·have h20' : (((xs.length : Int)) == 20) = false := by simp; omega
    rw [h20', cond_false, hn (by omega)]
    rfl)
end Go.Proofs.YtlebkomgiibknaaGreatDoorX
