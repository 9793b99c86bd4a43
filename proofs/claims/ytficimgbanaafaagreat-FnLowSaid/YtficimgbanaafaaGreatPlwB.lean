/- The plain law: the plain functions answer as the statement says. -/
import Derived.Test.YtficimgbanaafaaGreatPlwA
set_option linter.all false
namespace Go.Proofs.YtficimgbanaafaaGreatX
open Go Go.Proofs.YtficimgbanaafaaGreatT PT
set_option linter.all false
def nxt (x : Int) : Int := (x * 75 + 74) % 65537
def OkX (x : Int) : Prop := 0 ≤ x ∧ x ≤ 65536
theorem nxt_ok (x : Int) : OkX (nxt x) := by unfold OkX nxt; omega
theorem remx_pos {a b : Int} (ha : 0 ≤ a) (hb : 0 < b) : remx a b = some (a % b) := by
 have : (b == 0) = false := by simp; omega
 rw [remx, this]
 simp only [cond_false]
 rw [Int.tmod_eq_emod_of_nonneg ha]
theorem V_impl_next {x : Int} (h : OkX x) : F_impl_stream_next x = some (nxt x, nxt x) := (U_impl_stream_next x).out (by
 obtain ⟨h0, h1⟩ := h
 rw [wrap_in (x := 75 * x) (by omega) (by omega), wrap_in (x := 75 * x + 74) (by omega) (by omega), remx_pos (by omega) (by omega)]
 simp only [Option.bind_some, nxt]
 rw [show 75 * x = x * 75 by omega])
def cellV (y : Int) : Int := if y % 6 = 5 then -2000000 else y % 6
def rowF : Nat → Int → List Int × Int
 | 0, x => ([], x)
 | k + 1, x => (cellV (nxt x) :: (rowF k (nxt x)).1, (rowF k (nxt x)).2)
def rowsF (w : Nat) : Nat → Int → Rows × Int
 | 0, x => ([], x)
 | k + 1, x => ((rowF w x).1 :: (rowsF w k (rowF w x).2).1, (rowsF w k (rowF w x).2).2)
def tabsF : List Tb → Int → List Rows
 | [], _ => []
 | t :: ts, x => (rowsF t.2.1.toNat (nxt x % 5).toNat (nxt x)).1 :: tabsF ts (rowsF t.2.1.toNat (nxt x % 5).toNat (nxt x)).2
def storeFrom (s : List Tb) (seed : Int) : List Rows := if schemaOk s = true ∧ okIn seed 0 65536 = true then tabsF s seed else []
theorem rowF_ok : ∀ (k : Nat) {x : Int}, OkX x → (rowF k x).1.length = k ∧ OkX (rowF k x).2
 | 0, x, h => ⟨rfl, h⟩
 | k + 1, x, h => by
  obtain ⟨h1, h2⟩ := rowF_ok k (nxt_ok x)
  exact ⟨by simp [rowF, h1], h2⟩
theorem rowsF_ok (w : Nat) : ∀ (k : Nat) {x : Int}, OkX x → (rowsF w k x).1.length = k ∧ OkX (rowsF w k x).2 ∧ ∀ r ∈ (rowsF w k x).1, r.length = w
 | 0, x, h => ⟨rfl, h, by simp [rowsF]⟩
 | k + 1, x, h => by
  obtain ⟨h1, h2⟩ := rowF_ok w h
  obtain ⟨h3, h4, h5⟩ := rowsF_ok w k h2
  refine ⟨by simp [rowsF, h3], h4, fun r hr => ?_⟩
  simp only [rowsF, List.mem_cons] at hr
  rcases hr with rfl | hr
  ·exact h1
  ·exact h5 r hr
theorem tabsF_ok : ∀ {ts : List Tb} {x : Int}, OkX x → (∀ t ∈ ts, t.2.1 ≤ 6) → (tabsF ts x).length = ts.length ∧ ∀ q ∈ tabsF ts x, q.length ≤ 4 ∧ ∀ r ∈ q, r.length ≤ 6
 | [], x, h, _ => ⟨rfl, by simp [tabsF]⟩
 | t :: ts, x, h, ht => by
  obtain ⟨h1, h2, h3⟩ := rowsF_ok t.2.1.toNat (nxt x % 5).toNat (nxt_ok x)
  obtain ⟨h4, h5⟩ := tabsF_ok (ts := ts) h2 (fun u hu => ht u (by simp [hu]))
  have := ht t (by simp)
  refine ⟨by simp [tabsF, h4], fun q hq => ?_⟩
  simp only [tabsF, List.mem_cons] at hq
  rcases hq with rfl | hq
  ·exact ⟨by omega, fun r hr => by have := h3 r hr; omega⟩
  ·exact h5 q hq
theorem storeFrom_b {s : List Tb} (seed : Int) : BRows (storeFrom s seed) := by
 unfold storeFrom
 split
 ·rename_i h
  obtain ⟨h1, h2⟩ := tabsF_ok (ts := s) (x := seed) (by have := okIn_iff.1 h.2; exact this) (fun t ht => (schemaOk_get h.1 ht).2.2)
  have := schemaOk_len h.1
  exact ⟨by omega, fun t ht => by have := (h2 t ht).1; omega, fun t ht r hr => by have := (h2 t ht).2 r hr; omega⟩
 ·exact ⟨by simp, by simp, by simp⟩
theorem sf_i2 {z : STable} {x : Int} (hx : OkX x) (hw : 0 ≤ z.2.1) (hw6 : z.2.1 ≤ 6) {E : Type} : ∀ {f : (List Int × Int × Int → Option (Ex E (List Int × Int))) → List Int × Int × Int → Option (Ex E (List Int × Int))},
  (∀ (a : List Int) (y : Int) (j : Nat) (g : List Int × Int × Int → Option (Ex E (List Int × Int))), OkX y → (j : Int) < z.2.1 → a.length = j → f g (a, y, (j : Int)) = g (a ++ [cellV (nxt y)], nxt y, ((j + 1 : Nat) : Int))) →
  (∀ (a : List Int) (y : Int) (g : List Int × Int × Int → Option (Ex E (List Int × Int))), f g (a, y, z.2.1) = some (.go (a, y))) →
  loopF f ([], x, 0) = some (.go (rowF z.2.1.toNat x)) := by
 intro f h1 h2
 refine loopF_ind (fun s => (z.2.1 - s.2.2).toNat) (fun s => ∃ (a : List Int) (y : Int) (j : Nat), s = (a, y, (j : Int)) ∧ OkX y ∧ (j : Int) ≤ z.2.1 ∧ a.length = j ∧ (a ++ (rowF (z.2.1.toNat - j) y).1, (rowF (z.2.1.toNat - j) y).2) = rowF z.2.1.toNat x)
  (fun _ => Ex.go (rowF z.2.1.toNat x)) ?_ _ ⟨[], x, 0, rfl, hx, hw, rfl, by simp⟩
 rintro s ⟨a, y, j, rfl, hy, hj, hl, he⟩ g hg
 by_cases h : (j : Int) < z.2.1
 ·rw [h1 a y j g hy h hl]
  refine hg _ ⟨_, _, j + 1, rfl, nxt_ok y, by omega, by simp [hl], ?_⟩ (by dsimp only; omega)
  obtain ⟨m, hm⟩ : ∃ m, z.2.1.toNat - j = m + 1 := ⟨z.2.1.toNat - j - 1, by omega⟩
  rw [hm] at he
  rw [show z.2.1.toNat - (j + 1) = m by omega, ← he]
  simp [rowF]
 ·have : (j : Int) = z.2.1 := by omega
  rw [show z.2.1.toNat - j = 0 by omega] at he
  rw [this, h2 a y g, ← he]
  simp [rowF]
theorem V_impl_StoreFrom {s : List STable} {seed : Int} (hs : BSch s) : F_impl_StoreFrom s seed = some (storeFrom s seed) := (U_impl_StoreFrom s seed).out (by
 simp only [V_impl_SchemaOk hs, V_impl_in, Option.bind_some, joinK_bif, joinK_go, J_impl_StoreFromx0]
 unfold storeFrom
 cases h1 : schemaOk s with
 | false => simp
 | true =>
  cases h2 : okIn seed 0 65536 with
  | false => simp
  | true =>
   have hlen := schemaOk_len h1
   have hmain : loopF (fun f s_1 => L_impl_StoreFromx0 s f s_1.1 s_1.2.1 s_1.2.2) ([], seed, 0) = some (.go (tabsF s seed)) := by
    refine loopF_ind (fun q => ((s.length : Int) - q.2.2).toNat) (fun q => ∃ (a : List Rows) (y : Int) (j : Nat), q = (a, y, (j : Int)) ∧ OkX y ∧ j ≤ s.length ∧ a.length = j ∧ a ++ tabsF (s.drop j) y = tabsF s seed)
     (fun _ => Ex.go (tabsF s seed)) ?_ _ ⟨[], seed, 0, rfl, okIn_iff.1 h2, by omega, rfl, by simp⟩
    rintro q ⟨a, y, j, rfl, hy, hj, hl, he⟩ g hg
    dsimp only
    by_cases h : j < s.length
    ·have hx : s[j]? = some s[j] := List.getElem?_eq_getElem h
     have hwd := schemaOk_get h1 (mem_of_get hx)
     rw [List.drop_eq_getElem_cons h] at he
     generalize s[j] = z at *
     have hny := nxt_ok y
     have hr : loopF (fun f s => L_impl_StoreFromx1 z (nxt y % 5) f s.1 s.2.1 s.2.2) ([], nxt y, 0) = some (.go (rowsF z.2.1.toNat (nxt y % 5).toNat (nxt y))) := by
      refine loopF_ind (fun q => ((nxt y % 5) - q.2.2).toNat) (fun q => ∃ (b : Rows) (u : Int) (k : Nat), q = (b, u, (k : Int)) ∧ OkX u ∧ (k : Int) ≤ nxt y % 5 ∧ b.length = k ∧
        (b ++ (rowsF z.2.1.toNat ((nxt y % 5).toNat - k) u).1, (rowsF z.2.1.toNat ((nxt y % 5).toNat - k) u).2) = rowsF z.2.1.toNat (nxt y % 5).toNat (nxt y))
       (fun _ => Ex.go (rowsF z.2.1.toNat (nxt y % 5).toNat (nxt y))) ?_ _ ⟨[], nxt y, 0, rfl, hny, by omega, rfl, by simp⟩
      rintro q ⟨b, u, k, rfl, hu, hk, hlb, heb⟩ g hg
      dsimp only
      simp only [L_impl_StoreFromx1]
      by_cases hc : (k : Int) < nxt y % 5
      ·rw [decide_eq_true hc]
       have e2 := sf_i2 (z := z) (x := u) hu (by omega) (by omega) (f := fun f s => L_impl_StoreFromx2 z f s.1 s.2.1 s.2.2)
        (fun c v m g hv hm hlc => by
         have hnv := nxt_ok v
         simp only [L_impl_StoreFromx2]
         rw [decide_eq_true hm]
         simp only [cond_true, V_impl_next hv, Option.bind_some, remx_pos hnv.1 (show (0 : Int) < 6 by omega), joinK_bif, joinK_go, J_impl_StoreFromx6, wrap_nat (show m < 9223372036854775807 by omega), beq_dec]
         unfold cellV
         by_cases h5 : nxt v % 6 = 5
         ·rw [decide_eq_true h5, if_pos h5]
          simp only [cond_true]
          rw [apx_some (by simp; omega)]; rfl
         ·rw [decide_eq_false h5, if_neg h5]
          simp only [cond_false]
          rw [apx_some (by simp; omega)]; rfl)
        (fun c v g => by simp [L_impl_StoreFromx2])
       simp only [cond_true, e2, joinK_go, J_impl_StoreFromx5]
       rw [apx_some (by simp; omega)]
       simp only [Option.bind_some, joinK_go, J_impl_StoreFromx4, wrap_nat (show k < 9223372036854775807 by omega)]
       obtain ⟨h6, h7⟩ := rowF_ok z.2.1.toNat hu
       refine hg _ ⟨_, _, k + 1, rfl, h7, by omega, by simp [hlb], ?_⟩ (by dsimp only; omega)
       obtain ⟨m, hm⟩ : ∃ m, (nxt y % 5).toNat - k = m + 1 := ⟨(nxt y % 5).toNat - k - 1, by omega⟩
       rw [hm] at heb
       rw [show (nxt y % 5).toNat - (k + 1) = m by omega, ← heb]
       simp [rowsF]
      ·rw [decide_eq_false hc]
       rw [show (nxt y % 5).toNat - k = 0 by omega] at heb
       rw [← heb]
       simp [rowsF]
     simp only [L_impl_StoreFromx0, lt_nat hx, cond_true, ix_some hx, Option.bind_some, V_impl_next hy, remx_pos hny.1 (show (0 : Int) < 5 by omega), hr, joinK_go, J_impl_StoreFromx3]
     rw [apx_some (by simp; omega)]
     simp only [Option.bind_some, joinK_go, J_impl_StoreFromx2, wrap_nat (show j < 9223372036854775807 by omega)]
     obtain ⟨h6, h7, _⟩ := rowsF_ok z.2.1.toNat (nxt y % 5).toNat hny
     refine hg _ ⟨_, _, j + 1, rfl, h7, by omega, by simp [hl], ?_⟩ (by dsimp only; omega)
     rw [← he]
     simp [tabsF]
    ·have : j = s.length := by omega
     subst this
     simp only [List.drop_length, tabsF, List.append_nil] at he
     simp [L_impl_StoreFromx0, he]
   simp [hmain, J_impl_StoreFromx1])
end Go.Proofs.YtficimgbanaafaaGreatX
namespace Go.Proofs.YtficimgbanaafaaGreatX
open Go Go.Proofs.YtficimgbanaafaaGreatT PT
set_option linter.all false
def diffP (s : List Tb) (p q : List Nd) (seed : Int) : Bool := decide ((evalPlan s (storeFrom s seed) p).2 = 0) && decide ((evalPlan s (storeFrom s seed) q).2 = 0) && !decide ((evalPlan s (storeFrom s seed) p).1 = (evalPlan s (storeFrom s seed) q).1)
def differs (s : List Tb) (p q : List Nd) (n : Int) : Int := bif okIn n 0 50 then fint (findI (fun i : Nat => diffP s p q (i : Int)) (List.range n.toNat) 0) else -1
theorem loop_fnum {S : Type} {f : (S × Int → Option (Ex Int S)) → S × Int → Option (Ex Int S)} (n : Nat) (p : Int → Bool)
  (h1 : ∀ (i : Nat) a (g : S × Int → Option (Ex Int S)), i < n → f g (a, (i : Int)) = bif p i then some (.ret (i : Int)) else g (a, ((i + 1 : Nat) : Int)))
  (h2 : ∀ a (g : S × Int → Option (Ex Int S)), f g (a, (n : Int)) = some (.go a)) (a : S) :
  loopF f (a, 0) = some (match findI (fun i : Nat => p (i : Int)) (List.range n) 0 with | some j => .ret (j : Int) | none => .go a) := by
 exact loop_find (f := f) (List.range n) (fun i : Nat => p (i : Int)) (fun i => (i : Int))
  (fun i x a g hx => by
   have l1 := (List.getElem?_eq_some_iff.1 hx).1
   simp at l1
   have : x = i := by
    have := hx
    rw [List.getElem?_range l1] at this
    simpa using this.symm
   subst this
   exact h1 x a g l1)
  (fun a g => by simpa using h2 a g) a
theorem V_impl_DiffersAt {s : List STable} {p q : List SNode} {n : Int} (hs : BSch s) (hp : BPlan p) (hq : BPlan q) : F_impl_DiffersAt s p q n = some (differs s p q n) := (U_impl_DiffersAt s p q n).out (by
 have : F_impl_differs_impl_SameRows s p q n = some (differs s p q n) := (U_impl_differs_impl_SameRows s p q n).out (by
  simp only [V_impl_in, Option.bind_some, differs]
  cases h : okIn n 0 50 with
  | false => simp
  | true =>
   obtain ⟨k, rfl⟩ : ∃ k : Nat, n = (k : Int) := ⟨n.toNat, by have := okIn_iff.1 h; omega⟩
   have hk := (okIn_iff.1 h).2
   have e := loop_fnum (f := fun f z => L_impl_differs_impl_SameRowsx0 s p q (k : Int) f z.1 z.2) k (diffP s p q)
    (fun i a g hi => by
     have : decide ((i : Int) < (k : Int)) = true := by simp; omega
     simp only [L_impl_differs_impl_SameRowsx0, this, cond_true, V_impl_StoreFrom hs, V_impl_EvalPlan hs (storeFrom_b _) hp, V_impl_EvalPlan hs (storeFrom_b _) hq, V_impl_SameRows (evalPlan_small _ _ _), Option.bind_some, joinK_bif, joinK_go, J_impl_differs_impl_SameRowsx1, wrap_nat (show i < 9223372036854775807 by omega), beq_dec, diffP]
     cases decide ((evalPlan s (storeFrom s (i : Int)) p).2 = 0) <;> cases decide ((evalPlan s (storeFrom s (i : Int)) q).2 = 0) <;> simp)
    (fun a g => by simp [L_impl_differs_impl_SameRowsx0]) 0
   rw [e]
   simp only [Int.toNat_natCast]
   cases findI (fun i : Nat => diffP s p q (i : Int)) (List.range k) 0 <;> simp [J_impl_differs_impl_SameRowsx0, fint])
 rw [this]; rfl)
end Go.Proofs.YtficimgbanaafaaGreatX
namespace Go.Proofs.YtficimgbanaafaaGreatX
open Go Go.Proofs.YtficimgbanaafaaGreatT PT
set_option linter.all false
def vb (n : Nat) : List Int := if n < 128 then [(n : Int)] else ((128 + n % 128 : Nat) : Int) :: vb (n / 128)
termination_by n
decreasing_by omega
def zig (x : Int) : Nat := if x < 0 then (-2 * x - 1).toNat else (2 * x).toNat
def numB (x : Int) : List Int := if okIn x (-1000000) 1000000 = true then vb (zig x) else []
end Go.Proofs.YtficimgbanaafaaGreatX
namespace Go.Proofs.YtficimgbanaafaaGreatX
open Go Go.Proofs.YtficimgbanaafaaGreatT PT
set_option linter.all false
def chkS (s c : Int) : Int := (IntKind.i64.wrap ((IntKind.i64.wrap (269 * s)) + (IntKind.i64.wrap c))).tmod 999983
def chk (b : List Int) : Int := b.foldl chkS 5
def frame (b : List Int) : List Int × Bool := if b.length ≤ 4000 then ([80, 83] ++ numB b.length ++ b ++ numB (chk b), true) else ([], false)
end Go.Proofs.YtficimgbanaafaaGreatX
namespace Go.Proofs.YtficimgbanaafaaGreatX
open Go Go.Proofs.YtficimgbanaafaaGreatT PT
set_option linter.all false
theorem zip_eq {T : Type} [DecidableEq T] : ∀ {a b : List T}, a.length = b.length → (a.zip b).all (fun p => decide (p.1 = p.2)) = decide (a = b)
 | [], [], _ => rfl
 | [], _ :: _, h => by simp at h
 | _ :: _, [], h => by simp at h
 | x :: a, y :: b, h => by
  simp only [List.zip_cons_cons, List.all_cons, zip_eq (a := a) (b := b) (by simpa using h)]
  by_cases h : x = y <;> simp [h]
structure BP2 (p : List Nd) : Prop where
 len : p.length ≤ 1073741824
 cols : ∀ n ∈ p, n.2.2.2.2.2.2.1.length ≤ 1073741824
theorem V_impl_SamePlan {a b : List SNode} (h : BP2 a) : F_impl_SamePlan a b = some (decide (a = b)) := (U_impl_SamePlan a b).out (by
 have : F_slices_EqualFunc_LimplNode_impl_sameNode a b = some (decide (a = b)) := (U_slices_EqualFunc_LimplNode_impl_sameNode a b).out (by
  by_cases hl : a.length = b.length
  ·have e := loop_chk (f := fun f z => L_slices_EqualFunc_LimplNode_impl_sameNodex0 a b f z.1 z.2) (a.zip b) (fun _ p => decide (p.1 = p.2)) false
    (fun i p v g hp => by
     obtain ⟨x, y⟩ := p
     have l1 := (List.getElem?_eq_some_iff.1 hp).1
     simp only [List.length_zip] at l1
     obtain ⟨hx, hy⟩ := List.getElem?_zip_eq_some.1 hp
     have h2 := h.len
     have h3 := h.cols x (mem_of_get hx)
     have h4 := V_impl_sameNode (a := x) (b := y) (by omega)
     simp only [L_slices_EqualFunc_LimplNode_impl_sameNodex0, lt_nat hx, cond_true, ix_some hx, ix_some hy, Option.bind_some, wrap_nat (show i < 9223372036854775807 by omega)]
     erw [h4]
     by_cases h : x = y <;> simp [h])
    (fun v g => by simp [L_slices_EqualFunc_LimplNode_impl_sameNodex0, hl]) false
   rw [e, allI_const, zip_eq hl, hl]
   cases decide (a = b) <;> simp [J_slices_EqualFunc_LimplNode_impl_sameNodex0]
  ·have : ((a.length : Int) != (b.length : Int)) = true := by simp; omega
   have h2 : a ≠ b := fun h => hl (by rw [h])
   simp [this, h2])
 simp [this])
end Go.Proofs.YtficimgbanaafaaGreatX
namespace Go.Proofs.YtficimgbanaafaaGreatX
open Go Go.Proofs.YtficimgbanaafaaGreatT PT
set_option linter.all false
abbrev En := Int × List Nd × List Nd × Int × Int × Unit
abbrev Shf := Int × List Tb × List En × Int × Int × Int × Int × Int × Int × Unit
structure BShelf (h : Shf) : Prop where
 sch : BSch h.2.1
 len : h.2.2.1.length ≤ 1073741824
 tpl : ∀ e ∈ h.2.2.1, BPlan e.2.1 ∧ BP2 e.2.1
 pln : ∀ e ∈ h.2.2.1, BPlan e.2.2.1
end Go.Proofs.YtficimgbanaafaaGreatX
namespace Go.Proofs.YtficimgbanaafaaGreatX
open Go Go.Proofs.YtficimgbanaafaaGreatT PT
set_option linter.all false
def evR (s : List Tb) (st : List Rows) : PT → Rows
 | .n0 n => match tabAt s n.2.1 with
  | some j => (st[j]?).getD []
  | none => []
 | .n1 n a => op1 n (evR s st a)
 | .n2 n a b => op2 n (evR s st a) (evR s st b)
theorem evalT_evR {s : List Tb} {st : List Rows} : ∀ {t : PT} {x : Rows}, evalT s st t = some x → x = evR s st t
 | .n0 n, x, h => by
  simp only [evalT] at h
  split at h
  ·rename_i j hj
   split at h
   ·rename_i t ht
    obtain ⟨rfl, _⟩ := capR_some h
    simp [evR, hj, ht]
   ·cases h
  ·cases h
 | .n1 n a, x, h => by
  simp only [evalT] at h
  split at h
  ·rename_i y hy
   obtain ⟨rfl, _⟩ := capR_some h
   simp only [evR]
   rw [evalT_evR hy]
  ·cases h
 | .n2 n a b, x, h => by
  simp only [evalT] at h
  split at h
  ·rename_i y hy
   split at h
   ·rename_i z hz
    obtain ⟨rfl, _⟩ := capR_some h
    simp only [evR]
    rw [evalT_evR hy, evalT_evR hz]
   ·cases h
  ·cases h
def WR (w : Int) (x : Rows) : Prop := ∀ r ∈ x, (r.length : Int) = w
theorem filterR_eq (n : Nd) (x : Rows) : filterR n x = x.filter fun r => holds n (kc n.2.2.1 r) := by
 unfold filterR
 induction x with
 | nil => rfl
 | cons r x ih =>
  simp only [List.flatMap_cons, ih, List.filter_cons]
  cases holds n (kc n.2.2.1 r) <;> simp
theorem evR_w {s : List Tb} {st : List Rows} (h : storeOk s st = true) : ∀ {t : PT} {w : Int}, wT s t = some w → WR w (evR s st t)
 | .n0 n, w, hw => by
  simp only [wT] at hw
  simp only [evR]
  split at hw
  ·rename_i j hj
   split at hw
   ·rename_i tb htb
    cases hw
    obtain ⟨t, h1, h2, _⟩ := storeOk_tab h htb
    simp only [hj, h1, Option.getD_some]
    exact h2.row
   ·cases hw
  ·cases hw
 | .n1 n a, w, hw => by
  simp only [wT] at hw
  simp only [evR]
  split at hw
  ·cases hw
  ·rename_i v hv
   have ih := evR_w h hv
   intro r hr
   simp only [op1] at hr
   split at hw
   ·rename_i hk
    split at hw
    ·cases hw
     rw [if_neg (by omega), if_pos hk] at hr
     simp only [keepR, List.mem_map] at hr
     obtain ⟨q, _, rfl⟩ := hr
     simp
    ·cases hw
   ·rename_i hk2
    have hvw : v = w := by
     split at hw
     ·split at hw
      ·cases hw; rfl
      ·cases hw
     ·cases hw; rfl
    subst hvw
    refine ih r ?_
    split at hr
    ·rw [filterR_eq] at hr; exact (List.mem_filter.1 hr).1
    ·split at hr
     ·exact srt_mem.1 hr
     ·split at hr
      ·exact List.mem_of_mem_take hr
      ·exact (onceR_sub _).1 r hr
 | .n2 n a b, w, hw => by
  simp only [wT] at hw
  simp only [evR]
  split at hw
  ·rename_i wa wb hwa hwb
   have ih1 := evR_w h hwa
   have ih2 := evR_w h hwb
   intro r hr
   simp only [op2] at hr
   split at hw
   ·rename_i hk
    split at hw
    ·cases hw
     rw [if_pos hk] at hr
     simp only [joinR, List.mem_flatMap] at hr
     obtain ⟨l, hl, q, hq, hr⟩ := hr
     have e1 := ih1 l hl
     have e2 := ih2 q hq
     cases hh : (!decide (kc n.2.2.1 l = -2000000) && decide (kc n.2.2.1 l = kc n.2.2.2.2.1 q)) <;> rw [hh] at hr <;> simp at hr
     rw [hr]; simp; omega
    ·cases hw
   ·rename_i hk
    split at hw
    ·rename_i hww
     cases hw
     rw [if_neg hk] at hr
     rcases List.mem_append.1 hr with hr | hr
     ·exact ih1 r hr
     ·have := ih2 r hr; omega
    ·cases hw
  ·cases hw
def stepO (a : Rows) (r : List Int) : Rows := bif decide (cnt a r = 0) then a ++ [r] else a
theorem onceR_def (x : Rows) : onceR x = x.foldl stepO [] := rfl
theorem cnt_zero {a : Rows} {r : List Int} : cnt a r = 0 ↔ r ∉ a := by
 unfold cnt
 rw [List.countP_eq_zero]
 constructor
 ·intro h hm; have := h r hm; simp at this
 ·intro h q hq hd
  simp only [decide_eq_true_eq] at hd
  exact h (hd ▸ hq)
theorem stepO_in {a : Rows} {r : List Int} (h : r ∈ a) : stepO a r = a := by
 have : ¬ cnt a r = 0 := fun e => cnt_zero.1 e h
 simp [stepO, this]
theorem stepO_out {a : Rows} {r : List Int} (h : r ∉ a) : stepO a r = a ++ [r] := by
 have : cnt a r = 0 := cnt_zero.2 h
 simp [stepO, this]
theorem foldO_filter (p : List Int → Bool) : ∀ (x a : Rows), (x.foldl stepO a).filter p = (x.filter p).foldl stepO (a.filter p)
 | [], a => rfl
 | r :: x, a => by
  simp only [List.foldl_cons]
  rw [foldO_filter p x]
  by_cases hm : r ∈ a
  ·rw [stepO_in hm]
   cases hp : p r with
   | true =>
    rw [List.filter_cons_of_pos hp, List.foldl_cons, stepO_in (List.mem_filter.2 ⟨hm, hp⟩)]
   | false => rw [List.filter_cons_of_neg (by simp [hp])]
  ·rw [stepO_out hm]
   cases hp : p r with
   | true =>
    rw [List.filter_cons_of_pos hp, List.foldl_cons, stepO_out (fun h => hm (List.mem_filter.1 h).1), List.filter_append]
    simp [hp]
   | false =>
    rw [List.filter_cons_of_neg (by simp [hp]), List.filter_append]
    simp [hp]
theorem onceR_filter (p : List Int → Bool) (x : Rows) : (onceR x).filter p = onceR (x.filter p) := by
 rw [onceR_def, onceR_def, foldO_filter]; rfl
theorem foldO_sub : ∀ (x a : Rows), (x.foldl stepO a).Sublist (a ++ x)
 | [], a => by simp
 | r :: x, a => by
  simp only [List.foldl_cons]
  by_cases hm : r ∈ a
  ·rw [stepO_in hm]
   exact (foldO_sub x a).trans (List.Sublist.append (List.Sublist.refl a) (List.sublist_cons_self r x))
  ·rw [stepO_out hm]
   have := foldO_sub x (a ++ [r])
   simpa using this
theorem onceR_sublist (x : Rows) : (onceR x).Sublist x := by have := foldO_sub x []; simpa [onceR_def] using this
theorem foldO_nodup : ∀ (x a : Rows), a.Nodup → (x.foldl stepO a).Nodup
 | [], a, h => h
 | r :: x, a, h => by
  simp only [List.foldl_cons]
  by_cases hm : r ∈ a
  ·rw [stepO_in hm]; exact foldO_nodup x a h
  ·rw [stepO_out hm]
   refine foldO_nodup x _ ?_
   rw [List.nodup_append]
   exact ⟨h, by simp, fun p hp q hq => by simp at hq; rintro rfl; exact hm (hq ▸ hp)⟩
theorem foldO_self : ∀ (x a : Rows), (a ++ x).Nodup → x.foldl stepO a = a ++ x
 | [], a, _ => by simp
 | r :: x, a, h => by
  simp only [List.foldl_cons]
  have hm : r ∉ a := fun hm => by
   rw [List.nodup_append] at h
   exact h.2.2 r hm r (by simp) rfl
  rw [stepO_out hm, foldO_self x (a ++ [r]) (by simpa using h)]
  simp
theorem onceR_self (x : Rows) : onceR (onceR x) = onceR x := by
 have h1 := foldO_nodup x [] List.nodup_nil
 have h2 := foldO_self (onceR x) [] (by simpa [onceR_def] using h1)
 rw [onceR_def (onceR x), h2]; rfl
theorem filter_filterR (n m : Nd) (z : Rows) : filterR n (filterR m z) = filterR m (filterR n z) := by
 simp only [filterR_eq, List.filter_filter]
 congr 1
 funext r
 exact Bool.and_comm _ _
theorem srt_filter (k : List Int → Int) (p : List Int → Bool) (z : Rows) : (srt k z).filter p = srt k (z.filter p) := by
 obtain ⟨h1, h2, _⟩ := srt_ok (key := k) z
 refine srt_of (List.Pairwise.filter p h1) (fun v => ?_)
 have := h2 v
 rw [List.filter_filter, List.filter_filter]
 have e : ∀ l : Rows, l.filter (fun x => (k x == v) && p x) = (l.filter (fun x => k x == v)).filter p := fun l => by
  rw [List.filter_filter]
  congr 1
  funext x
  exact Bool.and_comm _ _
 rw [e, e, this]
theorem once_srt (k : List Int → Int) (z : Rows) : onceR (srt k z) = srt k (onceR z) := by
 obtain ⟨h1, h2, _⟩ := srt_ok (key := k) z
 refine srt_of (List.Pairwise.sublist (onceR_sublist _) h1) (fun v => ?_)
 rw [onceR_filter, onceR_filter, h2 v]
theorem flatMap_bif {T : Type} (p : T → Bool) (f : T → Rows) : ∀ z : List T, z.flatMap (fun r => bif p r then f r else []) = (z.filter p).flatMap f
 | [] => rfl
 | r :: z => by
  simp only [List.flatMap_cons, List.filter_cons, flatMap_bif p f z]
  cases p r <;> simp
theorem kc_left {c : Int} {l r : List Int} (h0 : 0 ≤ c) (h : c < l.length) : kc c (l ++ r) = kc c l := by
 unfold kc
 rw [List.getD_eq_getElem?_getD, List.getD_eq_getElem?_getD, List.getElem?_append_left (by omega)]
theorem kc_right {c : Int} {l r : List Int} (h0 : (l.length : Int) ≤ c) : kc c (l ++ r) = kc (c - l.length) r := by
 unfold kc
 rw [List.getD_eq_getElem?_getD, List.getD_eq_getElem?_getD, List.getElem?_append_right (by omega)]
 congr 2
 omega
theorem filter_flatMap {T : Type} (p : List Int → Bool) (f : T → Rows) : ∀ z : List T, (z.flatMap f).filter p = z.flatMap fun t => (f t).filter p
 | [] => rfl
 | t :: z => by simp only [List.flatMap_cons, List.filter_append, filter_flatMap p f z]
theorem flatMap_congr2 {T : Type} {f g : T → Rows} : ∀ {z : List T}, (∀ t ∈ z, f t = g t) → z.flatMap f = z.flatMap g
 | [], _ => rfl
 | t :: z, h => by
  simp only [List.flatMap_cons]
  rw [h t (by simp), flatMap_congr2 (fun u hu => h u (by simp [hu]))]
theorem filter_joinL {n m : Nd} {x y : Rows} {w : Int} (hx : WR w x) (h0 : 0 ≤ n.2.2.1) (h1 : n.2.2.1 < w) : filterR n (joinR m x y) = joinR m (filterR n x) y := by
 have e : joinR m (filterR n x) y = x.flatMap fun l => bif holds n (kc n.2.2.1 l) then (y.flatMap fun r => bif !(decide (kc m.2.2.1 l = -2000000)) && decide (kc m.2.2.1 l = kc m.2.2.2.2.1 r) then [l ++ r] else []) else [] := by
  unfold joinR
  rw [filterR_eq, flatMap_bif]
 rw [e, filterR_eq]
 unfold joinR
 rw [filter_flatMap]
 refine flatMap_congr2 (fun l hl => ?_)
 have hw := hx l hl
 rw [filter_flatMap]
 have e2 : ∀ r : List Int, (bif !(decide (kc m.2.2.1 l = -2000000)) && decide (kc m.2.2.1 l = kc m.2.2.2.2.1 r) then [l ++ r] else []).filter (fun q => holds n (kc n.2.2.1 q)) =
   bif holds n (kc n.2.2.1 l) then (bif !(decide (kc m.2.2.1 l = -2000000)) && decide (kc m.2.2.1 l = kc m.2.2.2.2.1 r) then [l ++ r] else []) else [] := by
  intro r
  have hk := kc_left (c := n.2.2.1) (l := l) (r := r) h0 (by omega)
  cases hb : (!(decide (kc m.2.2.1 l = -2000000)) && decide (kc m.2.2.1 l = kc m.2.2.2.2.1 r)) <;> cases hh : holds n (kc n.2.2.1 l) <;> simp [hk, hh]
 rw [flatMap_congr2 (fun r _ => e2 r)]
 cases holds n (kc n.2.2.1 l) <;> simp
theorem filter_joinR {n m : Nd} {x y : Rows} {w : Int} (hx : WR w x) (h0 : w ≤ n.2.2.1) : filterR n (joinR m x y) = joinR m x (filterR (colN n (n.2.2.1 - w)) y) := by
 rw [filterR_eq]
 unfold joinR
 rw [filter_flatMap]
 refine flatMap_congr2 (fun l hl => ?_)
 have hw := hx l hl
 rw [filter_flatMap, filterR_eq, ← flatMap_bif]
 refine flatMap_congr2 (fun r _ => ?_)
 have hk := kc_right (c := n.2.2.1) (l := l) (r := r) (by omega)
 rw [hw] at hk
 have hh : ∀ v, holds (colN n (n.2.2.1 - w)) v = holds n v := fun v => rfl
 have hc : (colN n (n.2.2.1 - w)).2.2.1 = n.2.2.1 - w := rfl
 rw [hh, hc]
 cases hb : (!(decide (kc m.2.2.1 l = -2000000)) && decide (kc m.2.2.1 l = kc m.2.2.2.2.1 r)) <;> cases h2 : holds n (kc (n.2.2.1 - w) r) <;> simp [hk, h2]
theorem kc_map {l : List Int} {c : Int} (r : List Int) (h : c < l.length) (h0 : 0 ≤ c) : kc c (l.map fun c => kc c r) = kc (pick l c) r := by
 have hl : c.toNat < l.length := by omega
 unfold pick
 have e : kc c (l.map fun c => kc c r) = ((l.map fun c => kc c r)[c.toNat]?).getD 0 := by unfold kc; rw [List.getD_eq_getElem?_getD]
 rw [e, List.getElem?_map, List.getElem?_eq_getElem hl]
 rfl
theorem turn_evR {s : List Tb} {st : List Rows} (hst : storeOk s st = true) {r : Int} {u u' : PT} (g : Good u) (w : (wT s u).isSome = true) (h : turn s r u = some u') : evR s st u' = evR s st u := by
 cases u with
 | n0 n => cases h
 | n2 n a b => cases h
 | n1 n c =>
  simp only [turn] at h
  split at h
  rotate_left
  ·cases h
  rename_i hk
  obtain ⟨hm, hm2⟩ := hk
  have hr : okIn r 0 11 = true := by
   cases hr : okIn r 0 11 with
   | true => rfl
   | false => rw [ovr_out hr] at hm; exact absurd hm (neg_kind g)
  have hn := g.nodes n (by simp [PT.flat])
  rcases shapes g with ⟨m, rfl, har⟩ | ⟨m, d, rfl, har⟩ | ⟨m, d, e, rfl, har⟩
  ·cases h
  ·simp only [PT.hd] at hm2
   have hmo := g.nodes m (by simp [PT.flat])
   cases hwd : wT s d with
   | none => simp only [wT, hwd] at w; cases w
   | some x =>
   rcases rules hr with rfl | rfl | rfl | rfl | rfl | rfl | rfl | rfl | rfl | rfl | rfl | rfl
   ·have hk : n.1 = 1 := hm
    have hk2 : m.1 = 1 := hm2
    cases h
    simp only [evR, op1, hk, hk2, if_true]
    exact filter_filterR m n _
   ·have hk : n.1 = 1 := hm
    have hk2 : m.1 = 5 := hm2
    cases h
    simp only [evR, op1, hk, hk2, if_true, show ¬ (5 : Int) = 1 by omega, show ¬ (5 : Int) = 2 by omega, if_false]
    rw [filterR_eq, filterR_eq, srt_filter]
   ·have hk : n.1 = 6 := hm
    have hk2 : m.1 = 6 := hm2
    simp [turnC] at h
    obtain ⟨_, rfl⟩ := h
    have hk3 : (limN n m).1 = 6 := hk
    have e : (limN n m).2.2.2.2.1 = min n.2.2.2.2.1 m.2.2.2.2.1 := rfl
    simp only [evR, op1, hk, hk2, hk3, e, show ¬ (6 : Int) = 1 by omega, show ¬ (6 : Int) = 2 by omega, show ¬ (6 : Int) = 5 by omega, if_false, if_true]
    rw [List.take_take]
    congr 1
    omega
   ·have hk : n.1 = 5 := hm
    have hk2 : m.1 = 5 := hm2
    simp [turnC] at h
    obtain ⟨hc, rfl⟩ := h
    simp only [evR, op1, hk, hk2, show ¬ (5 : Int) = 1 by omega, show ¬ (5 : Int) = 2 by omega, if_false, if_true, hc]
    exact (srt_self (srt_ok _).1).symm
   ·have := ovr_two (r := 4) (by simp); rw [← hm2] at this; omega
   ·have := ovr_two (r := 5) (by simp); rw [← hm2] at this; omega
   ·have := ovr_two (r := 6) (by simp); rw [← hm2] at this; omega
   ·have hk : n.1 = 7 := hm
    have hk2 : m.1 = 7 := hm2
    simp [turnC] at h
    subst h
    simp only [evR, op1, hk, hk2, show ¬ (7 : Int) = 1 by omega, show ¬ (7 : Int) = 2 by omega, show ¬ (7 : Int) = 5 by omega, show ¬ (7 : Int) = 6 by omega, if_false]
    exact (onceR_self _).symm
   ·have hk : n.1 = 2 := hm
    have hk2 : m.1 = 2 := hm2
    simp [turnC] at h
    subst h
    have hk3 : (colsN m (n.2.2.2.2.2.2.1.map (pick m.2.2.2.2.2.2.1))).1 = 2 := hk2
    simp only [evR, op1, hk, hk2, hk3, show ¬ (2 : Int) = 1 by omega, if_false, if_true]
    have hall : ∀ c ∈ n.2.2.2.2.2.2.1, c < (m.2.2.2.2.2.2.1.length : Int) := by
     simp only [wT, hwd, hk, hk2, if_true] at w
     split at w
     ·cases w
     ·rename_i v hv
      split at hv
      ·cases hv
       split at w
       ·rename_i h1
        intro c hc
        have := List.all_eq_true.1 h1 c hc
        simpa using this
       ·cases w
      ·cases hv
    have hc0 := (nodeOk_keep hn hk).2.2
    simp only [keepR, List.map_map]
    refine List.map_congr_left (fun q _ => ?_)
    show (n.2.2.2.2.2.2.1.map (pick m.2.2.2.2.2.2.1)).map (fun c => kc c q) = n.2.2.2.2.2.2.1.map fun c => kc c (m.2.2.2.2.2.2.1.map fun c => kc c q)
    rw [List.map_map]
    refine List.map_congr_left (fun c hc => ?_)
    exact (kc_map q (hall c hc) (hc0 c hc).1).symm
   ·have hk : n.1 = 6 := hm
    have hk2 : m.1 = 2 := hm2
    simp [turnC] at h
    subst h
    simp only [evR, op1, hk, hk2, show ¬ (2 : Int) = 1 by omega, show ¬ (6 : Int) = 1 by omega, show ¬ (6 : Int) = 2 by omega, show ¬ (6 : Int) = 5 by omega, if_false, if_true]
    simp only [keepR, List.map_take]
   ·have hk : n.1 = 1 := hm
    have hk2 : m.1 = 2 := hm2
    simp [turnC] at h
    subst h
    have hk3 : (colN n (pick m.2.2.2.2.2.2.1 n.2.2.1)).1 = 1 := hk
    simp only [evR, op1, hk, hk2, hk3, show ¬ (2 : Int) = 1 by omega, if_false, if_true]
    have hc0 := node_col hn (.inl hk)
    have hlt : n.2.2.1 < (m.2.2.2.2.2.2.1.length : Int) := by
     simp only [wT, hwd, hk, hk2, if_true, show ¬ (1 : Int) = 2 by omega, if_false, true_or] at w
     split at w
     ·cases w
     ·rename_i v hv
      split at hv
      ·cases hv
       split at w
       ·rename_i h1; exact h1
       ·cases w
      ·cases hv
    rw [filterR_eq, filterR_eq]
    simp only [keepR, List.filter_map]
    congr 1
    refine List.filter_congr (fun q _ => ?_)
    simp only [Function.comp]
    rw [kc_map q hlt hc0]
    rfl
   ·have hk : n.1 = 7 := hm
    have hk2 : m.1 = 5 := hm2
    simp [turnC] at h
    subst h
    simp only [evR, op1, hk, hk2, show ¬ (5 : Int) = 1 by omega, show ¬ (5 : Int) = 2 by omega, show ¬ (7 : Int) = 1 by omega, show ¬ (7 : Int) = 2 by omega, show ¬ (7 : Int) = 5 by omega, show ¬ (7 : Int) = 6 by omega, if_false, if_true]
    exact (once_srt _ _).symm
  ·simp only [PT.hd] at hm2
   cases hwd : wT s d with
   | none => simp only [wT, hwd] at w; cases w
   | some x =>
   cases hwe : wT s e with
   | none => simp only [wT, hwd, hwe] at w; cases w
   | some y =>
   have hx := evR_w hst hwd
   rcases rules hr with rfl | rfl | rfl | rfl | rfl | rfl | rfl | rfl | rfl | rfl | rfl | rfl
   ·have := ovr_one (r := 0) rfl (by simp) (by simp) (by simp); rw [← hm2] at this; omega
   ·have := ovr_one (r := 1) rfl (by simp) (by simp) (by simp); rw [← hm2] at this; omega
   ·have := ovr_one (r := 2) rfl (by simp) (by simp) (by simp); rw [← hm2] at this; omega
   ·have := ovr_one (r := 3) rfl (by simp) (by simp) (by simp); rw [← hm2] at this; omega
   ·have hk : n.1 = 1 := hm
    have hk2 : m.1 = 4 := hm2
    simp [turnC] at h
    subst h
    simp only [evR, op1, op2, hk, hk2, show ¬ (4 : Int) = 3 by omega, if_false, if_true]
    rw [filterR_eq, filterR_eq, filterR_eq, List.filter_append]
   ·have hk : n.1 = 1 := hm
    have hk2 : m.1 = 3 := hm2
    simp [turnC, hwd, oint] at h
    obtain ⟨hc, rfl⟩ := h
    simp only [evR, op1, op2, hk, hk2, if_true]
    exact (filter_joinL hx (node_col hn (.inl hk)) hc).symm
   ·have hk : n.1 = 1 := hm
    have hk2 : m.1 = 3 := hm2
    simp [turnC, hwd, oint] at h
    obtain ⟨hc, rfl⟩ := h
    have hk3 : (colN n (n.2.2.1 - x)).1 = 1 := hk
    simp only [evR, op1, op2, hk, hk2, hk3, if_true]
    exact (filter_joinR hx hc).symm
   ·have := ovr_one (r := 7) rfl (by simp) (by simp) (by simp); rw [← hm2] at this; omega
   ·have := ovr_one (r := 8) rfl (by simp) (by simp) (by simp); rw [← hm2] at this; omega
   ·have := ovr_one (r := 9) rfl (by simp) (by simp) (by simp); rw [← hm2] at this; omega
   ·have := ovr_one (r := 10) rfl (by simp) (by simp) (by simp); rw [← hm2] at this; omega
   ·have := ovr_one (r := 11) rfl (by simp) (by simp) (by simp); rw [← hm2] at this; omega
theorem put_evR {s : List Tb} {st : List Rows} : ∀ {t : PT} {k : Nat} {u v : PT}, (subs t)[k]? = some u → evR s st v = evR s st u → evR s st (put t k v) = evR s st t
 | .n0 n, 0, u, v, h, hw => by simp [subs] at h; subst h; simpa [put] using hw
 | .n1 n a, 0, u, v, h, hw => by simp [subs] at h; subst h; simpa [put] using hw
 | .n2 n a b, 0, u, v, h, hw => by simp [subs] at h; subst h; simpa [put] using hw
 | .n0 n, k + 1, u, v, h, _ => by simp [subs] at h
 | .n1 n a, k + 1, u, v, h, hw => by
  have h' : (subs a)[k]? = some u := by simpa [subs] using h
  simp only [put, evR, put_evR h' hw]
 | .n2 n a b, k + 1, u, v, h, hw => by
  have h' : (subs a ++ subs b)[k]? = some u := by simpa [subs] using h
  simp only [put]
  by_cases hk : k < a.size
  ·rw [if_pos hk]
   rw [List.getElem?_append_left (by simpa using hk)] at h'
   simp only [evR, put_evR h' hw]
  ·rw [if_neg hk]
   rw [List.getElem?_append_right (by simp; omega), subs_len] at h'
   simp only [evR, put_evR h' hw]
def rowsM (s : List Tb) (st : List Rows) (p : List Nd) : Rows := match planT p with
 | some t => evR s st t
 | none => []
theorem step_rows {s : List Tb} {st : List Rows} (hst : storeOk s st = true) {p q : List Nd} (hp : typedOk s p = true) {x : Sp} (h : applyM s p x = (q, true)) : rowsM s st q = rowsM s st p := by
 obtain ⟨t, rfl, ht⟩ := typedOk_iff.1 hp
 obtain ⟨k, u, u', _, hu, hu', rfl, h1, h2, h3⟩ := applyM_tree ht h
 unfold rowsM
 rw [planT_flat h1, planT_flat ht.plan]
 have hm := mem_of_get hu
 exact put_evR hu (turn_evR hst (subs_good ht.plan.good hm) (subs_w ht.w hm) hu')
theorem eval_rows {s : List Tb} {st : List Rows} {p : List Nd} (h : (evalPlan s st p).2 = 0) : storeOk s st = true ∧ (evalPlan s st p).1 = rowsM s st p := by
 unfold evalPlan at h ⊢
 unfold rowsM
 split at h
 rotate_left
 ·simp at h
 rename_i hc
 rw [if_pos hc]
 refine ⟨hc.1, ?_⟩
 split at h
 ·rename_i t ht
  split at h
  ·rename_i x hx
   simp only [ht, hx]
   exact evalT_evR hx
  ·simp at h
 ·simp at h
end Go.Proofs.YtficimgbanaafaaGreatX
namespace Go.Proofs.YtficimgbanaafaaGreatX
open Go Go.Proofs.YtficimgbanaafaaGreatT PT
set_option linter.all false
theorem and255 (x : Int) : 0 ≤ andV .i64 x 255 ∧ andV .i64 x 255 ≤ 255 := by
 have h : (BitVec.ofInt 64 x &&& BitVec.ofInt 64 255).toNat ≤ 255 := by
  rw [BitVec.toNat_and]
  exact Nat.le_trans Nat.and_le_right (by decide)
 have e : andV .i64 x 255 = ((BitVec.ofInt 64 x &&& BitVec.ofInt 64 255).toNat : Int) := by
  show IntKind.i64.wrap _ = _
  exact wrap_sml (by show -9223372036854775808 ≤ ((BitVec.ofInt 64 x &&& BitVec.ofInt 64 255).toNat : Int); omega) (by show ((BitVec.ofInt 64 x &&& BitVec.ofInt 64 255).toNat : Int) ≤ 9223372036854775807; omega)
 rw [e]; omega
theorem ix_ex {T : Type} {l : List T} {r : Int} (h0 : 0 ≤ r) (h1 : r < l.length) : ∃ x, ix l r = some x ∧ x ∈ l := by
 obtain ⟨k, rfl⟩ : ∃ k : Nat, r = k := ⟨r.toNat, by omega⟩
 have hk : k < l.length := by omega
 exact ⟨l[k], ix_some (List.getElem?_eq_getElem hk), List.getElem_mem hk⟩
theorem shr_ex (a : Int) {b : Int} (h : 0 ≤ b) : ∃ z, shrV .i64 a b = some z := by simp [shrV, h]
structure Cu (b : List Int) (i : Int) : Prop where
 len : b.length ≤ 1073741824
 lo : 0 ≤ i
abbrev CuQ (b : List Int) (P : Int → Prop) (y : Int × List Int × Int × Int) : Prop := y.2.1 = b ∧ Cu b y.2.2.1 ∧ P y.1
theorem byte_ok {b : List Int} {i : Int} (hc : Cu b i) (h : Int) : Ok (F_spec_l01Byte b i h) (CuQ b fun r => 0 ≤ r ∧ r ≤ 255) := (U_spec_l01Byte b i h).ok (by
 obtain ⟨z1, e1⟩ := shr_ex (IntKind.i64.wrap ((IntKind.i64.wrap (h * 6364136223846793005)) + 1442695040888963407)) (b := 33) (by decide)
 obtain ⟨z2, e2⟩ := shr_ex (IntKind.i64.wrap ((IntKind.i64.wrap (h * 6364136223846793005)) + 1442695040888963407)) (b := 45) (by decide)
 rw [e1, e2]
 simp only [Option.bind_some, joinK_bif, joinK_go, J_spec_l01Bytex0]
 have hlo := hc.lo
 have hln := hc.len
 by_cases hi : i < b.length
 ·obtain ⟨x, hx, _⟩ := ix_ex hlo hi
  rw [hx]
  simp only [hi, decide_true, cond_true, Option.bind_some, joinK_go]
  exact ⟨_, rfl, rfl, ⟨hln, by simp only; rw [wrap_sml (x := i + 1) (by omega) (by omega)]; omega⟩, and255 _⟩
 ·simp only [hi, decide_false, cond_false, joinK_go]
  exact ⟨_, rfl, rfl, hc, and255 _⟩)
theorem remx_ps {a b : Int} (ha : 0 ≤ a) (hb : 0 < b) : remx a b = some (a % b) := by
 unfold remx
 have : (b == 0) = false := by simp; omega
 rw [this, Int.tmod_eq_emod_of_nonneg ha]; rfl
theorem below_ok {b : List Int} {i : Int} (hc : Cu b i) (h n : Int) : Ok (F_spec_l01Below b i h n) (CuQ b fun r => 0 ≤ r ∧ (0 < n → r < n)) := (U_spec_l01Below b i h n).ok (OkG.out (by
 refine OkG.bif (fun h0 => ?_) (fun h0 => OkG.bif (fun h1 => ?_) (fun h1 => ?_))
 ·have := of_decide_eq_true h0
  exact OkG.val ⟨rfl, hc, by omega, by simp only; omega⟩
 ·have h0' := of_decide_eq_false h0
  refine OkG.call (byte_ok hc h) ?_
  rintro ⟨r, b', i', h'⟩ ⟨rfl, hc', hr, _⟩
  simp only at hr ⊢
  rw [remx_ps hr (by omega)]
  refine OkG.val ⟨rfl, hc', Int.emod_nonneg _ (by omega), fun h => Int.emod_lt_of_pos _ h⟩
 ·have h0' := of_decide_eq_false h0
  refine OkG.call (byte_ok hc h) ?_
  rintro ⟨r, b', i', h'⟩ ⟨rfl, hc', hr, hr'⟩
  refine OkG.call (byte_ok hc' h') ?_
  rintro ⟨r2, b', i', h'⟩ ⟨rfl, hc', hs, hs'⟩
  refine OkG.call (byte_ok hc' h') ?_
  rintro ⟨r3, b', i', h'⟩ ⟨rfl, hc', ht, ht'⟩
  simp only at hr hr' hs hs' ht ht' ⊢
  rw [wrap_sml (x := r * 65536) (by omega) (by omega), wrap_sml (x := r2 * 256) (by omega) (by omega), wrap_sml (x := r * 65536 + r2 * 256) (by omega) (by omega), wrap_sml (x := r * 65536 + r2 * 256 + r3) (by omega) (by omega), remx_ps (by omega) (by omega)]
  exact OkG.val ⟨rfl, hc', Int.emod_nonneg _ (by omega), fun h => Int.emod_lt_of_pos _ h⟩))
theorem once_ok {b : List Int} {i : Int} (hc : Cu b i) (h n : Int) : Ok (F_spec_l01Once b i h n) (fun y => y.2.1 = b ∧ Cu b y.2.2.1) := (U_spec_l01Once b i h n).ok (OkG.out (by
 refine OkG.call (below_ok hc h n) ?_
 rintro ⟨r, b', i', h'⟩ ⟨rfl, hc', _⟩
 exact OkG.val ⟨rfl, hc'⟩))
theorem pick_ok {b : List Int} {i : Int} (hc : Cu b i) (h : Int) {l : List Int} (hl : 0 < l.length) : Ok (F_spec_l01PickInt b i h l) (CuQ b fun r => r ∈ l) := (U_spec_l01PickInt b i h l).ok (OkG.out (by
 refine OkG.call (below_ok hc h l.length) ?_
 rintro ⟨r, b', i', h'⟩ ⟨rfl, hc', h0, h1⟩
 have h1' := h1 (by omega)
 simp only at h0 h1' ⊢
 obtain ⟨x, hx, hm⟩ := ix_ex h0 h1'
 rw [hx]
 exact OkG.val ⟨rfl, hc', hm⟩))
theorem pickT_ok {b : List Int} {i : Int} (hc : Cu b i) (h : Int) {l : List ByteArray} (hl : 0 < l.length) : Ok (F_spec_l01PickText b i h l) (fun y => y.2.1 = b ∧ Cu b y.2.2.1 ∧ y.1 ∈ l) := (U_spec_l01PickText b i h l).ok (OkG.out (by
 refine OkG.call (below_ok hc h l.length) ?_
 rintro ⟨r, b', i', h'⟩ ⟨rfl, hc', h0, h1⟩
 have h1' := h1 (by omega)
 simp only at h0 h1' ⊢
 obtain ⟨x, hx, hm⟩ := ix_ex h0 h1'
 rw [hx]
 exact OkG.val ⟨rfl, hc', hm⟩))
theorem new_ok {b : List Int} (hb : b.length ≤ 1073741824) : Ok (F_spec_l01New b) (fun y => y.1 = b ∧ Cu b y.2.1) := (U_spec_l01New b).ok (OkG.out (by
 refine OkG.join (fun _ => True) (Ok.of (Ok.loop (S := Int × Int) (fun s => b.length - s.2.toNat) (fun s => 0 ≤ s.2 ∧ s.2 ≤ b.length) ?_ _ ⟨by simp, by simp⟩)) ?_
 ·rintro ⟨v, i⟩ ⟨h0, h1⟩ G hG
  simp only at h0 h1
  unfold L_spec_l01Newx0
  refine OkG.join (fun c => c = true → i < b.length) ?_ ?_
  ·refine OkG.bif (fun h => ?_) (fun h => ?_)
   ·exact OkG.val fun _ => of_decide_eq_true h
   ·exact OkG.val fun h => by cases h
  ·intro c hc
   refine OkG.bif (fun h => ?_) (fun h => OkG.val trivial)
   have hi := hc h
   obtain ⟨x, hx, _⟩ := ix_ex h0 hi
   rw [hx]
   simp only [Option.bind_some]
   refine hG _ ?_ ?_
   ·simp only; rw [wrap_sml (by omega) (by omega)]; omega
   ·simp only; rw [wrap_sml (by omega) (by omega)]; omega
 ·intro s _
  exact OkG.val ⟨rfl, hb, by simp⟩))
theorem size_ok {b : List Int} (hb : b.length ≤ 1073741824) {m : Int} (h0 : 1 ≤ m) : Ok (F_spec_l01Size b m) (fun r => 1 ≤ r ∧ r ≤ m) := (U_spec_l01Size b m).ok (OkG.out (by
 rw [quox_some (by omega) (by omega) (by omega)]
 simp only [Option.bind_some]
 have : IntKind.i64.wrap (2 + (b.length : Int) / 16) = 2 + (b.length : Int) / 16 := wrap_sml (by omega) (by omega)
 rw [this]
 refine OkG.bif (fun h => OkG.val ⟨h0, Int.le_refl _⟩) (fun h => ?_)
 have := of_decide_eq_false h
 exact OkG.val ⟨by omega, by omega⟩))
end Go.Proofs.YtficimgbanaafaaGreatX
namespace Go.Proofs.YtficimgbanaafaaGreatX
open Go Go.Proofs.YtficimgbanaafaaGreatT PT
set_option linter.all false
structure Sm (N c : Nat) (p : List Nd) : Prop where
 len : p.length ≤ N
 nodes : ∀ n ∈ p, n.2.1.size ≤ 100 ∧ n.2.2.2.2.2.2.1.length ≤ c
theorem Sm.mono {N M c d : Nat} {p : List Nd} (h : Sm N c p) (h1 : N ≤ M) (h2 : c ≤ d) : Sm M d p := ⟨Nat.le_trans h.len h1, fun n hn => ⟨(h.nodes n hn).1, Nat.le_trans (h.nodes n hn).2 h2⟩⟩
theorem Sm.bplan {N c : Nat} {p : List Nd} (h : Sm N c p) (h1 : N ≤ 1073741824) (h2 : c ≤ 1073741824) : BPlan p := ⟨Nat.le_trans h.len h1, fun n hn => ⟨by have := (h.nodes n hn).1; omega, by have := (h.nodes n hn).2; omega⟩⟩
theorem Sm.one {c : Nat} {n : Nd} (h1 : n.2.1.size ≤ 100) (h2 : n.2.2.2.2.2.2.1.length ≤ c) : Sm 1 c [n] := ⟨by simp, fun m hm => by rw [List.mem_singleton.1 hm]; exact ⟨h1, h2⟩⟩
theorem Sm.app {N M c : Nat} {p q : List Nd} (h : Sm N c p) (k : Sm M c q) : Sm (N + M) c (p ++ q) := ⟨by have := h.len; have := k.len; simp; omega, fun n hn => (List.mem_append.1 hn).elim (h.nodes n) (k.nodes n)⟩
theorem Sm.flat2 {N M c : Nat} {p q : List Nd} (h : Sm N c p) (k : Sm M c q) : Sm (N + M) c [p, q].flatten := by simpa using h.app k
theorem Sm.flat3 {N M K c : Nat} {p q r : List Nd} (h : Sm N c p) (k : Sm M c q) (l : Sm K c r) : Sm (N + (M + K)) c [p, q, r].flatten := by simpa using h.app (k.app l)
theorem joined_ok {l : List (List Nd)} {N c : Nat} (hl : l.length ≤ 1000) (h : Sm N c l.flatten) (h1 : N ≤ 1073741824) (h2 : c ≤ 1073741824) : Ok (F_spec_l02Joined l) (Sm N c) := ⟨_, V_spec_l02Joined hl (h.bplan h1 h2), h⟩
abbrev PlQ (b : List Int) (N : Nat) (y : List SNode × Int × List Int × Int × Int) : Prop := Sm N 3 y.1 ∧ y.2.2.1 = b ∧ Cu b y.2.2.2.1
theorem e100 : ByteArray.empty.size ≤ 100 := by decide
theorem draw_step {b : List Int} (n : Nat) (hn : n ≤ 10) (IH : ∀ (d i h : Int), Cu b i → 0 ≤ d → d + 1 ≤ n → Ok (F_spec_l02DrawPlan b i h d) (PlQ b (4 ^ n))) (d i h : Int) (hc : Cu b i) (hd : d ≤ n) :
  Ok (F_spec_l02DrawPlan b i h d) (PlQ b (4 ^ (n + 1))) := (U_spec_l02DrawPlan b i h d).ok (OkG.out (by
 have h41 : 4 ^ (n + 1) = 4 * 4 ^ n := by rw [Nat.pow_succ]; omega
 have h4p : 1 ≤ 4 ^ n := Nat.one_le_pow _ _ (by decide)
 have h4m : 4 ^ n ≤ 4 ^ 10 := Nat.pow_le_pow_right (by decide) hn
 have h4c : 4 ^ 10 = 1048576 := by decide
 have h4b : 4 ^ n ≤ 1048576 := by omega
 refine OkG.call (pick_ok hc h (by simp)) ?_
 rintro ⟨r, b', i', h'⟩ ⟨rfl, hc', _⟩
 refine OkG.join (fun v => d ≤ 1 → v = 0) ?_ ?_
 ·exact OkG.bif (fun _ => OkG.val fun _ => rfl) (fun h => OkG.val fun h' => by have := of_decide_eq_false h; omega)
 intro v hv
 unfold J_spec_l02DrawPlanx0
 refine OkG.bif (fun _ => ?_) (fun h0 => ?_)
 ·refine OkG.call (below_ok hc' h' 3) ?_
  rintro ⟨r1, b', i', h'⟩ ⟨rfl, hc', hr, hr'⟩
  have hr3 := hr' (by decide)
  simp only at hr hr3 ⊢
  obtain ⟨z4, e4, m4⟩ := ix_ex (l := [(⟨#[116, 49]⟩ : ByteArray), (⟨#[116, 50]⟩ : ByteArray), (⟨#[116, 51]⟩ : ByteArray)]) hr (by simp; omega)
  obtain ⟨z5, e5, m5⟩ := ix_ex (l := [(2 : Int), 3, 1]) hr (by simp; omega)
  rw [e4, e5]
  refine OkG.val ⟨(Sm.one ?_ (by simp)).mono (by omega) (Nat.le_refl _), rfl, hc'⟩
  simp only [List.mem_cons, List.not_mem_nil, or_false] at m4
  rcases m4 with rfl | rfl | rfl <;> decide
 have hd2 : 2 ≤ d := by
  rcases Int.lt_or_le d 2 with h | h
  ·rw [hv (by omega)] at h0; cases h0
  ·exact h
 have hn2 : 2 ≤ n := by omega
 have h42 : 4 ^ 2 ≤ 4 ^ n := Nat.pow_le_pow_right (by decide) hn2
 have hw1 : IntKind.i64.wrap (d - 1) = d - 1 := wrap_sml (by omega) (by omega)
 have hw2 : IntKind.i64.wrap (d - 2) = d - 2 := wrap_sml (by omega) (by omega)
 simp only [hw1, hw2]
 have sub1 : ∀ i h, Cu b' i → Ok (F_spec_l02DrawPlan b' i h (d - 1)) (PlQ b' (4 ^ n)) := fun i h hc => IH _ i h hc (by omega) (by omega)
 have sub2 : ∀ i h, Cu b' i → Ok (F_spec_l02DrawPlan b' i h (d - 2)) (PlQ b' (4 ^ n)) := fun i h hc => IH _ i h hc (by omega) (by omega)
 refine OkG.bif (fun _ => ?_) (fun _ => OkG.bif (fun _ => ?_) (fun _ => ?_))
 ·refine OkG.call (sub1 _ _ hc') ?_
  rintro ⟨p1, w1, b', i', h'⟩ ⟨s1, rfl, hc'⟩
  refine OkG.call (sub2 _ _ hc') ?_
  rintro ⟨p2, w2, b', i', h'⟩ ⟨s2, rfl, hc'⟩
  refine OkG.call (below_ok hc' _ _) ?_
  rintro ⟨r1, b', i', h'⟩ ⟨rfl, hc', _⟩
  refine OkG.call (below_ok hc' _ _) ?_
  rintro ⟨r2, b', i', h'⟩ ⟨rfl, hc', _⟩
  refine OkG.call (joined_ok (by simp) (Sm.flat3 (Sm.one e100 (Nat.zero_le 3)) s1 s2) (by omega) (by decide)) ?_
  intro q hq
  exact OkG.val ⟨hq.mono (by omega) (Nat.le_refl _), rfl, hc'⟩
 ·refine OkG.call (sub1 _ _ hc') ?_
  rintro ⟨p1, w1, b', i', h'⟩ ⟨s1, rfl, hc'⟩
  refine OkG.call (sub2 _ _ hc') ?_
  rintro ⟨p2, w2, b', i', h'⟩ ⟨s2, rfl, hc'⟩
  refine OkG.join (fun s => Sm (4 ^ n + 1) 3 s.1 ∧ Sm (4 ^ n + 1) 3 s.2.2) ?_ ?_
  ·refine OkG.bif (fun _ => ?_) (fun _ => OkG.val ⟨s1.mono (by omega) (Nat.le_refl _), s2.mono (by omega) (Nat.le_refl _)⟩)
   refine OkG.call (joined_ok (by simp) (Sm.flat2 (Sm.one e100 (by simp)) s1) (by omega) (by decide)) ?_
   intro q1 hq1
   refine OkG.call (joined_ok (by simp) (Sm.flat2 (Sm.one e100 (by simp)) s2) (by omega) (by decide)) ?_
   intro q2 hq2
   exact OkG.val ⟨hq1.mono (by omega) (Nat.le_refl _), hq2.mono (by omega) (Nat.le_refl _)⟩
  ·rintro ⟨q1, w, q2⟩ ⟨t1, t2⟩
   unfold J_spec_l02DrawPlanx1
   refine OkG.call (joined_ok (by simp) (Sm.flat3 (Sm.one e100 (Nat.zero_le 3)) t1 t2) (by omega) (by decide)) ?_
   intro q hq
   exact OkG.val ⟨hq.mono (by omega) (Nat.le_refl _), rfl, hc'⟩
 ·refine OkG.call (sub1 _ _ hc') ?_
  rintro ⟨p1, w1, b', i', h'⟩ ⟨s1, rfl, hc'⟩
  refine OkG.join (fun s => s.2.2.1.size ≤ 100 ∧ s.2.2.2.2.2.2.2.1.length ≤ 3 ∧ s.2.2.2.2.2.2.2.2.1 = b' ∧ Cu b' s.2.2.2.2.2.2.2.2.2.1) ?_ ?_
  ·refine OkG.bif (fun _ => ?_) (fun _ => OkG.bif (fun _ => ?_) (fun _ => OkG.bif (fun _ => ?_) (fun _ => OkG.bif (fun _ => ?_) (fun _ => ?_))))
   ·refine OkG.call (below_ok hc' _ _) ?_
    rintro ⟨r1, b', i', h'⟩ ⟨rfl, hc', _⟩
    refine OkG.call (below_ok hc' _ _) ?_
    rintro ⟨r2, b', i', h'⟩ ⟨rfl, hc', _⟩
    refine OkG.bif (fun _ => ?_) (fun _ => ?_)
    ·refine OkG.call (below_ok hc' _ _) ?_
     rintro ⟨r3, b', i', h'⟩ ⟨rfl, hc', _⟩
     exact OkG.val ⟨e100, by simp, rfl, hc'⟩
    ·exact OkG.val ⟨e100, by simp, rfl, hc'⟩
   ·refine OkG.join (fun s => s.2.1.size ≤ 100 ∧ s.2.2.2.2.2.2.1.length ≤ 3 ∧ s.2.2.2.2.2.2.2.1 = b' ∧ Cu b' s.2.2.2.2.2.2.2.2.1) ?_ ?_
    ·refine OkG.call (below_ok hc' _ 3) ?_
     rintro ⟨r1, b', i', h'⟩ ⟨rfl, hc', hr, hr'⟩
     have hr3 := hr' (by decide)
     simp only at hr hr3 ⊢
     have hw : IntKind.i64.wrap (1 + r1) = 1 + r1 := wrap_sml (by omega) (by omega)
     rw [hw]
     refine Ok.of (Ok.loop (S := Int × ByteArray × Int × Int × Int × Bool × List Int × Int × List Int × Int × Int) (fun s => s.2.2.2.2.2.2.2.1.toNat) (fun s => 0 ≤ s.2.2.2.2.2.2.2.1 ∧ s.2.2.2.2.2.2.2.1 + s.2.2.2.2.2.2.1.length ≤ 3 ∧ s.2.1.size ≤ 100 ∧ s.2.2.2.2.2.2.2.2.1 = b' ∧ Cu b' s.2.2.2.2.2.2.2.2.2.1) ?_ _ ⟨by simp only; omega, by simp; omega, e100, rfl, hc'⟩)
     rintro ⟨a1, a2, a3, a4, a5, a6, cs, k, b', i', h'⟩ ⟨k0, k3, n1, rfl, hc'⟩ G hG
     simp only at k0 k3
     unfold L_spec_l02DrawPlanx0
     refine OkG.bif (fun hk => ?_) (fun hk => OkG.val ⟨n1, by simp only; omega, rfl, hc'⟩)
     have hk' : k > 0 := of_decide_eq_true hk
     refine OkG.call (below_ok hc' _ _) ?_
     rintro ⟨r3, b', i', h'⟩ ⟨rfl, hc', _⟩
     rw [apx_some (by simp; omega)]
     simp only [Option.bind_some]
     have hw : IntKind.i64.wrap (k - 1) = k - 1 := wrap_sml (by omega) (by omega)
     rw [hw]
     exact hG _ ⟨by simp only; omega, by simp; omega, n1, rfl, hc'⟩ (by simp only; omega)
    ·rintro ⟨a1, a2, a3, a4, a5, a6, cs, b', i', h'⟩ ⟨n1, n2, rfl, hc'⟩
     exact OkG.val ⟨n1, n2, rfl, hc'⟩
   ·refine OkG.call (below_ok hc' _ _) ?_
    rintro ⟨r1, b', i', h'⟩ ⟨rfl, hc', _⟩
    exact OkG.val ⟨e100, by simp, rfl, hc'⟩
   ·refine OkG.call (below_ok hc' _ _) ?_
    rintro ⟨r1, b', i', h'⟩ ⟨rfl, hc', _⟩
    exact OkG.val ⟨e100, by simp, rfl, hc'⟩
   ·exact OkG.val ⟨e100, by simp, rfl, hc'⟩
  ·rintro ⟨w, a1, a2, a3, a4, a5, a6, cs, b', i', h'⟩ ⟨n1, n2, rfl, hc'⟩
   unfold J_spec_l02DrawPlanx2
   refine OkG.call (joined_ok (by simp) (Sm.flat2 (Sm.one (n := (a1, a2, a3, a4, a5, a6, cs, ())) n1 n2) s1) (by omega) (by decide)) ?_
   intro q hq
   exact OkG.val ⟨hq.mono (by omega) (Nat.le_refl _), rfl, hc'⟩))
theorem plan_ok {b : List Int} : ∀ (n : Nat), n ≤ 10 → ∀ (d i h : Int), Cu b i → d ≤ n → Ok (F_spec_l02DrawPlan b i h d) (PlQ b (4 ^ (n + 1)))
 | 0, hn, d, i, h, hc, hd => draw_step 0 hn (fun d' i h hc h0 h1 => by omega) d i h hc hd
 | n + 1, hn, d, i, h, hc, hd => draw_step (n + 1) hn (fun d' i h hc h0 h1 => plan_ok n (by omega) d' i h hc (by omega)) d i h hc hd
end Go.Proofs.YtficimgbanaafaaGreatX
namespace Go.Proofs.YtficimgbanaafaaGreatX
open Go Go.Proofs.YtficimgbanaafaaGreatT PT
set_option linter.all false
abbrev PnQ (b : List Int) (N c : Nat) (y : List SNode × List Int × Int × Int) : Prop := Sm N c y.1 ∧ y.2.1 = b ∧ Cu b y.2.2.1
theorem rich_ok {b : List Int} {i : Int} (hc : Cu b i) (h : Int) {code : List Int} (hl : code.length ≤ 1073741824) : Ok (F_spec_l08DrawRich b i h code) (PnQ b 4100 3) := (U_spec_l08DrawRich b i h code).ok (OkG.out (by
 refine OkG.call (size_ok hl (by decide)) ?_
 intro m hm
 refine OkG.call (below_ok hc h m) ?_
 rintro ⟨r, b', i', h'⟩ ⟨rfl, hc', h0, h1⟩
 have h1' := h1 (by omega)
 simp only at h0 h1' ⊢
 have hw : IntKind.i64.wrap (1 + r) = 1 + r := wrap_sml (by omega) (by omega)
 rw [hw]
 refine OkG.call (plan_ok 5 (by decide) _ _ _ hc' (by omega)) ?_
 rintro ⟨p, w, b', i', h'⟩ ⟨sp, rfl, hc'⟩
 refine OkG.join (fun s => Sm 4100 3 s.1 ∧ s.2.1 = b' ∧ Cu b' s.2.2.1) ?_ (fun s hs => OkG.val hs)
 refine OkG.call (below_ok hc' _ 4) ?_
 rintro ⟨r4, b', i', h'⟩ ⟨rfl, hc', q0, q1⟩
 have q1' := q1 (by decide)
 simp only at q0 q1' sp ⊢
 have hw : IntKind.i64.wrap (1 + r4) = 1 + r4 := wrap_sml (by omega) (by omega)
 rw [hw]
 refine Ok.of (Ok.loop (S := List SNode × Int × Int × List Int × Int × Int) (fun s => s.2.2.1.toNat) (fun s => 0 ≤ s.2.2.1 ∧ s.2.2.1 ≤ 4 ∧ Sm (4100 - s.2.2.1.toNat) 3 s.1 ∧ s.2.2.2.1 = b' ∧ Cu b' s.2.2.2.2.1) ?_ _ ⟨by simp only; omega, by simp only; omega, sp.mono (by simp only; omega) (Nat.le_refl _), rfl, hc'⟩)
 rintro ⟨p1, w1, k, b', i', h'⟩ ⟨k0, k4, s1, rfl, hc'⟩ G hG
 simp only at k0 k4 s1
 unfold L_spec_l08DrawRichx0
 refine OkG.bif (fun hk => ?_) (fun hk => OkG.val ⟨s1.mono (by omega) (Nat.le_refl _), rfl, hc'⟩)
 have hk' : k > 0 := of_decide_eq_true hk
 refine OkG.join (fun s => Sm (4100 - (k - 1).toNat) 3 s.1 ∧ s.2.2.1 = b' ∧ Cu b' s.2.2.2.1) ?_ ?_
 ·refine OkG.call (pick_ok hc' _ (by simp)) ?_
  rintro ⟨v, b', i', h'⟩ ⟨rfl, hc', _⟩
  refine OkG.join (fun s => s.2.2.1.size ≤ 100 ∧ s.2.2.2.2.2.2.2.1.length ≤ 3 ∧ s.2.2.2.2.2.2.2.2.1 = b' ∧ Cu b' s.2.2.2.2.2.2.2.2.2.1) ?_ ?_
  ·refine OkG.bif (fun _ => ?_) (fun _ => OkG.bif (fun _ => ?_) (fun _ => OkG.bif (fun _ => ?_) (fun _ => OkG.bif (fun _ => ?_) (fun _ => ?_))))
   ·refine OkG.call (below_ok hc' _ _) ?_
    rintro ⟨r1, b', i', h'⟩ ⟨rfl, hc', _⟩
    refine OkG.call (below_ok hc' _ _) ?_
    rintro ⟨r2, b', i', h'⟩ ⟨rfl, hc', _⟩
    refine OkG.bif (fun _ => ?_) (fun _ => ?_)
    ·refine OkG.call (below_ok hc' _ _) ?_
     rintro ⟨r3, b', i', h'⟩ ⟨rfl, hc', _⟩
     exact OkG.val ⟨e100, by simp, rfl, hc'⟩
    ·exact OkG.val ⟨e100, by simp, rfl, hc'⟩
   ·refine OkG.join (fun s => s.2.1.size ≤ 100 ∧ s.2.2.2.2.2.2.1.length ≤ 3 ∧ s.2.2.2.2.2.2.2.1 = b' ∧ Cu b' s.2.2.2.2.2.2.2.2.1) ?_ ?_
    ·refine OkG.call (below_ok hc' _ 3) ?_
     rintro ⟨r1, b', i', h'⟩ ⟨rfl, hc', hr, hr'⟩
     have hr3 := hr' (by decide)
     simp only at hr hr3 ⊢
     have hw : IntKind.i64.wrap (1 + r1) = 1 + r1 := wrap_sml (by omega) (by omega)
     rw [hw]
     refine Ok.of (Ok.loop (S := Int × ByteArray × Int × Int × Int × Bool × List Int × Int × List Int × Int × Int) (fun s => s.2.2.2.2.2.2.2.1.toNat) (fun s => 0 ≤ s.2.2.2.2.2.2.2.1 ∧ s.2.2.2.2.2.2.2.1 + s.2.2.2.2.2.2.1.length ≤ 3 ∧ s.2.1.size ≤ 100 ∧ s.2.2.2.2.2.2.2.2.1 = b' ∧ Cu b' s.2.2.2.2.2.2.2.2.2.1) ?_ _ ⟨by simp only; omega, by simp; omega, e100, rfl, hc'⟩)
     rintro ⟨a1, a2, a3, a4, a5, a6, cs, j, b', i', h'⟩ ⟨j0, j3, n1, rfl, hc'⟩ G hG
     simp only at j0 j3
     unfold L_spec_l08DrawRichx1
     refine OkG.bif (fun hj => ?_) (fun hj => OkG.val ⟨n1, by simp only; omega, rfl, hc'⟩)
     have hj' : j > 0 := of_decide_eq_true hj
     refine OkG.call (below_ok hc' _ _) ?_
     rintro ⟨r3, b', i', h'⟩ ⟨rfl, hc', _⟩
     rw [apx_some (by simp; omega)]
     simp only [Option.bind_some]
     have hw : IntKind.i64.wrap (j - 1) = j - 1 := wrap_sml (by omega) (by omega)
     rw [hw]
     exact hG _ ⟨by simp only; omega, by simp; omega, n1, rfl, hc'⟩ (by simp only; omega)
    ·rintro ⟨a1, a2, a3, a4, a5, a6, cs, b', i', h'⟩ ⟨n1, n2, rfl, hc'⟩
     exact OkG.val ⟨n1, n2, rfl, hc'⟩
   ·refine OkG.call (below_ok hc' _ _) ?_
    rintro ⟨r1, b', i', h'⟩ ⟨rfl, hc', _⟩
    exact OkG.val ⟨e100, by simp, rfl, hc'⟩
   ·refine OkG.call (below_ok hc' _ _) ?_
    rintro ⟨r1, b', i', h'⟩ ⟨rfl, hc', _⟩
    exact OkG.val ⟨e100, by simp, rfl, hc'⟩
   ·exact OkG.val ⟨e100, by simp, rfl, hc'⟩
  ·rintro ⟨w, a1, a2, a3, a4, a5, a6, cs, b', i', h'⟩ ⟨n1, n2, rfl, hc'⟩
   unfold J_spec_l08DrawRichx2
   refine OkG.call (joined_ok (by simp) (Sm.flat2 (Sm.one (n := (a1, a2, a3, a4, a5, a6, cs, ())) n1 n2) s1) (by omega) (by decide)) ?_
   intro q hq
   exact OkG.val ⟨hq.mono (by omega) (Nat.le_refl _), rfl, hc'⟩
 ·rintro ⟨p2, w2, b', i', h'⟩ ⟨s2, rfl, hc'⟩
  unfold J_spec_l08DrawRichx1
  have hw : IntKind.i64.wrap (k - 1) = k - 1 := wrap_sml (by omega) (by omega)
  rw [hw]
  exact hG _ ⟨by simp only; omega, by simp only; omega, s2, rfl, hc'⟩ (by simp only; omega)))
theorem liftL_sm {c : Nat} : ∀ (l : List Nd) (i : Nat), (∀ n ∈ l, n.2.1.size ≤ 100 ∧ n.2.2.2.2.2.2.1.length ≤ c) → ∀ n ∈ liftL l i, n.2.1.size ≤ 100 ∧ n.2.2.2.2.2.2.1.length ≤ c
 | [], i, h, n, hn => by simp [liftL] at hn
 | m :: l, i, h, n, hn => by
  have hm := h m (by simp)
  have hl : ∀ n ∈ l, n.2.1.size ≤ 100 ∧ n.2.2.2.2.2.2.1.length ≤ c := fun n hn => h n (by simp [hn])
  simp only [liftL] at hn
  split at hn
  ·rcases List.mem_cons.1 hn with rfl | hn
   ·exact hm
   ·exact liftL_sm l _ hl n hn
  ·rcases List.mem_cons.1 hn with rfl | hn
   ·exact hm
   ·exact liftL_sm l _ hl n hn
theorem Sm.lift {N c : Nat} {p : List Nd} (h : Sm N c p) : Sm N c (liftL p 0) := ⟨by rw [liftL_len]; exact h.len, liftL_sm p 0 h.nodes⟩
theorem slots_ok {b : List Int} {i : Int} (hc : Cu b i) (h : Int) {p : List SNode} {N c : Nat} (hp : Sm N c p) (h1 : N ≤ 1073741824) (h2 : c ≤ 1073741824) : Ok (F_spec_l08DrawSlots b i h p) (PnQ b N c) := (U_spec_l08DrawSlots b i h p).ok (OkG.out (by
 refine OkG.join (fun s => s.2.1 = b ∧ Cu b s.2.2.1) ?_ (fun s hs => OkG.val ⟨hp, hs.1, hs.2⟩)
 refine OkG.call (once_ok hc h 3) ?_
 rintro ⟨r, b', i', h'⟩ ⟨rfl, hc'⟩
 refine OkG.bif (fun _ => ?_) (fun _ => OkG.val ⟨rfl, hc'⟩)
 rw [V_spec_Lift (hp.bplan h1 h2)]
 simp only [Option.bind_some]
 refine OkG.bif (fun hl => ?_) (fun _ => OkG.val ⟨rfl, hc'⟩)
 refine OkG.val ⟨?_, rfl, hc'⟩
 unfold lift at hl ⊢
 split at hl
 ·rename_i hcl
  rw [if_pos hcl]
  exact hp.lift
 ·cases hl))
theorem Sm.set {N c : Nat} {p : List Nd} (h : Sm N c p) (k : Nat) {n : Nd} (hn : n.2.1.size ≤ 100 ∧ n.2.2.2.2.2.2.1.length ≤ c) : Sm N c (p.set k n) := ⟨by simpa using h.len, fun m hm => (List.mem_or_eq_of_mem_set hm).elim (h.nodes m) (fun e => e ▸ hn)⟩
theorem tkx_ok {T : Type} {l : List T} {r : Int} (h0 : 0 ≤ r) (h1 : r ≤ l.length) : tkx l r = some (l.take r.toNat) := by simp [tkx, h0, h1]
theorem break_ok {b : List Int} {i : Int} (hc : Cu b i) (h : Int) {p : List SNode} {N c : Nat} (hp : Sm N c p) (h1 : N ≤ 1073741824) (h2 : c ≤ 1073741824) : Ok (F_spec_l02Break b i h p) (PnQ b (N + 1) (c + 1)) := (U_spec_l02Break b i h p).ok (OkG.out (by
 have hpl := hp.len
 have hp' : Sm (N + 1) (c + 1) p := hp.mono (by omega) (by omega)
 refine OkG.join (fun s => (s.1 = false → p ≠ []) ∧ s.2.1 = b ∧ Cu b s.2.2.1) ?_ ?_
 ·refine OkG.call (once_ok hc h 8) ?_
  rintro ⟨r, b', i', h'⟩ ⟨rfl, hc'⟩
  refine OkG.bif (fun _ => OkG.val ⟨fun h => (by cases h), rfl, hc'⟩) (fun _ => OkG.val ⟨fun h hp0 => ?_, rfl, hc'⟩)
  rw [hp0] at h
  simp at h
 rintro ⟨e, b', i', h'⟩ ⟨he, rfl, hc'⟩
 unfold J_spec_l02Breakx0
 refine OkG.bif (fun _ => OkG.val ⟨hp', rfl, hc'⟩) (fun hf => ?_)
 have hpos : 0 < p.length := List.length_pos_iff.2 (he hf)
 refine OkG.call (below_ok hc' _ _) ?_
 rintro ⟨k, b', i', h'⟩ ⟨rfl, hc', k0, k1⟩
 have k1' := k1 (by omega)
 simp only at k0 k1' ⊢
 obtain ⟨n, en, hn⟩ := ix_ex k0 k1'
 have hnn := hp.nodes n hn
 simp only [en, Option.bind_some]
 refine OkG.call (below_ok hc' _ _) ?_
 rintro ⟨r7, b', i', h'⟩ ⟨rfl, hc', _⟩
 refine OkG.bif (fun _ => ?_) (fun _ => OkG.bif (fun _ => ?_) (fun _ => OkG.bif (fun _ => ?_) (fun _ => OkG.bif (fun _ => ?_) (fun _ => OkG.bif (fun _ => ?_) (fun _ => OkG.bif (fun _ => ?_) (fun _ => OkG.bif (fun _ => ?_) (fun _ => ?_)))))))
 ·refine OkG.call (below_ok hc' _ _) ?_
  rintro ⟨r, b', i', h'⟩ ⟨rfl, hc', _⟩
  exact OkG.val ⟨hp'.set _ ⟨hnn.1, Nat.le_succ_of_le hnn.2⟩, rfl, hc'⟩
 ·refine OkG.call (pick_ok hc' _ (by simp)) ?_
  rintro ⟨r, b', i', h'⟩ ⟨rfl, hc', _⟩
  exact OkG.val ⟨hp'.set _ ⟨hnn.1, Nat.le_succ_of_le hnn.2⟩, rfl, hc'⟩
 ·refine OkG.call (pick_ok hc' _ (by simp)) ?_
  rintro ⟨r, b', i', h'⟩ ⟨rfl, hc', _⟩
  exact OkG.val ⟨hp'.set _ ⟨hnn.1, Nat.le_succ_of_le hnn.2⟩, rfl, hc'⟩
 ·exact OkG.val ⟨hp'.set _ ⟨hnn.1, Nat.le_succ_of_le hnn.2⟩, rfl, hc'⟩
 ·rw [apx_some (by simp; omega)]
  simp only [Option.bind_some]
  exact OkG.val ⟨(hp.app (Sm.one hnn.1 hnn.2)).mono (Nat.le_refl _) (by omega), rfl, hc'⟩
 ·rw [tkx_ok k0 (by omega)]
  simp only [Option.bind_some]
  exact OkG.val ⟨⟨by simp; omega, fun m hm => hp'.nodes m (List.mem_of_mem_take hm)⟩, rfl, hc'⟩
 ·have := hnn.2
  rw [bind2, Option.bind_some, apx_some (by simp; omega)]
  simp only [Option.bind_some]
  rw [inx_some k0 k1', eqix]
  simp only [Option.bind_some, decide_true, cond_true, en]
  exact OkG.val ⟨hp'.set _ ⟨hnn.1, by simp; omega⟩, rfl, hc'⟩
 ·exact OkG.val ⟨hp', rfl, hc'⟩))
end Go.Proofs.YtficimgbanaafaaGreatX
namespace Go.Proofs.YtficimgbanaafaaGreatX
open Go Go.Proofs.YtficimgbanaafaaGreatT PT
set_option linter.all false
structure Ss (N c : Nat) (s : List Tb) : Prop where
 len : s.length ≤ N
 names : ∀ t ∈ s, t.1.size ≤ c
theorem Ss.mono {N M c d : Nat} {p : List Tb} (h : Ss N c p) (h1 : N ≤ M) (h2 : c ≤ d) : Ss M d p := ⟨Nat.le_trans h.len h1, fun n hn => Nat.le_trans (h.names n hn) h2⟩
theorem Ss.bsch {N c : Nat} {s : List Tb} (h : Ss N c s) (h1 : N ≤ 1073741824) (h2 : c ≤ 1073741824) : BSch s := ⟨Nat.le_trans h.len h1, fun n hn => by have := h.names n hn; omega⟩
theorem Ss.set {N c : Nat} {p : List Tb} (h : Ss N c p) (k : Nat) {n : Tb} (hn : n.1.size ≤ c) : Ss N c (p.set k n) := ⟨by simpa using h.len, fun m hm => (List.mem_or_eq_of_mem_set hm).elim (h.names m) (fun e => e ▸ hn)⟩
def tabs3 : List Tb := [((⟨#[116, 49]⟩ : ByteArray), (2, ())), ((⟨#[116, 50]⟩ : ByteArray), (3, ())), ((⟨#[116, 51]⟩ : ByteArray), (1, ()))]
theorem tabs3_ok : Ss 3 2 tabs3 := ⟨by decide, by
 intro t ht
 simp only [tabs3, List.mem_cons, List.not_mem_nil, or_false] at ht
 rcases ht with rfl | rfl | rfl <;> decide⟩
theorem tables_ok : F_spec_l03Tables = some tabs3 := U_spec_l03Tables.out rfl
theorem num_ok {a : Int} (h0 : 0 ≤ a) (h1 : a ≤ 100) : Ok (F_spec_l01Num a) (fun t => t.size ≤ 101) := (U_spec_l01Num a).ok (OkG.out (by
 refine OkG.bif (fun _ => OkG.val (by decide)) (fun hz => ?_)
 refine OkG.join (fun t => t.size ≤ 101) (Ok.of (Ok.loop (S := Int × ByteArray) (fun s => s.1.toNat) (fun s => 0 ≤ s.1 ∧ s.1 ≤ 100 ∧ s.2.size + s.1 ≤ 101) ?_ _ ⟨h0, h1, ?_⟩)) ?_
 ·rintro ⟨v, t⟩ ⟨v0, v1, ht⟩ G hG
  simp only at v0 v1 ht
  unfold L_spec_l01Numx0
  refine OkG.bif (fun h => ?_) (fun h => OkG.val (by simp only; omega))
  have hv : v ≠ 0 := by rintro rfl; simp at h
  rw [remx_ps v0 (by decide)]
  simp only [Option.bind_some]
  refine OkG.join (fun _ => True) (OkG.bif (fun _ => OkG.val trivial) (fun _ => OkG.val trivial)) ?_
  intro d _
  unfold J_spec_l01Numx1
  have hsz : (bsOf [IntKind.u8.wrap (IntKind.i64.wrap (48 + d))]).size = 1 := rfl
  have ha : ∃ z, addx (bsOf [IntKind.u8.wrap (IntKind.i64.wrap (48 + d))]) t = some z ∧ z.size = 1 + t.size := by
   unfold addx
   rw [show Nat.ble ((bsOf [IntKind.u8.wrap (IntKind.i64.wrap (48 + d))]).size + t.size) 4611686018427387904 = true from by rw [hsz, Nat.ble_eq]; omega]
   exact ⟨_, rfl, by rw [ByteArray.size_append, hsz]⟩
  obtain ⟨z, hz, hzs⟩ := ha
  rw [hz, quox_some v0 (by omega) (by decide)]
  simp only [Option.bind_some]
  exact hG _ ⟨by simp only; omega, by simp only; omega, by simp only; omega⟩ (by simp only; omega)
 ·show ((0 : Nat) : Int) + a ≤ 101
  omega
 ·intro t ht
  unfold J_spec_l01Numx0
  refine OkG.bif (fun h => ?_) (fun _ => OkG.val ht)
  have := of_decide_eq_true h
  omega))
theorem schema_ok {b : List Int} {i : Int} (hc : Cu b i) (h : Int) : Ok (F_spec_l03DrawSchema b i h) (fun y => Ss 9 200 y.1 ∧ y.2.1 = b ∧ Cu b y.2.2.1) := (U_spec_l03DrawSchema b i h).ok (OkG.out (by
 have h3 : Ss 9 200 tabs3 := tabs3_ok.mono (by decide) (by decide)
 have hl3 : tabs3.length = 3 := rfl
 rw [tables_ok]
 simp only [Option.bind_some]
 refine OkG.join (fun y => Ss 9 200 y.1 ∧ y.2.1 = b ∧ Cu b y.2.2.1) ?_ (fun s hs => OkG.val hs)
 refine OkG.call (once_ok hc h 6) ?_
 rintro ⟨r, b', i', h'⟩ ⟨rfl, hc'⟩
 refine OkG.bif (fun _ => ?_) (fun _ => OkG.val ⟨h3, rfl, hc'⟩)
 refine OkG.call (below_ok hc' _ 3) ?_
 rintro ⟨k, b', i', h'⟩ ⟨rfl, hc', k0, k1⟩
 have k1' := k1 (by decide)
 simp only at k0 k1' ⊢
 obtain ⟨n, en, hn⟩ := ix_ex (l := tabs3) k0 (by rw [hl3]; exact k1')
 simp only [en, Option.bind_some]
 refine OkG.call (below_ok hc' _ _) ?_
 rintro ⟨r4, b', i', h'⟩ ⟨rfl, hc', _⟩
 refine OkG.bif (fun _ => ?_) (fun _ => OkG.bif (fun _ => ?_) (fun _ => OkG.bif (fun _ => ?_) (fun _ => OkG.bif (fun _ => ?_) (fun _ => ?_))))
 ·refine OkG.call (pick_ok hc' _ (by simp)) ?_
  rintro ⟨r, b', i', h'⟩ ⟨rfl, hc', _⟩
  exact OkG.val ⟨h3.set _ (h3.names n hn), rfl, hc'⟩
 ·refine OkG.call (pickT_ok hc' _ (by simp)) ?_
  rintro ⟨t, b', i', h'⟩ ⟨rfl, hc', ht⟩
  refine OkG.val ⟨h3.set _ ?_, rfl, hc'⟩
  simp only [List.mem_cons, List.not_mem_nil, or_false] at ht
  show t.size ≤ 200
  rcases ht with rfl | rfl | rfl | rfl <;> decide
 ·rw [tkx_ok k0 (by rw [hl3]; omega)]
  simp only [Option.bind_some]
  exact OkG.val ⟨⟨by simp [hl3]; omega, fun m hm => h3.names m (List.mem_of_mem_take hm)⟩, rfl, hc'⟩
 ·refine Ok.of (Ok.loop (S := List STable × List Int × Int × Int) (fun s => 9 - s.1.length) (fun s => Ss 9 200 s.1 ∧ s.2.1 = b' ∧ Cu b' s.2.2.1) ?_ _ ⟨h3, rfl, hc'⟩)
  rintro ⟨s, b', i', h'⟩ ⟨hs, rfl, hc'⟩ G hG
  simp only at hs
  have hsl := hs.len
  unfold L_spec_l03DrawSchemax0
  refine OkG.call (below_ok hc' _ 2) ?_
  rintro ⟨r2, b', i', h'⟩ ⟨rfl, hc', q0, q1⟩
  have q1' := q1 (by decide)
  simp only at q0 q1' ⊢
  have hw : IntKind.i64.wrap (8 + r2) = 8 + r2 := wrap_sml (by omega) (by omega)
  rw [hw]
  refine OkG.bif (fun hb => ?_) (fun _ => OkG.val ⟨hs, rfl, hc'⟩)
  have hb' := of_decide_eq_true hb
  refine OkG.call (num_ok (by omega) (by omega)) ?_
  intro t ht
  have ha : ∃ z, addx (⟨#[122]⟩ : ByteArray) t = some z ∧ z.size = 1 + t.size := by
   have hsz : (⟨#[122]⟩ : ByteArray).size = 1 := rfl
   unfold addx
   rw [show Nat.ble ((⟨#[122]⟩ : ByteArray).size + t.size) 4611686018427387904 = true from by rw [hsz, Nat.ble_eq]; omega]
   exact ⟨_, rfl, by rw [ByteArray.size_append, hsz]⟩
  obtain ⟨z, hz, hzs⟩ := ha
  rw [hz]
  simp only [Option.bind_some]
  rw [apx_some (by simp; omega)]
  simp only [Option.bind_some]
  refine hG _ ⟨⟨by simp; omega, ?_⟩, rfl, hc'⟩ (by simp; omega)
  intro m hm
  rcases List.mem_append.1 hm with hm | hm
  ·exact hs.names m hm
  ·rw [List.mem_singleton.1 hm]; simp only; omega
 ·exact OkG.val ⟨h3, rfl, hc'⟩))
theorem draw8_ok {code : List Int} (hl : code.length ≤ 1073741824) : Ok (F_spec_l08Draw code) (fun y => y.1 = code ∧ Cu code y.2.1 ∧ Ss 9 200 y.2.2.2.1 ∧ Sm 4101 4 y.2.2.2.2) := (U_spec_l08Draw code).ok (OkG.out (by
 have h3 : Ss 9 200 tabs3 := tabs3_ok.mono (by decide) (by decide)
 refine OkG.call (new_ok hl) ?_
 rintro ⟨b', i', h'⟩ ⟨rfl, hc'⟩
 rw [tables_ok]
 simp only [Option.bind_some]
 refine OkG.join (fun s => Ss 9 200 s.1 ∧ s.2.1 = b' ∧ Cu b' s.2.2.1) ?_ ?_
 ·refine OkG.call (once_ok hc' _ 15) ?_
  rintro ⟨r, b', i', h'⟩ ⟨rfl, hc'⟩
  refine OkG.bif (fun _ => ?_) (fun _ => OkG.val ⟨h3, rfl, hc'⟩)
  refine OkG.call (schema_ok hc' _) ?_
  rintro ⟨s, b', i', h'⟩ ⟨hs, rfl, hc'⟩
  exact OkG.val ⟨hs, rfl, hc'⟩
 ·rintro ⟨s, b', i', h'⟩ ⟨hs, rfl, hc'⟩
  unfold J_spec_l08Drawx0
  refine OkG.call (rich_ok hc' _ hl) ?_
  rintro ⟨p, b', i', h'⟩ ⟨hp, rfl, hc'⟩
  refine OkG.call (slots_ok hc' _ hp (by decide) (by decide)) ?_
  rintro ⟨p2, b', i', h'⟩ ⟨hp2, rfl, hc'⟩
  refine OkG.call (once_ok hc' _ 15) ?_
  rintro ⟨r, b', i', h'⟩ ⟨rfl, hc'⟩
  refine OkG.bif (fun _ => ?_) (fun _ => OkG.val ⟨rfl, hc', hs, hp2.mono (by decide) (by decide)⟩)
  refine OkG.call (break_ok hc' _ hp2 (by decide) (by decide)) ?_
  rintro ⟨p3, b', i', h'⟩ ⟨hp3, rfl, hc'⟩
  exact OkG.val ⟨rfl, hc', hs, hp3⟩))
end Go.Proofs.YtficimgbanaafaaGreatX
namespace Go.Proofs.YtficimgbanaafaaGreatX
open Go Go.Proofs.YtficimgbanaafaaGreatT PT
set_option linter.all false
theorem V_impl_ApplyStep {s : List STable} (hs : BSch s) {p : List SNode} (hp : BPlan p) (x : SStep) : F_impl_ApplyStep s p x = some (if typedOk s p = true then applyM s p x else (p, false)) := (U_impl_ApplyStep s p x).out (by
 simp only [V_impl_TypedOk hs hp, V_impl_own hp, Option.bind_some]
 cases hty : typedOk s p with
 | false => simp
 | true =>
  obtain ⟨t, rfl, ht⟩ := typedOk_iff.1 hty
  simp [V_impl_apply ht])
theorem nodeOk_cols6 {n : Nd} (h : nodeOk n = true) : n.2.2.2.2.2.2.1.length ≤ 6 := by
 obtain ⟨k, name, col, op, num, slot, cols, u⟩ := n
 simp only [nodeOk] at h
 simp only [Bool.and_eq_true] at h
 obtain ⟨⟨⟨⟨_, h2⟩, _⟩, _⟩, h5⟩ := h
 by_cases hk : k = 2
 ·subst hk
  rw [if_neg (by decide), if_neg (by decide), if_pos rfl] at h5
  simp only [Bool.and_eq_true] at h5
  have := okIn_iff.1 h5.1.1.1.2
  simp only; omega
 ·simp [hk] at h2
  simp [h2]
theorem typed_bp2 {s : List Tb} {p : List Nd} (h : typedOk s p = true) : BP2 p := by
 obtain ⟨t, rfl, ht⟩ := typedOk_iff.1 h
 refine ⟨ht.plan.bplan.len, fun n hn => ?_⟩
 have := nodeOk_cols6 (ht.plan.nodes n hn)
 omega
theorem Sm.bp2 {N c : Nat} {p : List Nd} (h : Sm N c p) (h1 : N ≤ 1073741824) (h2 : c ≤ 1073741824) : BP2 p := ⟨Nat.le_trans h.len h1, fun n hn => by have := (h.nodes n hn).2; omega⟩
theorem big_ok (code : List Int) : F_laws_big code = some (decide ((code.length : Int) > 1048576)) := (U_laws_big code).out rfl
end Go.Proofs.YtficimgbanaafaaGreatX
namespace Go.Proofs.YtficimgbanaafaaGreatX
open Go Go.Proofs.YtficimgbanaafaaGreatT PT
set_option linter.all false
inductive Chain (s : List Tb) (rules : List Int) : List Nd → List Sp → List Nd → Prop where
 | nil (p : List Nd) : Chain s rules p [] p
 | cons {p p' q : List Nd} {x : Sp} {xs : List Sp} (hp : typedOk s p = true) (ha : applyM s p x = (p', true)) (hr : hasR rules x = true) (h : Chain s rules p' xs q) : Chain s rules p (x :: xs) q
theorem settle_ch {s : List Tb} {rules : List Int} : ∀ (n : Nat) (p : List Nd) (st : List Sp), typedOk s p = true → ∃ xs q, settleM s rules n p st = (q, st ++ xs) ∧ Chain s rules p xs q ∧ xs.length ≤ n ∧ typedOk s q = true ∧ (xs.length < n → findI (hasR rules) (stepsM s q) 0 = none)
 | 0, p, st, hp => ⟨[], p, by simp [settleM], .nil p, by simp, hp, fun h => by simp at h⟩
 | n + 1, p, st, hp => by
  simp only [settleM]
  cases hf : findI (hasR rules) (stepsM s p) 0 with
  | none => exact ⟨[], p, by simp, .nil p, by simp, hp, fun _ => hf⟩
  | some j =>
   obtain ⟨x, hx, hr⟩ := findI_get hf
   simp only [hx]
   obtain ⟨_, h2⟩ := stepsM_mem (mem_of_get hx)
   have ha : applyM s p x = ((applyM s p x).1, true) := by rw [← h2]
   have ht := (applyM_typed hp ha).1
   obtain ⟨xs, q, e, hc, hl, hq, hn⟩ := settle_ch n (applyM s p x).1 (st ++ [x]) ht
   refine ⟨x :: xs, q, by rw [e]; simp, .cons hp ha hr hc, by simp; omega, hq, fun h => hn (by simp at h; omega)⟩
theorem Chain.rows {s : List Tb} {rules : List Int} {st : List Rows} (hst : storeOk s st = true) {p q : List Nd} {xs : List Sp} (h : Chain s rules p xs q) : rowsM s st q = rowsM s st p := by
 induction h with
 | nil p => rfl
 | cons hp ha hr h ih => rw [ih, step_rows hst hp ha]
theorem Chain.differs {s : List Tb} {rules : List Int} {p q : List Nd} {xs : List Sp} (h : Chain s rules p xs q) (n : Int) : differs s p q n = -1 := by
 unfold Go.Proofs.YtficimgbanaafaaGreatX.differs
 cases okIn n 0 50 with
 | false => rfl
 | true =>
  rw [cond_true, findI_none.2]
  ·rfl
  ·rw [List.any_eq_false]
   intro i _
   unfold diffP
   by_cases h1 : (evalPlan s (storeFrom s i) p).2 = 0
   ·by_cases h2 : (evalPlan s (storeFrom s i) q).2 = 0
    ·obtain ⟨a1, a2⟩ := eval_rows h1
     obtain ⟨_, b2⟩ := eval_rows h2
     simp [a2, b2, h.rows a1]
    ·simp [h2]
   ·simp [h1]
theorem turn_shrinks {s : List Tb} {r : Int} {u u' : PT} (hr : hasR [2, 3, 7, 8] (r, ((0 : Int), ())) = true) (h : turn s r u = some u') : u'.size ≤ u.size := by
 have hr' : r = 2 ∨ r = 3 ∨ r = 7 ∨ r = 8 := by
  simp [hasR] at hr
  omega
 cases u with
 | n0 n => cases h
 | n2 n a b => cases h
 | n1 n c =>
  simp only [turn] at h
  split at h
  rotate_left
  ·cases h
  cases c with
  | n0 m => cases h
  | n2 m d e =>
   rename_i hk
   simp only [turnC] at h
   rcases hr' with rfl | rfl | rfl | rfl
   ·simp only [show ¬ ((2 : Int) = 4) by decide, show ¬ ((2 : Int) = 5) by decide, if_false] at h
    split at h
    ·cases h
    ·cases h; simp [PT.size]; omega
   ·simp only [show ¬ ((3 : Int) = 4) by decide, show ¬ ((3 : Int) = 5) by decide, if_false] at h
    split at h
    ·cases h
    ·cases h; simp [PT.size]; omega
   ·simp only [show ¬ ((7 : Int) = 4) by decide, show ¬ ((7 : Int) = 5) by decide, if_false] at h
    split at h
    ·cases h
    ·cases h; simp [PT.size]; omega
   ·simp only [show ¬ ((8 : Int) = 4) by decide, show ¬ ((8 : Int) = 5) by decide, if_false] at h
    split at h
    ·cases h
    ·cases h; simp [PT.size]; omega
  | n1 m d =>
   simp only [turnC] at h
   rcases hr' with rfl | rfl | rfl | rfl
   ·simp only [if_true] at h
    split at h
    ·cases h
    ·cases h; simp [PT.size]
   ·simp only [show ¬ ((3 : Int) = 2) by decide, if_true, if_false] at h
    split at h
    ·cases h; simp [PT.size]
    ·cases h
   ·simp only [show ¬ ((7 : Int) = 2) by decide, show ¬ ((7 : Int) = 3) by decide, if_true, if_false] at h
    cases h; simp [PT.size]
   ·simp only [show ¬ ((8 : Int) = 2) by decide, show ¬ ((8 : Int) = 3) by decide, show ¬ ((8 : Int) = 7) by decide, if_true, if_false] at h
    cases h; simp [PT.size]
theorem put_size {t : PT} {k : Nat} {u v : PT} (h : (subs t)[k]? = some u) : (put t k v).size + u.size = t.size + v.size := by
 have h1 := congrArg List.length (put_flat (v := v) h)
 have h2 := (subs_at (At.root t) h).le
 simp only [len_flat, Nat.zero_add, List.length_append, List.length_take, List.length_drop] at h1 h2
 omega
theorem Chain.shrinks {s : List Tb} {p q : List Nd} {xs : List Sp} (h : Chain s [2, 3, 7, 8] p xs q) : q.length ≤ p.length := by
 induction h with
 | nil p => exact Nat.le_refl _
 | cons hp ha hr h ih =>
  refine Nat.le_trans ih ?_
  obtain ⟨t, rfl, ht⟩ := typedOk_iff.1 hp
  obtain ⟨k, u, u', _, hu, hu', rfl, _⟩ := applyM_tree ht ha
  have hsz := turn_shrinks (by simpa [hasR] using hr) hu'
  have := put_size (v := u') hu
  simp only [len_flat]
  omega
theorem nodesSaved_pos {s : List Tb} {p : List Nd} (hp : typedOk s p = true) : 0 ≤ nodesSaved s p := by
 obtain ⟨xs, q, e, hc, _⟩ := settle_ch (rules := [2, 3, 7, 8]) 20 p [] hp
 unfold nodesSaved
 rw [e]
 have := hc.shrinks
 simp only
 omega
theorem replay_ok {s : List STable} (hs : BSch s) {rules : List Int} {p q : List SNode} {xs : List SStep} (hp : BPlan p) (hl : xs.length ≤ 20) (h : Chain s rules p xs q) : F_impl_ReplaySteps s p xs = some (q, (xs.length : Int)) := (U_impl_ReplaySteps s p xs).out (by
 rw [V_impl_own hp, Option.bind_some]
 rw [show decide ((xs.length : Int) > 20) = false by simp; omega, cond_false]
 obtain ⟨x, e, hx⟩ := Ok.loop (Q := fun x : Ex (List SNode × Int) (List SNode × Int × List SNode) => match x with | .ret _ => False | .go s => s.2.2 = q)
  (f := fun f s' => L_impl_ReplayStepsx0 s xs f s'.1 s'.2.1 s'.2.2.1 s'.2.2.2) (S := List SNode × Int × List SNode × Int) (fun z => xs.length - z.2.2.2.toNat)
  (fun z => ∃ k : Nat, z.2.2.2 = k ∧ k ≤ xs.length ∧ Chain s rules z.2.2.1 (xs.drop k) q) (by
   rintro ⟨v2, v3, v4, v5⟩ ⟨k, hk, hkl, hc⟩ G hG
   simp only at hk hc ⊢
   subst hk
   unfold L_impl_ReplayStepsx0
   refine OkG.bif (fun hb => ?_) (fun hb => ?_)
   ·have hb' := of_decide_eq_true hb
    have hkl' : k < xs.length := by omega
    have hx := List.getElem?_eq_getElem hkl'
    rw [ix_some hx]
    rw [List.drop_eq_getElem_cons hkl'] at hc
    cases hc with
    | cons hp ha hr h =>
     rename_i p'
     simp only [Option.bind_some]
     rw [V_impl_ApplyStep hs (typed_bplan hp), if_pos hp]
     rw [show applyM s v4 (xs[k].1, (xs[k].2.1, ())) = applyM s v4 xs[k] from rfl, ha]
     simp only [Option.bind_some, Bool.not_true, cond_false]
     have hw : IntKind.i64.wrap ((k : Int) + 1) = ((k + 1 : Nat) : Int) := wrap_nat (by omega)
     rw [hw]
     exact hG _ ⟨k + 1, rfl, by omega, h⟩ (by simp only; omega)
   ·have hb' := of_decide_eq_false hb
    have : k = xs.length := by omega
    subst this
    rw [List.drop_length] at hc
    cases hc
    exact OkG.val rfl) ([], 0, p, 0) ⟨0, rfl, Nat.zero_le _, by simpa using h⟩
 rw [e]
 cases x with
 | ret r => exact hx.elim
 | go z => simp only at hx; simp [hx])
theorem cert_ok {s : List STable} (hs : BSch s) {rules : List Int} {p q : List SNode} {xs : List SStep} (hp : typedOk s p = true) (hq : typedOk s q = true) (hl : xs.length ≤ 20) (h : Chain s rules p xs q) : F_impl_CertOk s p q xs = some true := (U_impl_CertOk s p q xs).out (by
 have bp := typed_bplan hp
 rw [V_impl_TypedOk hs bp, hp]
 have : decide ((xs.length : Int) > 20) = false := by simp; omega
 simp [this, replay_ok hs bp hl h, V_impl_SamePlan (typed_bp2 hq)])
theorem depth_loop {p : List SNode} {l : List Int} (hl : l.length ≤ 100) (h : ∀ z ∈ l, Ok (F_impl_depth p z) fun _ => True) : Ok (loopF (fun f s => L_impl_depthx0 p l f s.1 s.2) (0, 0)) (fun x => match x with | .ret _ => True | .go _ => True) :=
 Ok.loop (S := Int × Int) (fun z => l.length - z.2.toNat) (fun z => 0 ≤ z.2 ∧ z.2 ≤ l.length) (by
  rintro ⟨v, i⟩ ⟨h0, h1⟩ G hG
  simp only at h0 h1
  unfold L_impl_depthx0
  refine OkG.bif (fun hb => ?_) (fun _ => OkG.val trivial)
  have hb' := of_decide_eq_true hb
  obtain ⟨z, hz, hm⟩ := ix_ex h0 hb'
  rw [hz]
  simp only [Option.bind_some]
  refine OkG.call (h z hm) ?_
  intro d _
  have hw : IntKind.i64.wrap (i + 1) = i + 1 := wrap_sml (by omega) (by omega)
  rw [hw]
  exact hG _ ⟨by simp only; omega, by simp only; omega⟩ (by simp only; omega)) _ ⟨by simp, by simp⟩
theorem depth_go {p : List SNode} {k : Nat} {l : List Int} (e : F_impl_children p k = some l) (hl : l.length ≤ 100) (h : ∀ z ∈ l, Ok (F_impl_depth p z) fun _ => True) : Ok (F_impl_depth p k) (fun _ => True) := (U_impl_depth p k).ok (OkG.out (by
 rw [e]
 simp only [Option.bind_some]
 exact OkG.join (fun _ => True) (OkG.mono (Ok.of (depth_loop hl h)) (fun x _ => by cases x <;> trivial)) (fun s _ => OkG.val trivial)))
theorem At.depth_ok {p : List SNode} (hp : Pl p) : ∀ (t : PT) (k : Nat), At p k t → Good t → Ok (F_impl_depth p k) (fun _ => True)
 | .n0 n, k, h, g => depth_go (h.V_children g hp) (by simp [kids]) (by intro z hz; simp [kids] at hz)
 | .n1 n a, k, h, g => depth_go (h.V_children g hp) (by simp [kids]) (by
  intro z hz
  simp only [kids, List.mem_cons, List.not_mem_nil, or_false] at hz
  subst hz
  exact At.depth_ok hp a _ h.c1 g.c1)
 | .n2 n a b, k, h, g => depth_go (h.V_children g hp) (by simp [kids]) (by
  intro z hz
  simp only [kids, List.mem_cons, List.not_mem_nil, or_false] at hz
  rcases hz with rfl | rfl
  ·exact At.depth_ok hp a _ h.l2 g.l2
  ·exact At.depth_ok hp b _ h.r2 g.r2)
theorem DepthOf_ok {s : List Tb} {q : List SNode} (hq : typedOk s q = true) : Ok (F_impl_DepthOf q) (fun _ => True) := (U_impl_DepthOf q).ok (OkG.out (by
 have bq := typed_bplan hq
 obtain ⟨t, rfl, ht⟩ := typedOk_iff.1 hq
 rw [V_impl_PlanOk bq]
 simp only [Option.bind_some]
 refine OkG.bif (fun _ => OkG.val trivial) (fun _ => ?_)
 refine OkG.call (At.depth_ok ht.plan.pl t 0 (At.root t) ht.plan.good) ?_
 intro d _
 exact OkG.val trivial))
end Go.Proofs.YtficimgbanaafaaGreatX
namespace Go.Proofs.YtficimgbanaafaaGreatX
open Go Go.Proofs.YtficimgbanaafaaGreatT PT
set_option linter.all false
theorem put_depth : ∀ {t : PT} {k : Nat} {u v : PT}, (subs t)[k]? = some u → v.depth ≤ u.depth → (put t k v).depth ≤ t.depth
 | .n0 n, 0, u, v, h, hd => by simp [subs] at h; subst h; simpa [put] using hd
 | .n1 n a, 0, u, v, h, hd => by simp [subs] at h; subst h; simpa [put] using hd
 | .n2 n a b, 0, u, v, h, hd => by simp [subs] at h; subst h; simpa [put] using hd
 | .n0 n, k + 1, u, v, h, hd => by simp [subs] at h
 | .n1 n a, k + 1, u, v, h, hd => by
  have h' : (subs a)[k]? = some u := by simpa [subs] using h
  have := put_depth h' hd
  simp only [put, PT.depth]
  omega
 | .n2 n a b, k + 1, u, v, h, hd => by
  have h' : (subs a ++ subs b)[k]? = some u := by simpa [subs] using h
  simp only [put]
  by_cases hk : k < a.size
  ·rw [if_pos hk]
   rw [List.getElem?_append_left (by simpa using hk)] at h'
   have := put_depth h' hd
   simp only [PT.depth]
   omega
  ·rw [if_neg hk]
   rw [List.getElem?_append_right (by simp; omega), subs_len] at h'
   have := put_depth h' hd
   simp only [PT.depth]
   omega
theorem can_do {s : List Tb} {t : PT} (ht : Typed s t) {k : Nat} {u u' : PT} {r : Int} (hu : (subs t)[k]? = some u) (hu' : turn s r u = some u') (hs : u'.size ≤ u.size) (hd : u'.depth ≤ u.depth) (hn : ∀ n ∈ u'.flat, nodeOk n = true) :
  (applyM s t.flat (r, ((k : Int), ()))).2 = true := by
 have hm := mem_of_get hu
 have g := subs_good ht.plan.good hm
 have w := subs_w ht.w hm
 obtain ⟨hok, hw⟩ := turn_w g w hu'
 have h1 := put_size (v := u') hu
 have h2 := put_depth hu hd
 have hP : PlanT (put t k u') := by
  refine ⟨put_ok ht.plan.ok hok, Nat.le_trans h2 ht.plan.deep, by have := ht.plan.size; omega, fun n hn' => ?_⟩
  rw [put_flat hu] at hn'
  rcases List.mem_append.1 hn' with h | h
  ·exact ht.plan.nodes n (List.mem_of_mem_take h)
  ·rcases List.mem_append.1 h with h | h
   ·exact hn n h
   ·exact ht.plan.nodes n (List.mem_of_mem_drop h)
 unfold applyM
 simp only [Int.natCast_nonneg, if_true, planT_flat ht.plan, Int.toNat_natCast, hu, hu']
 rw [← put_flat hu, if_pos (planOk_iff.2 ⟨_, hP, rfl⟩)]
theorem nodeOk_colN {n : Nd} (h : nodeOk n = true) (hk : n.1 = 1) {c : Int} (h0 : 0 ≤ c) (h1 : c ≤ 63) : nodeOk (colN n c) = true := by
 obtain ⟨k, name, col, op, num, slot, cols, u⟩ := n
 simp only at hk
 subst hk
 simp only [nodeOk, colN] at h ⊢
 simp only [show ¬ ((1 : Int) = 0) by decide, if_false, if_true] at h ⊢
 simp only [Bool.and_eq_true] at h ⊢
 obtain ⟨a, ⟨⟨_, b⟩, c'⟩, d⟩ := h
 exact ⟨a, ⟨⟨okIn_iff.2 ⟨h0, h1⟩, b⟩, c'⟩, d⟩
theorem nodeOk_keepC {n : Nd} (h : nodeOk n = true) (hk : n.1 = 2) : ∀ c ∈ n.2.2.2.2.2.2.1, 0 ≤ c ∧ c ≤ 63 := by
 obtain ⟨k, name, col, op, num, slot, cols, u⟩ := n
 simp only at hk
 subst hk
 simp only [nodeOk] at h
 simp only [show ¬ ((2 : Int) = 0) by decide, show ¬ ((2 : Int) = 1) by decide, if_false, if_true] at h
 simp only [Bool.and_eq_true] at h
 intro c hc
 exact okIn_iff.1 (List.all_eq_true.1 h.2.1.1.1.1 c hc)
theorem low_step {s : List Tb} {q : List Nd} (hq : typedOk s q = true) {k : Nat} {a b : Nd} (ha : q[k]? = some a) (hb : q[k + 1]? = some b) (hf : a.1 = 1) (hk : b.1 = 5 ∨ b.1 = 3 ∨ b.1 = 2) :
  ∃ x ∈ stepsM s q, hasR [1, 4, 5, 6, 10] x = true := by
 have hq' := hq
 obtain ⟨t, rfl, ht⟩ := typedOk_iff.1 hq
 have hkl : k < (subs t).length := by
  have := (List.getElem?_eq_some_iff.1 ha).1
  simpa using this
 obtain ⟨u, hu⟩ : ∃ u, (subs t)[k]? = some u := ⟨_, List.getElem?_eq_getElem hkl⟩
 have hat : At t.flat k u := by simpa using subs_at (At.root t) hu
 have hm := mem_of_get hu
 have g := subs_good ht.plan.good hm
 have w := subs_w ht.w hm
 have e1 : u.hd = a := by have := hat.hd; rw [ha] at this; exact (Option.some.inj this).symm
 have key : ∀ (r : Int) (u' : PT), (r = 1 ∨ r = 5 ∨ r = 6 ∨ r = 10) → turn s r u = some u' → u'.size ≤ u.size → u'.depth ≤ u.depth → (∀ n ∈ u'.flat, nodeOk n = true) → ∃ x ∈ stepsM s t.flat, hasR [1, 4, 5, 6, 10] x = true := by
  intro r u' hr h1 h2 h3 h4
  have hdo := can_do ht hu h1 h2 h3 h4
  refine ⟨(r, ((k : Int), ())), ?_, ?_⟩
  ·unfold stepsM
   rw [if_pos hq']
   refine List.mem_flatMap.2 ⟨k, by simp; simpa using hkl, ?_⟩
   unfold stepsRow
   refine List.mem_map.2 ⟨r.toNat, List.mem_filter.2 ⟨by simp; omega, ?_⟩, ?_⟩
   ·rw [show ((r.toNat : Nat) : Int) = r by omega]; exact hdo
   ·rw [show ((r.toNat : Nat) : Int) = r by omega]
  ·simp only [hasR, List.any_cons, List.any_nil, Bool.or_false]
   rcases hr with rfl | rfl | rfl | rfl <;> simp
 cases u with
 | n0 n => have := g.ok; simp only [PT.ok] at this; simp only [PT.hd] at e1; subst e1; rw [hf] at this; exact absurd this (by decide)
 | n2 n c d => have := g.ok.1; simp only [PT.hd] at e1; subst e1; rw [hf] at this; exact absurd this (by decide)
 | n1 n c =>
  simp only [PT.hd] at e1
  subst e1
  have e2 : c.hd = b := by have := hat.c1.hd; rw [hb] at this; exact (Option.some.inj this).symm
  have gc := g.c1
  have hnn : nodeOk n = true := g.nodes n (by simp [PT.flat])
  have hcol := nodeOk_filter hnn hf
  rcases shapes g with ⟨m, rfl, har⟩ | ⟨m, d, rfl, har⟩ | ⟨m, d, e, rfl, har⟩
  ·simp only [PT.hd] at e2; subst e2
   rcases hk with h | h | h <;> rw [h] at har <;> exact absurd har (by decide)
  ·simp only [PT.hd] at e2; subst e2
   have hmm : nodeOk m = true := gc.nodes m (by simp [PT.flat])
   have hdd : ∀ x ∈ d.flat, nodeOk x = true := fun x hx => gc.nodes x (by simp [PT.flat, hx])
   rcases hk with h | h | h
   ·refine key 1 (.n1 m (.n1 n d)) (.inl rfl) ?_ (by simp [PT.size]) (by simp [PT.depth]) ?_
    ·simp [turn, ovr, PT.hd, hf, h, turnC]
    ·intro x hx
     simp only [PT.flat, List.mem_cons] at hx
     rcases hx with rfl | rfl | hx
     ·exact hmm
     ·exact hnn
     ·exact hdd x hx
   ·rw [h] at har; exact absurd har (by decide)
   ·refine key 10 (.n1 m (.n1 (colN n (pick m.2.2.2.2.2.2.1 n.2.2.1)) d)) (.inr (.inr (.inr rfl))) ?_ (by simp [PT.size]) (by simp [PT.depth]) ?_
    ·simp [turn, ovr, PT.hd, hf, h, turnC]
    ·have hlt : n.2.2.1 < (m.2.2.2.2.2.2.1.length : Int) := by
      have := wT_col w hf
      rwa [wT_keepw (subs_w (t := .n1 n (.n1 m d)) w (by simp [subs])) h] at this
     have hp := pick_some hcol.1 hlt
     have hpm : pick m.2.2.2.2.2.2.1 n.2.2.1 ∈ m.2.2.2.2.2.2.1 := by
      obtain ⟨x, hx, hm⟩ := ix_ex hcol.1 hlt
      rw [hx] at hp
      rw [← Option.some.inj hp]; exact hm
     have hpc := nodeOk_keepC hmm h _ hpm
     intro x hx
     simp only [PT.flat, List.mem_cons] at hx
     rcases hx with rfl | rfl | hx
     ·exact hmm
     ·exact nodeOk_colN hnn hf hpc.1 hpc.2
     ·exact hdd x hx
  ·simp only [PT.hd] at e2; subst e2
   have hmm : nodeOk m = true := gc.nodes m (by simp [PT.flat])
   have hdd : ∀ x ∈ d.flat, nodeOk x = true := fun x hx => gc.nodes x (by simp [PT.flat, hx])
   have hee : ∀ x ∈ e.flat, nodeOk x = true := fun x hx => gc.nodes x (by simp [PT.flat, hx])
   rcases hk with h | h | h
   ·rw [h] at har; exact absurd har (by decide)
   ·by_cases hl : n.2.2.1 < oint (wT s d)
    ·refine key 5 (.n2 m (.n1 n d) e) (.inr (.inl rfl)) ?_ (by simp [PT.size]; omega) (by simp [PT.depth]; omega) ?_
     ·simp [turn, ovr, PT.hd, hf, h, turnC, hl]
     ·intro x hx
      simp only [PT.flat, List.mem_cons, List.mem_append] at hx
      rcases hx with rfl | (rfl | hx) | hx
      ·exact hmm
      ·exact hnn
      ·exact hdd x hx
      ·exact hee x hx
    ·refine key 6 (.n2 m d (.n1 (colN n (n.2.2.1 - oint (wT s d))) e)) (.inr (.inr (.inl rfl))) ?_ (by simp [PT.size]; omega) (by simp [PT.depth]; omega) ?_
     ·simp [turn, ovr, PT.hd, hf, h, turnC, hl]
     ·have hw0 : 0 ≤ oint (wT s d) := by
       obtain ⟨wd, hwd⟩ := Option.isSome_iff_exists.1 (subs_w (t := .n1 n (.n2 m d e)) w (u := d) (by cases d <;> simp [subs]))
       have := wT_range ht.sch gc.l2 hwd
       rw [hwd]
       simp only [oint]
       omega
      intro x hx
      simp only [PT.flat, List.mem_cons, List.mem_append] at hx
      rcases hx with rfl | hx | (rfl | hx)
      ·exact hmm
      ·exact hdd x hx
      ·exact nodeOk_colN hnn hf (by omega) (by omega)
      ·exact hee x hx
   ·rw [h] at har; exact absurd har (by decide)
end Go.Proofs.YtficimgbanaafaaGreatX
namespace Go.Proofs.YtficimgbanaafaaGreatX
open Go Go.Proofs.YtficimgbanaafaaGreatT
set_option linter.all false
def CNd (n : Nd) : Prop := n.2.2.2.2.2.2.1.length ≤ 1073741824
end Go.Proofs.YtficimgbanaafaaGreatX
namespace Go.Proofs.YtficimgbanaafaaGreatX
open Go Go.Proofs.YtficimgbanaafaaGreatT
set_option linter.all false
structure COp (o : Opn) : Prop where
 l1 : o.2.1.length ≤ 1073741824
 c1 : ∀ n ∈ o.2.1, CNd n
 l2 : o.2.2.1.length ≤ 1073741824
 c2 : ∀ n ∈ o.2.2.1, CNd n
 l3 : o.2.2.2.1.length ≤ 1073741824
end Go.Proofs.YtficimgbanaafaaGreatX
namespace Go.Proofs.YtficimgbanaafaaGreatX
open Go Go.Proofs.YtficimgbanaafaaGreatT
set_option linter.all false
structure CEn (e : En) : Prop where
 l1 : e.2.1.length ≤ 1073741824
 c1 : ∀ n ∈ e.2.1, CNd n
 l2 : e.2.2.1.length ≤ 1073741824
 c2 : ∀ n ∈ e.2.2.1, CNd n
end Go.Proofs.YtficimgbanaafaaGreatX
namespace Go.Proofs.YtficimgbanaafaaGreatX
open Go Go.Proofs.YtficimgbanaafaaGreatT
set_option linter.all false
theorem wl_ByteS {n : Nat} {x : List Int} (h : wfT (.sl n (.int .u8)) x) : x.length ≤ maxLen := h.1
end Go.Proofs.YtficimgbanaafaaGreatX
namespace Go.Proofs.YtficimgbanaafaaGreatX
open Go Go.Proofs.YtficimgbanaafaaGreatT
set_option linter.all false
theorem low_ok {code : List Int} (hl : code.length ≤ 1073741824) : Ok (F_spec_DrawFiltersLow code) (fun y => Ss 9 200 y.1 ∧ Sm 4101 4 y.2) := (U_spec_DrawFiltersLow code).ok (OkG.out (by
 have h : Ok (F_spec_DrawStepsAt code) (fun y => Ss 9 200 y.1 ∧ Sm 4101 4 y.2) := (U_spec_DrawStepsAt code).ok (OkG.out (by
  refine OkG.call (draw8_ok hl) ?_
  rintro ⟨b', i', h', s, p⟩ ⟨rfl, hc', hs, hp⟩
  exact OkG.val ⟨hs, hp⟩))
 refine OkG.call h ?_
 rintro ⟨s, p⟩ ⟨hs, hp⟩
 exact OkG.val ⟨hs, hp⟩))
theorem low_loop {s : List Tb} {y4 : List SNode × List SStep} (hq : typedOk s y4.1 = true) (hn : findI (hasR [1, 4, 5, 6, 10]) (stepsM s y4.1) 0 = none) :
  Ok (loopF (fun f z => L_laws_FnLowx0 y4 f z.1 z.2) (false, 0)) (fun x => match x with | .ret r => False | .go _ => True) := by
 have hlen : y4.1.length ≤ 1073741824 := (typed_bplan hq).len
 refine Ok.loop (S := Bool × Int) (fun z => y4.1.length - z.2.toNat) (fun z => 0 ≤ z.2 ∧ z.2 ≤ y4.1.length) ?_ _ ⟨by simp, by simp⟩
 rintro ⟨v, i⟩ ⟨h0, h1⟩ G hG
 simp only at h0 h1
 obtain ⟨k, rfl⟩ : ∃ k : Nat, i = k := ⟨i.toNat, by omega⟩
 unfold L_laws_FnLowx0
 have hw : IntKind.i64.wrap ((k : Int) + 1) = ((k + 1 : Nat) : Int) := wrap_nat (by omega)
 simp only [hw]
 refine OkG.bif (fun hb => ?_) (fun _ => OkG.val trivial)
 have hb' : ((k + 1 : Nat) : Int) < y4.1.length := of_decide_eq_true hb
 have hkl : k + 1 < y4.1.length := by omega
 have e1 : y4.1[k + 1]? = some y4.1[k + 1] := List.getElem?_eq_getElem hkl
 have e0 : y4.1[k]? = some y4.1[k] := List.getElem?_eq_getElem (by omega)
 rw [ix_some e1, ix_some e0]
 simp only [Option.bind_some]
 have hno : ¬ (y4.1[k].1 = 1 ∧ (y4.1[k + 1].1 = 5 ∨ y4.1[k + 1].1 = 3 ∨ y4.1[k + 1].1 = 2)) := by
  rintro ⟨hf, hk⟩
  obtain ⟨x, hx, hr⟩ := low_step hq e0 e1 hf hk
  have := findI_none.1 hn
  rw [List.any_eq_false] at this
  exact this x hx hr
 refine OkG.join (fun b => b = false) ?_ ?_
 ·refine OkG.bif (fun hf => ?_) (fun _ => OkG.val rfl)
  have hf' : y4.1[k].1 = 1 := by simpa using hf
  refine OkG.bif (fun h5 => ?_) (fun _ => OkG.bif (fun h3 => ?_) (fun _ => ?_))
  ·exact (hno ⟨hf', .inl (by simpa using h5)⟩).elim
  ·exact (hno ⟨hf', .inr (.inl (by simpa using h3))⟩).elim
  ·refine OkG.val ?_
   cases h2 : y4.1[k + 1].1 == 2 with
   | false => rfl
   | true => exact (hno ⟨hf', .inr (.inr (by simpa using h2))⟩).elim
 ·rintro b rfl
  simp only [J_laws_FnLowx4, cond_false, hw]
  exact hG _ ⟨by simp only; omega, by simp only; omega⟩ (by simp only; omega)
theorem pure_FnLow {a0 : List Int} (w0 : a0.length ≤ maxLen) : F_laws_FnLow a0 = some true := (U_laws_FnLow a0).out (by
 rw [big_ok, Option.bind_some]
 cases hb : decide ((a0.length : Int) > 1048576) with
 | true => rfl
 | false =>
  have hl := of_decide_eq_false hb
  obtain ⟨⟨s, p⟩, e, hs, hp⟩ := low_ok (code := a0) (by omega)
  simp only at hs hp
  have bs := hs.bsch (by decide) (by decide)
  have bp := hp.bplan (by decide) (by decide)
  have b2 := hp.bp2 (by decide) (by decide)
  simp only [e, cond_false, Option.bind_some, V_spec_FiltersLow bs bp, V_impl_FiltersLow bs bp]
  cases hty : typedOk s p with
  | false =>
   rw [settle_un hty]
   simp [V_impl_SamePlan b2, V_impl_NodesSaved bs bp, V_spec_NodesSaved bs bp, V_spec_TypedOk bs bp, hty]
  | true =>
   obtain ⟨xs, q, es, hc, hxl, hq, hn⟩ := settle_ch (rules := [1, 4, 5, 6, 10]) 20 p [] hty
   rw [es]
   have bq := typed_bplan hq
   have hns := nodesSaved_pos hty
   simp only [V_impl_SamePlan (typed_bp2 hq), Option.bind_some, decide_true, Bool.not_true, cond_false, bne_self_eq_false, V_impl_NodesSaved bs bp, V_spec_NodesSaved bs bp, joinK_go, J_laws_FnLowx0, V_spec_TypedOk bs bp, hty, List.nil_append, cert_ok bs hty hq hxl hc, V_impl_DiffersAt bs bp bq, hc.differs,
    show decide (nodesSaved s p < 0) = false by simp; omega, J_laws_FnLowx1]
   by_cases h20 : xs.length = 20
   ·simp [h20]
   ·have h20' : (((xs.length : Int)) == 20) = false := by simp; omega
    rw [h20', cond_false]
    cases h32 : decide ((q.length : Int) > 32) with
    | true => simp
    | false =>
     obtain ⟨d, ed, _⟩ := DepthOf_ok hq
     rw [cond_false, ed]
     simp only [Option.bind_some, joinK_go, J_laws_FnLowx2]
     cases h9 : decide (d > 9) with
     | true => rfl
     | false =>
      obtain ⟨x, ex, hx⟩ := low_loop (s := s) (y4 := (q, xs)) hq (hn (by omega))
      rw [cond_false, ex]
      cases x with
      | ret r => exact hx.elim
      | go z => rfl)
end Go.Proofs.YtficimgbanaafaaGreatX
