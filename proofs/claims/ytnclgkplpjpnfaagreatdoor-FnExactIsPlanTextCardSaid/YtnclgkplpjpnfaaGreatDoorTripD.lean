/- Rules over any program: data as trees of cells, an evaluator that is checked once, and plain words. -/
import Derived.Test.YtnclgkplpjpnfaaGreatDoorTripC
set_option linter.all false
namespace Go.Proofs.YtnclgkplpjpnfaaGreatDoorT
open Go Go.Proofs Go.RowKit
variable {P : Program}
def readM (s : ByteArray) : Option Int := match Lib.atoiAll s.data.toList with
 | .ok v => if (⟨(Lib.itoa v).toArray⟩ : ByteArray) = s ∧ -1000000 ≤ v ∧ v ≤ 1000000 then some v else none
 | _ => none
def readV (s : ByteArray) : Int × Bool := match readM s with
 | some v => (v, true)
 | none => (0, false)
def readF (s : ByteArray) : Option (Int × Bool) := bif Nat.ble s.size 281474976710656 then some (readV s) else none
theorem retI_read {f : FuncId} {fn : Func} {n : Nat} {h : Hint} {s : ByteArray} {r : Int × Bool} (hg : isGo P f = true) (hn : 0 < n)
  (hc : ∀ (s : ByteArray) w Z, s.size ≤ 281474976710656 → Gl P w Z → (∀ b, Z b → b < w.heap.size) → Calls P f #[.string s] w fun e w' => e = .returned (.tuple #[.int .i64 (readV s).1, .bool (readV s).2]) ∧ Below w.heap.size w w') (hv : readF s = some r) :
  RetI P ⟨f, fn, n, [.rd .str], [], [⟨false, false, .int .i64⟩, ⟨false, false, .bool⟩], h, none⟩ ((s, ()), ()) r := by
 unfold readF at hv
 cases hb : Nat.ble s.size 281474976710656 with
 | false => rw [hb] at hv; cases hv
 | true =>
  rw [hb] at hv
  cases hv
  exact retI_two hg hn (hc s · · (Nat.le_of_ble_eq_true hb))
theorem gl_pow {w : World} {Z : Nat → Prop} (h : Gl P w Z) (hn : (P.globalNamed "internal/strconv.uint64pow10").isSome = true) : Lib.TabIs P w "internal/strconv.uint64pow10" .u64 Lib.pow10Tab := by
 obtain ⟨cs, hc, hQ⟩ := var_of h (nm := "internal/strconv.uint64pow10") (List.Mem.head _) hn
 unfold Lib.TabIs
 rw [hc]
 exact congrArg some hQ
theorem gl_syn {w : World} {Z : Nat → Prop} (h : Gl P w Z) (hn : (P.globalNamed "strconv.ErrSyntax").isSome = true) : ∃ t p, w.var? P "strconv.ErrSyntax" = some #[.iface t p] := by
 obtain ⟨cs, hc, t, p, hQ⟩ := var_of h (nm := "strconv.ErrSyntax") (.tail _ (.head _)) hn
 exact ⟨t, p, by rw [hc, hQ]⟩
theorem gl_ran {w : World} {Z : Nat → Prop} (h : Gl P w Z) (hn : (P.globalNamed "strconv.ErrRange").isSome = true) : ∃ t p, w.var? P "strconv.ErrRange" = some #[.iface t p] := by
 obtain ⟨cs, hc, t, p, hQ⟩ := var_of h (nm := "strconv.ErrRange") (.tail _ (.tail _ (.head _))) hn
 exact ⟨t, p, by rw [hc, hQ]⟩
theorem beq_nat (x : Nat) (k : Nat) : (((x : Int) == (k : Int)) : Bool) = (x == k) := by
 rw [Bool.eq_iff_iff, beq_iff_eq, beq_iff_eq]
 omega
theorem atoi_range {l : List UInt8} {v : Int} (h : Lib.atoiAll l = .ok v) : -9223372036854775808 ≤ v ∧ v ≤ 9223372036854775807 := by
 unfold Lib.atoiAll at h
 split at h
 ·cases h
 ·rename_i c r
  simp only at h
  split at h
  ·cases h
  ·cases h
  ·rename_i u hu
   split at h
   ·cases h
   ·rename_i h1
    split at h
    ·cases h
    ·rename_i h2
     injection h with h
     subst h
     by_cases hc : c.toNat = 45
     ·simp only [hc, true_and, if_true, Nat.not_lt] at h2 ⊢
      omega
     ·simp only [hc, not_false_eq_true, true_and, if_false, Nat.not_le] at h1 ⊢
      omega
end Go.Proofs.YtnclgkplpjpnfaaGreatDoorT
namespace Go.Proofs.YtnclgkplpjpnfaaGreatDoorT
open Go
theorem Le.out {A : Type} {a b : Option A} (h : Le a b) {r : A} (e : a = some r) : b = some r := h r e
section
variable {A B S : Type}
@[simp] theorem joinK_ret (r : A) (f : S → Option A) : joinK (some (.ret r)) f = some r := rfl
@[simp] theorem joinK_go (s : S) (f : S → Option A) : joinK (some (.go s)) f = f s := rfl
@[simp] theorem joinK_none (f : S → Option A) : joinK none f = none := rfl
@[simp] theorem joinK_bind (m : Option B) (g : B → Option (Ex A S)) (f : S → Option A) : joinK (m.bind g) f = m.bind fun z => joinK (g z) f := by cases m <;> rfl
@[simp] theorem joinK_bif (c : Bool) (a b : Option (Ex A S)) (f : S → Option A) : joinK (bif c then a else b) f = bif c then joinK a f else joinK b f := by cases c <;> rfl
@[simp] theorem joinK_sbif (c : Bool) (a b : Ex A S) (f : S → Option A) : joinK (some (bif c then a else b)) f = bif c then joinK (some a) f else joinK (some b) f := by cases c <;> rfl
@[simp] theorem joinK_ite (c : Prop) [Decidable c] (a b : Option (Ex A S)) (f : S → Option A) : joinK (if c then a else b) f = if c then joinK a f else joinK b f := by split <;> rfl
@[simp] theorem joinK_site (c : Prop) [Decidable c] (a b : Ex A S) (f : S → Option A) : joinK (some (if c then a else b)) f = if c then joinK (some a) f else joinK (some b) f := by split <;> rfl
@[simp] theorem bif_bind (c : Bool) (a b : Option B) (f : B → Option A) : (bif c then a else b).bind f = bif c then a.bind f else b.bind f := by cases c <;> rfl
@[simp] theorem nilx_same (e : Bool) (a : Option A) : nilx e a a = a := by cases e <;> simp [nilx, bothEq]
@[simp] theorem nilx_cons (x : B) (xs : List B) (a b : Option A) : nilx (x :: xs).isEmpty a b = b := rfl
@[simp] theorem retM_some (r : A) : (retM (some r) : Option (Ex A S)) = some (.ret r) := rfl
theorem loopF_ind {f : (S → Option A) → S → Option A} (μ : S → Nat) (I : S → Prop) (res : S → A)
  (h : ∀ s, I s → ∀ g : S → Option A, (∀ s', I s' → μ s' < μ s → g s' = some (res s')) → f g s = some (res s)) : ∀ s, I s → loopF f s = some (res s) := by
 intro s hs
 refine loopF_of (μ s + 1) ?_
 have key : ∀ (k : Nat) (s : S), I s → μ s ≤ k → ∀ n, k + 1 ≤ n → loopK f n s = some (res s) := by
  intro k
  induction k with
  | zero =>
   intro s hs hm n hn
   obtain ⟨m, rfl⟩ : ∃ m, n = m + 1 := ⟨n - 1, by omega⟩
   simp only [loopK]
   exact h s hs _ (fun s' _ hl => by omega)
  | succ k ih =>
   intro s hs hm n hn
   obtain ⟨m, rfl⟩ : ∃ m, n = m + 1 := ⟨n - 1, by omega⟩
   simp only [loopK]
   exact h s hs _ (fun s' hs' hl => ih s' hs' (by omega) m (by omega))
 exact fun n hn => key (μ s) s hs (Nat.le_refl _) n hn
def forE {T C : Type} (step : Nat → T → S → Ex A S) : List T → Nat → S → (S → C) → (A → C) → C
 | [], _, a, fin, _ => fin a
 | x :: xs, i, a, fin, out => match step i x a with
  | .ret r => out r
  | .go a' => forE step xs (i + 1) a' fin out
theorem loopF_for {T R S' : Type} {f : (S' → Option (Ex R S)) → S' → Option (Ex R S)} {l : List T} {st : Nat → S → S'} (I : Nat → S → Prop) (step : Nat → T → S → Ex R S)
  (h1 : ∀ i x a (g : S' → Option (Ex R S)), l[i]? = some x → I i a → f g (st i a) = match step i x a with | .ret r => some (.ret r) | .go a' => g (st (i + 1) a'))
  (hI : ∀ i x a a', l[i]? = some x → I i a → step i x a = .go a' → I (i + 1) a')
  (h2 : ∀ a (g : S' → Option (Ex R S)), I l.length a → f g (st l.length a) = some (.go a)) :
  ∀ a, I 0 a → loopF f (st 0 a) = some (forE step l 0 a Ex.go Ex.ret) := by
 intro a h0
 refine loopF_of (l.length + 1) ?_
 have key : ∀ (xs : List T) (i : Nat) (a : S), l.drop i = xs → i + xs.length = l.length → I i a → ∀ n, xs.length + 1 ≤ n → loopK f n (st i a) = some (forE step xs i a Ex.go Ex.ret) := by
  intro xs
  induction xs with
  | nil =>
   intro i a hd hl hI' n hn
   obtain ⟨m, rfl⟩ : ∃ m, n = m + 1 := ⟨n - 1, by omega⟩
   simp only [List.length_nil, Nat.add_zero] at hl
   subst hl
   simp only [loopK, forE]
   exact h2 a _ hI'
  | cons x xs ih =>
   intro i a hd hl hI' n hn
   obtain ⟨m, rfl⟩ : ∃ m, n = m + 1 := ⟨n - 1, by omega⟩
   have hx : l[i]? = some x := by
    have := congrArg (·[0]?) hd
    simpa using this
   have hd' : l.drop (i + 1) = xs := by
    have := congrArg (·.drop 1) hd
    simpa [List.drop_drop] using this
   simp only [loopK, forE]
   rw [h1 i x a _ hx hI']
   cases hs : step i x a with
   | ret r => rfl
   | go a' =>
    simp only
    exact ih (i + 1) a' hd' (by simp at hl; omega) (hI i x a a' hx hI' hs) m (by simp at hn; omega)
 exact fun n hn => key l 0 a rfl (by simp) h0 n hn
end
theorem wrap_nat {n : Nat} (h : n < 9223372036854775807) : IntKind.i64.wrap ((n : Int) + 1) = ((n + 1 : Nat) : Int) := by
 rw [IntKind.wrap_i64]; omega
@[simp] theorem wrap_lit {n : Nat} (h : n ≤ 9223372036854775807) : IntKind.i64.wrap (no_index (OfNat.ofNat n : Int)) = OfNat.ofNat n := by
 rw [IntKind.wrap_i64]
 show ((n : Int) + _) % _ - _ = (n : Int)
 omega
@[simp] theorem nat_neg {n : Nat} : decide ((n : Int) < 0) = false := by simp
@[simp] theorem nat_ge {n : Nat} : decide ((n : Int) ≥ 0) = true := by simp
theorem ix_nat {T : Type} {l : List T} {i : Nat} : ix l (i : Int) = l[i]? := by simp [ix]
theorem ix_some {T : Type} {l : List T} {i : Nat} {x : T} (h : l[i]? = some x) : ix l (i : Int) = some x := by rw [ix_nat, h]
theorem lt_nat {T : Type} {l : List T} {i : Nat} {x : T} (h : l[i]? = some x) : decide ((i : Int) < (l.length : Int)) = true := by
 have := (List.getElem?_eq_some_iff.1 h).1
 simpa using this
theorem lt_self {n : Nat} : decide ((n : Int) < (n : Int)) = false := by simp
theorem apx_some {T : Type} {xs ys : List T} (h : xs.length + ys.length ≤ 2147483648) : apx xs ys = some (xs ++ ys) := by
 unfold apx
 have : Nat.ble (xs.length + ys.length) 2147483648 = true := by rw [Nat.ble_eq]; exact h
 rw [this]; rfl
section
variable {T R S : Type}
def allI (p : Nat → T → Bool) : List T → Nat → Bool
 | [], _ => true
 | x :: xs, i => p i x && allI p xs (i + 1)
theorem allI_const (p : T → Bool) : ∀ (l : List T) (i : Nat), allI (fun _ => p) l i = l.all p
 | [], _ => rfl
 | x :: xs, i => by simp [allI, allI_const p xs]
theorem forE_chk (p : Nat → T → Bool) (r0 : R) {C : Type} (fin : S → C) (out : R → C) : ∀ (l : List T) (i : Nat) (a : S), forE (fun i x a => bif p i x then Ex.go a else Ex.ret r0) l i a fin out = bif allI p l i then fin a else out r0
 | [], _, _ => rfl
 | x :: xs, i, a => by
  simp only [forE, allI]
  cases p i x
  ·rfl
  ·simp only [cond_true, Bool.true_and]; exact forE_chk p r0 fin out xs (i + 1) a
theorem loop_chk {f : (S × Int → Option (Ex R S)) → S × Int → Option (Ex R S)} (l : List T) (p : Nat → T → Bool) (r0 : R)
  (h1 : ∀ (i : Nat) x a (g : S × Int → Option (Ex R S)), l[i]? = some x → f g (a, (i : Int)) = bif p i x then g (a, ((i + 1 : Nat) : Int)) else some (.ret r0))
  (h2 : ∀ a (g : S × Int → Option (Ex R S)), f g (a, (l.length : Int)) = some (.go a)) (a : S) :
  loopF f (a, 0) = some (bif allI p l 0 then .go a else .ret r0) := by
 have := loopF_for (f := f) (l := l) (st := fun i a => (a, (i : Int))) (fun _ _ => True) (fun i x a => bif p i x then Ex.go a else Ex.ret r0)
  (fun i x a g hx _ => by rw [h1 i x a g hx]; cases p i x <;> rfl) (fun _ _ _ _ _ _ _ => trivial) (fun a g _ => h2 a g) a trivial
 rw [forE_chk] at this
 exact this
def findI (p : T → Bool) : List T → Nat → Option Nat
 | [], _ => none
 | x :: xs, i => bif p x then some i else findI p xs (i + 1)
theorem forE_find (p : T → Bool) (out' : Nat → R) {C : Type} (fin : S → C) (out : R → C) : ∀ (l : List T) (i : Nat) (a : S), forE (fun i x a => bif p x then Ex.ret (out' i) else Ex.go a) l i a fin out = (match findI p l i with | some j => out (out' j) | none => fin a)
 | [], _, _ => rfl
 | x :: xs, i, a => by
  simp only [forE, findI]
  cases p x
  ·simp only [cond_false]; exact forE_find p out' fin out xs (i + 1) a
  ·rfl
theorem loop_find {f : (S × Int → Option (Ex R S)) → S × Int → Option (Ex R S)} (l : List T) (p : T → Bool) (out' : Nat → R)
  (h1 : ∀ (i : Nat) x a (g : S × Int → Option (Ex R S)), l[i]? = some x → f g (a, (i : Int)) = bif p x then some (.ret (out' i)) else g (a, ((i + 1 : Nat) : Int)))
  (h2 : ∀ a (g : S × Int → Option (Ex R S)), f g (a, (l.length : Int)) = some (.go a)) (a : S) :
  loopF f (a, 0) = some (match findI p l 0 with | some j => .ret (out' j) | none => .go a) := by
 have := loopF_for (f := f) (l := l) (st := fun i a => (a, (i : Int))) (fun _ _ => True) (fun i x a => bif p x then Ex.ret (out' i) else Ex.go a)
  (fun i x a g hx _ => by rw [h1 i x a g hx]; cases p x <;> rfl) (fun _ _ _ _ _ _ _ => trivial) (fun a g _ => h2 a g) a trivial
 rw [forE_find] at this
 exact this
theorem findI_some {p : T → Bool} : ∀ {l : List T} {i j : Nat}, findI p l i = some j → i ≤ j ∧ ∃ x, l[j - i]? = some x ∧ p x = true
 | [], _, _, h => by cases h
 | x :: xs, i, j, h => by
  simp only [findI] at h
  cases hp : p x with
  | true => rw [hp] at h; cases h; exact ⟨Nat.le_refl _, x, by simp, hp⟩
  | false =>
   rw [hp] at h
   obtain ⟨h1, y, h2, h3⟩ := findI_some h
   refine ⟨by omega, y, ?_, h3⟩
   rw [show j - i = (j - (i + 1)) + 1 by omega]
   simpa using h2
theorem findI_none {p : T → Bool} : ∀ {l : List T} {i : Nat}, findI p l i = none ↔ l.any p = false
 | [], _ => by simp [findI]
 | x :: xs, i => by
  simp only [findI, List.any_cons]
  cases p x
  ·simpa using findI_none (l := xs)
  ·simp
end
def bl (s : ByteArray) : List Int := s.data.toList.map fun b => (b.toNat : Int)
theorem bl_len (s : ByteArray) : (bl s).length = s.size := by simp [bl]
theorem bix_nat {s : ByteArray} {i : Nat} : bix s (i : Int) = (bl s)[i]? := by
 unfold bix bt bl
 by_cases h : i < s.size
 ·have hs : i < s.data.toList.length := h
  have hd : (decide (0 ≤ (i : Int)) && decide ((i : Int) < (s.size : Int))) = true := by simp; exact h
  rw [hd]
  simp only [cond_true, Int.toNat_natCast, h, dif_pos, List.getElem?_map, List.getElem?_eq_getElem hs]
  rfl
 ·have hd : (decide (0 ≤ (i : Int)) && decide ((i : Int) < (s.size : Int))) = false := by simp; omega
  rw [hd]
  have : (bl s)[i]? = none := List.getElem?_eq_none (by rw [bl_len]; omega)
  unfold bl at this
  rw [this]; rfl
theorem bix_some {s : ByteArray} {i : Nat} {x : Int} (h : (bl s)[i]? = some x) : bix s (i : Int) = some x := by rw [bix_nat, h]
end Go.Proofs.YtnclgkplpjpnfaaGreatDoorT
namespace Go.Proofs.YtnclgkplpjpnfaaGreatDoorX
open Go Go.Proofs.YtnclgkplpjpnfaaGreatDoorT
set_option linter.all false
abbrev Nd := Int × ByteArray × Int × Int × Int × Bool × List Int × Unit
abbrev Tb := ByteArray × Int × Unit
abbrev Sp := Int × Int × Unit
theorem bne_dec (a b : Int) : (a != b) = !decide (a = b) := rfl
theorem beq_dec (a b : Int) : (a == b) = decide (a = b) := rfl
instance decNd : DecidableEq (Int × ByteArray × Int × Int × Int × Bool × List Int × Unit) :=
 haveI : DecidableEq (Int × Int × Bool × List Int × Unit) := inferInstance
 haveI : DecidableEq (ByteArray × Int × Int × Int × Bool × List Int × Unit) := inferInstance
 inferInstance
def okIn (x lo hi : Int) : Bool := decide (lo ≤ x) && decide (x ≤ hi)
theorem okIn_iff {x lo hi : Int} : okIn x lo hi = true ↔ lo ≤ x ∧ x ≤ hi := by simp [okIn]
def arity (k : Int) : Int := if k = 0 then 0 else if k = 3 ∨ k = 4 then 2 else if k = 1 ∨ k = 2 ∨ k = 5 ∨ k = 6 ∨ k = 7 then 1 else -1
section
variable {T R S : Type}
def foldI (step : Nat → T → S → S) : List T → Nat → S → S
 | [], _, a => a
 | x :: xs, i, a => foldI step xs (i + 1) (step i x a)
theorem forE_fold (step : Nat → T → S → S) {C : Type} (fin : S → C) (out : R → C) : ∀ (l : List T) (i : Nat) (a : S), forE (fun i x a => (Ex.go (step i x a) : Ex R S)) l i a fin out = fin (foldI step l i a)
 | [], _, _ => rfl
 | x :: xs, i, a => by simp only [forE, foldI]; exact forE_fold step fin out xs (i + 1) _
theorem loop_fold {S' : Type} {f : (S' → Option (Ex R S)) → S' → Option (Ex R S)} (st : Nat → S → S') (l : List T) (I : Nat → S → Prop) (step : Nat → T → S → S)
  (h1 : ∀ (i : Nat) x a (g : S' → Option (Ex R S)), l[i]? = some x → I i a → f g (st i a) = g (st (i + 1) (step i x a)))
  (hI : ∀ (i : Nat) x a, l[i]? = some x → I i a → I (i + 1) (step i x a))
  (h2 : ∀ a (g : S' → Option (Ex R S)), I l.length a → f g (st l.length a) = some (.go a)) (a : S) (h0 : I 0 a) :
  loopF f (st 0 a) = some (.go (foldI step l 0 a)) := by
 have := loopF_for (f := f) (l := l) (st := st) I (fun i x a => (Ex.go (step i x a) : Ex R S))
  (fun i x a g hx hi => by rw [h1 i x a g hx hi]) (fun i x a a' hx hi h => by cases h; exact hI i x a hx hi) (fun a g hi => h2 a g hi) a h0
 rw [forE_fold] at this
 exact this
theorem foldI_const (step : T → S → S) : ∀ (l : List T) (i : Nat) (a : S), foldI (fun _ => step) l i a = l.foldl (fun a x => step x a) a
 | [], _, _ => rfl
 | x :: xs, i, a => by simp only [foldI, List.foldl_cons]; exact foldI_const step xs (i + 1) _
theorem loop_map {U : Type} {f : (List U × Int → Option (Ex R (List U))) → List U × Int → Option (Ex R (List U))} (l : List T) (m : T → U)
  (hl : l.length ≤ 2147483648)
  (h1 : ∀ (i : Nat) x (a : List U) (g : List U × Int → Option (Ex R (List U))), l[i]? = some x → a.length = i → f g (a, (i : Int)) = g (a ++ [m x], ((i + 1 : Nat) : Int)))
  (h2 : ∀ a (g : List U × Int → Option (Ex R (List U))), f g (a, (l.length : Int)) = some (.go a)) :
  loopF f ([], 0) = some (.go (l.map m)) := by
 have := loop_fold (f := f) (fun i a => (a, (i : Int))) l (fun i a => a.length = i) (fun i x a => a ++ [m x]) (fun i x a g hx hi => h1 i x a g hx hi)
  (fun i x a _ hi => by simp [hi]) (fun a g _ => h2 a g) [] rfl
 rw [foldI_const (fun x a => a ++ [m x])] at this
 rw [show ((0 : Nat) : Int) = 0 from rfl] at this
 rw [this]
 congr 2
 have key : ∀ (l : List T) (a : List U), l.foldl (fun a x => a ++ [m x]) a = a ++ l.map m := by
  intro l
  induction l with
  | nil => simp
  | cons x xs ih => intro a; simp [ih]
 rw [key]; rfl
end
theorem beq_toList (a b : ByteArray) : (a.toList == b.toList) = decide (a = b) := by
 rw [ByteArray.toList_eq, ByteArray.toList_eq]
 by_cases h : a = b
 ·subst h; simp
 ·simp only [h, decide_false, beq_eq_false_iff_ne]
  intro e
  apply h
  cases a; cases b
  simp only at e
  congr 1
  exact Array.toList_inj.1 e
def less (a b : ByteArray) : Bool := Op.bytesLess a.toList b.toList
inductive PT where
 | n0 (n : Nd)
 | n1 (n : Nd) (a : PT)
 | n2 (n : Nd) (a b : PT)
namespace PT
def hd : PT → Nd
 | n0 n => n
 | n1 n _ => n
 | n2 n _ _ => n
def flat : PT → List Nd
 | n0 n => [n]
 | n1 n a => n :: a.flat
 | n2 n a b => n :: (a.flat ++ b.flat)
def size : PT → Nat
 | n0 _ => 1
 | n1 _ a => a.size + 1
 | n2 _ a b => a.size + b.size + 1
def depth : PT → Nat
 | n0 _ => 1
 | n1 _ a => a.depth + 1
 | n2 _ a b => max a.depth b.depth + 1
def ok : PT → Prop
 | n0 n => arity n.1 = 0
 | n1 n a => arity n.1 = 1 ∧ a.ok
 | n2 n a b => arity n.1 = 2 ∧ a.ok ∧ b.ok
@[simp] theorem len_flat : ∀ t : PT, t.flat.length = t.size
 | n0 _ => rfl
 | n1 _ a => by simp [flat, size, len_flat a]
 | n2 _ a b => by simp [flat, size, len_flat a, len_flat b]
theorem size_pos : ∀ t : PT, 0 < t.size
 | n0 _ => by simp [size]
 | n1 _ _ => by simp [size]
 | n2 _ _ _ => by simp [size]
theorem depth_pos : ∀ t : PT, 0 < t.depth
 | n0 _ => by simp [depth]
 | n1 _ _ => by simp [depth]
 | n2 _ _ _ => by simp [depth]
theorem flat_hd (t : PT) : ∃ l, t.flat = t.hd :: l := by cases t <;> simp [flat, hd]
end PT
open PT
def parse : Nat → List Nd → Option (PT × List Nd)
 | 0, _ => none
 | _ + 1, [] => none
 | r + 1, n :: q =>
  if arity n.1 = 1 then match parse r q with
   | some (a, q1) => some (n1 n a, q1)
   | none => none
  else if arity n.1 = 2 then match parse r q with
   | some (a, q1) => match parse r q1 with
    | some (b, q2) => some (n2 n a b, q2)
    | none => none
   | none => none
  else some (n0 n, q)
theorem parse_flat : ∀ {r : Nat} {l : List Nd} {t : PT} {q : List Nd}, parse r l = some (t, q) → (∀ n ∈ l, 0 ≤ arity n.1) → l = t.flat ++ q ∧ t.ok ∧ t.depth ≤ r
 | 0, _, _, _, h, _ => by simp [parse] at h
 | r + 1, [], _, _, h, _ => by simp [parse] at h
 | r + 1, n :: l, t, q, h, ha => by
  have hn := ha n (by simp)
  have hl : ∀ m ∈ l, 0 ≤ arity m.1 := fun m hm => ha m (by simp [hm])
  simp only [parse] at h
  split at h
  ·rename_i h1
   split at h
   ·rename_i a q1 hp
    cases h
    obtain ⟨e, ho, hd⟩ := parse_flat hp hl
    exact ⟨by simp [flat, e], ⟨h1, ho⟩, by simp [depth]; omega⟩
   ·cases h
  ·split at h
   ·rename_i h1 h2
    split at h
    ·rename_i a q1 hp
     obtain ⟨e, ho, hd⟩ := parse_flat hp hl
     split at h
     ·rename_i b q2 hp2
      cases h
      have hl2 : ∀ m ∈ q1, 0 ≤ arity m.1 := fun m hm => hl m (by rw [e]; simp [hm])
      obtain ⟨e2, ho2, hd2⟩ := parse_flat hp2 hl2
      exact ⟨by simp [flat, e, e2], ⟨h2, ho, ho2⟩, by simp [depth]; omega⟩
     ·cases h
    ·cases h
   ·rename_i h1 h2
    cases h
    refine ⟨by simp [flat], ?_, by simp [depth]⟩
    show arity n.1 = 0
    revert hn h1 h2
    unfold arity
    split <;> (try split) <;> (try split) <;> simp
theorem flat_parse : ∀ {t : PT} {r : Nat} {q : List Nd}, t.ok → t.depth ≤ r → parse r (t.flat ++ q) = some (t, q)
 | n0 n, 0, q, _, hd => by simp [depth] at hd
 | n1 n a, 0, q, _, hd => by simp [depth] at hd
 | n2 n a b, 0, q, _, hd => by simp [depth] at hd
 | n0 n, r + 1, q, ho, hd => by
  have : arity n.1 = 0 := ho
  simp [flat, parse, this]
 | n1 n a, r + 1, q, ho, hd => by
  obtain ⟨h1, h2⟩ := ho
  simp only [depth] at hd
  simp [flat, parse, h1, flat_parse (t := a) (r := r) (q := q) h2 (by omega)]
 | n2 n a b, r + 1, q, ho, hd => by
  obtain ⟨h1, h2, h3⟩ := ho
  simp only [depth] at hd
  simp [flat, parse, h1, flat_parse (t := a) (r := r) (q := b.flat ++ q) h2 (by omega), flat_parse (t := b) (r := r) (q := q) h3 (by omega)]
theorem flat_inj {t u : PT} {q r : List Nd} (ht : t.ok) (hu : u.ok) (h : t.flat ++ q = u.flat ++ r) : t = u ∧ q = r := by
 have h1 := flat_parse (q := q) ht (show t.depth ≤ max t.depth u.depth by omega)
 have h2 := flat_parse (q := r) hu (show u.depth ≤ max t.depth u.depth by omega)
 rw [h, h2] at h1
 cases h1; exact ⟨rfl, rfl⟩
def wordOkL (l : List Int) : Bool := allI (fun i c => okIn c 97 122 || (!(decide (i = 0)) && okIn c 48 57)) l 0 && okIn l.length 1 12
def wordOk (w : ByteArray) : Bool := wordOkL (bl w)
def nodeOk (n : Nd) : Bool :=
  let (k, name, col, op, num, slot, cols, _) := n
  (decide (k = 0) || decide (name = ByteArray.empty)) && (decide (k = 2) || decide (cols = [])) && (decide (k = 1) || decide (op = 0)) && (!slot || okIn num 0 39) &&
  (if k = 0 then wordOk name && decide (col = 0) && decide (num = 0) && !slot
   else if k = 1 then okIn col 0 63 && okIn op 0 3 && okIn num (-1000000) 1000000 && (!decide (op = 3) || (decide (num = 0) && !slot))
   else if k = 2 then cols.all (fun c => okIn c 0 63) && okIn cols.length 1 6 && decide (col = 0) && decide (num = 0) && !slot
   else if k = 3 then okIn col 0 63 && okIn num 0 63 && !slot
   else if k = 5 then okIn col 0 63 && decide (num = 0) && !slot
   else if k = 6 then decide (col = 0) && okIn num 0 1000000
   else if k = 4 ∨ k = 7 then decide (col = 0) && decide (num = 0) && !slot
   else false)
theorem nodeOk_arity {n : Nd} (h : nodeOk n = true) : 0 ≤ arity n.1 := by
 obtain ⟨k, name, col, op, num, slot, cols, u⟩ := n
 simp only [nodeOk] at h
 unfold arity
 simp only
 repeat' split
 all_goals first
  | omega
  | (exfalso; simp_all)
def planT (p : List Nd) : Option PT :=
 if okIn p.length 1 40 = true ∧ p.all nodeOk = true then match parse 10 p with
  | some (t, []) => some t
  | _ => none
 else none
def planOk (p : List Nd) : Bool := (planT p).isSome
structure PlanT (t : PT) : Prop where
 ok : t.ok
 deep : t.depth ≤ 10
 size : t.size ≤ 40
 nodes : ∀ n ∈ t.flat, nodeOk n = true
theorem planT_some {p : List Nd} {t : PT} (h : planT p = some t) : PlanT t ∧ p = t.flat := by
 unfold planT at h
 split at h
 ·rename_i hc
  obtain ⟨h1, h2⟩ := hc
  split at h
  ·rename_i t' hp
   cases h
   have hn : ∀ n ∈ p, nodeOk n = true := by simpa using h2
   obtain ⟨e, ho, hd⟩ := parse_flat hp (fun n hm => nodeOk_arity (hn n hm))
   simp only [List.append_nil] at e
   subst e
   refine ⟨⟨ho, hd, ?_, hn⟩, rfl⟩
   have := (okIn_iff.1 h1).2
   simp only [len_flat] at this
   omega
  ·cases h
 ·cases h
theorem planT_flat {t : PT} (h : PlanT t) : planT t.flat = some t := by
 unfold planT
 have h1 : okIn t.flat.length 1 40 = true := by
  rw [okIn_iff]
  have := h.size
  have := t.size_pos
  simp only [len_flat]
  omega
 have h2 : t.flat.all nodeOk = true := by simpa using h.nodes
 rw [if_pos ⟨h1, h2⟩]
 have := flat_parse (q := []) h.ok h.deep
 simp only [List.append_nil] at this
 rw [this]
theorem planOk_iff {p : List Nd} : planOk p = true ↔ ∃ t, PlanT t ∧ p = t.flat := by
 unfold planOk
 constructor
 ·intro h
  obtain ⟨t, ht⟩ := Option.isSome_iff_exists.1 h
  exact ⟨t, planT_some ht⟩
 ·rintro ⟨t, ht, rfl⟩
  rw [planT_flat ht]; rfl
def At (p : List Nd) (k : Nat) (t : PT) : Prop := ∃ q, p.drop k = t.flat ++ q
theorem At.hd {p : List Nd} {k : Nat} {t : PT} (h : At p k t) : p[k]? = some t.hd := by
 obtain ⟨q, h⟩ := h
 obtain ⟨l, hl⟩ := t.flat_hd
 have := congrArg (·[0]?) h
 simpa [hl] using this
theorem At.le {p : List Nd} {k : Nat} {t : PT} (h : At p k t) : k + t.size ≤ p.length := by
 obtain ⟨q, h⟩ := h
 have := congrArg List.length h
 simp at this
 have := t.size_pos
 omega
theorem At.c1 {p : List Nd} {k : Nat} {n : Nd} {a : PT} (h : At p k (n1 n a)) : At p (k + 1) a := by
 obtain ⟨q, h⟩ := h
 refine ⟨q, ?_⟩
 have := congrArg (·.drop 1) h
 simpa [List.drop_drop, flat] using this
theorem At.l2 {p : List Nd} {k : Nat} {n : Nd} {a b : PT} (h : At p k (n2 n a b)) : At p (k + 1) a := by
 obtain ⟨q, h⟩ := h
 refine ⟨b.flat ++ q, ?_⟩
 have := congrArg (·.drop 1) h
 simpa [List.drop_drop, flat] using this
theorem At.r2 {p : List Nd} {k : Nat} {n : Nd} {a b : PT} (h : At p k (n2 n a b)) : At p (k + 1 + a.size) b := by
 obtain ⟨q, h⟩ := h
 refine ⟨q, ?_⟩
 have := congrArg (·.drop (1 + a.size)) h
 rw [List.drop_drop] at this
 rw [show k + 1 + a.size = k + (1 + a.size) by omega, this]
 have e : (n2 n a b).flat ++ q = (n :: a.flat) ++ (b.flat ++ q) := by simp [flat]
 rw [e, List.drop_append_of_le_length (by simp; omega)]
 have : (n :: a.flat).drop (1 + a.size) = [] := List.drop_eq_nil_of_le (by simp; omega)
 rw [this]; rfl
theorem At.root (t : PT) : At t.flat 0 t := ⟨[], by simp⟩
theorem At.rest {p : List Nd} {k : Nat} {t : PT} (h : At p k t) : p.drop k = t.flat ++ p.drop (k + t.size) := by
 obtain ⟨q, h⟩ := h
 rw [h, ← List.drop_drop, h]
 simp
theorem At.split {p : List Nd} {k : Nat} {t : PT} (h : At p k t) : p = p.take k ++ t.flat ++ p.drop (k + t.size) := by
 rw [List.append_assoc, ← h.rest, List.take_append_drop]
theorem At.nodes {p : List Nd} {k : Nat} {t : PT} (h : At p k t) {n : Nd} (hn : n ∈ t.flat) : n ∈ p := by
 rw [h.split]; simp [hn]
theorem At.part {p : List Nd} {k : Nat} {t : PT} (h : At p k t) : (p.take (k + t.size)).drop k = t.flat := by
 have h1 := h.rest
 have h2 : (p.drop k).take t.size = t.flat := by
  rw [h1, List.take_append_of_le_length (by simp), List.take_of_length_le (by simp)]
 rw [List.drop_take]
 simpa using h2
end Go.Proofs.YtnclgkplpjpnfaaGreatDoorX
namespace Go.Proofs.YtnclgkplpjpnfaaGreatDoorT
open Go
section
variable {T : Type} {key : T → Int}
def Same (key : T → Int) (xs ys : List T) : Prop := ∀ v : Int, xs.filter (fun x => key x == v) = ys.filter (fun x => key x == v)
def Srt (key : T → Int) (xs : List T) : Prop := xs.Pairwise fun a b => key a ≤ key b
theorem Same.refl (xs : List T) : Same key xs xs := fun _ => rfl
theorem Same.symm {xs ys : List T} (h : Same key xs ys) : Same key ys xs := fun v => (h v).symm
theorem Same.trans {xs ys zs : List T} (h : Same key xs ys) (k : Same key ys zs) : Same key xs zs := fun v => (h v).trans (k v)
theorem Same.app {xs xs' ys ys' : List T} (h : Same key xs xs') (k : Same key ys ys') : Same key (xs ++ ys) (xs' ++ ys') := fun v => by
 rw [List.filter_append, List.filter_append, h v, k v]
theorem Same.mem {xs ys : List T} (h : Same key xs ys) {x : T} (hx : x ∈ xs) : x ∈ ys := by
 have : x ∈ xs.filter (fun z => key z == key x) := List.mem_filter.2 ⟨hx, by simp⟩
 rw [h (key x)] at this
 exact (List.mem_filter.1 this).1
theorem Same.swap {xs ys : List T} (h : ∀ x ∈ xs, ∀ y ∈ ys, key x ≠ key y) : Same key (xs ++ ys) (ys ++ xs) := fun v => by
 rw [List.filter_append, List.filter_append]
 by_cases he : ∃ x ∈ xs, key x = v
 ·obtain ⟨x, hx, rfl⟩ := he
  have : ys.filter (fun z => key z == key x) = [] := List.filter_eq_nil_iff.2 fun y hy => by
   have := h x hx y hy
   simp; omega
  rw [this]; simp
 ·have : xs.filter (fun z => key z == v) = [] := List.filter_eq_nil_iff.2 fun x hx => by
   have : key x ≠ v := fun hv => he ⟨x, hx, hv⟩
   simpa using this
  rw [this]; simp
theorem Srt.uniq : ∀ {xs ys : List T}, Srt key xs → Srt key ys → Same key xs ys → xs = ys
 | [], [], _, _, _ => rfl
 | [], y :: ys, _, _, h => by have := h.symm.mem (List.mem_cons_self (a := y) (l := ys)); cases this
 | x :: xs, [], _, _, h => by have := h.mem (List.mem_cons_self (a := x) (l := xs)); cases this
 | x :: xs, y :: ys, hx, hy, h => by
  have h1 := h.mem (List.mem_cons_self (a := x) (l := xs))
  have h2 := h.symm.mem (List.mem_cons_self (a := y) (l := ys))
  unfold Srt at hx hy
  rw [List.pairwise_cons] at hx hy
  have h3 : key y ≤ key x := by
   rcases List.mem_cons.1 h1 with rfl | h1
   ·omega
   ·exact hy.1 _ h1
  have h4 : key x ≤ key y := by
   rcases List.mem_cons.1 h2 with rfl | h2
   ·omega
   ·exact hx.1 _ h2
  have h5 : key y = key x := by omega
  have h6 := h (key x)
  rw [List.filter_cons_of_pos (by simp), List.filter_cons_of_pos (by simp [h5])] at h6
  have h7 : x = y := (List.cons.inj h6).1
  subst h7
  rw [Srt.uniq hx.2 hy.2 fun v => ?_]
  have h8 := h v
  rw [List.filter_cons, List.filter_cons] at h8
  split at h8
  ·exact (List.cons.inj h8).2
  ·exact h8
def insS (key : T → Int) (x : T) : List T → List T
 | [] => [x]
 | y :: ys => bif decide (key x < key y) then x :: y :: ys else y :: insS key x ys
def srt (key : T → Int) (xs : List T) : List T := xs.foldl (fun out x => insS key x out) []
theorem insS_mem {x z : T} : ∀ {out : List T}, z ∈ insS key x out ↔ z = x ∨ z ∈ out
 | [] => by simp [insS]
 | y :: ys => by
  simp only [insS]
  cases decide (key x < key y) with
  | true => simp
  | false => simp only [cond_false, List.mem_cons, insS_mem]; grind
theorem insS_len {x : T} : ∀ {out : List T}, (insS key x out).length = out.length + 1
 | [] => rfl
 | y :: ys => by
  simp only [insS]
  cases decide (key x < key y) with
  | true => simp
  | false => simp [insS_len]
theorem insS_ok {x : T} : ∀ {out : List T}, Srt key out → Srt key (insS key x out) ∧ Same key (out ++ [x]) (insS key x out)
 | [], _ => ⟨by simp [insS, Srt], fun _ => rfl⟩
 | y :: ys, h => by
  have h0 := h
  unfold Srt at h
  rw [List.pairwise_cons] at h
  simp only [insS]
  cases hd : decide (key x < key y) with
  | true =>
   have hd := of_decide_eq_true hd
   refine ⟨?_, ?_⟩
   ·simp only [cond_true]
    refine List.pairwise_cons.2 ⟨fun z hz => ?_, h0⟩
    rcases List.mem_cons.1 hz with rfl | hz
    ·omega
    ·have := h.1 z hz; omega
   ·refine Same.swap (ys := [x]) fun z hz w hw => ?_
    rw [List.mem_singleton.1 hw]
    rcases List.mem_cons.1 hz with rfl | hz
    ·omega
    ·have := h.1 z hz; omega
  | false =>
   have hd := of_decide_eq_false hd
   obtain ⟨h1, h2⟩ := insS_ok h.2 (x := x)
   refine ⟨List.pairwise_cons.2 ⟨fun z hz => ?_, h1⟩, ?_⟩
   ·rcases insS_mem.1 hz with rfl | hz
    ·omega
    ·exact h.1 z hz
   ·exact Same.app (Same.refl [y]) h2
theorem srt_snoc (xs : List T) (x : T) : srt key (xs ++ [x]) = insS key x (srt key xs) := by simp [srt]
theorem srt_ok (xs : List T) : Srt key (srt key xs) ∧ Same key xs (srt key xs) ∧ (srt key xs).length = xs.length := by
 suffices h : ∀ (n : Nat) (xs : List T), xs.length = n → Srt key (srt key xs) ∧ Same key xs (srt key xs) ∧ (srt key xs).length = xs.length from h _ xs rfl
 intro n
 induction n with
 | zero =>
  intro xs h
  have := List.length_eq_zero_iff.1 h
  subst this
  exact ⟨by simp [srt, Srt], fun _ => rfl, rfl⟩
 | succ n ih =>
  intro xs h
  rcases List.eq_nil_or_concat xs with rfl | ⟨xs, x, rfl⟩
  ·cases h
  rw [List.concat_eq_append] at *
  have ih := ih xs (by simpa using h)
  rw [srt_snoc]
  obtain ⟨h1, h2⟩ := insS_ok ih.1 (x := x)
  exact ⟨h1, (Same.app ih.2.1 (Same.refl [x])).trans h2, by rw [insS_len, ih.2.2]; simp⟩
theorem srt_len (xs : List T) : (srt key xs).length = xs.length := (srt_ok xs).2.2
theorem srt_of {xs m : List T} (h : Srt key m) (hs : Same key xs m) : m = srt key xs := Srt.uniq h (srt_ok xs).1 (hs.symm.trans (srt_ok xs).2.1)
theorem srt_mem {xs : List T} {x : T} : x ∈ srt key xs ↔ x ∈ xs := ⟨(srt_ok xs).2.1.symm.mem, (srt_ok xs).2.1.mem⟩
theorem srt_self {xs : List T} (h : Srt key xs) : srt key xs = xs := (srt_of h (Same.refl xs)).symm
theorem Srt.app {xs ys : List T} (h1 : Srt key xs) (h2 : Srt key ys) (h : ∀ x ∈ xs, ∀ y ∈ ys, key x ≤ key y) : Srt key (xs ++ ys) := List.pairwise_append.2 ⟨h1, h2, h⟩
theorem Srt.parts {xs ys : List T} (h : Srt key (xs ++ ys)) : Srt key xs ∧ Srt key ys ∧ ∀ x ∈ xs, ∀ y ∈ ys, key x ≤ key y := List.pairwise_append.1 h
end
end Go.Proofs.YtnclgkplpjpnfaaGreatDoorT
namespace Go.Proofs.YtnclgkplpjpnfaaGreatDoorT
open Go
set_option linter.all false
def Ok {A : Type} (m : Option A) (Q : A → Prop) : Prop := ∃ a, m = some a ∧ Q a
def OkG {X A : Type} (G : X → Prop) (m : X → Option A) (Q : A → Prop) : Prop := ∃ a, (∀ g, G g → m g = some a) ∧ Q a
section
variable {X A B S : Type} {G : X → Prop} {Q : A → Prop} {R : B → Prop}
theorem Ok.of {m : Option A} (h : Ok m Q) : OkG G (fun _ => m) Q := by
 obtain ⟨a, h1, h2⟩ := h
 exact ⟨a, fun _ _ => h1, h2⟩
theorem OkG.out {m : Option A} (h : OkG (fun _ : Unit => True) (fun _ => m) Q) : Ok m Q := by
 obtain ⟨a, h1, h2⟩ := h
 exact ⟨a, h1 () trivial, h2⟩
theorem OkG.bind {m : X → Option A} {f : X → A → Option B} (h : OkG G m Q) (k : ∀ a, Q a → OkG G (fun g => f g a) R) : OkG G (fun g => (m g).bind (f g)) R := by
 obtain ⟨a, h1, h2⟩ := h
 obtain ⟨b, h3, h4⟩ := k a h2
 exact ⟨b, fun g hg => by dsimp only; rw [h1 g hg]; exact h3 g hg, h4⟩
theorem OkG.call {m : Option A} {f : X → A → Option B} (h : Ok m Q) (k : ∀ a, Q a → OkG G (fun g => f g a) R) : OkG G (fun g => m.bind (f g)) R :=
 OkG.bind (m := fun _ => m) h.of k
theorem OkG.val {a : A} (h : Q a) : OkG G (fun _ => some a) Q := ⟨a, fun _ _ => rfl, h⟩
theorem OkG.bif {c : Bool} {m n : X → Option A} (h1 : c = true → OkG G m Q) (h2 : c = false → OkG G n Q) : OkG G (fun g => bif c then m g else n g) Q := by
 cases c
 ·exact h2 rfl
 ·exact h1 rfl
theorem OkG.join {m : X → Option (Ex B S)} {f : X → S → Option B} (W : S → Prop) (h : OkG G m (fun x => match x with | .ret r => R r | .go s => W s)) (k : ∀ s, W s → OkG G (fun g => f g s) R) : OkG G (fun g => joinK (m g) (f g)) R := by
 obtain ⟨x, h1, h2⟩ := h
 cases x with
 | ret r => exact ⟨r, fun g hg => by dsimp only; rw [h1 g hg]; rfl, h2⟩
 | go s =>
  obtain ⟨b, h3, h4⟩ := k s h2
  exact ⟨b, fun g hg => by dsimp only; rw [h1 g hg]; exact h3 g hg, h4⟩
theorem OkG.mono {Q' : A → Prop} {m : X → Option A} (h : OkG G m Q) (k : ∀ a, Q a → Q' a) : OkG G m Q' := by
 obtain ⟨a, h1, h2⟩ := h
 exact ⟨a, h1, k a h2⟩
theorem Ok.loop {f : (S → Option A) → S → Option A} (μ : S → Nat) (I : S → Prop)
  (h : ∀ s, I s → ∀ G : (S → Option A) → Prop, (∀ s', I s' → μ s' < μ s → OkG G (fun g => g s') Q) → OkG G (fun g => f g s) Q) : ∀ s, I s → Ok (loopF f s) Q := by
 have key : ∀ k : Nat, ∃ res : S → Option A, ∀ s, I s → μ s < k → ∃ r, res s = some r ∧ Q r ∧ ∀ n, k ≤ n → loopK f n s = some r := by
  intro k
  induction k with
  | zero => exact ⟨fun _ => none, fun s _ hs => by omega⟩
  | succ k ih =>
   obtain ⟨res, hr⟩ := ih
   refine ⟨fun s => f res s, fun s hs hm => ?_⟩
   obtain ⟨r, h1, h2⟩ := h s hs (fun g => ∀ s', I s' → μ s' < μ s → g s' = res s') (fun s' hs' hm' => by
    obtain ⟨r', e1, e2, _⟩ := hr s' hs' (by omega)
    exact ⟨r', fun g hg => by dsimp only; rw [hg s' hs' hm', e1], e2⟩)
   refine ⟨r, h1 res (fun _ _ _ => rfl), h2, fun n hn => ?_⟩
   obtain ⟨m, rfl⟩ : ∃ m, n = m + 1 := ⟨n - 1, by omega⟩
   simp only [loopK]
   refine h1 _ fun s' hs' hm' => ?_
   obtain ⟨r', e1, _, e3⟩ := hr s' hs' (by omega)
   rw [e3 m (by omega), e1]
 intro s hs
 obtain ⟨res, hr⟩ := key (μ s + 1)
 obtain ⟨r, _, h2, h3⟩ := hr s hs (by omega)
 exact ⟨r, loopF_of (μ s + 1) h3, h2⟩
theorem Ok.eq {m : Option A} {a : A} (h : m = some a) (q : Q a) : Ok m Q := ⟨a, h, q⟩
theorem Le.ok {a b : Option A} (h : Le a b) (k : Ok a Q) : Ok b Q := by
 obtain ⟨x, h1, h2⟩ := k
 exact ⟨x, h x h1, h2⟩
end
end Go.Proofs.YtnclgkplpjpnfaaGreatDoorT
