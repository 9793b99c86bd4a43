/- The plain law of FnExactCountRows: the plain functions answer true. -/
import Derived.Test.YtdclbbkkcngjnaaTrD
import Derived.Test.YtdclbbkkcngjnaaGCountRows
namespace Go.Proofs.YtdclbbkkcngjnaaX
open Go Go.Proofs.YtdclbbkkcngjnaaT

-- sizes
def mI (a : List Int) : Int := a.length
def mII (a : List (List Int)) : Int := a.length + sumOf mI a
def mIII (a : List (List (List Int))) : Int := a.length + sumOf mII a
theorem mI_nn (a : List Int) : 0 ≤ mI a := by unfold mI; omega
theorem mII_nn (a : List (List Int)) : 0 ≤ mII a := by have := sumOf_nn (a := a) (fun x _ => mI_nn x); unfold mII; omega
theorem mIII_nn (a : List (List (List Int))) : 0 ≤ mIII a := by have := sumOf_nn (a := a) (fun x _ => mII_nn x); unfold mIII; omega
/-- lengths that a machine can hold -/
def wI (a : List Int) : Prop := a.length ≤ maxLen
def wII (a : List (List Int)) : Prop := a.length ≤ maxLen ∧ ∀ x, x ∈ a → wI x
def wIII (a : List (List (List Int))) : Prop := a.length ≤ maxLen ∧ ∀ x, x ∈ a → wII x

theorem sz53 (kf : Nat) (a : List Int) (hw : wI a) (v : Int) (h0 : 0 ≤ v) (h1 : v ≤ 1048576) : F53 kf a v = some (if mI a ≤ v then v - mI a else -1) := by
  unfold F53 mI
  unfold wI maxLen at hw
  rw [wrap_id (by omega) (by omega)]
  by_cases h : (a.length : Int) ≤ v
  · rw [if_pos h, show decide (v - (a.length : Int) < 0) = false by simp; omega]; rfl
  · rw [if_neg h, show decide (v - (a.length : Int) < 0) = true by simp; omega]; rfl

theorem sz36 (kf : Nat) (hk : 1048577 ≤ kf) (a : List (List Int)) (hw : wII a) (v : Int) (h0 : 0 ≤ v) (h1 : v ≤ 1048576) : F36 kf a v = some (if mII a ≤ v then v - mII a else -1) := by
  unfold F36
  have hl := hw.1
  unfold maxLen at hl
  rw [wrap_id (by omega) (by omega)]
  have hs := sumOf_nn (a := a) (fun x _ => mI_nn x)
  by_cases h : (a.length : Int) ≤ v
  · rw [show decide (v - (a.length : Int) < 0) = false by simp; omega, cond_false]
    have := sz_loop (a := a) (fun x _ => mI_nn x) (fun x hx v h0 h1 => sz53 kf x (hw.2 x hx) v h0 h1) (L := F36_L0 kf a v) (fun k v i => rfl) (by omega) a.length 0 kf (v - a.length) (by omega) (by omega) (by omega) (by omega) (by omega)
    simp only [List.drop_zero] at this
    rw [show ((0 : Nat) : Int) = 0 from rfl] at this
    rw [this]
    unfold mII
    by_cases hq : sumOf mI a ≤ v - a.length
    · rw [if_pos hq, if_pos (by omega)]
      simp; omega
    · rw [if_neg hq, if_neg (by omega)]
      simp
  · rw [show decide (v - (a.length : Int) < 0) = true by simp; omega, cond_true]
    unfold mII
    rw [if_neg (by omega)]

theorem sz16 (kf : Nat) (hk : 1048577 ≤ kf) (a : List (List (List Int))) (hw : wIII a) (v : Int) (h0 : 0 ≤ v) (h1 : v ≤ 1048576) : F16 kf a v = some (if mIII a ≤ v then v - mIII a else -1) := by
  unfold F16
  have hl := hw.1
  unfold maxLen at hl
  rw [wrap_id (by omega) (by omega)]
  have hs := sumOf_nn (a := a) (fun x _ => mII_nn x)
  by_cases h : (a.length : Int) ≤ v
  · rw [show decide (v - (a.length : Int) < 0) = false by simp; omega, cond_false]
    have := sz_loop (a := a) (fun x _ => mII_nn x) (fun x hx v h0 h1 => sz36 kf hk x (hw.2 x hx) v h0 h1) (L := F16_L0 kf a v) (fun k v i => rfl) (by omega) a.length 0 kf (v - a.length) (by omega) (by omega) (by omega) (by omega) (by omega)
    simp only [List.drop_zero] at this
    rw [show ((0 : Nat) : Int) = 0 from rfl] at this
    rw [this]
    unfold mIII
    by_cases hq : sumOf mII a ≤ v - a.length
    · rw [if_pos hq, if_pos (by omega)]
      simp; omega
    · rw [if_neg hq, if_neg (by omega)]
      simp
  · rw [show decide (v - (a.length : Int) < 0) = true by simp; omega, cond_true]
    unfold mIII
    rw [if_neg (by omega)]

theorem mem_sum {α : Type} {m : α → Int} : ∀ {a : List α}, (∀ x, x ∈ a → 0 ≤ m x) → ∀ x, x ∈ a → m x ≤ sumOf m a
  | [], _, x, hx => by simp at hx
  | y :: a, h, x, hx => by
    have h1 := h y (by simp)
    have h2 := sumOf_nn (a := a) (fun z hz => h z (by simp [hz]))
    simp only [sumOf]
    rcases List.mem_cons.1 hx with rfl | hx
    · omega
    · have := mem_sum (a := a) (fun z hz => h z (by simp [hz])) x hx; omega

theorem mkx_some {α : Type} (n : Nat) (z : α) (h : n ≤ 1048576) : mkx (n : Int) z = some (List.replicate n z) := by
  unfold mkx
  have : (decide ((0 : Int) ≤ (n : Int)) && decide ((n : Int) ≤ 2147483648)) = true := by simp; omega
  rw [this]; simp

theorem to9 (kf : Nat) (hk : 1048577 ≤ kf) (a : List Int) (hn : mI a ≤ 1048576) : F9 kf a = some a := by
  unfold F9
  unfold mI at hn
  rw [mkx_some a.length 0 (by omega), Option.bind_some]
  have := to_loop (a := a) (G := some) (h := id) (fun _ _ => rfl) (L := F9_L0 kf a (List.replicate a.length 0)) (fun k v i => rfl) (by omega) a.length 0 kf (List.replicate a.length 0) (by omega) (by omega) (by omega) (by simp) (by simp)
  rw [show ((0 : Nat) : Int) = 0 from rfl] at this
  rw [this]; simp
theorem to37 (kf : Nat) (hk : 1048577 ≤ kf) (a : List (List Int)) (hn : mII a ≤ 1048576) : F37 kf a = some a := by
  unfold F37
  have hs := sumOf_nn (a := a) (fun x _ => mI_nn x)
  have hx : ∀ x, x ∈ a → mI x ≤ 1048576 := fun x hx => by have := mem_sum (fun x _ => mI_nn x) x hx; unfold mII at hn; omega
  unfold mII at hn
  rw [mkx_some a.length [] (by omega), Option.bind_some]
  have := to_loop (a := a) (G := F9 kf) (h := id) (fun x hx' => to9 kf hk x (hx x hx')) (L := F37_L0 kf a (List.replicate a.length [])) (fun k v i => rfl) (by omega) a.length 0 kf (List.replicate a.length []) (by omega) (by omega) (by omega) (by simp) (by simp)
  rw [show ((0 : Nat) : Int) = 0 from rfl] at this
  rw [this]; simp
theorem to18 (kf : Nat) (hk : 1048577 ≤ kf) (a : List (List (List Int))) (hn : mIII a ≤ 1048576) : F18 kf a = some a := by
  unfold F18
  have hs := sumOf_nn (a := a) (fun x _ => mII_nn x)
  have hx : ∀ x, x ∈ a → mII x ≤ 1048576 := fun x hx => by have := mem_sum (fun x _ => mII_nn x) x hx; unfold mIII at hn; omega
  unfold mIII at hn
  rw [mkx_some a.length [] (by omega), Option.bind_some]
  have := to_loop (a := a) (G := F37 kf) (h := id) (fun x hx' => to37 kf hk x (hx x hx')) (L := F18_L0 kf a (List.replicate a.length [])) (fun k v i => rfl) (by omega) a.length 0 kf (List.replicate a.length []) (by omega) (by omega) (by omega) (by simp) (by simp)
  rw [show ((0 : Nat) : Int) = 0 from rfl] at this
  rw [this]; simp

theorem eq11 (kf : Nat) (hk : 1048577 ≤ kf) (a : List Int) (hn : mI a ≤ 1048576) : F11 kf a a = some true := by
  unfold F11
  unfold mI at hn
  have := eq_loop (a := a) (G := fun x y => some (x == y)) (fun x _ => by simp) (L := F11_L0 kf a a) (fun k i => rfl) (by omega) a.length 0 kf (by omega) (by omega) (by omega)
  rw [show ((0 : Nat) : Int) = 0 from rfl] at this
  rw [this]; simp
theorem eq38 (kf : Nat) (hk : 1048577 ≤ kf) (a : List (List Int)) (hn : mII a ≤ 1048576) : F38 kf a a = some true := by
  unfold F38
  have hs := sumOf_nn (a := a) (fun x _ => mI_nn x)
  have hx : ∀ x, x ∈ a → mI x ≤ 1048576 := fun x hx => by have := mem_sum (fun x _ => mI_nn x) x hx; unfold mII at hn; omega
  unfold mII at hn
  have := eq_loop (a := a) (G := F11 kf) (fun x hx' => eq11 kf hk x (hx x hx')) (L := F38_L0 kf a a) (fun k i => rfl) (by omega) a.length 0 kf (by omega) (by omega) (by omega)
  rw [show ((0 : Nat) : Int) = 0 from rfl] at this
  rw [this]; simp
theorem eq20 (kf : Nat) (hk : 1048577 ≤ kf) (a : List (List (List Int))) (hn : mIII a ≤ 1048576) : F20 kf a a = some true := by
  unfold F20
  have hs := sumOf_nn (a := a) (fun x _ => mII_nn x)
  have hx : ∀ x, x ∈ a → mII x ≤ 1048576 := fun x hx => by have := mem_sum (fun x _ => mII_nn x) x hx; unfold mIII at hn; omega
  unfold mIII at hn
  have := eq_loop (a := a) (G := F38 kf) (fun x hx' => eq38 kf hk x (hx x hx')) (L := F20_L0 kf a a) (fun k i => rfl) (by omega) a.length 0 kf (by omega) (by omega) (by omega)
  rw [show ((0 : Nat) : Int) = 0 from rfl] at this
  rw [this]; simp

theorem f17_some (kf : Nat) (a : List (List (List Int))) (hn : a.length ≤ 1048576) : ∀ (d n k : Nat) (v : Int), a.length - n = d → n ≤ a.length → d < k → ∃ r, F17_L0 kf a k v (n : Int) = some (.go (r, (a.length : Int))) := by
  intro d
  induction d with
  | zero =>
    intro n k v hd hle hk
    obtain ⟨k, rfl⟩ : ∃ j, k = j + 1 := ⟨k - 1, by omega⟩
    have : n = a.length := by omega
    subst this
    refine ⟨v, ?_⟩
    rw [F17_L0]; simp
  | succ d ih =>
    intro n k v hd hle hk
    obtain ⟨k, rfl⟩ : ∃ j, k = j + 1 := ⟨k - 1, by omega⟩
    have hlt : n < a.length := by omega
    rw [F17_L0]
    have hc : decide ((n : Int) < (a.length : Int)) = true := by simp [hlt]
    rw [hc, cond_true, ix_at hlt, Option.bind_some, wrap_id (i := (n : Int) + 1) (by omega) (by omega)]
    have := ih (n + 1) k (IntKind.i64.wrap (v + a[n].length)) (by omega) (by omega) (by omega)
    rw [show ((n + 1 : Nat) : Int) = (n : Int) + 1 by omega] at this
    exact this
theorem f19_17 (kf : Nat) (a : List (List (List Int))) : ∀ (k : Nat) (v i : Int), F19_L0 kf a k v i = F17_L0 kf a k v i := by
  intro k
  induction k with
  | zero => intro v i; rfl
  | succ k ih => intro v i; rw [F19_L0, F17_L0]; simp only [ih]

theorem pure5 (a : List (List (List Int))) (hw : wIII a) : ∃ kf, F5 kf a = some true := by
  refine ⟨1048577, ?_⟩
  generalize hkf : (1048577 : Nat) = kf
  have hk : 1048577 ≤ kf := by omega
  clear hkf
  unfold F5
  rw [sz16 kf hk a hw 1048576 (by omega) (by omega), Option.bind_some]
  by_cases h : mIII a ≤ 1048576
  · rw [if_pos h, show decide (1048576 - mIII a < 0) = false by simp; omega, cond_false, to18 kf hk a h, Option.bind_some]
    have hs := sumOf_nn (a := a) (fun x _ => mII_nn x)
    have hl : a.length ≤ 1048576 := by unfold mIII at h; omega
    obtain ⟨r, hr⟩ := f17_some kf a hl a.length 0 kf 0 (by omega) (by omega) (by omega)
    rw [show ((0 : Nat) : Int) = 0 from rfl] at hr
    have h17 : F17 kf a = some r := by unfold F17; rw [hr]; rfl
    have h19 : F19 kf a = some r := by unfold F19; rw [f19_17, hr]; rfl
    rw [h17, Option.bind_some, Option.bind_some, h19, Option.bind_some]
    simp [eq20 kf hk a h]
  · rw [if_neg h]
    rfl

end Go.Proofs.YtdclbbkkcngjnaaX
