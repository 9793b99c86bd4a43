/- The plain law of FnExactAsksOf: the plain function answers true. -/
import Derived.Test.YtdclbbkkcngjnaaTrD
import Derived.Test.YtdclbbkkcngjnaaGAsksOf
namespace Go.Proofs.YtdclbbkkcngjnaaX
open Go Go.Proofs.YtdclbbkkcngjnaaT
set_option linter.all false
def mByteArray (x : ByteArray) : Int := x.size
theorem mByteArray_nn (x : ByteArray) : 0 ≤ mByteArray x := by unfold mByteArray; omega
def mLInt (x : (List Int)) : Int := x.length
theorem mLInt_nn (x : (List Int)) : 0 ≤ mLInt x := by unfold mLInt; omega
def mS92 (x : S92) : Int := mByteArray x.f1 + mLInt x.f6
theorem mS92_nn (x : S92) : 0 ≤ mS92 x := by unfold mS92; have := mByteArray_nn x.f1; have := mLInt_nn x.f6; omega
def mLS92 (x : (List S92)) : Int := x.length + sumOf mS92 x
theorem mLS92_nn (x : (List S92)) : 0 ≤ mLS92 x := by have := sumOf_nn (a := x) (fun y _ => mS92_nn y); unfold mLS92; omega
def mLS98 (x : (List S98)) : Int := x.length
theorem mLS98_nn (x : (List S98)) : 0 ≤ mLS98 x := by unfold mLS98; omega
def mS59 (x : S59) : Int := mLS92 x.f1 + mLS92 x.f2 + mLS98 x.f3
theorem mS59_nn (x : S59) : 0 ≤ mS59 x := by unfold mS59; have := mLS92_nn x.f1; have := mLS92_nn x.f2; have := mLS98_nn x.f3; omega
def mLS59 (x : (List S59)) : Int := x.length + sumOf mS59 x
theorem mLS59_nn (x : (List S59)) : 0 ≤ mLS59 x := by have := sumOf_nn (a := x) (fun y _ => mS59_nn y); unfold mLS59; omega
def wInt (x : Int) : Prop := (Lit.int .i64 x).wf = true
def wByteArray (x : ByteArray) : Prop := x.size ≤ maxLen
def wBool (_ : Bool) : Prop := True
def wLInt (x : (List Int)) : Prop := x.length ≤ maxLen ∧ ∀ y, y ∈ x → wInt y
def wS92 (x : S92) : Prop := wInt x.f0 ∧ wByteArray x.f1 ∧ wInt x.f2 ∧ wInt x.f3 ∧ wInt x.f4 ∧ wBool x.f5 ∧ wLInt x.f6
def wLS92 (x : (List S92)) : Prop := x.length ≤ maxLen ∧ ∀ y, y ∈ x → wS92 y
def wS98 (x : S98) : Prop := wInt x.f0 ∧ wInt x.f1
def wLS98 (x : (List S98)) : Prop := x.length ≤ maxLen ∧ ∀ y, y ∈ x → wS98 y
def wS59 (x : S59) : Prop := wInt x.f0 ∧ wLS92 x.f1 ∧ wLS92 x.f2 ∧ wLS98 x.f3
def wLS59 (x : (List S59)) : Prop := x.length ≤ maxLen ∧ ∀ y, y ∈ x → wS59 y
theorem psz53 (kf : Nat) (hk : 1048577 ≤ kf) (a : (List Int)) (hw : wLInt a) (v : Int) (h0 : 0 ≤ v) (h1 : v ≤ 1048576) : F53 kf a v = some (if mLInt a ≤ v then v - mLInt a else -1) := by
  have hl := hw.1
  unfold maxLen at hl
  unfold F53 mLInt
  rw [wrap_id (by omega) (by omega)]
  by_cases h : (a.length : Int) ≤ v
  · rw [if_pos h, show decide (v - (a.length : Int) < 0) = false by simp; omega]; rfl
  · rw [if_neg h, show decide (v - (a.length : Int) < 0) = true by simp; omega]; rfl
theorem psz63 (kf : Nat) (hk : 1048577 ≤ kf) (a : S92) (hw : wS92 a) (v : Int) (h0 : 0 ≤ v) (h1 : v ≤ 1048576) : F63 kf a v = some (if mS92 a ≤ v then v - mS92 a else -1) := by
  unfold F63
  have n1 := mByteArray_nn a.f1
  have n6 := mLInt_nn a.f6
  have q1 : (a.f1.size : Int) = mByteArray a.f1 := rfl
  have l1 := hw.2.1
  unfold wByteArray maxLen at l1
  rw [wrap_id (by omega) (by omega), q1]
  by_cases g1 : mByteArray a.f1 ≤ v
  · rw [show decide (v - mByteArray a.f1 < 0) = false by simp; omega, cond_false]
    rw [psz53 kf hk a.f6 (hw.2.2.2.2.2.2) (v - mByteArray a.f1) (by omega) (by omega), Option.bind_some]
    by_cases g6 : mLInt a.f6 ≤ v - mByteArray a.f1
    · rw [if_pos g6]
      rw [show decide (v - mByteArray a.f1 - mLInt a.f6 < 0) = false by simp; omega, cond_false]
      unfold mS92
      rw [if_pos (by omega)]
      simp; omega
    · rw [if_neg g6, show decide ((-1 : Int) < 0) = true from rfl, cond_true]
      unfold mS92
      rw [if_neg (by omega)]
  · rw [show decide (v - mByteArray a.f1 < 0) = true by simp; omega, cond_true]
    unfold mS92
    rw [if_neg (by omega)]
theorem psz54 (kf : Nat) (hk : 1048577 ≤ kf) (a : (List S92)) (hw : wLS92 a) (v : Int) (h0 : 0 ≤ v) (h1 : v ≤ 1048576) : F54 kf a v = some (if mLS92 a ≤ v then v - mLS92 a else -1) := by
  unfold F54
  have hl := hw.1
  unfold maxLen at hl
  rw [wrap_id (by omega) (by omega)]
  have hs := sumOf_nn (a := a) (fun x _ => mS92_nn x)
  by_cases h : (a.length : Int) ≤ v
  · rw [show decide (v - (a.length : Int) < 0) = false by simp; omega, cond_false]
    have := sz_loop (a := a) (fun x _ => mS92_nn x) (fun x hx v h0 h1 => psz63 kf hk x (hw.2 x hx) v h0 h1) (L := F54_L0 kf a v) (fun k v i => rfl) (by omega) a.length 0 kf (v - a.length) (by omega) (by omega) (by omega) (by omega) (by omega)
    simp only [List.drop_zero] at this
    rw [show ((0 : Nat) : Int) = 0 from rfl] at this
    rw [this]
    unfold mLS92
    by_cases hq : sumOf mS92 a ≤ v - a.length
    · rw [if_pos hq, if_pos (by omega)]
      simp; omega
    · rw [if_neg hq, if_neg (by omega)]
      simp
  · rw [show decide (v - (a.length : Int) < 0) = true by simp; omega, cond_true]
    unfold mLS92
    rw [if_neg (by omega)]
theorem psz55 (kf : Nat) (hk : 1048577 ≤ kf) (a : (List S98)) (hw : wLS98 a) (v : Int) (h0 : 0 ≤ v) (h1 : v ≤ 1048576) : F55 kf a v = some (if mLS98 a ≤ v then v - mLS98 a else -1) := by
  have hl := hw.1
  unfold maxLen at hl
  unfold F55 mLS98
  rw [wrap_id (by omega) (by omega)]
  by_cases h : (a.length : Int) ≤ v
  · rw [if_pos h, show decide (v - (a.length : Int) < 0) = false by simp; omega]; rfl
  · rw [if_neg h, show decide (v - (a.length : Int) < 0) = true by simp; omega]; rfl
theorem psz39 (kf : Nat) (hk : 1048577 ≤ kf) (a : S59) (hw : wS59 a) (v : Int) (h0 : 0 ≤ v) (h1 : v ≤ 1048576) : F39 kf a v = some (if mS59 a ≤ v then v - mS59 a else -1) := by
  unfold F39
  have n1 := mLS92_nn a.f1
  have n2 := mLS92_nn a.f2
  have n3 := mLS98_nn a.f3
  rw [psz54 kf hk a.f1 (hw.2.1) (v) (by omega) (by omega), Option.bind_some]
  by_cases g1 : mLS92 a.f1 ≤ v
  · rw [if_pos g1]
    rw [show decide (v - mLS92 a.f1 < 0) = false by simp; omega, cond_false]
    rw [psz54 kf hk a.f2 (hw.2.2.1) (v - mLS92 a.f1) (by omega) (by omega), Option.bind_some]
    by_cases g2 : mLS92 a.f2 ≤ v - mLS92 a.f1
    · rw [if_pos g2]
      rw [show decide (v - mLS92 a.f1 - mLS92 a.f2 < 0) = false by simp; omega, cond_false]
      rw [psz55 kf hk a.f3 (hw.2.2.2) (v - mLS92 a.f1 - mLS92 a.f2) (by omega) (by omega), Option.bind_some]
      by_cases g3 : mLS98 a.f3 ≤ v - mLS92 a.f1 - mLS92 a.f2
      · rw [if_pos g3]
        rw [show decide (v - mLS92 a.f1 - mLS92 a.f2 - mLS98 a.f3 < 0) = false by simp; omega, cond_false]
        unfold mS59
        rw [if_pos (by omega)]
        simp; omega
      · rw [if_neg g3, show decide ((-1 : Int) < 0) = true from rfl, cond_true]
        unfold mS59
        rw [if_neg (by omega)]
    · rw [if_neg g2, show decide ((-1 : Int) < 0) = true from rfl, cond_true]
      unfold mS59
      rw [if_neg (by omega)]
  · rw [if_neg g1, show decide ((-1 : Int) < 0) = true from rfl, cond_true]
    unfold mS59
    rw [if_neg (by omega)]
theorem psz21 (kf : Nat) (hk : 1048577 ≤ kf) (a : (List S59)) (hw : wLS59 a) (v : Int) (h0 : 0 ≤ v) (h1 : v ≤ 1048576) : F21 kf a v = some (if mLS59 a ≤ v then v - mLS59 a else -1) := by
  unfold F21
  have hl := hw.1
  unfold maxLen at hl
  rw [wrap_id (by omega) (by omega)]
  have hs := sumOf_nn (a := a) (fun x _ => mS59_nn x)
  by_cases h : (a.length : Int) ≤ v
  · rw [show decide (v - (a.length : Int) < 0) = false by simp; omega, cond_false]
    have := sz_loop (a := a) (fun x _ => mS59_nn x) (fun x hx v h0 h1 => psz39 kf hk x (hw.2 x hx) v h0 h1) (L := F21_L0 kf a v) (fun k v i => rfl) (by omega) a.length 0 kf (v - a.length) (by omega) (by omega) (by omega) (by omega) (by omega)
    simp only [List.drop_zero] at this
    rw [show ((0 : Nat) : Int) = 0 from rfl] at this
    rw [this]
    unfold mLS59
    by_cases hq : sumOf mS59 a ≤ v - a.length
    · rw [if_pos hq, if_pos (by omega)]
      simp; omega
    · rw [if_neg hq, if_neg (by omega)]
      simp
  · rw [show decide (v - (a.length : Int) < 0) = true by simp; omega, cond_true]
    unfold mLS59
    rw [if_neg (by omega)]
theorem pto9 (kf : Nat) (hk : 1048577 ≤ kf) (a : (List Int)) (hn : mLInt a ≤ 1048576) : F9 kf a = some a := by
  unfold F9
  unfold mLInt at hn
  rw [mkx_some a.length 0 (by omega), Option.bind_some]
  have := to_loop (a := a) (G := some) (h := id) (fun _ _ => rfl) (L := F9_L0 kf a (List.replicate a.length 0)) (fun k v i => rfl) (by omega) a.length 0 kf (List.replicate a.length 0) (by omega) (by omega) (by omega) (by simp) (by simp)
  rw [show ((0 : Nat) : Int) = 0 from rfl] at this
  rw [this]; simp
theorem pto64 (kf : Nat) (hk : 1048577 ≤ kf) (a : S92) (hn : mS92 a ≤ 1048576) : F64 kf a = some a := by
  unfold F64
  unfold mS92 at hn
  have n1 := mByteArray_nn a.f1
  have n6 := mLInt_nn a.f6
  rw [pto9 kf hk a.f6 (by omega), Option.bind_some]
theorem pto56 (kf : Nat) (hk : 1048577 ≤ kf) (a : (List S92)) (hn : mLS92 a ≤ 1048576) : F56 kf a = some a := by
  unfold F56
  have hs := sumOf_nn (a := a) (fun x _ => mS92_nn x)
  have hx : ∀ x, x ∈ a → mS92 x ≤ 1048576 := fun x hx => by have := mem_sum (fun x _ => mS92_nn x) x hx; unfold mLS92 at hn; omega
  unfold mLS92 at hn
  rw [mkx_some a.length (⟨0, ByteArray.empty, 0, 0, 0, false, []⟩ : S92) (by omega), Option.bind_some]
  have := to_loop (a := a) (G := F64 kf) (h := id) (fun x hx' => pto64 kf hk x (hx x hx')) (L := F56_L0 kf a (List.replicate a.length (⟨0, ByteArray.empty, 0, 0, 0, false, []⟩ : S92))) (fun k v i => rfl) (by omega) a.length 0 kf (List.replicate a.length (⟨0, ByteArray.empty, 0, 0, 0, false, []⟩ : S92)) (by omega) (by omega) (by omega) (by simp) (by simp)
  rw [show ((0 : Nat) : Int) = 0 from rfl] at this
  rw [this]; simp
def mS98 (x : S98) : Int := 0
theorem mS98_nn (x : S98) : 0 ≤ mS98 x := by unfold mS98;  omega
theorem pto65 (kf : Nat) (hk : 1048577 ≤ kf) (a : S98) (hn : mS98 a ≤ 1048576) : F65 kf a = some a := by
  unfold F65
  unfold mS98 at hn
  rfl
theorem pto57 (kf : Nat) (hk : 1048577 ≤ kf) (a : (List S98)) (hn : mLS98 a ≤ 1048576) : F57 kf a = some a := by
  unfold F57
  unfold mLS98 at hn
  rw [mkx_some a.length (⟨0, 0⟩ : S98) (by omega), Option.bind_some]
  have := to_loop (a := a) (G := F65 kf) (h := id) (fun x hx' => pto65 kf hk x (by unfold mS98; omega)) (L := F57_L0 kf a (List.replicate a.length (⟨0, 0⟩ : S98))) (fun k v i => rfl) (by omega) a.length 0 kf (List.replicate a.length (⟨0, 0⟩ : S98)) (by omega) (by omega) (by omega) (by simp) (by simp)
  rw [show ((0 : Nat) : Int) = 0 from rfl] at this
  rw [this]; simp
theorem pto40 (kf : Nat) (hk : 1048577 ≤ kf) (a : S59) (hn : mS59 a ≤ 1048576) : F40 kf a = some a := by
  unfold F40
  unfold mS59 at hn
  have n1 := mLS92_nn a.f1
  have n2 := mLS92_nn a.f2
  have n3 := mLS98_nn a.f3
  rw [pto56 kf hk a.f1 (by omega), Option.bind_some]
  rw [pto56 kf hk a.f2 (by omega), Option.bind_some]
  rw [pto57 kf hk a.f3 (by omega), Option.bind_some]
theorem pto23 (kf : Nat) (hk : 1048577 ≤ kf) (a : (List S59)) (hn : mLS59 a ≤ 1048576) : F23 kf a = some a := by
  unfold F23
  have hs := sumOf_nn (a := a) (fun x _ => mS59_nn x)
  have hx : ∀ x, x ∈ a → mS59 x ≤ 1048576 := fun x hx => by have := mem_sum (fun x _ => mS59_nn x) x hx; unfold mLS59 at hn; omega
  unfold mLS59 at hn
  rw [mkx_some a.length (⟨0, [], [], []⟩ : S59) (by omega), Option.bind_some]
  have := to_loop (a := a) (G := F40 kf) (h := id) (fun x hx' => pto40 kf hk x (hx x hx')) (L := F23_L0 kf a (List.replicate a.length (⟨0, [], [], []⟩ : S59))) (fun k v i => rfl) (by omega) a.length 0 kf (List.replicate a.length (⟨0, [], [], []⟩ : S59)) (by omega) (by omega) (by omega) (by simp) (by simp)
  rw [show ((0 : Nat) : Int) = 0 from rfl] at this
  rw [this]; simp
theorem peq11 (kf : Nat) (hk : 1048577 ≤ kf) (a : (List Int)) (hn : mLInt a ≤ 1048576) : F11 kf a a = some true := by
  unfold F11
  unfold mLInt at hn
  have := eq_loop (a := a) (G := fun x y => some (x == y)) (fun x _ => by simp) (L := F11_L0 kf a a) (fun k i => rfl) (by omega) a.length 0 kf (by omega) (by omega) (by omega)
  rw [show ((0 : Nat) : Int) = 0 from rfl] at this
  rw [this]; simp
theorem peq66 (kf : Nat) (hk : 1048577 ≤ kf) (a : S92) (hn : mS92 a ≤ 1048576) : F66 kf a a = some true := by
  unfold F66
  unfold mS92 at hn
  have n1 := mByteArray_nn a.f1
  have n6 := mLInt_nn a.f6
  simp [peq11 kf hk a.f6 (by omega)]
theorem peq58 (kf : Nat) (hk : 1048577 ≤ kf) (a : (List S92)) (hn : mLS92 a ≤ 1048576) : F58 kf a a = some true := by
  unfold F58
  have hs := sumOf_nn (a := a) (fun x _ => mS92_nn x)
  have hx : ∀ x, x ∈ a → mS92 x ≤ 1048576 := fun x hx => by have := mem_sum (fun x _ => mS92_nn x) x hx; unfold mLS92 at hn; omega
  unfold mLS92 at hn
  have := eq_loop (a := a) (G := F66 kf) (fun x hx' => peq66 kf hk x (hx x hx')) (L := F58_L0 kf a a) (fun k i => rfl) (by omega) a.length 0 kf (by omega) (by omega) (by omega)
  rw [show ((0 : Nat) : Int) = 0 from rfl] at this
  rw [this]; simp
theorem peq67 (kf : Nat) (hk : 1048577 ≤ kf) (a : S98) (hn : mS98 a ≤ 1048576) : F67 kf a a = some true := by
  unfold F67
  unfold mS98 at hn
  simp
theorem peq59 (kf : Nat) (hk : 1048577 ≤ kf) (a : (List S98)) (hn : mLS98 a ≤ 1048576) : F59 kf a a = some true := by
  unfold F59
  unfold mLS98 at hn
  have := eq_loop (a := a) (G := F67 kf) (fun x hx' => peq67 kf hk x (by unfold mS98; omega)) (L := F59_L0 kf a a) (fun k i => rfl) (by omega) a.length 0 kf (by omega) (by omega) (by omega)
  rw [show ((0 : Nat) : Int) = 0 from rfl] at this
  rw [this]; simp
theorem peq42 (kf : Nat) (hk : 1048577 ≤ kf) (a : S59) (hn : mS59 a ≤ 1048576) : F42 kf a a = some true := by
  unfold F42
  unfold mS59 at hn
  have n1 := mLS92_nn a.f1
  have n2 := mLS92_nn a.f2
  have n3 := mLS98_nn a.f3
  simp [peq58 kf hk a.f1 (by omega), peq58 kf hk a.f2 (by omega), peq59 kf hk a.f3 (by omega)]
theorem peq25 (kf : Nat) (hk : 1048577 ≤ kf) (a : (List S59)) (hn : mLS59 a ≤ 1048576) : F25 kf a a = some true := by
  unfold F25
  have hs := sumOf_nn (a := a) (fun x _ => mS59_nn x)
  have hx : ∀ x, x ∈ a → mS59 x ≤ 1048576 := fun x hx => by have := mem_sum (fun x _ => mS59_nn x) x hx; unfold mLS59 at hn; omega
  unfold mLS59 at hn
  have := eq_loop (a := a) (G := F42 kf) (fun x hx' => peq42 kf hk x (hx x hx')) (L := F25_L0 kf a a) (fun k i => rfl) (by omega) a.length 0 kf (by omega) (by omega) (by omega)
  rw [show ((0 : Nat) : Int) = 0 from rfl] at this
  rw [this]; simp
theorem asks_some (kf : Nat) (a : List S59) (hn : a.length ≤ 1048576) : ∀ (d n k : Nat) (v : Int), a.length - n = d → n ≤ a.length → d < k → 0 ≤ v → v ≤ n →
    ∃ r, F22_L0 kf a k v (n : Int) = some (.go (r, (a.length : Int))) ∧ F24_L0 kf a k v (n : Int) = some (.go (r, (a.length : Int))) := by
  intro d
  induction d with
  | zero =>
    intro n k v hd hle hk h0 h1
    obtain ⟨k, rfl⟩ : ∃ j, k = j + 1 := ⟨k - 1, by omega⟩
    have : n = a.length := by omega
    subst this
    refine ⟨v, ?_, ?_⟩
    · rw [F22_L0]; simp
    · rw [F24_L0]; simp
  | succ d ih =>
    intro n k v hd hle hk h0 h1
    obtain ⟨k, rfl⟩ : ∃ j, k = j + 1 := ⟨k - 1, by omega⟩
    have hlt : n < a.length := by omega
    rw [F22_L0, F24_L0]
    have hc : decide ((n : Int) < (a.length : Int)) = true := by simp [hlt]
    rw [hc, cond_true, cond_true, ix_at hlt, Option.bind_some, Option.bind_some]
    unfold F22_J0 F41
    rw [wrap_id (i := (n : Int) + 1) (by omega) (by omega)]
    cases hb : (a[n].f0 == 0)
    · simp only [cond_false, Option.bind_some]
      rw [wrap_id (i := v + 0) (by omega) (by omega), Int.add_zero]
      have := ih (n + 1) k v (by omega) (by omega) (by omega) h0 (by omega)
      rwa [show ((n + 1 : Nat) : Int) = (n : Int) + 1 by omega] at this
    · simp only [cond_true, Option.bind_some]
      rw [wrap_id (i := v + 1) (by omega) (by omega)]
      have := ih (n + 1) k (v + 1) (by omega) (by omega) (by omega) (by omega) (by omega)
      rwa [show ((n + 1 : Nat) : Int) = (n : Int) + 1 by omega] at this

theorem pure6 (a : List S59) (hw : wLS59 a) : ∃ kf, F6 kf a = some true := by
  refine ⟨1048577, ?_⟩
  generalize hkf : (1048577 : Nat) = kf
  have hk : 1048577 ≤ kf := by omega
  clear hkf
  unfold F6
  rw [psz21 kf hk a hw 1048576 (by omega) (by omega), Option.bind_some]
  by_cases h : mLS59 a ≤ 1048576
  · rw [if_pos h, show decide (1048576 - mLS59 a < 0) = false by simp; omega, cond_false, pto23 kf hk a h, Option.bind_some]
    have hs := sumOf_nn (a := a) (fun x _ => mS59_nn x)
    have hl : a.length ≤ 1048576 := by unfold mLS59 at h; omega
    obtain ⟨r, h1, h2⟩ := asks_some kf a hl a.length 0 kf 0 (by omega) (by omega) (by omega) (by omega) (by omega)
    rw [show ((0 : Nat) : Int) = 0 from rfl] at h1 h2
    have h22 : F22 kf a = some r := by unfold F22; rw [h1]; rfl
    have h24 : F24 kf a = some r := by unfold F24; rw [h2]; rfl
    rw [h22, Option.bind_some, Option.bind_some, h24, Option.bind_some]
    simp [peq25 kf hk a h]
  · rw [if_neg h]
    rfl
end Go.Proofs.YtdclbbkkcngjnaaX
