/- The plain law of FnExactStoreFrom: the plain function answers true. -/
import Derived.Test.YtdclbbkkcngjnaaTrD
import Derived.Test.YtdclbbkkcngjnaaGStoreFrom
namespace Go.Proofs.YtdclbbkkcngjnaaX
open Go Go.Proofs.YtdclbbkkcngjnaaT
set_option linter.all false
def mByteArray (x : ByteArray) : Int := x.size
theorem mByteArray_nn (x : ByteArray) : 0 ≤ mByteArray x := by unfold mByteArray; omega
def mS69 (x : S69) : Int := mByteArray x.f0
theorem mS69_nn (x : S69) : 0 ≤ mS69 x := by unfold mS69; have := mByteArray_nn x.f0; omega
def mLS69 (x : (List S69)) : Int := x.length + sumOf mS69 x
theorem mLS69_nn (x : (List S69)) : 0 ≤ mLS69 x := by have := sumOf_nn (a := x) (fun y _ => mS69_nn y); unfold mLS69; omega
def wByteArray (x : ByteArray) : Prop := x.size ≤ maxLen
def wInt (x : Int) : Prop := (Lit.int .i64 x).wf = true
def wS69 (x : S69) : Prop := wByteArray x.f0 ∧ wInt x.f1
def wLS69 (x : (List S69)) : Prop := x.length ≤ maxLen ∧ ∀ y, y ∈ x → wS69 y
theorem psz43 (kf : Nat) (hk : 1048577 ≤ kf) (a : S69) (hw : wS69 a) (v : Int) (h0 : 0 ≤ v) (h1 : v ≤ 1048576) : F43 kf a v = some (if mS69 a ≤ v then v - mS69 a else -1) := by
  unfold F43
  have n0 := mByteArray_nn a.f0
  have q0 : (a.f0.size : Int) = mByteArray a.f0 := rfl
  have l0 := hw.1
  unfold wByteArray maxLen at l0
  rw [wrap_id (by omega) (by omega), q0]
  by_cases g0 : mByteArray a.f0 ≤ v
  · rw [show decide (v - mByteArray a.f0 < 0) = false by simp; omega, cond_false]
    unfold mS69
    rw [if_pos (by omega)]
    try (simp; omega)
  · rw [show decide (v - mByteArray a.f0 < 0) = true by simp; omega, cond_true]
    unfold mS69
    rw [if_neg (by omega)]
theorem psz26 (kf : Nat) (hk : 1048577 ≤ kf) (a : (List S69)) (hw : wLS69 a) (v : Int) (h0 : 0 ≤ v) (h1 : v ≤ 1048576) : F26 kf a v = some (if mLS69 a ≤ v then v - mLS69 a else -1) := by
  unfold F26
  have hl := hw.1
  unfold maxLen at hl
  rw [wrap_id (by omega) (by omega)]
  have hs := sumOf_nn (a := a) (fun x _ => mS69_nn x)
  by_cases h : (a.length : Int) ≤ v
  · rw [show decide (v - (a.length : Int) < 0) = false by simp; omega, cond_false]
    have := sz_loop (a := a) (fun x _ => mS69_nn x) (fun x hx v h0 h1 => psz43 kf hk x (hw.2 x hx) v h0 h1) (L := F26_L0 kf a v) (fun k v i => rfl) (by omega) a.length 0 kf (v - a.length) (by omega) (by omega) (by omega) (by omega) (by omega)
    simp only [List.drop_zero] at this
    rw [show ((0 : Nat) : Int) = 0 from rfl] at this
    rw [this]
    unfold mLS69
    by_cases hq : sumOf mS69 a ≤ v - a.length
    · rw [if_pos hq, if_pos (by omega)]
      simp; omega
    · rw [if_neg hq, if_neg (by omega)]
      simp
  · rw [show decide (v - (a.length : Int) < 0) = true by simp; omega, cond_true]
    unfold mLS69
    rw [if_neg (by omega)]
theorem pto46 (kf : Nat) (hk : 1048577 ≤ kf) (a : S69) (hn : mS69 a ≤ 1048576) : F46 kf a = some a := by
  unfold F46
  unfold mS69 at hn
  have n0 := mByteArray_nn a.f0
  rfl
theorem pto28 (kf : Nat) (hk : 1048577 ≤ kf) (a : (List S69)) (hn : mLS69 a ≤ 1048576) : F28 kf a = some a := by
  unfold F28
  have hs := sumOf_nn (a := a) (fun x _ => mS69_nn x)
  have hx : ∀ x, x ∈ a → mS69 x ≤ 1048576 := fun x hx => by have := mem_sum (fun x _ => mS69_nn x) x hx; unfold mLS69 at hn; omega
  unfold mLS69 at hn
  rw [mkx_some a.length (⟨ByteArray.empty, 0⟩ : S69) (by omega), Option.bind_some]
  have := to_loop (a := a) (G := F46 kf) (h := id) (fun x hx' => pto46 kf hk x (hx x hx')) (L := F28_L0 kf a (List.replicate a.length (⟨ByteArray.empty, 0⟩ : S69))) (fun k v i => rfl) (by omega) a.length 0 kf (List.replicate a.length (⟨ByteArray.empty, 0⟩ : S69)) (by omega) (by omega) (by omega) (by simp) (by simp)
  rw [show ((0 : Nat) : Int) = 0 from rfl] at this
  rw [this]; simp
def mLInt (x : (List Int)) : Int := x.length
theorem mLInt_nn (x : (List Int)) : 0 ≤ mLInt x := by unfold mLInt; omega
theorem peq11 (kf : Nat) (hk : 1048577 ≤ kf) (a : (List Int)) (hn : mLInt a ≤ 1048576) : F11 kf a a = some true := by
  unfold F11
  unfold mLInt at hn
  have := eq_loop (a := a) (G := fun x y => some (x == y)) (fun x _ => by simp) (L := F11_L0 kf a a) (fun k i => rfl) (by omega) a.length 0 kf (by omega) (by omega) (by omega)
  rw [show ((0 : Nat) : Int) = 0 from rfl] at this
  rw [this]; simp
def mLLInt (x : (List (List Int))) : Int := x.length + sumOf mLInt x
theorem mLLInt_nn (x : (List (List Int))) : 0 ≤ mLLInt x := by have := sumOf_nn (a := x) (fun y _ => mLInt_nn y); unfold mLLInt; omega
def mLLLInt (x : (List (List (List Int)))) : Int := x.length + sumOf mLLInt x
theorem mLLLInt_nn (x : (List (List (List Int)))) : 0 ≤ mLLLInt x := by have := sumOf_nn (a := x) (fun y _ => mLLInt_nn y); unfold mLLLInt; omega
theorem peq38 (kf : Nat) (hk : 1048577 ≤ kf) (a : (List (List Int))) (hn : mLLInt a ≤ 1048576) : F38 kf a a = some true := by
  unfold F38
  have hs := sumOf_nn (a := a) (fun x _ => mLInt_nn x)
  have hx : ∀ x, x ∈ a → mLInt x ≤ 1048576 := fun x hx => by have := mem_sum (fun x _ => mLInt_nn x) x hx; unfold mLLInt at hn; omega
  unfold mLLInt at hn
  have := eq_loop (a := a) (G := F11 kf) (fun x hx' => peq11 kf hk x (hx x hx')) (L := F38_L0 kf a a) (fun k i => rfl) (by omega) a.length 0 kf (by omega) (by omega) (by omega)
  rw [show ((0 : Nat) : Int) = 0 from rfl] at this
  rw [this]; simp
theorem peq20 (kf : Nat) (hk : 1048577 ≤ kf) (a : (List (List (List Int)))) (hn : mLLLInt a ≤ 1048576) : F20 kf a a = some true := by
  unfold F20
  have hs := sumOf_nn (a := a) (fun x _ => mLLInt_nn x)
  have hx : ∀ x, x ∈ a → mLLInt x ≤ 1048576 := fun x hx => by have := mem_sum (fun x _ => mLLInt_nn x) x hx; unfold mLLLInt at hn; omega
  unfold mLLLInt at hn
  have := eq_loop (a := a) (G := F38 kf) (fun x hx' => peq38 kf hk x (hx x hx')) (L := F20_L0 kf a a) (fun k i => rfl) (by omega) a.length 0 kf (by omega) (by omega) (by omega)
  rw [show ((0 : Nat) : Int) = 0 from rfl] at this
  rw [this]; simp
theorem peq49 (kf : Nat) (hk : 1048577 ≤ kf) (a : S69) (hn : mS69 a ≤ 1048576) : F49 kf a a = some true := by
  unfold F49
  unfold mS69 at hn
  have n0 := mByteArray_nn a.f0
  simp
theorem peq30 (kf : Nat) (hk : 1048577 ≤ kf) (a : (List S69)) (hn : mLS69 a ≤ 1048576) : F30 kf a a = some true := by
  unfold F30
  have hs := sumOf_nn (a := a) (fun x _ => mS69_nn x)
  have hx : ∀ x, x ∈ a → mS69 x ≤ 1048576 := fun x hx => by have := mem_sum (fun x _ => mS69_nn x) x hx; unfold mLS69 at hn; omega
  unfold mLS69 at hn
  have := eq_loop (a := a) (G := F49 kf) (fun x hx' => peq49 kf hk x (hx x hx')) (L := F30_L0 kf a a) (fun k i => rfl) (by omega) a.length 0 kf (by omega) (by omega) (by omega)
  rw [show ((0 : Nat) : Int) = 0 from rfl] at this
  rw [this]; simp
-- what both say of a schema
theorem in_eq (kf : Nat) (a b c : Int) : F34 kf a b c = some (decide (b ≤ a) && decide (a ≤ c)) := by
  unfold F34 F34_J0
  cases decide (b ≤ a) <;> rfl
theorem in_eq' (kf : Nat) (a b c : Int) : F35 kf a b c = some (decide (b ≤ a) && decide (a ≤ c)) := by
  unfold F35 F35_J0
  have : decide (a ≥ b) = decide (b ≤ a) := rfl
  rw [this]
  cases decide (b ≤ a) <;> rfl
theorem next_eq (kf : Nat) (x : Int) : F48 kf x = F45 kf x := by unfold F48 F45; rw [Int.mul_comm]

-- marks: laid, and found again
theorem mk14 (kf : Nat) (hk : 1048577 ≤ kf) (a : List Int) (hn : mLInt a ≤ 1048576) (v : Int) (h0 : 0 ≤ v) (hB : v + mLInt a ≤ 1073741824) :
    ∃ a', F14 kf a v = some (v + mLInt a, a') ∧ F15 kf a' v = some (v + mLInt a) := by
  unfold mLInt at *
  obtain ⟨ys, h1, h2, h3⟩ := mark_ints (a := a) (L := F14_L0 kf a v) (fun k v i xs => rfl) (by omega) kf (by omega) v h0 hB
  refine ⟨ys, by unfold F14; rw [h1]; rfl, ?_⟩
  have := held_ints (a := ys) (L := F15_L0 kf ys v) (fun k v i => rfl) (by omega) ys.length 0 kf v (v + a.length) (by omega) (by omega) (by omega) h0 hB (by simpa using h3)
  unfold F15
  rw [show ((0 : Nat) : Int) = 0 from rfl] at this
  rw [this]; rfl
def cLL (a : List (List Int)) : Int := sumOf mLInt a
def cLLL (a : List (List (List Int))) : Int := sumOf cLL a
theorem cLL_nn (a : List (List Int)) : 0 ≤ cLL a := sumOf_nn (fun x _ => mLInt_nn x)
theorem cLLL_nn (a : List (List (List Int))) : 0 ≤ cLLL a := sumOf_nn (fun x _ => cLL_nn x)
theorem mk51 (kf : Nat) (hk : 1048577 ≤ kf) (a : List (List Int)) (hn : mLLInt a ≤ 1048576) (v : Int) (h0 : 0 ≤ v) (hB : v + cLL a ≤ 1073741824) :
    ∃ a', F51 kf a v = some (v + cLL a, a') ∧ F52 kf a' v = some (v + cLL a) := by
  have hs := sumOf_nn (a := a) (fun x _ => mLInt_nn x)
  have hx : ∀ x, x ∈ a → mLInt x ≤ 1048576 := fun x hx => by have := mem_sum (fun x _ => mLInt_nn x) x hx; unfold mLLInt at hn; omega
  unfold mLLInt at hn
  obtain ⟨ys, h1, h2, _, h3⟩ := mark_loop (a := a) (G := F14 kf) (c := mLInt) (Hd := F15 kf) (B := 1073741824) (fun x _ => mLInt_nn x) (fun x hx' v h0 hB => mk14 kf hk x (hx x hx') v h0 hB) (L := F51_L0 kf a v) (fun k v i xs => rfl) (by omega) a.length 0 kf v a (by omega) (by omega) (by omega) h0 (by simpa [cLL] using hB) rfl rfl
  simp only [List.drop_zero] at h1 h3
  rw [show ((0 : Nat) : Int) = 0 from rfl] at h1
  refine ⟨ys, by unfold F51; rw [h1]; rfl, ?_⟩
  have := held_loop (a := ys) (Hd := F15 kf) (L := F52_L0 kf ys v) (fun k v i => rfl) (by omega) ys.length 0 kf v _ (by omega) (by omega) (by omega) (by simpa using h3)
  unfold F52
  rw [show ((0 : Nat) : Int) = 0 from rfl] at this
  rw [this]; rfl
theorem mk32 (kf : Nat) (hk : 1048577 ≤ kf) (a : List (List (List Int))) (hn : mLLLInt a ≤ 1048576) (v : Int) (h0 : 0 ≤ v) (hB : v + cLLL a ≤ 1073741824) :
    ∃ a', F32 kf a v = some (v + cLLL a, a') ∧ F33 kf a' v = some (v + cLLL a) := by
  have hs := sumOf_nn (a := a) (fun x _ => mLLInt_nn x)
  have hx : ∀ x, x ∈ a → mLLInt x ≤ 1048576 := fun x hx => by have := mem_sum (fun x _ => mLLInt_nn x) x hx; unfold mLLLInt at hn; omega
  unfold mLLLInt at hn
  obtain ⟨ys, h1, h2, _, h3⟩ := mark_loop (a := a) (G := F51 kf) (c := cLL) (Hd := F52 kf) (B := 1073741824) (fun x _ => cLL_nn x) (fun x hx' v h0 hB => mk51 kf hk x (hx x hx') v h0 hB) (L := F32_L0 kf a v) (fun k v i xs => rfl) (by omega) a.length 0 kf v a (by omega) (by omega) (by omega) h0 (by simpa [cLLL] using hB) rfl rfl
  simp only [List.drop_zero] at h1 h3
  rw [show ((0 : Nat) : Int) = 0 from rfl] at h1
  refine ⟨ys, by unfold F32; rw [h1]; rfl, ?_⟩
  have := held_loop (a := ys) (Hd := F52 kf) (L := F33_L0 kf ys v) (fun k v i => rfl) (by omega) ys.length 0 kf v _ (by omega) (by omega) (by omega) (by simpa using h3)
  unfold F33
  rw [show ((0 : Nat) : Int) = 0 from rfl] at this
  rw [this]; rfl
theorem text_loop (kf : Nat) (a : Int) : ∀ (m : Nat) (k : Nat) (v : Int) (s : ByteArray), v < 10 ^ m → v ≤ 4611686018427387904 → 0 ≤ v → m < k → s.size + m ≤ 1000 → ∃ w s', F50_L0 kf a k v s = some (.go (w, s')) ∧ s'.size ≤ 1000 := by
  intro m
  induction m with
  | zero =>
    intro k v s hv hmx h0 hk hs
    obtain ⟨k, rfl⟩ : ∃ j, k = j + 1 := ⟨k - 1, by omega⟩
    have : v = 0 := by simp at hv; omega
    subst this
    refine ⟨0, s, by rw [F50_L0]; rfl, by omega⟩
  | succ m ih =>
    intro k v s hv hmx h0 hk hs
    obtain ⟨k, rfl⟩ : ∃ j, k = j + 1 := ⟨k - 1, by omega⟩
    rw [F50_L0]
    by_cases hp : v > 0
    · have hr : remx v 10 = some (v.tmod 10) := rfl
      have hq : quox v 10 = some (IntKind.i64.wrap (v.tdiv 10)) := rfl
      rw [show decide (v > 0) = true by simpa using hp, cond_true, hr, Option.bind_some]
      have hb : (bsOf [IntKind.u8.wrap (IntKind.i64.wrap (48 + v.tmod 10))]).size = 1 := rfl
      have hadd : addx (bsOf [IntKind.u8.wrap (IntKind.i64.wrap (48 + v.tmod 10))]) s = some (bsOf [IntKind.u8.wrap (IntKind.i64.wrap (48 + v.tmod 10))] ++ s) := by
        unfold addx
        rw [hb, show Nat.ble (1 + s.size) 4611686018427387904 = true by rw [Nat.ble_eq]; omega]; rfl
      rw [hadd, Option.bind_some, hq, Option.bind_some]
      rw [IntWalk.i64_quo v 10 ⟨h0, by omega, by omega⟩]
      have hlt : v / 10 < 10 ^ m := by
        have : (10 : Int) ^ (m + 1) = 10 ^ m * 10 := by rw [Int.pow_succ]
        rw [this] at hv
        exact Int.ediv_lt_of_lt_mul (by omega) hv
      refine ih k (v / 10) _ hlt (by omega) (by omega) (by omega) ?_
      rw [ByteArray.size_append, hb]; omega
    · rw [show decide (v > 0) = false by simpa using hp, cond_false]
      exact ⟨v, s, rfl, by omega⟩
theorem text50 (kf : Nat) (hk : 1048577 ≤ kf) (v : Int) (h0 : 0 ≤ v) (hB : v ≤ 4611686018427387904) : ∃ r, F50 kf v = some r := by
  unfold F50
  by_cases hp : v ≤ 0
  · rw [show decide (v ≤ 0) = true by simpa using hp]; exact ⟨_, rfl⟩
  · rw [show decide (v ≤ 0) = false by simpa using hp, cond_false]
    obtain ⟨w, s', h1, h2⟩ := text_loop kf v 20 kf v ⟨#[]⟩ (by omega) hB h0 (by omega) (by decide)
    rw [h1, Option.bind_some]
    refine ⟨(⟨#[109]⟩ : ByteArray) ++ s', ?_⟩
    have hsz : (⟨#[109]⟩ : ByteArray).size = 1 := rfl
    simp only
    unfold addx
    rw [hsz, show Nat.ble (1 + s'.size) 4611686018427387904 = true by rw [Nat.ble_eq]; omega]; rfl
theorem mk31 (kf : Nat) (hk : 1048577 ≤ kf) (a : List S69) (hn : a.length ≤ 1048576) : ∃ a', F31 kf a 1 = some (1 + 2 * (a.length : Int), a') := by
  have hs : sumOf (fun _ : S69 => 2) a = 2 * (a.length : Int) := by
    clear hn
    induction a with
    | nil => rfl
    | cons x a ih => simp only [sumOf, List.length_cons, ih]; omega
  have := mark_gen (a := a) (c := fun _ => 2) (Hd := fun _ v => some (v + 2)) (B := 1073741824) (fun _ _ => by omega) (L := F31_L0 kf a 1)
    (fun k v xs hl => by rw [F31_L0, hl]; simp) (fun k v n h xs hl hx h0 hB => by
      obtain ⟨y, hy⟩ := text50 kf hk v h0 (by omega)
      have hlx : n < xs.length := by omega
      refine ⟨⟨y, IntKind.i64.wrap (v + 1)⟩, ?_, rfl⟩
      rw [F31_L0]
      have hcnd : decide ((n : Int) < (xs.length : Int)) = true := by simp [hlx]
      have hlx2 : n < (xs.set n (⟨y, xs[n].f1⟩ : S69)).length := by simpa using hlx
      rw [hcnd, cond_true, hy, Option.bind_some, ix_at hlx, Option.bind_some, Int.toNat_natCast, ix_at hlx2, Option.bind_some]
      rw [wrap_id (i := v + 1) (by omega) (by omega), wrap_id (i := v + 1 + 1) (by omega) (by omega), wrap_id (i := (n : Int) + 1) (by omega) (by omega)]
      simp only [List.getElem_set_self, List.set_set]
      rw [show v + 1 + 1 = v + 2 by omega, show ((n + 1 : Nat) : Int) = (n : Int) + 1 by omega]) a.length 0 kf 1 a (by omega) (by omega) (by omega) (by omega) (by simp only [List.drop_zero, hs]; omega) rfl rfl
  simp only [List.drop_zero, hs] at this
  obtain ⟨ys, h1, _, _, _⟩ := this
  rw [show ((0 : Nat) : Int) = 0 from rfl] at h1
  refine ⟨ys, by unfold F31; rw [h1]; rfl⟩
-- the stream of numbers
theorem next_some (kf : Nat) (x : Int) : ∃ y, F45 kf x = some (y, y) := ⟨_, rfl⟩
theorem apx_some {α : Type} (xs : List α) (y : α) (h : xs.length ≤ 1048576) : apx xs [y] = some (xs ++ [y]) := by
  unfold apx
  rw [show Nat.ble (xs.length + [y].length) 2147483648 = true by rw [Nat.ble_eq]; simp; omega]; rfl
-- one row
theorem row_eq (kf : Nat) (a : List S69) (a1 : Int) (v4 : Bool) (p q : List (List (List Int))) (i u1 u2 u3 : Int) (y10 y11 : Int × Int) (z z12 : Int) (r1 r2 : List (List Int)) (w1 w2 w3 w4 : Int) (t : S69) (ht : ix a i = some t) (hw : t.f1 ≤ 6) :
    ∀ (d : Nat) (k : Nat) (row : List Int) (c : Nat) (x : Int), 6 - c = d → d < k → row.length = c → ∃ row' x', F27_L2 kf a a1 v4 p i u1 y10 z r1 w1 w2 k row (c : Int) x = some (.go (row', max (c : Int) (max t.f1 0), x')) ∧ F29_L2 kf a a1 v4 q u2 u3 t y11 z12 r2 w3 w4 k row (c : Int) x = some (.go (row', max (c : Int) (max t.f1 0), x')) ∧ row'.length ≤ max c 6 := by
  intro d
  induction d with
  | zero =>
    intro k row c x hd hk hl
    obtain ⟨k, rfl⟩ : ∃ j, k = j + 1 := ⟨k - 1, by omega⟩
    have hf : decide ((c : Int) < t.f1) = false := by simp; omega
    refine ⟨row, x, ?_, ?_, by omega⟩
    · rw [F27_L2, ht, Option.bind_some, hf, cond_false, show max (c : Int) (max t.f1 0) = c by omega]
    · rw [F29_L2, hf, cond_false, show max (c : Int) (max t.f1 0) = c by omega]
  | succ d ih =>
    intro k row c x hd hk hl
    obtain ⟨k, rfl⟩ : ∃ j, k = j + 1 := ⟨k - 1, by omega⟩
    by_cases hf : (c : Int) < t.f1
    · obtain ⟨y, hy⟩ := next_some kf x
      have hr : remx y 6 = some (y.tmod 6) := rfl
      have hb : decide ((c : Int) < t.f1) = true := by simpa using hf
      have key : ∀ v : Int, ∃ row' x', F27_L2 kf a a1 v4 p i u1 y10 z r1 w1 w2 k (row ++ [v]) ((c : Int) + 1) y = some (.go (row', max (c : Int) (max t.f1 0), x')) ∧ F29_L2 kf a a1 v4 q u2 u3 t y11 z12 r2 w3 w4 k (row ++ [v]) ((c : Int) + 1) y = some (.go (row', max (c : Int) (max t.f1 0), x')) ∧ row'.length ≤ max c 6 := by
        intro v
        have := ih k (row ++ [v]) (c + 1) y (by omega) (by omega) (by simp [hl])
        rw [show ((c + 1 : Nat) : Int) = (c : Int) + 1 by omega, show max ((c : Int) + 1) (max t.f1 0) = max (c : Int) (max t.f1 0) by omega] at this
        obtain ⟨r', x', h1, h2, h3⟩ := this
        exact ⟨r', x', h1, h2, by omega⟩
      rw [F27_L2, F29_L2, ht, Option.bind_some, hb, cond_true, cond_true, next_eq, hy, Option.bind_some, Option.bind_some, hr, Option.bind_some, Option.bind_some]
      cases h5 : (y.tmod 6 == 5)
      · simp only [cond_false]
        unfold F27_J1 F29_J1
        rw [apx_some _ _ (by omega), Option.bind_some, Option.bind_some, wrap_id (by omega) (by omega)]
        exact key _
      · simp only [cond_true]
        unfold F27_J1 F29_J1
        rw [apx_some _ _ (by omega), Option.bind_some, Option.bind_some, wrap_id (by omega) (by omega)]
        exact key _
    · have hb : decide ((c : Int) < t.f1) = false := by simpa using hf
      refine ⟨row, x, ?_, ?_, by omega⟩
      · rw [F27_L2, ht, Option.bind_some, hb, cond_false, show max (c : Int) (max t.f1 0) = c by omega]
      · rw [F29_L2, hb, cond_false, show max (c : Int) (max t.f1 0) = c by omega]
-- the rows of one table
theorem rows_eq (kf : Nat) (hk : 1048577 ≤ kf) (a : List S69) (a1 : Int) (v4 : Bool) (p q : List (List (List Int))) (i u1 u2 u3 : Int) (y10 y11 : Int × Int) (n : Int) (hn : n ≤ 4) (t : S69) (ht : ix a i = some t) (hw : t.f1 ≤ 6) :
    ∀ (d : Nat) (k : Nat) (rows : List (List Int)) (c : Nat) (x : Int), 4 - c = d → d < k → rows.length ≤ c → (∀ r, r ∈ rows → r.length ≤ 6) → ∃ rows' m x' , F27_L1 kf a a1 v4 p i u1 y10 n k rows (n - c) x = some (.go (rows', m, x')) ∧
      (∃ m', F29_L1 kf a a1 v4 q u2 u3 t y11 n k rows (c : Int) x = some (.go (rows', m', x'))) ∧ rows'.length ≤ max c 4 ∧ (∀ r, r ∈ rows' → r.length ≤ 6) := by
  intro d
  induction d with
  | zero =>
    intro k rows c x hd hk' hl hr
    obtain ⟨k, rfl⟩ : ∃ j, k = j + 1 := ⟨k - 1, by omega⟩
    have hf : decide (n - (c : Int) > 0) = false := by simp; omega
    have hf' : decide ((c : Int) < n) = false := by simp; omega
    refine ⟨rows, n - c, x, ?_, ⟨(c : Int), ?_⟩, by omega, hr⟩
    · rw [F27_L1, hf, cond_false]
    · rw [F29_L1, hf', cond_false]
  | succ d ih =>
    intro k rows c x hd hk' hl hr
    obtain ⟨k, rfl⟩ : ∃ j, k = j + 1 := ⟨k - 1, by omega⟩
    by_cases hf : (c : Int) < n
    · have hb : decide (n - (c : Int) > 0) = true := by simp; omega
      have hb' : decide ((c : Int) < n) = true := by simpa using hf
      obtain ⟨row', x', h1, h2, h3⟩ := row_eq kf a a1 v4 p q i u1 u2 u3 y10 y11 n n rows rows (n - c) x c x t ht hw 6 kf [] 0 x (by omega) (by omega) rfl
      rw [show ((0 : Nat) : Int) = 0 from rfl] at h1 h2
      obtain ⟨rows', m, x2, g1, ⟨m', g2⟩, g3, g4⟩ := ih k (rows ++ [row']) (c + 1) x' (by omega) (by omega) (by simp; omega) (by
        intro r hr'
        rcases List.mem_append.1 hr' with h | h
        · exact hr r h
        · simp at h; subst h; omega)
      refine ⟨rows', m, x2, ?_, ⟨m', ?_⟩, by omega, g4⟩
      · rw [F27_L1, hb, cond_true, h1, Option.bind_some]
        simp only
        rw [apx_some _ _ (by omega), Option.bind_some, wrap_id (by omega) (by omega)]
        rw [show n - (c : Int) - 1 = n - ((c + 1 : Nat) : Int) by omega]
        exact g1
      · rw [F29_L1, hb', cond_true, h2, Option.bind_some]
        simp only
        rw [apx_some _ _ (by omega), Option.bind_some, wrap_id (by omega) (by omega)]
        rw [show (c : Int) + 1 = ((c + 1 : Nat) : Int) by omega]
        exact g2
    · have hb : decide (n - (c : Int) > 0) = false := by simp; omega
      have hb' : decide ((c : Int) < n) = false := by simpa using hf
      refine ⟨rows, n - c, x, ?_, ⟨(c : Int), ?_⟩, by omega, hr⟩
      · rw [F27_L1, hb, cond_false]
      · rw [F29_L1, hb', cond_false]
-- the tables
def Small (out : List (List (List Int))) : Prop := ∀ rs, rs ∈ out → rs.length ≤ 4 ∧ ∀ r, r ∈ rs → r.length ≤ 6
theorem tables_eq (kf : Nat) (hk : 1048577 ≤ kf) (a : List S69) (hl8 : a.length ≤ 8) (hw : ∀ t, t ∈ a → t.f1 ≤ 6) (a1 : Int) (v4 : Bool) :
    ∀ (d n k : Nat) (out : List (List (List Int))) (x : Int), a.length - n = d → n ≤ a.length → d < k → out.length = n → Small out →
      ∃ out' x', F27_L0 kf a a1 v4 k out (n : Int) x = some (.go (out', (a.length : Int), x')) ∧ F29_L0 kf a a1 v4 k out (n : Int) x = some (.go (out', (a.length : Int), x')) ∧ out'.length = a.length ∧ Small out' := by
  intro d
  induction d with
  | zero =>
    intro n k out x hd hle hk' hl hs
    obtain ⟨k, rfl⟩ : ∃ j, k = j + 1 := ⟨k - 1, by omega⟩
    have : n = a.length := by omega
    subst this
    refine ⟨out, x, ?_, ?_, hl, hs⟩
    · rw [F27_L0]; simp
    · rw [F29_L0]; simp
  | succ d ih =>
    intro n k out x hd hle hk' hl hs
    obtain ⟨k, rfl⟩ : ∃ j, k = j + 1 := ⟨k - 1, by omega⟩
    have hlt : n < a.length := by omega
    obtain ⟨y, hy⟩ := next_some kf x
    have hr : remx y 5 = some (y.tmod 5) := rfl
    have hcnd : decide ((n : Int) < (a.length : Int)) = true := by simp [hlt]
    have h5 : y.tmod 5 ≤ 4 := by have := Int.tmod_lt_of_pos y (by decide : (0 : Int) < 5); omega
    obtain ⟨rows', m, x', g1, ⟨m', g2⟩, g3, g4⟩ := rows_eq kf hk a a1 v4 out out (n : Int) x (n : Int) x (y, y) (y, y) (y.tmod 5) h5 a[n] (ix_at hlt) (hw _ (List.getElem_mem hlt)) 4 kf [] 0 y (by omega) (by omega) (by simp) (by simp)
    rw [show ((0 : Nat) : Int) = 0 from rfl] at g1 g2
    rw [Int.sub_zero] at g1
    obtain ⟨out', x2, e1, e2, e3, e4⟩ := ih (n + 1) k (out ++ [rows']) x' (by omega) (by omega) (by omega) (by simp [hl]) (by
      intro rs hrs
      rcases List.mem_append.1 hrs with h | h
      · exact hs rs h
      · simp at h; subst h; exact ⟨by omega, g4⟩)
    refine ⟨out', x2, ?_, ?_, e3, e4⟩
    · rw [F27_L0, hcnd, cond_true, hy, Option.bind_some, hr, Option.bind_some, g1, Option.bind_some]
      simp only
      rw [apx_some _ _ (by omega), Option.bind_some, wrap_id (by omega) (by omega)]
      exact e1
    · rw [F29_L0, hcnd, cond_true, ix_at hlt, Option.bind_some, next_eq, hy, Option.bind_some, hr, Option.bind_some, g2, Option.bind_some]
      simp only
      rw [apx_some _ _ (by omega), Option.bind_some, wrap_id (by omega) (by omega)]
      exact e2
-- words
theorem bix_at {s : ByteArray} {n : Nat} (h : n < s.size) : bix s (n : Int) = some (bt s n) := by
  unfold bix
  have : (decide ((0 : Int) ≤ (n : Int)) && decide ((n : Int) < (s.size : Int))) = true := by simp [h]
  rw [this]; rfl
def okB (c : Int) : Bool := (decide (97 ≤ c) && decide (c ≤ 122)) || (decide (48 ≤ c) && decide (c ≤ 57))
def letB (c : Int) : Bool := decide (97 ≤ c) && decide (c ≤ 122)
def allFrom (f : Nat → Int → Bool) (s : ByteArray) (n d : Nat) : Bool := match d with
  | 0 => true
  | d + 1 => f n (bt s n) && allFrom f s (n + 1) d
theorem word_spec (kf : Nat) (s : ByteArray) (v4 : Bool) (hs : s.size ≤ 1048576) : ∀ (d n k : Nat), s.size - n = d → n ≤ s.size → d < k →
    F60_L0 kf s v4 k (n : Int) = some (bif allFrom (fun _ c => okB c) s n d then .go (s.size : Int) else .ret false) := by
  intro d
  induction d with
  | zero =>
    intro n k hd hle hk
    obtain ⟨k, rfl⟩ : ∃ j, k = j + 1 := ⟨k - 1, by omega⟩
    have : n = s.size := by omega
    subst this
    rw [F60_L0]; simp [allFrom]
  | succ d ih =>
    intro n k hd hle hk
    obtain ⟨k, rfl⟩ : ∃ j, k = j + 1 := ⟨k - 1, by omega⟩
    have hlt : n < s.size := by omega
    have hcnd : decide ((n : Int) < (s.size : Int)) = true := by simp [hlt]
    have hih := ih (n + 1) k (by omega) (by omega) (by omega)
    rw [show ((n + 1 : Nat) : Int) = (n : Int) + 1 by omega] at hih
    rw [F60_L0, hcnd, cond_true, bix_at hlt]
    simp only [Option.bind_some, F60_J1]
    rw [wrap_id (by omega) (by omega), hih]
    simp only [allFrom]
    generalize allFrom (fun _ c => okB c) s (n + 1) d = b
    unfold okB
    generalize bt s n = c
    cases hq : ((decide (97 ≤ c) && decide (c ≤ 122)) || (decide (48 ≤ c) && decide (c ≤ 57))) <;> by_cases h1 : c < 97 <;> by_cases h2 : c > 122 <;> by_cases h3 : c < 48 <;> by_cases h4 : c > 57 <;> simp [h1, h2, h3, h4] <;> (simp at hq; omega)
theorem word_impl (kf : Nat) (s : ByteArray) (hs : s.size ≤ 1048576) : ∀ (d n k : Nat), s.size - n = d → n ≤ s.size → d < k →
    F62_L0 kf s k (n : Int) = some (bif allFrom (fun i c => bif Nat.beq i 0 then letB c else okB c) s n d then .go (s.size : Int) else .ret false) := by
  intro d
  induction d with
  | zero =>
    intro n k hd hle hk
    obtain ⟨k, rfl⟩ : ∃ j, k = j + 1 := ⟨k - 1, by omega⟩
    have : n = s.size := by omega
    subst this
    rw [F62_L0]; simp [allFrom]
  | succ d ih =>
    intro n k hd hle hk
    obtain ⟨k, rfl⟩ : ∃ j, k = j + 1 := ⟨k - 1, by omega⟩
    have hlt : n < s.size := by omega
    have hcnd : decide ((n : Int) < (s.size : Int)) = true := by simp [hlt]
    have hih := ih (n + 1) k (by omega) (by omega) (by omega)
    rw [show ((n + 1 : Nat) : Int) = (n : Int) + 1 by omega] at hih
    rw [F62_L0, hcnd, cond_true, bix_at hlt]
    simp only [Option.bind_some, F62_J0, F62_J1]
    rw [wrap_id (by omega) (by omega), hih]
    simp only [allFrom]
    generalize allFrom (fun i c => bif Nat.beq i 0 then letB c else okB c) s (n + 1) d = b
    have hz : ((n : Int) == 0) = Nat.beq n 0 := by cases n <;> rfl
    rw [hz]
    unfold okB letB
    generalize bt s n = c
    generalize Nat.beq n 0 = z
    cases hq : (decide (97 ≤ c) && decide (c ≤ 122)) <;> cases hr : (decide (48 ≤ c) && decide (c ≤ 57)) <;> cases z <;> by_cases h1 : c ≥ 97 <;> by_cases h2 : c ≤ 122 <;> by_cases h3 : c < 48 <;> by_cases h4 : c > 57 <;> simp [h1, h2, h3, h4] <;> (simp at hq hr; omega)
theorem word_eq (kf : Nat) (hk : 1048577 ≤ kf) (s : ByteArray) (hs : s.size ≤ 1048576) : ∃ r, F60 kf s = some r ∧ F62 kf s = some r := by
  have h2 := word_impl kf s hs s.size 0 kf (by omega) (by omega) (by omega)
  rw [show ((0 : Nat) : Int) = 0 from rfl] at h2
  unfold F60 F62 F60_J0
  rw [in_eq, Option.bind_some, h2, Option.bind_some]
  simp only [in_eq', Option.bind_some]
  by_cases hr : 1 ≤ s.size ∧ s.size ≤ 12
  · obtain ⟨m, hm⟩ : ∃ m, s.size = m + 1 := ⟨s.size - 1, by omega⟩
    have hb : (decide ((1 : Int) ≤ (s.size : Int)) && decide ((s.size : Int) ≤ 12)) = true := by simp; omega
    have hx := bix_at (s := s) (n := 0) (by omega)
    rw [show ((0 : Nat) : Int) = 0 from rfl] at hx
    have h1 := word_spec kf s false hs s.size 0 kf (by omega) (by omega) (by omega)
    rw [show ((0 : Nat) : Int) = 0 from rfl] at h1
    rw [hb]
    simp only [Bool.not_true, cond_false, hx, Option.bind_some]
    have hrest : ∀ (d n : Nat), 0 < n → allFrom (fun i c => bif Nat.beq i 0 then letB c else okB c) s n d = allFrom (fun _ c => okB c) s n d := by
      intro d
      induction d with
      | zero => intro n _; rfl
      | succ d ih =>
        intro n hn
        simp only [allFrom]
        rw [ih (n + 1) (by omega), show Nat.beq n 0 = false by cases n with | zero => omega | succ n => rfl]
        rfl
    rw [hm]
    simp only [allFrom]
    rw [hm] at h1
    simp only [allFrom] at h1
    rw [hrest m 1 (by omega), show Nat.beq 0 0 = true from rfl, cond_true]
    simp only [Int.natCast_zero] at h1 ⊢
    by_cases hc : bt s 0 < 97
    · rw [show decide (bt s 0 < 97) = true by simpa using hc]
      have : letB (bt s 0) = false := by
        unfold letB
        simp; omega
      rw [this]
      exact ⟨false, rfl, rfl⟩
    · rw [show decide (bt s 0 < 97) = false by simpa using hc, cond_false, h1]
      have : letB (bt s 0) = okB (bt s 0) := by
        unfold letB okB
        generalize bt s 0 = c at *
        cases h9 : (decide (48 ≤ c) && decide (c ≤ 57)) with
        | false => simp
        | true => simp at h9; omega
      rw [this]
      cases (okB (bt s 0) && allFrom (fun _ c => okB c) s (0 + 1) m)
      · exact ⟨false, rfl, rfl⟩
      · exact ⟨true, rfl, rfl⟩
  · have hb : (decide ((1 : Int) ≤ (s.size : Int)) && decide ((s.size : Int) ≤ 12)) = false := by
      cases hq : (decide ((1 : Int) ≤ (s.size : Int)) && decide ((s.size : Int) ≤ 12)) with
      | false => rfl
      | true => simp at hq; omega
    rw [hb]
    refine ⟨false, rfl, ?_⟩
    cases allFrom (fun i c => bif Nat.beq i 0 then letB c else okB c) s 0 s.size <;> rfl
-- words in order
def C61 (a b : ByteArray) : Ex Bool Int → Option Bool
  | .ret r => some r
  | .go _ => some (decide ((a.size : Int) < (b.size : Int)))
theorem bt_get {s : ByteArray} {n : Nat} (h : n < s.size) : bt s (n : Int) = ((s.data.toList[n]'(by rw [Array.length_toList]; exact h)).toNat : Int) := by
  unfold bt
  have h' : ((n : Int)).toNat < s.size := by simpa using h
  rw [dif_pos h']
  have : s[(n : Int).toNat]'h' = s.data.toList[n]'(by rw [Array.length_toList]; exact h) := by
    show s.data[(n : Int).toNat] = _
    simp only [Int.toNat_natCast, Array.getElem_toList]
  rw [this]
theorem less_loop (kf : Nat) (a b : ByteArray) (ha : a.size ≤ 1048576) : ∀ (d n k : Nat), a.size - n = d → n ≤ a.size → d < k →
    (F61_L0 kf a b k (n : Int)).bind (C61 a b) = some (Op.bytesLess (a.data.toList.drop n) (b.data.toList.drop n)) := by
  have hA : a.data.toList.length = a.size := by rw [Array.length_toList]; rfl
  have hB : b.data.toList.length = b.size := by rw [Array.length_toList]; rfl
  intro d
  induction d with
  | zero =>
    intro n k hd hle hk
    obtain ⟨k, rfl⟩ : ∃ j, k = j + 1 := ⟨k - 1, by omega⟩
    have hn : n = a.size := by omega
    have hc : decide ((n : Int) < (a.size : Int)) = false := by simp; omega
    rw [F61_L0, hc, cond_false]
    unfold F61_J0
    rw [cond_false, Option.bind_some, List.drop_of_length_le (by omega : a.data.toList.length ≤ n)]
    by_cases hb : n < b.size
    · rw [List.drop_eq_getElem_cons (by omega : n < b.data.toList.length)]
      simp [C61, Op.bytesLess]; omega
    · rw [List.drop_of_length_le (by omega : b.data.toList.length ≤ n)]
      simp [C61, Op.bytesLess]; omega
  | succ d ih =>
    intro n k hd hle hk
    obtain ⟨k, rfl⟩ : ∃ j, k = j + 1 := ⟨k - 1, by omega⟩
    have hlt : n < a.size := by omega
    have hc : decide ((n : Int) < (a.size : Int)) = true := by simp [hlt]
    have hih := ih (n + 1) k (by omega) (by omega) (by omega)
    rw [show ((n + 1 : Nat) : Int) = (n : Int) + 1 by omega] at hih
    rw [F61_L0, hc, cond_true]
    unfold F61_J0
    by_cases hb : n < b.size
    · have hcb : decide ((n : Int) < (b.size : Int)) = true := by simp [hb]
      rw [hcb, cond_true, bix_at hlt, Option.bind_some, bix_at hb, Option.bind_some, wrap_id (by omega) (by omega)]
      rw [List.drop_eq_getElem_cons (by omega : n < a.data.toList.length), List.drop_eq_getElem_cons (by omega : n < b.data.toList.length)]
      have e1 : bt a (n : Int) = ((a.data.toList[n]'(by omega)).toNat : Int) := bt_get hlt
      have e2 : bt b (n : Int) = ((b.data.toList[n]'(by omega)).toNat : Int) := bt_get hb
      rw [e1, e2]
      generalize a.data.toList[n]'(by omega) = x at *
      generalize b.data.toList[n]'(by omega) = y at *
      by_cases hxy : x = y
      · subst hxy
        have : (((x.toNat : Nat) : Int) != ((x.toNat : Nat) : Int)) = false := by simp
        rw [this, cond_false, hih]
        simp [Op.bytesLess]
      · have hne : x.toNat ≠ y.toNat := fun h => hxy (UInt8.toNat_inj.1 h)
        have : (((x.toNat : Nat) : Int) != ((y.toNat : Nat) : Int)) = true := by simp; omega
        rw [this, cond_true, Option.bind_some, Option.bind_some]
        simp [Op.bytesLess, C61, hxy, UInt8.lt_iff_toNat_lt]
    · have hcb : decide ((n : Int) < (b.size : Int)) = false := by simpa using hb
      rw [hcb, cond_false, Option.bind_some, List.drop_of_length_le (by omega : b.data.toList.length ≤ n)]
      have : Op.bytesLess (a.data.toList.drop n) [] = false := by cases a.data.toList.drop n <;> rfl
      rw [this]
      simp [C61]; omega
theorem less_eq (kf : Nat) (hk : 1048577 ≤ kf) (a b : ByteArray) (ha : a.size ≤ 1048576) : F61 kf a b = some (Op.bytesLess a.toList b.toList) := by
  have := less_loop kf a b ha a.size 0 kf (by omega) (by omega) (by omega)
  rw [show ((0 : Nat) : Int) = 0 from rfl] at this
  unfold F61
  rw [ByteArray.toList_eq, ByteArray.toList_eq]
  exact this
-- schemas
theorem schema_loop (kf : Nat) (hk : 1048577 ≤ kf) (a : List S69) (hl : a.length ≤ 1048576) (hs : ∀ t, t ∈ a → t.f0.size ≤ 1048576) : ∀ (d n k : Nat), a.length - n = d → n ≤ a.length → d < k →
    ∃ r, F44_L0 kf a k (n : Int) = some r ∧ F47_L0 kf a k (n : Int) = some r ∧ (r = .ret false ∨ r = .go (a.length : Int) ∧ ∀ t, t ∈ a.drop n → t.f1 ≤ 6) := by
  intro d
  induction d with
  | zero =>
    intro n k hd hle hk'
    obtain ⟨k, rfl⟩ : ∃ j, k = j + 1 := ⟨k - 1, by omega⟩
    have : n = a.length := by omega
    subst this
    refine ⟨.go (a.length : Int), ?_, ?_, .inr ⟨rfl, by simp⟩⟩
    · rw [F44_L0]; simp
    · rw [F47_L0]; simp
  | succ d ih =>
    intro n k hd hle hk'
    obtain ⟨k, rfl⟩ : ∃ j, k = j + 1 := ⟨k - 1, by omega⟩
    have hlt : n < a.length := by omega
    have hc : decide ((n : Int) < (a.length : Int)) = true := by simp [hlt]
    obtain ⟨r, g1, g2, g3⟩ := ih (n + 1) k (by omega) (by omega) (by omega)
    rw [show ((n + 1 : Nat) : Int) = (n : Int) + 1 by omega] at g1 g2
    obtain ⟨wd, hw1, hw2⟩ := word_eq kf hk a[n].f0 (hs _ (List.getElem_mem hlt))
    rw [F44_L0, F47_L0, hc, cond_true, cond_true, ix_at hlt, Option.bind_some, Option.bind_some, hw1, hw2, Option.bind_some, Option.bind_some, Option.bind_some]
    unfold F44_J0 F47_J0
    rw [in_eq, in_eq', wrap_id (i := (n : Int) + 1) (by omega) (by omega), g1, g2]
    cases wd
    · exact ⟨.ret false, rfl, rfl, .inl rfl⟩
    · cases hi : (decide (1 ≤ a[n].f1) && decide (a[n].f1 ≤ 6))
      · exact ⟨.ret false, rfl, rfl, .inl rfl⟩
      · have h6 : a[n].f1 ≤ 6 := by simp at hi; exact hi.2
        have hgo : ∀ q : Ex Bool Int, q = r → q = .ret false ∨ q = .go (a.length : Int) ∧ ∀ t, t ∈ a.drop n → t.f1 ≤ 6 := by
          rintro q rfl
          rcases g3 with g3 | ⟨g3, g4⟩
          · exact .inl g3
          · refine .inr ⟨g3, ?_⟩
            rw [List.drop_eq_getElem_cons hlt]
            intro t ht
            rcases List.mem_cons.1 ht with rfl | ht
            · exact h6
            · exact g4 t ht
        simp only [Option.bind_some, Bool.not_true, cond_false]
        by_cases hn : n = 0
        · subst hn
          exact ⟨r, rfl, rfl, hgo r rfl⟩
        · have hp : decide ((n : Int) > 0) = true := by simp; omega
          have hprev : ix a ((n : Int) - 1) = some (a[n - 1]'(by omega)) := by
            have := ix_at (a := a) (n := n - 1) (by omega)
            rwa [show ((n - 1 : Nat) : Int) = (n : Int) - 1 by omega] at this
          rw [hp, cond_true, cond_true, wrap_id (i := (n : Int) - 1) (by omega) (by omega), hprev, Option.bind_some, Option.bind_some, less_eq kf hk _ _ (hs _ (List.getElem_mem _)), Option.bind_some]
          cases Op.bytesLess (a[n - 1]'(by omega)).f0.toList a[n].f0.toList
          · exact ⟨.ret false, rfl, rfl, .inl rfl⟩
          · exact ⟨r, rfl, rfl, hgo r rfl⟩
theorem schema_eq (kf : Nat) (hk : 1048577 ≤ kf) (a : List S69) (hl : a.length ≤ 1048576) (hs : ∀ t, t ∈ a → t.f0.size ≤ 1048576) : ∃ r, F44 kf a = some r ∧ F47 kf a = some r ∧ (r = true → a.length ≤ 8 ∧ ∀ t, t ∈ a → t.f1 ≤ 6) := by
  obtain ⟨r, h1, h2, h3⟩ := schema_loop kf hk a hl hs a.length 0 kf (by omega) (by omega) (by omega)
  rw [show ((0 : Nat) : Int) = 0 from rfl] at h1 h2
  unfold F44 F47
  rw [h1, h2, Option.bind_some, Option.bind_some]
  by_cases h8 : a.length ≤ 8
  · have e1 : decide ((a.length : Int) > 8) = false := by simp; omega
    have e2 : decide ((a.length : Int) ≤ 8) = true := by simp; omega
    rw [e1, e2, cond_false]
    rcases h3 with rfl | ⟨rfl, h4⟩
    · exact ⟨false, rfl, rfl, by simp⟩
    · exact ⟨true, rfl, rfl, fun _ => ⟨h8, by simpa using h4⟩⟩
  · have e1 : decide ((a.length : Int) > 8) = true := by simp; omega
    have e2 : decide ((a.length : Int) ≤ 8) = false := by simp; omega
    rw [e1, e2, cond_true]
    rcases h3 with rfl | ⟨rfl, h4⟩
    · exact ⟨false, rfl, rfl, by simp⟩
    · exact ⟨false, rfl, rfl, by simp⟩
theorem store_eq (kf : Nat) (hk : 1048577 ≤ kf) (a : List S69) (hl : a.length ≤ 1048576) (hs : ∀ t, t ∈ a → t.f0.size ≤ 1048576) (a1 : Int) : ∃ out, F27 kf a a1 = some out ∧ F29 kf a a1 = some out ∧ out.length ≤ 8 ∧ Small out := by
  obtain ⟨r, h1, h2, h3⟩ := schema_eq kf hk a hl hs
  have hnil : Small [] := by intro rs h; simp at h
  unfold F27 F29 F27_J0 F29_J0
  rw [h1, h2, Option.bind_some, Option.bind_some, in_eq, in_eq', Option.bind_some, Option.bind_some]
  cases r
  · exact ⟨[], rfl, rfl, by simp, hnil⟩
  · obtain ⟨h8, h6⟩ := h3 rfl
    simp only [Bool.not_true, cond_false]
    cases hi : (decide (0 ≤ a1) && decide (a1 ≤ 65536))
    · exact ⟨[], rfl, rfl, by simp, hnil⟩
    · obtain ⟨out, x', g1, g2, g3, g4⟩ := tables_eq kf hk a h8 h6 a1 false a.length 0 kf [] a1 (by omega) (by omega) (by omega) rfl hnil
      rw [show ((0 : Nat) : Int) = 0 from rfl] at g1 g2
      refine ⟨out, ?_, ?_, by omega, g4⟩
      · simp only [Bool.not_true, cond_false, g1, Option.bind_some]
      · simp only [Bool.not_true, cond_false, g2, Option.bind_some]
theorem sum_le {α : Type} {m : α → Int} {b : Int} : ∀ {a : List α}, (∀ x, x ∈ a → m x ≤ b) → sumOf m a ≤ a.length * b
  | [], _ => by simp [sumOf]
  | x :: a, h => by
    have h1 := h x (by simp)
    have h2 := sum_le (a := a) (fun y hy => h y (by simp [hy]))
    simp only [sumOf, List.length_cons]
    rw [show (((a.length + 1 : Nat) : Int)) * b = a.length * b + b by rw [Int.natCast_add, Int.add_mul]; simp]
    omega
theorem small_m {out : List (List (List Int))} (hl : out.length ≤ 8) (h : Small out) : mLLLInt out ≤ 300 ∧ cLLL out ≤ 300 := by
  have h2 : ∀ rs, rs ∈ out → mLLInt rs ≤ 28 ∧ cLL rs ≤ 24 := by
    intro rs hrs
    obtain ⟨h4, h6⟩ := h rs hrs
    have hsum : sumOf mLInt rs ≤ rs.length * 6 := sum_le (fun r hr => by have := h6 r hr; unfold mLInt; omega)
    unfold mLLInt cLL
    omega
  have s1 : sumOf mLLInt out ≤ out.length * 28 := sum_le (fun rs hrs => (h2 rs hrs).1)
  have s2 : sumOf cLL out ≤ out.length * 24 := sum_le (fun rs hrs => (h2 rs hrs).2)
  unfold mLLLInt cLLL
  omega
theorem pure7 (a : List S69) (a1 : Int) (hw : wLS69 a) (_ : (Lit.int .i64 a1).wf = true) : ∃ kf, F7 kf a a1 = some true := by
  refine ⟨1048577, ?_⟩
  generalize hkf : (1048577 : Nat) = kf
  have hk : 1048577 ≤ kf := by omega
  clear hkf
  unfold F7
  rw [psz26 kf hk a hw 1048576 (by omega) (by omega), Option.bind_some]
  by_cases h : mLS69 a ≤ 1048576
  · rw [if_pos h, show decide (1048576 - mLS69 a < 0) = false by simp; omega, cond_false, pto28 kf hk a h]
    have hs := sumOf_nn (a := a) (fun x _ => mS69_nn x)
    have hl : a.length ≤ 1048576 := by unfold mLS69 at h; omega
    have hsz : ∀ t, t ∈ a → t.f0.size ≤ 1048576 := by
      intro t ht
      have := mem_sum (fun x _ => mS69_nn x) t ht
      have q : mS69 t = t.f0.size := rfl
      unfold mLS69 at h
      omega
    obtain ⟨out, g1, g2, g3, g4⟩ := store_eq kf hk a hl hsz a1
    obtain ⟨m1, m2⟩ := small_m g3 g4
    obtain ⟨a', k1⟩ := mk31 kf hk a hl
    obtain ⟨o', k2, k3⟩ := mk32 kf hk out (by omega) 1 (by omega) (by omega)
    have e20 := peq20 kf hk out (by omega)
    have e30 := peq30 kf hk a h
    have hc := cLLL_nn out
    have n1 : decide (1 + 2 * (a.length : Int) < 0) = false := by simp; omega
    have n2 : decide (1 + cLLL out < 0) = false := by simp; omega
    have t28 := pto28 kf hk a h
    simp only [Option.bind_some, g1, g2, e20, e30, k1, n1, Bool.not_true, cond_false, F7_J0, k2, k3, n2]
    simp [t28, g2, e20]
  · rw [if_neg h]
    rfl
end Go.Proofs.YtdclbbkkcngjnaaX
