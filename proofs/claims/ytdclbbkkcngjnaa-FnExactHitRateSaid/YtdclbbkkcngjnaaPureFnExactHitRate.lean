/- For every list of codes HitRate tells what the reference tells; past 1048576 codes the statement says nothing. -/
import Derived.Test.YtdclbbkkcngjnaaPFnExactHitRatex2
namespace Go.Proofs.Ytdclbbkkcngjnaa.Pure
open Go.RowKit Go.Proofs.Ytdclbbkkcngjnaa.PFnExactHitRate Go.Proofs.YtdclbbkkcngjnaaW.PrintWords Go.Proofs.YtdclbbkkcngjnaaW.PrintLast

theorem wrap_up (i n : Nat) (h : i < n) (hn : n ≤ 1048577) : wrap64 ((i : Int) + 1) = ((i + 1 : Nat) : Int) := by
  unfold wrap64
  omega

theorem in_spec (c : Int) : spec_l01In.f c 0 3 = some (decide (0 ≤ c ∧ c ≤ 3)) := by
  unfold spec_l01In.f
  by_cases h : 0 ≤ c <;> simp [h]

theorem in_impl (c : Int) : impl_in.f c 0 3 = some (decide (0 ≤ c ∧ c ≤ 3)) := by
  unfold impl_in.f
  by_cases h : 0 ≤ c <;> simp [h]

/-- One more code is counted. -/
def tick (acc : List Int) (c : Int) : List Int := if 0 ≤ c ∧ c ≤ 3 then acc.set c.toNat (wrap64 (rd acc c + 1)) else acc

theorem tick_length (acc : List Int) (c : Int) : (tick acc c).length = acc.length := by
  unfold tick
  split <;> simp

theorem rd_nat (xs : List Int) (i : Nat) (h : i < xs.length) : rd xs (i : Int) = xs[i] := by
  simp [rd, h]

theorem rest_step (xs : List Int) (i : Nat) (h : i < xs.length) : xs.drop i = rd xs (i : Int) :: xs.drop (i + 1) := by
  rw [rd_nat xs i h]
  exact List.drop_eq_getElem_cons h

theorem copy_loop (xs : List Int) (hn : xs.length ≤ 1048576) (d : Nat) : ∀ (k i : Nat) (ys : List Int), i ≤ xs.length → xs.length - i = d → d < k → ys.length = xs.length → ys.take i = xs.take i →
    laws_toIntS.l0 k xs ys (i : Int) = some xs := by
  induction d with
  | zero =>
    intro k i ys hi hd hk hl ht
    obtain ⟨k, rfl⟩ : ∃ m, k = m + 1 := ⟨k - 1, by omega⟩
    have e : i = xs.length := by omega
    have e2 : ys = xs := by
      rw [e, List.take_length, List.take_of_length_le (by omega)] at ht
      exact ht
    simp only [laws_toIntS.l0]
    rw [if_neg (by omega), e2]
  | succ d ih =>
    intro k i ys hi hd hk hl ht
    obtain ⟨k, rfl⟩ : ∃ m, k = m + 1 := ⟨k - 1, by omega⟩
    have hlt : i < xs.length := by omega
    have hstep := ih k (i + 1) (ys.set i (rd xs i)) (by omega) (by omega) (by omega) (by simpa using hl) (by
      rw [List.take_succ_eq_append_getElem (by simpa using (by omega : i < ys.length)), List.take_succ_eq_append_getElem hlt, List.getElem_set_self, rd_nat xs i hlt, ← ht]
      congr 1
      exact List.take_set_of_le (Nat.le_refl i))
    simp only [laws_toIntS.l0]
    rw [if_pos (by omega), if_pos (by omega), if_pos (by omega), wrap_up i xs.length hlt (by omega)]
    exact hstep

theorem copy_tells (xs : List Int) (hn : xs.length ≤ 1048576) (k : Nat) (hk : xs.length < k) : laws_toIntS.f k xs = some xs := by
  unfold laws_toIntS.f
  rw [if_pos (by omega), if_pos (by omega)]
  exact copy_loop xs hn xs.length k 0 _ (by omega) (by omega) hk (by simp) (by simp)

theorem spec_loop (xs : List Int) (hn : xs.length ≤ 1048576) (d : Nat) : ∀ (k i : Nat) (acc : List Int), i ≤ xs.length → xs.length - i = d → d < k → acc.length = 4 →
    spec_CountCodes.l0 k xs acc (i : Int) = some ((xs.drop i).foldl tick acc) := by
  induction d with
  | zero =>
    intro k i acc hi hd hk ha
    obtain ⟨k, rfl⟩ : ∃ m, k = m + 1 := ⟨k - 1, by omega⟩
    simp only [spec_CountCodes.l0]
    rw [if_neg (by omega), List.drop_of_length_le (by omega)]
    rfl
  | succ d ih =>
    intro k i acc hi hd hk ha
    obtain ⟨k, rfl⟩ : ∃ m, k = m + 1 := ⟨k - 1, by omega⟩
    have hlt : i < xs.length := by omega
    have hstep := ih k (i + 1) (tick acc (rd xs i)) (by omega) (by omega) (by omega) (by rw [tick_length]; exact ha)
    rw [rest_step xs i hlt, List.foldl_cons]
    simp only [spec_CountCodes.l0]
    rw [if_pos (by omega), if_pos (by omega), in_spec, wrap_up i xs.length hlt (by omega)]
    simp only [Option.bind_some]
    by_cases hc : 0 ≤ rd xs i ∧ rd xs i ≤ 3
    · rw [decide_eq_true hc, if_pos rfl, if_pos hc.1, if_pos (by omega)]
      have e : tick acc (rd xs i) = acc.set (rd xs i).toNat (wrap64 (rd acc (rd xs i) + 1)) := if_pos hc
      rw [e] at hstep ⊢
      exact hstep
    · rw [decide_eq_false hc, if_neg (by simp)]
      have e : tick acc (rd xs i) = acc := if_neg hc
      rw [e] at hstep ⊢
      exact hstep

theorem impl_loop (xs : List Int) (hn : xs.length ≤ 1048576) (d : Nat) : ∀ (k i : Nat) (acc : List Int), i ≤ xs.length → xs.length - i = d → d < k → acc.length = 4 →
    impl_CountCodes.l0 k acc xs (xs.length : Int) (i : Int) = some ((xs.drop i).foldl tick acc) := by
  induction d with
  | zero =>
    intro k i acc hi hd hk ha
    obtain ⟨k, rfl⟩ : ∃ m, k = m + 1 := ⟨k - 1, by omega⟩
    simp only [impl_CountCodes.l0]
    rw [if_neg (by omega), List.drop_of_length_le (by omega)]
    rfl
  | succ d ih =>
    intro k i acc hi hd hk ha
    obtain ⟨k, rfl⟩ : ∃ m, k = m + 1 := ⟨k - 1, by omega⟩
    have hlt : i < xs.length := by omega
    have hstep := ih k (i + 1) (tick acc (rd xs i)) (by omega) (by omega) (by omega) (by rw [tick_length]; exact ha)
    rw [rest_step xs i hlt, List.foldl_cons]
    simp only [impl_CountCodes.l0]
    rw [if_pos (by omega), if_pos (by omega), if_pos (by omega), in_impl, wrap_up i xs.length hlt (by omega)]
    simp only [Option.bind_some]
    by_cases hc : 0 ≤ rd xs i ∧ rd xs i ≤ 3
    · rw [decide_eq_true hc, if_pos rfl, if_pos hc.1, if_pos (by omega)]
      have e : tick acc (rd xs i) = acc.set (rd xs i).toNat (wrap64 (rd acc (rd xs i) + 1)) := if_pos hc
      rw [e] at hstep ⊢
      exact hstep
    · rw [decide_eq_false hc, if_neg (by simp)]
      have e : tick acc (rd xs i) = acc := if_neg hc
      rw [e] at hstep ⊢
      exact hstep

/-- What both count. -/
def counts (xs : List Int) : List Int := xs.foldl tick (List.replicate 4 0)

theorem counts_length (xs : List Int) : (counts xs).length = 4 := by
  have h : ∀ (l : List Int) (acc : List Int), (l.foldl tick acc).length = acc.length := by
    intro l
    induction l with
    | nil => intro acc; rfl
    | cons c l ih => intro acc; rw [List.foldl_cons, ih, tick_length]
  unfold counts
  rw [h]
  rfl

theorem spec_tells (xs : List Int) (hn : xs.length ≤ 1048576) (k : Nat) (hk : xs.length < k) : spec_CountCodes.f k xs = some (counts xs) := by
  unfold spec_CountCodes.f
  rw [if_pos (by omega)]
  exact spec_loop xs hn xs.length k 0 _ (by omega) (by omega) hk (by simp)

theorem impl_tells (xs : List Int) (hn : xs.length ≤ 1048576) (k : Nat) (hk : xs.length < k) : impl_CountCodes.f k xs = some (counts xs) := by
  unfold impl_CountCodes.f
  rw [if_pos (by omega)]
  exact impl_loop xs hn xs.length k 0 _ (by omega) (by omega) hk (by simp)

theorem same_loop (xs : List Int) (hn : xs.length ≤ 1048576) (d : Nat) : ∀ (k i : Nat), i ≤ xs.length → xs.length - i = d → d < k → laws_eqIntS.l0 k xs xs (i : Int) = some true := by
  induction d with
  | zero =>
    intro k i hi hd hk
    obtain ⟨k, rfl⟩ : ∃ m, k = m + 1 := ⟨k - 1, by omega⟩
    simp only [laws_eqIntS.l0]
    rw [if_neg (by omega)]
  | succ d ih =>
    intro k i hi hd hk
    obtain ⟨k, rfl⟩ : ∃ m, k = m + 1 := ⟨k - 1, by omega⟩
    have hlt : i < xs.length := by omega
    simp only [laws_eqIntS.l0]
    rw [if_pos (by omega), if_pos (by omega), if_pos (by omega), if_pos trivial, wrap_up i xs.length hlt (by omega)]
    exact ih k (i + 1) (by omega) (by omega) (by omega)

theorem same_tells (xs : List Int) (hn : xs.length ≤ 1048576) (k : Nat) (hk : xs.length < k) : laws_eqIntS.f k xs xs = some true := by
  unfold laws_eqIntS.f
  rw [if_pos rfl]
  exact same_loop xs hn xs.length k 0 (by omega) (by omega) hk

theorem FnExactHitRate : laws_FnExactHitRate.Pure := by
  intro xs _ _ _
  by_cases hn : xs.length ≤ 1048576
  · refine ⟨xs.length + 2, ?_⟩
    have hl := counts_length xs
    unfold laws_FnExactHitRate.f
    rw [if_neg (by omega), copy_tells xs hn _ (by omega)]
    simp only [Option.bind_some, spec_HitRate.f, impl_HitRate.f]
    rw [spec_tells xs hn _ (by omega), impl_tells xs hn _ (by omega)]
    simp only [Option.bind_some]
    rw [if_pos (by omega), if_pos (by omega), if_pos (by omega)]
    simp only [Option.bind_some]
    rw [if_pos trivial]
    show laws_FnExactHitRate.j0 (xs.length + 1 + 1) xs xs _ = some true
    simp only [laws_FnExactHitRate.j0]
    rw [copy_tells xs hn _ (by omega)]
    simp [same_tells xs hn _ (show xs.length < xs.length + 1 by omega)]
  · refine ⟨1, ?_⟩
    unfold laws_FnExactHitRate.f
    rw [if_pos (by omega)]

end Go.Proofs.Ytdclbbkkcngjnaa.Pure
