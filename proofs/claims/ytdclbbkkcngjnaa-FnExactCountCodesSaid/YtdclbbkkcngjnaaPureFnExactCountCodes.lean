/- For every list of codes CountCodes tells what the reference tells; past 1048576 codes the statement says nothing. -/
import Derived.Test.YtdclbbkkcngjnaaPFnExactCountCodesx2
namespace Go.Proofs.Ytdclbbkkcngjnaa.Pure
open Go.RowKit Go.Proofs.Ytdclbbkkcngjnaa.PFnExactCountCodes Go.Proofs.YtdclbbkkcngjnaaW.PrintWords Go.Proofs.YtdclbbkkcngjnaaW.PrintLast

theorem wrap_up (i n : Nat) (h : i < n) (hn : n ≤ 1048577) : wrap64 ((i : Int) + 1) = ((i + 1 : Nat) : Int) := by
  unfold wrap64
  omega

theorem in_spec (c : Int) : spec_l01In.f c 0 3 = some (decide (0 ≤ c ∧ c ≤ 3)) := by
  unfold spec_l01In.f
  by_cases h : 0 ≤ c <;> simp [h]

theorem in_impl (c : Int) : impl_in.f c 0 3 = some (decide (0 ≤ c ∧ c ≤ 3)) := by
  unfold impl_in.f
  by_cases h : 0 ≤ c <;> simp [h]

/-- One more code is counted. -/
def tick (acc : List Int) (c : Int) : List Int := if 0 ≤ c ∧ c ≤ 3 then acc.set c.toNat (wrap64 (rd acc c + 1)) else acc

theorem tick_length (acc : List Int) (c : Int) : (tick acc c).length = acc.length := by
  unfold tick
  split <;> simp

theorem rd_nat (xs : List Int) (i : Nat) (h : i < xs.length) : rd xs (i : Int) = xs[i] := by
  simp [rd, h]

theorem rest_step (xs : List Int) (i : Nat) (h : i < xs.length) : xs.drop i = rd xs (i : Int) :: xs.drop (i + 1) := by
  rw [rd_nat xs i h]
  exact List.drop_eq_getElem_cons h

theorem copy_loop (xs : List Int) (hn : xs.length ≤ 1048576) (d : Nat) : ∀ (k i : Nat) (ys : List Int), i ≤ xs.length → xs.length - i = d → d < k → ys.length = xs.length → ys.take i = xs.take i →
    laws_toIntS.l0 k xs ys (i : Int) = some xs := by
  induction d with
  | zero =>
    intro k i ys hi hd hk hl ht
    obtain ⟨k, rfl⟩ : ∃ m, k = m + 1 := ⟨k - 1, by omega⟩
    have e : i = xs.length := by omega
    have e2 : ys = xs := by
      rw [e, List.take_length, List.take_of_length_le (by omega)] at ht
      exact ht
    simp only [laws_toIntS.l0]
    rw [if_neg (by omega), e2]
  | succ d ih =>
    intro k i ys hi hd hk hl ht
    obtain ⟨k, rfl⟩ : ∃ m, k = m + 1 := ⟨k - 1, by omega⟩
    have hlt : i < xs.length := by omega
    have hstep := ih k (i + 1) (ys.set i (rd xs i)) (by omega) (by omega) (by omega) (by simpa using hl) (by
      rw [List.take_succ_eq_append_getElem (by simpa using (by omega : i < ys.length)), List.take_succ_eq_append_getElem hlt, List.getElem_set_self, rd_nat xs i hlt, ← ht]
      congr 1
      exact List.take_set_of_le (Nat.le_refl i))
    simp only [laws_toIntS.l0]
    rw [if_pos (by omega), if_pos (by omega), if_pos (by omega), wrap_up i xs.length hlt (by omega)]
    exact hstep

theorem copy_tells (xs : List Int) (hn : xs.length ≤ 1048576) (k : Nat) (hk : xs.length < k) : laws_toIntS.f k xs = some xs := by
  unfold laws_toIntS.f
  rw [if_pos (by omega), if_pos (by omega)]
  exact copy_loop xs hn xs.length k 0 _ (by omega) (by omega) hk (by simp) (by simp)

theorem spec_loop (xs : List Int) (hn : xs.length ≤ 1048576) (d : Nat) : ∀ (k i : Nat) (acc : List Int), i ≤ xs.length → xs.length - i = d → d < k → acc.length = 4 →
    spec_CountCodes.l0 k xs acc (i : Int) = some ((xs.drop i).foldl tick acc) := by
  induction d with
  | zero =>
    intro k i acc hi hd hk ha
    obtain ⟨k, rfl⟩ : ∃ m, k = m + 1 := ⟨k - 1, by omega⟩
    simp only [spec_CountCodes.l0]
    rw [if_neg (by omega), List.drop_of_length_le (by omega)]
    rfl
  | succ d ih =>
    intro k i acc hi hd hk ha
    obtain ⟨k, rfl⟩ : ∃ m, k = m + 1 := ⟨k - 1, by omega⟩
    have hlt : i < xs.length := by omega
    have hstep := ih k (i + 1) (tick acc (rd xs i)) (by omega) (by omega) (by omega) (by rw [tick_length]; exact ha)
    rw [rest_step xs i hlt, List.foldl_cons]
    simp only [spec_CountCodes.l0]
    rw [if_pos (by omega), if_pos (by omega), in_spec, wrap_up i xs.length hlt (by omega)]
    simp only [Option.bind_some]
    by_cases hc : 0 ≤ rd xs i ∧ rd xs i ≤ 3
    · rw [decide_eq_true hc, if_pos rfl, if_pos hc.1, if_pos (by omega)]
      have e : tick acc (rd xs i) = acc.set (rd xs i).toNat (wrap64 (rd acc (rd xs i) + 1)) := if_pos hc
      rw [e] at hstep ⊢
      exact hstep
    · rw [decide_eq_false hc, if_neg (by simp)]
      have e : tick acc (rd xs i) = acc := if_neg hc
      rw [e] at hstep ⊢
      exact hstep

theorem impl_loop (xs : List Int) (hn : xs.length ≤ 1048576) (d : Nat) : ∀ (k i : Nat) (acc : List Int), i ≤ xs.length → xs.length - i = d → d < k → acc.length = 4 →
    impl_CountCodes.l0 k acc xs (xs.length : Int) (i : Int) = some ((xs.drop i).foldl tick acc) := by
  induction d with
  | zero =>
    intro k i acc hi hd hk ha
    obtain ⟨k, rfl⟩ : ∃ m, k = m + 1 := ⟨k - 1, by omega⟩
    simp only [impl_CountCodes.l0]
    rw [if_neg (by omega), List.drop_of_length_le (by omega)]
    rfl
  | succ d ih =>
    intro k i acc hi hd hk ha
    obtain ⟨k, rfl⟩ : ∃ m, k = m + 1 := ⟨k - 1, by omega⟩
    have hlt : i < xs.length := by omega
    have hstep := ih k (i + 1) (tick acc (rd xs i)) (by omega) (by omega) (by omega) (by rw [tick_length]; exact ha)
    rw [rest_step xs i hlt, List.foldl_cons]
    simp only [impl_CountCodes.l0]
    rw [if_pos (by omega), if_pos (by omega), if_pos (by omega), in_impl, wrap_up i xs.length hlt (by omega)]
    simp only [Option.bind_some]
    by_cases hc : 0 ≤ rd xs i ∧ rd xs i ≤ 3
    · rw [decide_eq_true hc, if_pos rfl, if_pos hc.1, if_pos (by omega)]
      have e : tick acc (rd xs i) = acc.set (rd xs i).toNat (wrap64 (rd acc (rd xs i) + 1)) := if_pos hc
      rw [e] at hstep ⊢
      exact hstep
    · rw [decide_eq_false hc, if_neg (by simp)]
      have e : tick acc (rd xs i) = acc := if_neg hc
      rw [e] at hstep ⊢
      exact hstep

/-- What both count. -/
def counts (xs : List Int) : List Int := xs.foldl tick (List.replicate 4 0)

theorem counts_length (xs : List Int) : (counts xs).length = 4 := by
  have h : ∀ (l : List Int) (acc : List Int), (l.foldl tick acc).length = acc.length := by
    intro l
    induction l with
    | nil => intro acc; rfl
    | cons c l ih => intro acc; rw [List.foldl_cons, ih, tick_length]
  unfold counts
  rw [h]
  rfl

theorem spec_tells (xs : List Int) (hn : xs.length ≤ 1048576) (k : Nat) (hk : xs.length < k) : spec_CountCodes.f k xs = some (counts xs) := by
  unfold spec_CountCodes.f
  rw [if_pos (by omega)]
  exact spec_loop xs hn xs.length k 0 _ (by omega) (by omega) hk (by simp)

theorem impl_tells (xs : List Int) (hn : xs.length ≤ 1048576) (k : Nat) (hk : xs.length < k) : impl_CountCodes.f k xs = some (counts xs) := by
  unfold impl_CountCodes.f
  rw [if_pos (by omega)]
  exact impl_loop xs hn xs.length k 0 _ (by omega) (by omega) hk (by simp)

theorem same_loop (xs : List Int) (hn : xs.length ≤ 1048576) (d : Nat) : ∀ (k i : Nat), i ≤ xs.length → xs.length - i = d → d < k → laws_eqIntS.l0 k xs xs (i : Int) = some true := by
  induction d with
  | zero =>
    intro k i hi hd hk
    obtain ⟨k, rfl⟩ : ∃ m, k = m + 1 := ⟨k - 1, by omega⟩
    simp only [laws_eqIntS.l0]
    rw [if_neg (by omega)]
  | succ d ih =>
    intro k i hi hd hk
    obtain ⟨k, rfl⟩ : ∃ m, k = m + 1 := ⟨k - 1, by omega⟩
    have hlt : i < xs.length := by omega
    simp only [laws_eqIntS.l0]
    rw [if_pos (by omega), if_pos (by omega), if_pos (by omega), if_pos trivial, wrap_up i xs.length hlt (by omega)]
    exact ih k (i + 1) (by omega) (by omega) (by omega)

theorem same_tells (xs : List Int) (hn : xs.length ≤ 1048576) (k : Nat) (hk : xs.length < k) : laws_eqIntS.f k xs xs = some true := by
  unfold laws_eqIntS.f
  rw [if_pos rfl]
  exact same_loop xs hn xs.length k 0 (by omega) (by omega) hk


theorem mark_loop (d : Nat) : ∀ (k i m : Nat) (ys : List Int), ys.length ≤ 1048576 → i ≤ ys.length → ys.length - i = d → d < k → m = i + 1 → (∀ j : Nat, j < i → rd ys j = (j : Int) + 1) →
    ∃ zs : List Int, laws_markIntS.l0 k ys (m : Int) (i : Int) = some ((ys.length : Int) + 1, zs) ∧ zs.length = ys.length ∧ ∀ j : Nat, j < zs.length → rd zs j = (j : Int) + 1 := by
  induction d with
  | zero =>
    intro k i m ys hn hi hd hk hm ht
    obtain ⟨k, rfl⟩ : ∃ m, k = m + 1 := ⟨k - 1, by omega⟩
    refine ⟨ys, ?_, rfl, fun j hj => ht j (by omega)⟩
    simp only [laws_markIntS.l0]
    rw [if_neg (by omega)]
    have e : (m : Int) = (ys.length : Int) + 1 := by omega
    rw [e]
  | succ d ih =>
    intro k i m ys hn hi hd hk hm ht
    obtain ⟨k, rfl⟩ : ∃ m, k = m + 1 := ⟨k - 1, by omega⟩
    have hlt : i < ys.length := by omega
    obtain ⟨zs, hz, hl, hr⟩ := ih k (i + 1) (m + 1) (ys.set i (m : Int)) (by simpa using hn) (by rw [List.length_set]; omega) (by rw [List.length_set]; omega) (by omega) (by omega) (by
      intro j hj
      by_cases e : j = i
      · subst e
        rw [rd_nat _ _ (by simpa using hlt), List.getElem_set_self]
        omega
      · rw [rd_nat _ _ (by simp; omega), List.getElem_set_ne (by omega), ← rd_nat ys j (by omega)]
        exact ht j (by omega))
    refine ⟨zs, ?_, by simpa using hl, hr⟩
    simp only [laws_markIntS.l0]
    rw [if_pos (by omega), if_pos (by omega), wrap_up i ys.length hlt (by omega), wrap_up m (ys.length + 1) (by omega) (by omega)]
    rw [List.length_set] at hz
    exact hz

theorem held_loop (ys : List Int) (hn : ys.length ≤ 1048576) (hr : ∀ j : Nat, j < ys.length → rd ys j = (j : Int) + 1) (d : Nat) : ∀ (k i m : Nat), i ≤ ys.length → ys.length - i = d → d < k → m = i + 1 →
    laws_heldIntS.l0 k ys (m : Int) (i : Int) = some ((ys.length : Int) + 1) := by
  induction d with
  | zero =>
    intro k i m hi hd hk hm
    obtain ⟨k, rfl⟩ : ∃ m, k = m + 1 := ⟨k - 1, by omega⟩
    simp only [laws_heldIntS.l0]
    rw [if_neg (by omega)]
    have e : (m : Int) = (ys.length : Int) + 1 := by omega
    rw [e]
  | succ d ih =>
    intro k i m hi hd hk hm
    obtain ⟨k, rfl⟩ : ∃ m, k = m + 1 := ⟨k - 1, by omega⟩
    have hlt : i < ys.length := by omega
    simp only [laws_heldIntS.l0]
    rw [if_pos (by omega), if_pos (by omega), if_pos (by rw [hr i hlt]; omega), wrap_up i ys.length hlt (by omega), wrap_up m (ys.length + 1) (by omega) (by omega)]
    exact ih k (i + 1) (m + 1) (by omega) (by omega) (by omega) (by omega)

theorem FnExactCountCodes : laws_FnExactCountCodes.Pure := by
  intro xs _ _ _
  by_cases hn : xs.length ≤ 1048576
  · refine ⟨xs.length + 6, ?_⟩
    have hl := counts_length xs
    have hc : (counts xs).length ≤ 1048576 := by omega
    obtain ⟨ys, hy, hyl, hyr⟩ := mark_loop xs.length (xs.length + 6) 0 1 xs hn (by omega) (by omega) (by omega) rfl (by intro j hj; omega)
    obtain ⟨zs, hz, hzl, hzr⟩ := mark_loop (counts xs).length (xs.length + 5) 0 1 (counts xs) hc (by omega) (by omega) (by omega) rfl (by intro j hj; omega)
    have hh := held_loop zs (by omega) hzr zs.length (xs.length + 5) 0 1 (by omega) (by omega) (by omega) rfl
    have hy' : laws_markIntS.f (xs.length + 6) xs 1 = some ((xs.length : Int) + 1, ys) := hy
    have hz' : laws_markIntS.f (xs.length + 5) (counts xs) 1 = some (((counts xs).length : Int) + 1, zs) := hz
    have hh' : laws_heldIntS.f (xs.length + 5) zs 1 = some ((zs.length : Int) + 1) := hh
    unfold laws_FnExactCountCodes.f
    rw [if_neg (by omega), copy_tells xs hn _ (by omega)]
    simp only [Option.bind_some]
    rw [spec_tells xs hn _ (by omega)]
    simp only [Option.bind_some]
    rw [impl_tells xs hn _ (by omega)]
    simp only [Option.bind_some]
    rw [same_tells (counts xs) hc _ (by omega), same_tells xs hn _ (by omega), hy']
    simp only [Option.bind_some]
    rw [if_pos trivial, if_pos trivial, if_neg (by omega)]
    show laws_FnExactCountCodes.j0 (xs.length + 5 + 1) xs (counts xs) (counts xs) (!true) = some true
    simp only [laws_FnExactCountCodes.j0]
    rw [hz']
    simp only [Option.bind_some]
    rw [hh', copy_tells xs hn _ (by omega)]
    simp only [Option.bind_some]
    rw [impl_tells xs hn _ (by omega)]
    simp only [Option.bind_some]
    rw [same_tells (counts xs) hc _ (by omega)]
    have hp : ¬ (((counts xs).length : Int) + 1 < 0) := by omega
    simp [hzl, hp]
  · refine ⟨1, ?_⟩
    unfold laws_FnExactCountCodes.f
    rw [if_pos (by omega)]

end Go.Proofs.Ytdclbbkkcngjnaa.Pure
