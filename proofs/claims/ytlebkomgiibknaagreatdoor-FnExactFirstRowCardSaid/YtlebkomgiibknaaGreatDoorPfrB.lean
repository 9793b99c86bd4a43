/- The plain law: the plain functions answer as the statement says. -/
import Derived.Test.YtlebkomgiibknaaGreatDoorPfrA
set_option linter.all false
namespace Go.Proofs.YtlebkomgiibknaaGreatDoorX
open Go Go.Proofs.YtlebkomgiibknaaGreatDoorT
set_option linter.all false
@[simp] theorem bA_list (l : List UInt8) : (bA l).data.toList = l := by simp [bA]
theorem addx_g {a b : ByteArray} (h : a.size + b.size ≤ 4611686018427387904) : addx a b = some (bA (a.data.toList ++ b.data.toList)) := by
 have := addx_bA (a := a.data.toList) (b := b.data.toList) (by simp only [Array.length_toList]; exact h)
 rwa [bA_data, bA_data] at this
theorem size_list (a : ByteArray) : a.size = a.data.toList.length := by rw [Array.length_toList]; rfl
theorem V_strconv_Itoa {a : Int} (h0 : -9223372036854775808 ≤ a) (h1 : a ≤ 9223372036854775807) : F_strconv_Itoa a = some (numT a) := (U_strconv_Itoa a).out (by
 unfold itoaF
 rw [decide_eq_true h0, decide_eq_true h1]
 rfl)
theorem V_impl_number {a : Int} (h0 : -9223372036854775808 ≤ a) (h1 : a ≤ 9223372036854775807) : F_impl_number a = some (numT a) := (U_impl_number a).out (by rw [V_strconv_Itoa h0 h1]; rfl)
theorem V_strings_Join {xs : List ByteArray} {sep : ByteArray} (h1 : xs.length ≤ 140737488355328) (h2 : (Lib.join (xs.map (·.data.toList)) sep.data.toList).length ≤ 140737488355328) : F_strings_Join xs sep = some (bA (Lib.join (xs.map (·.data.toList)) sep.data.toList), xs) := (U_strings_Join xs sep).out (by
 unfold joinF
 rw [Nat.ble_eq_true_of_le h1, Nat.ble_eq_true_of_le h2]
 rfl)
theorem V_impl_RowText {r : List Int} (hl : r.length ≤ 1073741824) (h : VB r) : F_impl_RowText r = some (bA (rowT r)) := (U_impl_RowText r).out (by
 unfold rowT
 by_cases h0 : r = []
 ·subst h0; rfl
 ·have hz : ((r.length : Int) == 0) = false := by simp [h0]
  have e := loop_map (f := fun f s => L_impl_RowTextx0 r f s.1 s.2) r (fun v => bA (cellT v)) (by omega)
   (fun i v a g hx ha => by
    have l1 := (List.getElem?_eq_some_iff.1 hx).1
    have hv := h v (mem_of_get hx)
    have hw := wrap_nat (show i < 9223372036854775807 by omega)
    simp only [L_impl_RowTextx0, lt_nat hx, cond_true, ix_some hx, Option.bind_some]
    by_cases hn : v = -2000000
    ·subst hn
     rw [show ((-2000000 : Int) == -2000000) = true from rfl, cond_true, apx_some (by simp [ha]; omega)]
     simp only [Option.bind_some, joinK_go, J_impl_RowTextx1, hw]
     rfl
    ·rw [show (v == -2000000) = false by simp [hn], cond_false, V_impl_number (by omega) (by omega), Option.bind_some, apx_some (by simp [ha]; omega)]
     simp only [Option.bind_some, joinK_go, J_impl_RowTextx1, hw, numT, cellT, if_neg hn])
   (fun a g => by simp [L_impl_RowTextx0])
  have hm : (r.map fun v => bA (cellT v)).map (·.data.toList) = r.map cellT := by simp
  have hj := joinT_len cellT 21 r (fun v hv => cellT_len (h v hv))
  have hc : (⟨#[44]⟩ : ByteArray).data.toList = [44] := rfl
  rw [hz, cond_false, e, joinK_go, if_neg h0]
  unfold J_impl_RowTextx0
  rw [V_strings_Join (by simp; omega) (by rw [hm, hc]; omega), hm, hc]
  rfl)
theorem take_join (r : List Int) {k : Nat} {v : Int} (hv : r[k]? = some v) : Lib.join ((r.take (k + 1)).map cellT) [44] = if k = 0 then cellT v else Lib.join ((r.take k).map cellT) [44] ++ 44 :: cellT v := by
 have e : r.take (k + 1) = r.take k ++ [v] := by rw [List.take_add_one, hv]; rfl
 rw [e, List.map_append, List.map_cons, List.map_nil]
 have l1 := (List.getElem?_eq_some_iff.1 hv).1
 by_cases hk : k = 0
 ·subst hk
  simp [Lib.join_one]
 ·rw [if_neg hk, join_snoc]
  intro h
  have := congrArg List.length h
  rw [List.length_map, List.length_take, List.length_nil] at this
  omega
theorem V_spec_RowText {r : List Int} (hl : r.length ≤ 1073741824) (h : VB r) : F_spec_RowText r = some (bA (rowT r)) := (U_spec_RowText r).out (by
 unfold rowT
 by_cases h0 : r = []
 ·subst h0; rfl
 ·have hz : ((r.length : Int) == 0) = false := by simp [h0]
  have key : ∀ k, k ≤ r.length → (Lib.join ((r.take k).map cellT) [44]).length ≤ 22 * k := by
   intro k hk
   have := joinT_len cellT 21 (r.take k) (fun v hv => cellT_len (h v (List.mem_of_mem_take hv)))
   rw [List.length_take, Nat.min_eq_left hk] at this
   exact this
  have e := loopF_ind (S := ByteArray × Int) (A := Ex ByteArray ByteArray) (f := fun f s => L_spec_RowTextx0 r f s.1 s.2) (fun s => r.length - s.2.toNat) (fun s => ∃ k : Nat, s.2 = k ∧ k ≤ r.length ∧ s.1 = bA (Lib.join ((r.take k).map cellT) [44]))
   (fun _ => .go (bA (Lib.join (r.map cellT) [44]))) (by
    rintro ⟨t, i⟩ ⟨k, hk, hkl, ht⟩ g hg
    simp only at hk ht
    subst hk ht
    simp only [L_spec_RowTextx0]
    by_cases hlt : k < r.length
    ·have hx := List.getElem?_eq_getElem hlt
     have hv := h r[k] (mem_of_get hx)
     have hw := wrap_nat (show k < 9223372036854775807 by omega)
     have hkk := key k hkl
     have hcl := cellT_len hv
     rw [lt_nat hx, cond_true]
     have pre : (joinK (bif decide ((k : Int) > 0) then (addx (bA (Lib.join ((r.take k).map cellT) [44])) (⟨#[44]⟩ : ByteArray)).bind (fun z3 => some (Ex.go (R := Ex (Ex ByteArray ByteArray) ByteArray) z3)) else some (.go (bA (Lib.join ((r.take k).map cellT) [44])))) fun s => J_spec_RowTextx2 r k s) =
       J_spec_RowTextx2 r k (bA (Lib.join ((r.take k).map cellT) [44] ++ if k = 0 then [] else [44])) := by
      by_cases hk0 : k = 0
      ·subst hk0; simp
      ·rw [show decide ((k : Int) > 0) = true by simp; omega, cond_true, addx_g (by rw [bA_size]; show _ + 1 ≤ _; omega), if_neg hk0]
       simp only [Option.bind_some, joinK_go, bA_list]
     rw [pre]
     have post : J_spec_RowTextx2 r k (bA (Lib.join ((r.take k).map cellT) [44] ++ if k = 0 then [] else [44])) = some (.go (bA (Lib.join ((r.take (k + 1)).map cellT) [44]))) := by
      have hsz : (bA (Lib.join ((r.take k).map cellT) [44] ++ if k = 0 then [] else [44])).size ≤ 22 * k + 1 := by
       rw [bA_size, List.length_append]
       split <;> simp only [List.length_nil, List.length_cons] <;> omega
      rw [take_join r hx]
      unfold J_spec_RowTextx2
      rw [ix_some hx]
      simp only [Option.bind_some]
      have fin : ∀ c : ByteArray, c.data.toList = cellT r[k] → addx (bA (Lib.join ((r.take k).map cellT) [44] ++ if k = 0 then [] else [44])) c = some (bA (if k = 0 then cellT r[k] else Lib.join ((r.take k).map cellT) [44] ++ 44 :: cellT r[k])) := by
       intro c hc
       have hcs : c.size ≤ 21 := by rw [size_list, hc]; exact hcl
       rw [addx_g (by omega), bA_list, hc]
       by_cases hk0 : k = 0
       ·subst hk0; simp [Lib.join_nil]
       ·simp [hk0]
      by_cases hn : r[k] = -2000000
      ·rw [show (r[k] == -2000000) = true by simp [hn], cond_true, fin ⟨#[45]⟩ (by rw [cellT, if_pos hn])]
       rfl
      ·rw [show (r[k] == -2000000) = false by simp [hn], cond_false, V_spec_l01Num (by omega) (by omega), Option.bind_some, fin (numT r[k]) (by rw [cellT, if_neg hn, numT, bA_list])]
       rfl
     rw [post, joinK_go, J_spec_RowTextx1, hw]
     exact hg _ ⟨k + 1, rfl, by omega, rfl⟩ (by simp only; omega)
    ·have hke : k = r.length := by omega
     subst hke
     simp) (ByteArray.empty, 0) ⟨0, rfl, Nat.zero_le _, by simp [Lib.join_nil]; rfl⟩
  rw [hz, cond_false, e, if_neg h0]
  rfl)
end Go.Proofs.YtlebkomgiibknaaGreatDoorX
namespace Go.Proofs.YtlebkomgiibknaaGreatDoorX
open Go Go.Proofs.YtlebkomgiibknaaGreatDoorT
set_option linter.all false
structure RSm (x : Rows) : Prop where
 len : x.length ≤ 40
 row : ∀ r ∈ x, VB r ∧ r.length ≤ 6
theorem RSm.take {x : Rows} (h : RSm x) (k : Nat) : RSm (x.take k) := ⟨by rw [List.length_take]; have := h.len; omega, fun r hr => h.row r (List.mem_of_mem_take hr)⟩
end Go.Proofs.YtlebkomgiibknaaGreatDoorX
namespace Go.Proofs.YtlebkomgiibknaaGreatDoorX
open Go Go.Proofs.YtlebkomgiibknaaGreatDoorT
set_option linter.all false
def firstRow (s : List Tb) (p : List Nd) (seed : Int) : ByteArray := match (evalPlan s (storeFrom s seed) p).1 with
 | [] => ByteArray.empty
 | r :: _ => bA (rowT r)
theorem evalPlan_bad {s : List Tb} {st : List Rows} {p : List Nd} (h : (evalPlan s st p).2 ≠ 0) : (evalPlan s st p).1 = [] := by
 unfold evalPlan at h ⊢
 split
 ·rename_i hc
  rw [if_pos hc] at h
  split
  ·rename_i t ht
   simp only [ht] at h
   split
   ·rename_i x hx
    simp [hx] at h
   ·rfl
  ·rfl
 ·rfl
theorem V_impl_FirstRow {s : List STable} {p : List SNode} {seed : Int} (hs : BSch s) (hp : BPlan p) : F_impl_FirstRow s p seed = some (firstRow s p seed) := (U_impl_FirstRow s p seed).out (by
 have hv := evalPlan_vr s (storeFrom s seed) p
 have hm := evalPlan_small s (storeFrom s seed) p
 simp only [V_impl_StoreFrom hs, V_impl_EvalPlan hs (storeFrom_b _) hp, Option.bind_some]
 unfold firstRow
 cases hx : (evalPlan s (storeFrom s seed) p).1 with
 | nil => rfl
 | cons r l =>
  rw [hx] at hv hm
  have hl := hm.row r (by simp)
  have e : ix (r :: l) 0 = some r := rfl
  rw [show (((r :: l).length : Int) == 0) = false by simp; omega, cond_false, e, Option.bind_some, V_impl_RowText (by omega) (hv r (by simp))]
  rfl)
theorem V_spec_FirstRow {s : List STable} {p : List SNode} {seed : Int} (hs : BSch s) (hp : BPlan p) : F_spec_FirstRow s p seed = some (firstRow s p seed) := (U_spec_FirstRow s p seed).out (by
 have hv := evalPlan_vr s (storeFrom s seed) p
 have hm := evalPlan_small s (storeFrom s seed) p
 simp only [V_spec_StoreFrom hs, V_spec_EvalPlan hs (storeFrom_b _) hp, Option.bind_some]
 unfold firstRow
 by_cases hc : (evalPlan s (storeFrom s seed) p).2 = 0
 ·rw [show ((evalPlan s (storeFrom s seed) p).2 != 0) = false by simp [hc], cond_false, joinK_go]
  unfold J_spec_FirstRowx0
  cases hx : (evalPlan s (storeFrom s seed) p).1 with
  | nil => rfl
  | cons r l =>
   rw [hx] at hv hm
   have hl := hm.row r (by simp)
   have e : ix (r :: l) 0 = some r := rfl
   rw [show (((r :: l).length : Int) == 0) = false by simp; omega, cond_false, e, Option.bind_some, V_spec_RowText (by omega) (hv r (by simp))]
   rfl
 ·rw [bne_iff_ne.2 hc, evalPlan_bad hc]
  rfl)
end Go.Proofs.YtlebkomgiibknaaGreatDoorX
namespace Go.Proofs.YtlebkomgiibknaaGreatDoorX
open Go Go.Proofs.YtlebkomgiibknaaGreatDoorT
set_option linter.all false
def WL {T : Type} (W : T → Prop) (l : List T) : Prop := l.length ≤ maxLen ∧ ∀ x ∈ l, W x
def zTb (t : Tb) : Nat := t.1.size
def zNd (n : Nd) : Nat := n.2.1.size + n.2.2.2.2.2.2.1.length
def WTb (t : Tb) : Prop := t.1.size ≤ maxLen
def WNd (n : Nd) : Prop := n.2.1.size ≤ maxLen ∧ n.2.2.2.2.2.2.1.length ≤ maxLen
theorem sz_IntS {a : List Int} (hw : a.length ≤ maxLen) {v : Int} (h0 : 0 ≤ v) (h1 : v ≤ 1048576) : F_laws_szIntS a v = some (if (a.length : Int) ≤ v then v - (a.length : Nat) else -1) := (U_laws_szIntS a v).out (by
 rw [wrap_sub h0 h1 hw, sub_neg]
 by_cases h : (a.length : Int) ≤ v <;> simp [h])
theorem sz_Table {a : STable} (hw : WTb a) {v : Int} (h0 : 0 ≤ v) (h1 : v ≤ 1048576) : F_laws_szTable a v = some (if (zTb a : Int) ≤ v then v - (zTb a : Nat) else -1) := (U_laws_szTable a v).out (by
 unfold WTb at hw
 rw [wrap_sub h0 h1 hw, sub_neg]
 unfold zTb
 by_cases h : (a.1.size : Int) ≤ v <;> simp [h])
theorem sz_Node {a : SNode} (hw : WNd a) {v : Int} (h0 : 0 ≤ v) (h1 : v ≤ 1048576) : F_laws_szNode a v = some (if (zNd a : Int) ≤ v then v - (zNd a : Nat) else -1) := (U_laws_szNode a v).out (by
 rw [wrap_sub h0 h1 hw.1, sub_neg]
 unfold zNd
 by_cases h : (a.2.1.size : Int) ≤ v
 ·rw [sz_IntS hw.2 (by omega) (by omega)]
  by_cases h2 : (a.2.2.2.2.2.2.1.length : Int) ≤ v - (a.2.1.size : Nat)
  ·rw [if_pos h2, if_pos (by omega)]
   have : decide (v - (a.2.1.size : Int) - (a.2.2.2.2.2.2.1.length : Int) < 0) = false := by simp; omega
   simp [h, this]; omega
  ·rw [if_neg h2, if_neg (by omega)]
   simp [h]
 ·rw [if_neg (by omega)]
  simp [h])
theorem sz_list {T : Type} {W : T → Prop} {z : T → Nat} {a : List T} (hw : WL W a) {v : Int} (h0 : 0 ≤ v) (h1 : v ≤ 1048576) {G : T → Int → Option Int}
  (hG : ∀ x, W x → ∀ v : Int, 0 ≤ v → v ≤ 1048576 → G x v = some (if (z x : Int) ≤ v then v - z x else -1))
  {L : (Int × Int × Int → Option (Ex Int (Int × Int))) → Int × Int × Int → Option (Ex Int (Int × Int))}
  (hL : ∀ f v u i, L f (v, u, i) = bif decide (i < (a.length : Int)) then (ix a i).bind fun x => (G x v).bind fun y => bif decide (y < 0) then some (.ret (-1)) else f (y, u, IntKind.i64.wrap (i + 1)) else some (.go (v, u)))
  {J : Int → Int → Option Int} (hJ : ∀ x y, J x y = some x) :
  (bif decide ((IntKind.i64.wrap (v - (a.length : Int))) < 0) then some (-1) else joinK (loopF L ((IntKind.i64.wrap (v - (a.length : Int))), 0, 0)) (fun s => J s.1 s.2)) = some (if (zL z a : Int) ≤ v then v - (zL z a : Nat) else -1) := by
 rw [wrap_sub h0 h1 hw.1, sub_neg]
 unfold zL
 by_cases h : (a.length : Int) ≤ v
 ·rw [sz_loop (z := z) (fun x hx => hG x (hw.2 x hx)) (by omega) hL (by omega) (by omega)]
  by_cases h2 : (((a.map z).sum : Nat) : Int) ≤ v - (a.length : Nat)
  ·rw [if_pos h2, if_pos (by omega)]
   simp [h, hJ]; omega
  ·rw [if_neg h2, if_neg (by omega)]
   simp [h]
 ·rw [if_neg (by omega)]
  simp [h]
theorem sz_TableS {a : List STable} (hw : WL WTb a) {v : Int} (h0 : 0 ≤ v) (h1 : v ≤ 1048576) : F_laws_szTableS a v = some (if (zL zTb a : Int) ≤ v then v - (zL zTb a : Nat) else -1) :=
 (U_laws_szTableS a v).out (sz_list hw h0 h1 (fun x hx v h0 h1 => sz_Table hx h0 h1) (fun f v u i => rfl) (fun _ _ => rfl))
theorem sz_NodeS {a : List SNode} (hw : WL WNd a) {v : Int} (h0 : 0 ≤ v) (h1 : v ≤ 1048576) : F_laws_szNodeS a v = some (if (zL zNd a : Int) ≤ v then v - (zL zNd a : Nat) else -1) :=
 (U_laws_szNodeS a v).out (sz_list hw h0 h1 (fun x hx v h0 h1 => sz_Node hx h0 h1) (fun f v u i => rfl) (fun _ _ => rfl))
theorem to_IntS {a : List Int} (h : a.length ≤ 1048576) : F_laws_toIntS a = some a := (U_laws_toIntS a).out (by
 rw [mkx_nat (by omega)]
 simp only [Option.bind_some]
 rw [to_loop (G := some) (fun _ _ => rfl) h (fun f v i => rfl) (by simp)]
 rfl)
theorem to_list {T : Type} {z : T → Nat} {a : List T} (h : zL z a ≤ 1048576) {G : T → Option T} (hG : ∀ x, z x ≤ 1048576 → G x = some x) {x0 : T} {L : (List T × Int → Option (Ex (List T) (List T))) → List T × Int → Option (Ex (List T) (List T))}
  (hL : ∀ f v i, L f (v, i) = bif decide (i < (a.length : Int)) then (ix a i).bind fun x => (G x).bind fun y => (ix v i).bind fun _ => (stx v i y).bind fun v' => f (v', IntKind.i64.wrap (i + 1)) else some (.go v))
  {J : List T → Option (List T)} (hJ : ∀ x, J x = some x) : (mkx (a.length : Int) x0).bind (fun z1 => joinK (loopF L (z1, 0)) (fun s => J s)) = some a := by
 have hl := zL_len (z := z) (l := a)
 rw [mkx_nat (by omega)]
 simp only [Option.bind_some]
 rw [to_loop (fun x hx => hG x (by have := zL_mem (z := z) hx; omega)) (by omega) hL (by simp)]
 simp [hJ]
theorem to_Table (a : STable) : F_laws_toTable a = some a := (U_laws_toTable a).out rfl
theorem to_Node {a : SNode} (h : zNd a ≤ 1048576) : F_laws_toNode a = some a := (U_laws_toNode a).out (by
 unfold zNd at h
 rw [to_IntS (by omega)]; rfl)
theorem to_TableS {a : List STable} (h : zL zTb a ≤ 1048576) : F_laws_toTableS a = some a :=
 (U_laws_toTableS a).out (to_list h (fun x _ => to_Table x) (fun f v i => rfl) (fun _ => rfl))
theorem to_NodeS {a : List SNode} (h : zL zNd a ≤ 1048576) : F_laws_toNodeS a = some a :=
 (U_laws_toNodeS a).out (to_list h (fun x hx => to_Node hx) (fun f v i => rfl) (fun _ => rfl))
theorem eq_IntS {a : List Int} (hl : a.length ≤ 1073741824) : F_laws_eqIntS a a = some true := (U_laws_eqIntS a a).out (by
 rw [eq_loop hl (fun f i x v hx _ => by
  have l1 := (List.getElem?_eq_some_iff.1 hx).1
  simp only [L_laws_eqIntSx0, lt_nat hx, cond_true, ix_some hx, Option.bind_some, wrap_nat (show i < 9223372036854775807 by omega)]
  simp) (fun f v => by simp [L_laws_eqIntSx0])]
 simp)
theorem eq_Table (a : STable) : F_laws_eqTable a a = some true := (U_laws_eqTable a a).out (by simp)
theorem eq_Node {a : SNode} (h : a.2.2.2.2.2.2.1.length ≤ 1073741824) : F_laws_eqNode a a = some true := (U_laws_eqNode a a).out (by simp [eq_IntS h])
theorem eq_TableS {a : List STable} (hl : a.length ≤ 1073741824) : F_laws_eqTableS a a = some true := (U_laws_eqTableS a a).out (by
 rw [eq_loop hl (fun f i x v hx _ => by
  have l1 := (List.getElem?_eq_some_iff.1 hx).1
  simp only [L_laws_eqTableSx0, lt_nat hx, cond_true, ix_some hx, Option.bind_some, wrap_nat (show i < 9223372036854775807 by omega), eq_Table]
  simp) (fun f v => by simp [L_laws_eqTableSx0])]
 simp)
def CNd (n : Nd) : Prop := n.2.2.2.2.2.2.1.length ≤ 1073741824
theorem eq_NodeS {a : List SNode} (hl : a.length ≤ 1073741824) (hc : ∀ n ∈ a, CNd n) : F_laws_eqNodeS a a = some true := (U_laws_eqNodeS a a).out (by
 rw [eq_loop hl (fun f i x v hx hm => by
  have l1 := (List.getElem?_eq_some_iff.1 hx).1
  simp only [L_laws_eqNodeSx0, lt_nat hx, cond_true, ix_some hx, Option.bind_some, wrap_nat (show i < 9223372036854775807 by omega), eq_Node (hc x hm)]
  simp) (fun f v => by simp [L_laws_eqNodeSx0])]
 simp)
end Go.Proofs.YtlebkomgiibknaaGreatDoorX
namespace Go.Proofs.YtlebkomgiibknaaGreatDoorX
open Go Go.Proofs.YtlebkomgiibknaaGreatDoorT
set_option linter.all false
theorem bsch_of {s : List Tb} (h : zL zTb s ≤ 1048576) : BSch s := ⟨by have := zL_len (z := zTb) (l := s); omega, fun t ht => by have := zL_mem (z := zTb) ht; have e : zTb t = t.1.size := rfl; omega⟩
theorem bplan_of {p : List Nd} (h : zL zNd p ≤ 1048576) : BPlan p := ⟨by have := zL_len (z := zNd) (l := p); omega, fun t ht => by
 have := zL_mem (z := zNd) ht; have e : zNd t = t.2.1.size + t.2.2.2.2.2.2.1.length := rfl; exact ⟨by omega, by omega⟩⟩
theorem cnd_of {p : List Nd} (h : zL zNd p ≤ 1048576) : ∀ n ∈ p, CNd n := fun t ht => by
 have := zL_mem (z := zNd) ht; have e : zNd t = t.2.1.size + t.2.2.2.2.2.2.1.length := rfl; unfold CNd; omega
end Go.Proofs.YtlebkomgiibknaaGreatDoorX
namespace Go.Proofs.YtlebkomgiibknaaGreatDoorX
open Go Go.Proofs.YtlebkomgiibknaaGreatDoorT
theorem wl_Int {x : Int} (h : wfT (.int .i64) x) : -9223372036854775808 ≤ x ∧ x ≤ 9223372036854775807 := by
 have h : (Lit.int .i64 x).wf = true := h
 simp only [Lit.wf, Bool.and_eq_true, decide_eq_true_eq] at h
 have h1 : IntKind.i64.min = -9223372036854775808 := rfl
 have h2 : IntKind.i64.max = 9223372036854775807 := rfl
 rw [h1, h2] at h
 exact h
theorem wl_TableS {n : Nat} {x : List Tb} (h : wfT (.sl n (.pr .str (.pr (.int .i64) .un))) x) : WL WTb x := ⟨h.1, fun y hy => (h.2 y hy).1⟩
theorem wl_NodeS {n m : Nat} {x : List Nd} (h : wfT (.sl n (.pr (.int .i64) (.pr .str (.pr (.int .i64) (.pr (.int .i64) (.pr (.int .i64) (.pr .bool (.pr (.sl m (.int .i64)) .un)))))))) x) : WL WNd x :=
 ⟨h.1, fun y hy => ⟨(h.2 y hy).2.1, (h.2 y hy).2.2.2.2.2.2.1.1⟩⟩
end Go.Proofs.YtlebkomgiibknaaGreatDoorX
namespace Go.Proofs.YtlebkomgiibknaaGreatDoorX
open Go Go.Proofs.YtlebkomgiibknaaGreatDoorT
set_option linter.all false
structure COp (o : Opn) : Prop where
 l1 : o.2.1.length ≤ 1073741824
 c1 : ∀ n ∈ o.2.1, CNd n
 l2 : o.2.2.1.length ≤ 1073741824
 c2 : ∀ n ∈ o.2.2.1, CNd n
 l3 : o.2.2.2.1.length ≤ 1073741824
end Go.Proofs.YtlebkomgiibknaaGreatDoorX
namespace Go.Proofs.YtlebkomgiibknaaGreatDoorX
open Go Go.Proofs.YtlebkomgiibknaaGreatDoorT
set_option linter.all false
structure CEn (e : En) : Prop where
 l1 : e.2.1.length ≤ 1073741824
 c1 : ∀ n ∈ e.2.1, CNd n
 l2 : e.2.2.1.length ≤ 1073741824
 c2 : ∀ n ∈ e.2.2.1, CNd n
end Go.Proofs.YtlebkomgiibknaaGreatDoorX
namespace Go.Proofs.YtlebkomgiibknaaGreatDoorX
open Go Go.Proofs.YtlebkomgiibknaaGreatDoorT
set_option linter.all false
theorem pure_FnExactFirstRow {a0 : List STable} {a1 : List SNode} {a2 : Int} (w0 : WL WTb a0) (w1 : WL WNd a1) (w2 : -9223372036854775808 ≤ a2 ∧ a2 ≤ 9223372036854775807) : F_laws_FnExactFirstRow a0 a1 a2 = some true := (U_laws_FnExactFirstRow a0 a1 a2).out (by
 rw [sz_TableS w0 (by omega) (by omega)]
 by_cases h0 : (zL zTb a0 : Int) ≤ (1048576 : Int)
 rotate_left
 ·rw [if_neg h0]; simp
 rw [if_pos h0]
 have hn0 : decide ((1048576 : Int) - (zL zTb a0 : Nat) < 0) = false := by simp; omega
 simp only [Option.bind_some, hn0, cond_false]
 rw [sz_NodeS w1 (by omega) (by omega)]
 by_cases h1 : (zL zNd a1 : Int) ≤ (1048576 : Int) - (zL zTb a0 : Nat)
 rotate_left
 ·rw [if_neg h1]; simp
 rw [if_pos h1]
 have hn1 : decide ((1048576 : Int) - (zL zTb a0 : Nat) - (zL zNd a1 : Nat) < 0) = false := by simp; omega
 simp only [Option.bind_some, hn1, cond_false]
 have b0 := bsch_of (s := a0) (by omega)
 have b1 := bplan_of (p := a1) (by omega)
 simp only [Option.bind_some, joinK_go, joinK_ret, joinK_bif, joinK_bind, cond_false, cond_true, Bool.not_true, beq_self_eq_true, to_TableS (a := a0) (by omega), eq_TableS (a := a0) (by have := zL_len (z := zTb) (l := a0); omega), to_NodeS (a := a1) (by omega), eq_NodeS (a := a1) (by have := zL_len (z := zNd) (l := a1); omega) (cnd_of (by omega)), V_spec_FirstRow b0 b1, V_impl_FirstRow b0 b1])
end Go.Proofs.YtlebkomgiibknaaGreatDoorX
