/- Regions in any order, the rules of code and of loops, and the words of the plain side. -/
import Derived.Test.YtdclbbkkcngjnaaTrC
import Derived.IntWalk
import Derived.Laws.BytesString
set_option linter.all false
namespace Go.Proofs.YtdclbbkkcngjnaaT
open Go
variable {P : Program} {fr : Fr}

/-! ### Regions -/
/-- The k-th operation of a region: where E is known it turns what is known by δ. -/
def LW (P : Program) (fr : Fr) (ops : Array Oper) (k : Nat) (E : Ctx) (δ : List Up) : Prop :=
  ∀ Γ : Ctx, E_le E Γ → ∀ a w (K : Act → World → Prop) Q, St P fr Γ a w → (∀ a' w', St P fr (upd Γ δ) a' w' → K a' w') → wpOp P ops Q k K a w

theorem lw_run {ops : Array Oper} {k : Nat} {o : Oper} {E : Ctx} {δ : List Up} (ho : ops[k]? = some o) (hg : o.guard = none) (h : LA P fr E o δ) : LW P fr ops k E δ := by
  intro Γ hle a w K Q hs hk
  unfold wpOp
  rw [ho]
  have hw : Region.wanted o (yielded ops a.tmps) = true := by simp [Region.wanted, hg]
  simp only [hw, if_true]
  exact .inl (h Γ hle a w K Q hs hk)

theorem yielded_ok {Γ E : Ctx} (hle : E_le E Γ) {a : Act} {w : World} (hs : St P fr Γ a w) {ops : Array Oper} {g d : Nat} {og : Oper} {b : Bool} (hg : ops[g]? = some og) (hd : og.dst = some d) (hn : Nat.blt d fr.n = true)
    (hv : vs fr.n E (.tmp d) = some (.bool b)) : yielded ops a.tmps g = some b := by
  obtain ⟨Z, β, γ, h⟩ := hs
  have h1 := vs_ok h (vs_le hle hv)
  have hlt : d < a.tmps.size := by rw [h.size]; simpa [Nat.blt_eq] using hn
  have h2 : a.tmps[d]? = some (.bool b) := by
    simp only [Act.eval, Array.getD_eq_getD_getElem?] at h1
    rw [Array.getElem?_eq_getElem hlt] at h1 ⊢
    simpa using h1
  simp [yielded, hg, hd, h2]

theorem lw_on {ops : Array Oper} {k g d : Nat} {o og : Oper} {b : Bool} {E : Ctx} {δ : List Up} (ho : ops[k]? = some o) (hgd : o.guard = some (g, b)) (hg : ops[g]? = some og) (hd : og.dst = some d) (hn : Nat.blt d fr.n = true)
    (hv : vs fr.n E (.tmp d) = some (.bool b)) (h : LA P fr E o δ) : LW P fr ops k E δ := by
  intro Γ hle a w K Q hs hk
  unfold wpOp
  rw [ho]
  have hw : Region.wanted o (yielded ops a.tmps) = true := by simp [Region.wanted, hgd, yielded_ok hle hs hg hd hn hv]
  simp only [hw, if_true]
  exact .inl (h Γ hle a w K Q hs hk)

theorem put_undef {Γ : Ctx} {a : Act} {w : World} {t : Nat} (ht : Nat.blt t fr.n = true) (hs : St P fr Γ a w) : St P fr (upd Γ [⟨t, true, some (.tup [])⟩]) (a.put (some t) undef) w := by
  obtain ⟨Z, β, γ, h⟩ := hs
  refine ⟨Z, _, γ, h.give [] ht (v := undef) (bn := []) (e := .tup []) (Grow.refl w _) (by simp) (by simp) ?_⟩
  intro β' ev' h1 h2 h3 h4
  simp only [EntOk]
  exact ⟨[], h2, rfl, h1⟩

theorem lw_off {ops : Array Oper} {k g d t : Nat} {o og : Oper} {b c : Bool} {E : Ctx} (ho : ops[k]? = some o) (hgd : o.guard = some (g, b)) (hg : ops[g]? = some og) (hd : og.dst = some d) (hn : Nat.blt d fr.n = true)
    (hv : vs fr.n E (.tmp d) = some (.bool c)) (hbc : c = !b) (hdst : o.dst = some t) (ht : Nat.blt t fr.n = true) : LW P fr ops k E [⟨t, true, some (.tup [])⟩] := by
  intro Γ hle a w K Q hs hk
  unfold wpOp
  rw [ho]
  have hw : Region.wanted o (yielded ops a.tmps) = false := by
    simp only [Region.wanted, hgd, yielded_ok hle hs hg hd hn hv]
    subst hbc
    cases b <;> rfl
  simp only [hw]
  refine hk _ _ ?_
  rw [hdst]
  exact put_undef ht hs

/-- One whose guard was itself left out. -/
theorem lw_offu {ops : Array Oper} {k g d t : Nat} {o og : Oper} {b : Bool} {E : Ctx} (ho : ops[k]? = some o) (hgd : o.guard = some (g, b)) (hg : ops[g]? = some og) (hd : og.dst = some d) (hn : Nat.blt d fr.n = true)
    (hv : E d = some (.tup [])) (hdst : o.dst = some t) (ht : Nat.blt t fr.n = true) : LW P fr ops k E [⟨t, true, some (.tup [])⟩] := by
  intro Γ hle a w K Q hs hk
  unfold wpOp
  rw [ho]
  have hy : yielded ops a.tmps g = none := by
    obtain ⟨Z, β, γ, h⟩ := hs
    have he := h.ent d _ (hle d _ hv)
    simp only [EntOk] at he
    obtain ⟨ys, h1, h2, _⟩ := he
    subst h2
    have hlt : d < a.tmps.size := by rw [h.size]; simpa [Nat.blt_eq] using hn
    rw [← eval_ev (a := a) (γ := γ) hn] at h1
    have h3 : a.tmps[d]? = some (.tuple #[]) := by
      simp only [Act.eval, Array.getD_eq_getD_getElem?] at h1
      rw [Array.getElem?_eq_getElem hlt] at h1 ⊢
      simpa using h1
    simp [yielded, hg, hd, h3]
  have hw : Region.wanted o (yielded ops a.tmps) = false := by
    simp only [Region.wanted, hgd, hy]
    cases b <;> rfl
  simp only [hw]
  refine hk _ _ ?_
  rw [hdst]
  exact put_undef ht hs

/-! Any order -/
structure Pl where
  E : List (Nat × Ent)
  δ : List Up
  A : List Nat

def stb (δ : List Up) (u : Nat) (e : Ent) : Bool := (match look δ u with | some _ => false | none => true) && !(hit δ e)

/-- None of the plans but those let off touches the entry. -/
def free (off : Nat → Pl → Bool) (u : Nat) (e : Ent) : Nat → List Pl → Bool
  | _, [] => true
  | j, p :: ps => (off j p || stb p.δ u e) && free off u e (j + 1) ps

theorem free_ok {off : Nat → Pl → Bool} {u : Nat} {e : Ent} : ∀ {i : Nat} {L : List Pl}, free off u e i L = true → ∀ (j : Nat) (p : Pl), L[j]? = some p → off (i + j) p = true ∨ stb p.δ u e = true
  | _, [], _, j, p, h => by simp at h
  | i, q :: L, hf, j, p, h => by
    simp only [free, Bool.and_eq_true, Bool.or_eq_true] at hf
    cases j with
    | zero => simp at h; subst h; exact hf.1
    | succ j =>
      have := free_ok hf.2 j p (by simpa using h)
      rwa [show i + 1 + j = i + (j + 1) by omega] at this

/-- Whence the k-th knows an entry: from the beginning, or from one that is ahead of it for sure. -/
def Whn (Γ0 : Ctx) (L : List Pl) (k : Nat) (A : List Nat) (u : Nat) (e : Ent) : Prop :=
  (Γ0 u = some e ∧ free (fun j p => Nat.beq j k || inB p.A k) u e 0 L = true) ∨
  ∃ i p, inB A i = true ∧ L[i]? = some p ∧ (match look p.δ u with | some q => q.e | none => none) = some e ∧
    free (fun j q => Nat.beq j k || inB q.A k || Nat.beq j i || inB p.A j) u e 0 L = true

/-- Whence it is known at the end. -/
def SrcE (Γ0 : Ctx) (L : List Pl) (u : Nat) (e : Ent) : Prop :=
  (Γ0 u = some e ∧ free (fun _ _ => false) u e 0 L = true) ∨
  ∃ i p, L[i]? = some p ∧ (match look p.δ u with | some q => q.e | none => none) = some e ∧
    free (fun j _ => Nat.beq j i || inB p.A j) u e 0 L = true

def Srcs (Γ0 : Ctx) (L : List Pl) (k : Nat) (A : List Nat) : List (Nat × Ent) → Prop
  | [] => True
  | (u, e) :: E => Whn Γ0 L k A u e ∧ Srcs Γ0 L k A E
def SrcEs (Γ0 : Ctx) (L : List Pl) : List (Nat × Ent) → Prop
  | [] => True
  | (u, e) :: E => SrcE Γ0 L u e ∧ SrcEs Γ0 L E

/-- The plans fit the operations, one by one. -/
def Plans (P : Program) (fr : Fr) (ops : Array Oper) (Γ0 : Ctx) (L : List Pl) : Nat → List Pl → Prop
  | _, [] => True
  | k, p :: ps => (LW P fr ops k (mk p.E) p.δ ∧ Srcs Γ0 L k p.A p.E) ∧ Plans P fr ops Γ0 L (k + 1) ps

/-- The tables A of those ahead are from the edges. -/
def aheadB (ops : Array Oper) (L : List Pl) (k : Nat) (A : List Nat) : Bool :=
  match ops[k]? with
  | none => false
  | some o =>
    let d := (o.after.toList.filter (Region.binds .any)).map (·.on)
    (d.all fun i => Nat.blt i k) && A.all fun j => inB d j || d.any fun i => match L[i]? with
      | some p => inB p.A j
      | none => false
def aheadsB (ops : Array Oper) (L : List Pl) : Nat → List Pl → Bool
  | _, [] => true
  | k, p :: ps => aheadB ops L k p.A && aheadsB ops L (k + 1) ps

theorem plans_ok {ops : Array Oper} {Γ0 : Ctx} {L : List Pl} : ∀ {i : Nat} {ps : List Pl}, Plans P fr ops Γ0 L i ps → ∀ (j : Nat) (p : Pl), ps[j]? = some p → LW P fr ops (i + j) (mk p.E) p.δ ∧ Srcs Γ0 L (i + j) p.A p.E
  | _, [], _, j, p, h => by simp at h
  | i, q :: ps, hf, j, p, h => by
    cases j with
    | zero => simp at h; subst h; exact hf.1
    | succ j =>
      have := plans_ok hf.2 j p (by simpa using h)
      rwa [show i + 1 + j = i + (j + 1) by omega] at this
theorem aheads_ok {ops : Array Oper} {L : List Pl} : ∀ {i : Nat} {ps : List Pl}, aheadsB ops L i ps = true → ∀ (j : Nat) (p : Pl), ps[j]? = some p → aheadB ops L (i + j) p.A = true
  | _, [], _, j, p, h => by simp at h
  | i, q :: ps, hf, j, p, h => by
    simp only [aheadsB, Bool.and_eq_true] at hf
    cases j with
    | zero => simp at h; subst h; exact hf.1
    | succ j =>
      have := aheads_ok hf.2 j p (by simpa using h)
      rwa [show i + 1 + j = i + (j + 1) by omega] at this

theorem srcs_ok {Γ0 : Ctx} {L : List Pl} {k : Nat} {A : List Nat} : ∀ {E : List (Nat × Ent)}, Srcs Γ0 L k A E → ∀ u e, mk E u = some e → Whn Γ0 L k A u e
  | [], _, u, e, h => by simp [mk] at h
  | (v, e0) :: E, hs, u, e, h => by
    simp only [mk] at h
    cases hb : Nat.beq v u with
    | true =>
      rw [hb] at h; simp at h; subst h
      rw [← Nat.eq_of_beq_eq_true hb]; exact hs.1
    | false => rw [hb] at h; exact srcs_ok hs.2 u e h
theorem srcEs_ok {Γ0 : Ctx} {L : List Pl} : ∀ {E : List (Nat × Ent)}, SrcEs Γ0 L E → ∀ u e, mk E u = some e → SrcE Γ0 L u e
  | [], _, u, e, h => by simp [mk] at h
  | (v, e0) :: E, hs, u, e, h => by
    simp only [mk] at h
    cases hb : Nat.beq v u with
    | true =>
      rw [hb] at h; simp at h; subst h
      rw [← Nat.eq_of_beq_eq_true hb]; exact hs.1
    | false => rw [hb] at h; exact srcEs_ok hs.2 u e h

/-- What holds when the operations in 'listed' are done, in whatever order. -/
structure Done (P : Program) (fr : Fr) (Γ0 : Ctx) (L : List Pl) (listed : Array Bool) (a : Act) (w : World) : Prop where
  clo : ∀ (i : Nat) p, listed[i]? = some true → L[i]? = some p → ∀ j, j ∈ p.A → listed[j]? = some true
  st : ∃ Γ, St P fr Γ a w ∧ (∀ u e, Γ0 u = some e → (∀ (j : Nat) p, listed[j]? = some true → L[j]? = some p → stb p.δ u e = true) → Γ u = some e) ∧
    ∀ (i : Nat) p, listed[i]? = some true → L[i]? = some p → ∀ u e, (match look p.δ u with | some q => q.e | none => none) = some e →
      (∀ (j : Nat) q, listed[j]? = some true → L[j]? = some q → j ≠ i → j ∉ p.A → stb q.δ u e = true) → Γ u = some e

theorem upd_stb {Γ : Ctx} {δ : List Up} {u : Nat} {e : Ent} (h : Γ u = some e) (hs : stb δ u e = true) : upd Γ δ u = some e := by
  unfold stb at hs
  unfold upd
  cases hl : look δ u with
  | some p => rw [hl] at hs; simp at hs
  | none =>
    rw [hl] at hs
    simp at hs
    simp [h, hs]
theorem upd_new {Γ : Ctx} {δ : List Up} {u : Nat} {e : Ent} (h : (match look δ u with | some q => q.e | none => none) = some e) : upd Γ δ u = some e := by
  unfold upd
  cases hl : look δ u with
  | some p => rw [hl] at h; exact h
  | none => rw [hl] at h; simp at h

theorem ready_iff {ops : Array Oper} {listed : Array Bool} {i : Nat} (h : i ∈ Region.ready .any ops listed) :
    i < ops.size ∧ listed.getD i true = false ∧ ∃ o, ops[i]? = some o ∧ ∀ e, e ∈ o.after.toList → Region.binds .any e = true → listed.getD e.on false = true := by
  simp only [Region.ready, List.mem_filter, List.mem_range, Bool.and_eq_true, Bool.not_eq_true'] at h
  obtain ⟨h1, h2, h3⟩ := h
  refine ⟨h1, h2, ops[i], by simp [h1], ?_⟩
  rw [Array.getElem?_eq_getElem h1] at h3
  simp only [Option.map_some, Option.getD_some, Array.all_eq_true_iff_forall_mem, Bool.or_eq_true, Bool.not_eq_true'] at h3
  intro e he hb
  rcases h3 e (Array.mem_toList_iff.1 he) with h4 | h4
  · rw [hb] at h4; cases h4
  · exact h4

theorem getD_true {l : Array Bool} {i : Nat} (h : l.getD i false = true) : l[i]? = some true := by
  rw [Array.getD_eq_getD_getElem?] at h
  cases hl : l[i]? with
  | none => rw [hl] at h; cases h
  | some b => rw [hl] at h; simp at h; rw [h]
theorem getD_false {l : Array Bool} {i : Nat} (h : l.getD i true = false) : l[i]? = some false := by
  rw [Array.getD_eq_getD_getElem?] at h
  cases hl : l[i]? with
  | none => rw [hl] at h; cases h
  | some b => rw [hl] at h; simp at h; rw [h]
theorem inB_of {B : List Nat} {r : Nat} (h : r ∈ B) : inB B r = true := by simp only [inB, List.any_eq_true]; exact ⟨r, h, by simp⟩

theorem done_step {ops : Array Oper} {Γ0 : Ctx} {L : List Pl} (hpl : Plans P fr ops Γ0 L 0 L) (hah : aheadsB ops L 0 L = true) {listed : Array Bool} {a : Act} {w : World} (hd : Done P fr Γ0 L listed a w)
    (hsz : L.length = ops.size) {i : Nat} (hi : i ∈ Region.ready .any ops listed) {K : Act → World → Prop} {Q : Exit → Act → World → Prop}
    (hk : ∀ a' w', Done P fr Γ0 L (listed.setIfInBounds i true) a' w' → K a' w') : wpOp P ops Q i K a w := by
  obtain ⟨hlt, hun, o, ho, hpre⟩ := ready_iff hi
  have hun' := getD_false hun
  have hnl : ∀ {j : Nat}, listed[j]? = some true → j ≠ i := by rintro j h rfl; rw [hun'] at h; cases h
  have hli : i < L.length := by omega
  have hp : L[i]? = some L[i] := List.getElem?_eq_getElem hli
  generalize L[i] = p at hp
  have hpi := plans_ok hpl i p hp
  rw [Nat.zero_add] at hpi
  have hai := aheads_ok hah i p hp
  rw [Nat.zero_add] at hai
  have hsub : ∀ j, j ∈ p.A → listed[j]? = some true := by
    intro j hj
    unfold aheadB at hai
    rw [ho] at hai
    simp only [Bool.and_eq_true, List.all_eq_true, Bool.or_eq_true, List.any_eq_true] at hai
    have hdir : ∀ x, x ∈ (o.after.toList.filter (Region.binds .any)).map (·.on) → listed[x]? = some true := by
      intro x hx
      obtain ⟨e, he, rfl⟩ := List.mem_map.1 hx
      obtain ⟨he1, he2⟩ := List.mem_filter.1 he
      exact getD_true (hpre e he1 he2)
    rcases hai.2 j hj with h1 | ⟨x, hx, h1⟩
    · exact hdir j (inB_ok h1)
    · cases hq : L[x]? with
      | none => rw [hq] at h1; cases h1
      | some q => rw [hq] at h1; exact hd.clo x q (hdir x hx) hq j (inB_ok h1)
  have hnA : ∀ {j : Nat} {q : Pl}, listed[j]? = some true → L[j]? = some q → inB q.A i = false := by
    intro j q hj hq
    cases hb : inB q.A i with
    | false => rfl
    | true => exact (hnl (hd.clo j q hj hq i (inB_ok hb)) rfl).elim
  have hbeq : ∀ {j k : Nat}, j ≠ k → Nat.beq j k = false := by
    intro j k hjk
    cases hb : Nat.beq j k with
    | false => rfl
    | true => exact (hjk (Nat.eq_of_beq_eq_true hb)).elim
  obtain ⟨Γ, hst, h0, h1⟩ := hd.st
  have hle : E_le (mk p.E) Γ := by
    intro u e hu
    rcases srcs_ok hpi.2 u e hu with ⟨g1, g2⟩ | ⟨i', p', g1, g2, g3, g4⟩
    · refine h0 u e g1 (fun j q hj hq => ?_)
      rcases free_ok g2 j q hq with g5 | g5
      · rw [Nat.zero_add, hbeq (hnl hj), hnA hj hq] at g5; cases g5
      · exact g5
    · refine h1 i' p' (hsub i' (inB_ok g1)) g2 u e g3 (fun j q hj hq hne hnot => ?_)
      rcases free_ok g4 j q hq with g5 | g5
      · rw [Nat.zero_add, hbeq (hnl hj), hnA hj hq, hbeq hne] at g5
        simp at g5
        exact (hnot (inB_ok g5)).elim
      · exact g5
  refine hpi.1 Γ hle a w K Q hst (fun a' w' hs' => hk a' w' ?_)
  have hset : ∀ j : Nat, (listed.setIfInBounds i true)[j]? = some true ↔ j = i ∨ listed[j]? = some true := by
    intro j
    by_cases hj : j = i
    · subst hj
      simp [Array.getElem?_setIfInBounds, (Array.getElem?_eq_some_iff.1 hun').1]
    · simp [Array.getElem?_setIfInBounds, Ne.symm hj, hj]
  refine ⟨?_, upd Γ p.δ, hs', ?_, ?_⟩
  · intro j q hj hq x hx
    rw [hset]
    rcases (hset j).1 hj with rfl | hj
    · rw [hp] at hq
      cases hq
      exact .inr (hsub x hx)
    · exact .inr (hd.clo j q hj hq x hx)
  · intro u e hu hall
    exact upd_stb (h0 u e hu (fun j q hj hq => hall j q ((hset j).2 (.inr hj)) hq)) (hall i p ((hset i).2 (.inl rfl)) hp)
  · intro j q hj hq u e hu hall
    rcases (hset j).1 hj with rfl | hj
    · rw [hp] at hq
      cases hq
      exact upd_new hu
    · refine upd_stb (h1 j q hj hq u e hu (fun j' q' hj' hq' => hall j' q' ((hset j').2 (.inr hj')) hq')) (hall i p ((hset i).2 (.inl rfl)) hp (Ne.symm (hnl hj)) ?_)
      intro hm
      have := hnA hj hq
      rw [inB_of hm] at this
      cases this

theorem all_listed {ops : Array Oper} {L : List Pl} (hah : aheadsB ops L 0 L = true) (hsz : L.length = ops.size) {listed : Array Bool} (hls : listed.size = ops.size) (hr : Region.ready .any ops listed = []) :
    ∀ i : Nat, i < ops.size → listed[i]? = some true := by
  intro i
  induction i using Nat.strongRecOn with
  | _ i ih =>
    intro hi
    have hg : listed[i]? = some listed[i] := Array.getElem?_eq_getElem (by omega)
    cases hb : listed[i] with
    | true => rw [hg, hb]
    | false =>
      exfalso
      have : i ∈ Region.ready .any ops listed := by
        simp only [Region.ready, List.mem_filter, List.mem_range, Bool.and_eq_true, Bool.not_eq_true']
        refine ⟨hi, ?_, ?_⟩
        · rw [Array.getD_eq_getD_getElem?, hg, hb]; rfl
        · rw [Array.getElem?_eq_getElem hi]
          simp only [Option.map_some, Option.getD_some, Array.all_eq_true_iff_forall_mem, Bool.or_eq_true, Bool.not_eq_true']
          intro e he
          cases hbd : Region.binds .any e with
          | false => exact .inl rfl
          | true =>
            right
            have hp : L[i]? = some L[i] := List.getElem?_eq_getElem (by omega)
            have hai := aheads_ok hah i _ hp
            rw [Nat.zero_add] at hai
            unfold aheadB at hai
            rw [Array.getElem?_eq_getElem hi] at hai
            simp only [Bool.and_eq_true, List.all_eq_true] at hai
            have hlt := hai.1 e.on (List.mem_map.2 ⟨e, List.mem_filter.2 ⟨Array.mem_toList_iff.2 he, hbd⟩, rfl⟩)
            have hlt' : e.on < i := by simpa [Nat.blt_eq] using hlt
            have := ih e.on hlt' (by omega)
            rw [Array.getD_eq_getD_getElem?, this]; rfl
      rw [hr] at this
      simp at this

theorem any_walk {ops : Array Oper} {Γ0 : Ctx} {L : List Pl} {E1 : List (Nat × Ent)} {Q : Exit → Act → World → Prop} (hpl : Plans P fr ops Γ0 L 0 L) (hah : aheadsB ops L 0 L = true) (hsz : L.length = ops.size) (hend : SrcEs Γ0 L E1)
    (hk : ∀ a w, St P fr (mk E1) a w → Q .normal a w) : ∀ (fuel : Nat) (listed : Array Bool), listed.size = ops.size → listed.toList.count false ≤ fuel → ∀ a w, Done P fr Γ0 L listed a w → wpAny P .any ops Q fuel listed a w := by
  have hfin : ∀ (listed : Array Bool) a w, Done P fr Γ0 L listed a w → (∀ i : Nat, i < ops.size → listed[i]? = some true) → Q .normal a w := by
    intro listed a w hd hall
    obtain ⟨Γ, hst, h0, h1⟩ := hd.st
    refine hk a w (hst.weaken ?_)
    intro u e hu
    rcases srcEs_ok hend u e hu with ⟨g1, g2⟩ | ⟨i, p, g1, g2, g3⟩
    · refine h0 u e g1 (fun j q _ hq => ?_)
      rcases free_ok g2 j q hq with g5 | g5
      · cases g5
      · exact g5
    · have hil : i < ops.size := by rw [← hsz]; exact (List.getElem?_eq_some_iff.1 g1).1
      refine h1 i p (hall i hil) g1 u e g2 (fun j q _ hq hne hnot => ?_)
      rcases free_ok g3 j q hq with g5 | g5
      · rw [Nat.zero_add] at g5
        simp only [Bool.or_eq_true] at g5
        rcases g5 with g5 | g5
        · exact (hne (Nat.eq_of_beq_eq_true g5)).elim
        · exact (hnot (inB_ok g5)).elim
      · exact g5
  intro fuel
  induction fuel with
  | zero =>
    intro listed hls hc a w hd
    have hall : ∀ i : Nat, i < ops.size → listed[i]? = some true := by
      intro i hi
      have hg : listed[i]? = some listed[i] := Array.getElem?_eq_getElem (by omega)
      cases hb : listed[i] with
      | true => rw [hg, hb]
      | false =>
        have : false ∈ listed.toList := by rw [← hb]; simp
        have := List.count_pos_iff.2 this
        omega
    refine ⟨?_, hfin listed a w hd hall⟩
    cases hr : Region.ready .any ops listed with
    | nil => rfl
    | cons i l =>
      obtain ⟨h1, h2, _⟩ := ready_iff (ops := ops) (listed := listed) (i := i) (by rw [hr]; simp)
      have := getD_false h2
      rw [hall i h1] at this
      cases this
  | succ fuel ih =>
    intro listed hls hc a w hd
    refine ⟨fun hr => hfin listed a w hd (all_listed hah hsz hls hr), fun i hi => ?_⟩
    refine done_step hpl hah hd hsz hi (fun a' w' hd' => ih _ (by simpa using hls) ?_ a' w' hd')
    obtain ⟨hlt, hun, _⟩ := ready_iff hi
    have hun' := getD_false hun
    obtain ⟨hlt', hv⟩ := Array.getElem?_eq_some_iff.1 hun'
    have : (listed.setIfInBounds i true).toList = listed.toList.set i true := by simp
    rw [this, List.count_set (by simpa using hlt')]
    have hpos : 0 < listed.toList.count false := List.count_pos_iff.2 (by rw [← hv]; simp)
    have hv' : listed.toList[i]'(by simpa using hlt') = false := by simpa using hv
    rw [hv']
    have e1 : ((false == false) = true) = True := by simp
    have e2 : ((true == false) = true) = False := by simp
    simp only [e1, e2, if_true, if_false]
    omega

theorem wp_any {id : Nat} {ops : Array Oper} {Γ0 : Ctx} {Q : Exit → Act → World → Prop} (L : List Pl) {E1 : List (Nat × Ent)} (hm : P.follows .mixedOrders = true) (hpl : Plans P fr ops Γ0 L 0 L) (hah : aheadsB ops L 0 L = true)
    (hsz : Nat.beq L.length ops.size = true) (hend : SrcEs Γ0 L E1) (hk : ∀ a w, St P fr (mk E1) a w → Q .normal a w) : ∀ a w, St P fr Γ0 a w → (Code.region id ops true).wp P Q a w := by
  intro a w hst
  refine wp_region_any hm (any_walk hpl hah (Nat.eq_of_beq_eq_true hsz) hend hk _ _ (by simp) (by simp) _ _ ?_)
  obtain ⟨Z, β, γ, h⟩ := hst
  have hnone : ∀ (j : Nat), (Array.replicate ops.size false)[j]? ≠ some true := by
    intro j
    rw [Array.getElem?_replicate]
    split <;> simp
  refine ⟨fun i p hi => (hnone i hi).elim, Γ0, ⟨Z, β, γ, ?_⟩, fun u e hu _ => hu, fun i p hi => (hnone i hi).elim⟩
  refine ⟨h.gh, h.defers, h.size, ⟨h.evo.os, h.evo.tape, h.evo.output, h.evo.size, h.evo.block⟩, h.zlt, h.zin, h.znew, h.own, h.nodup, h.disj, ?_⟩
  intro t e he
  have := h.ent t e he
  exact EntOk.mono (w' := { w with drawn := w.drawn + 1 }) this (fun _ h => h) rfl rfl (fun _ _ => rfl) (fun _ _ => rfl) (fun _ _ => rfl)

/-- Ops one behind the other. -/
theorem seq_cons {ops : Array Oper} {k : Nat} {rest : List Nat} {Γ : Ctx} {δ : List Up} {Q : Exit → Act → World → Prop} (h : LW P fr ops k Γ δ)
    (hr : ∀ a w, St P fr (upd Γ δ) a w → wpOps P ops Q rest a w) : ∀ a w, St P fr Γ a w → wpOps P ops Q (k :: rest) a w := by
  intro a w hs
  rw [wpOps_cons]
  exact h Γ (fun _ _ he => he) a w _ Q hs hr

end Go.Proofs.YtdclbbkkcngjnaaT

namespace Go.Proofs.YtdclbbkkcngjnaaT
open Go
variable {P : Program} {fr : Fr}

/-! ### Code -/
def W (P : Program) (fr : Fr) (Γ : Ctx) (c : Code) (Q : Exit → Act → World → Prop) : Prop := ∀ a w, St P fr Γ a w → c.wp P Q a w

variable {Γ Γ' : Ctx} {Q : Exit → Act → World → Prop}

theorem w_skip (h : ∀ a w, St P fr Γ a w → Q .normal a w) : W P fr Γ .skip Q := fun a w hs => wp_skip (h a w hs)
theorem w_ret (h : ∀ a w, St P fr Γ a w → Q .ret a w) : W P fr Γ .ret Q := fun a w hs => wp_ret (h a w hs)
theorem w_exit {id : Nat} (h : ∀ a w, St P fr Γ a w → Q (.exit id) a w) : W P fr Γ (.exit id) Q := fun a w hs => wp_exit (h a w hs)
theorem w_weak {c : Code} (h : W P fr Γ' c Q) (hl : E_le Γ' Γ) : W P fr Γ c Q := fun a w hs => h a w (hs.weaken hl)
/-- Forget all but the entries of L. -/
theorem w_cut {c : Code} (L : List (Nat × Ent)) (hl : Has Γ L) (h : W P fr (mk L) c Q) : W P fr Γ c Q := w_weak h (has_le hl)
theorem w_seq {x y : Code} (hx : W P fr Γ x (Exit.then (St P fr Γ') Q)) (hy : W P fr Γ' y Q) : W P fr Γ (.seq x y) Q :=
  fun a w hs => wp_seq (wp_mono (hx a w hs) (fun e a w hq => by cases e <;> first | exact hy a w hq | exact hq))
theorem w_seq' {x y : Code} (hx : W P fr Γ x (Exit.then (y.wp P Q) Q)) : W P fr Γ (.seq x y) Q := fun a w hs => wp_seq (hx a w hs)
theorem w_block {id : Nat} {c : Code} (h : W P fr Γ c (Exit.inBlock id Q)) : W P fr Γ (.block id c) Q := fun a w hs => wp_block (h a w hs)

theorem w_cond {c : Operand} {x y : Code} {b : Bool} (hc : vs fr.n Γ c = some (.bool b)) (ht : b = true → W P fr Γ x Q) (hf : b = false → W P fr Γ y Q) : W P fr Γ (.cond c x y) Q := by
  intro a w hs
  have hs' := hs
  obtain ⟨Z, β, γ, h⟩ := hs
  exact wp_cond_split (vs_ok h hc) (fun e => ht e a w hs') (fun e => hf e a w hs')

def rng : Nat → Nat → List Nat
  | _, 0 => []
  | k, n + 1 => k :: rng (k + 1) n
theorem rng_eq : ∀ n k, rng k n = (List.range n).map (k + ·)
  | 0, _ => rfl
  | n + 1, k => by
    rw [rng, rng_eq n, List.range_succ_eq_map]
    simp only [List.map_cons, List.map_map, Nat.add_zero, List.cons.injEq, true_and]
    refine List.map_congr_left (fun x _ => ?_)
    simp; omega

theorem w_reg {id : Nat} {ops : Array Oper} (h : ∀ a w, St P fr Γ a w → wpOps P ops Q (rng 0 ops.size) a w) : W P fr Γ (.region id ops false) Q := by
  intro a w hs
  refine wp_region ?_
  have := h a w hs
  rw [rng_eq] at this
  simpa using this
theorem w_end {ops : Array Oper} (h : ∀ a w, St P fr Γ a w → Q .normal a w) : ∀ a w, St P fr Γ a w → wpOps P ops Q [] a w := fun a w hs => by
  simpa [wpOps] using h a w hs
theorem w_any {id : Nat} {ops : Array Oper} (L : List Pl) {E1 : List (Nat × Ent)} (hm : P.follows .mixedOrders = true) (hpl : Plans P fr ops Γ L 0 L) (hah : aheadsB ops L 0 L = true)
    (hsz : Nat.beq L.length ops.size = true) (hend : SrcEs Γ L E1) (hk : ∀ a w, St P fr (mk E1) a w → Q .normal a w) : W P fr Γ (.region id ops true) Q := wp_any L hm hpl hah hsz hend hk

/-- A loop: σ is what it knows at the head of a round, I what is said of it, with as many rounds as there may be. -/
theorem w_loop {σ : Type} (Γs : σ → Ctx) (I : Nat → σ → Prop) {c : Code} (k₀ : Nat) (s₀ : σ) (h₀ : I k₀ s₀)
    (round : ∀ k s, I k s → W P fr (Γs s) c (Exit.then (fun a w => ∃ k' s', k' < k ∧ I k' s' ∧ St P fr (Γs s') a w) Q)) : W P fr (Γs s₀) (.loop c) Q := by
  intro a w hs
  let J : Nat → Act → World → Prop := fun k a w => ∃ s, I k s ∧ St P fr (Γs s) a w
  let I' : Act → World → Prop := fun a w => ∃ k, J k a w
  classical
  let μ : Act → World → Nat := fun a w => if h : ∃ k, J k a w then Classical.choose (p := fun k => J k a w ∧ ∀ j, J j a w → k ≤ j) (by
    obtain ⟨k, hk⟩ := h
    induction k using Nat.strongRecOn with
    | _ k ih =>
      by_cases hm : ∀ j, J j a w → k ≤ j
      · exact ⟨k, hk, hm⟩
      · obtain ⟨j, hj⟩ := Classical.not_forall.1 hm
        have hj1 : J j a w := Classical.byContradiction fun hn => hj (fun h => (hn h).elim)
        have hj2 : j < k := Nat.lt_of_not_le fun hle => hj (fun _ => hle)
        exact ih j hj2 hj1) else 0
  refine wp_loop I' μ ⟨k₀, s₀, h₀, hs⟩ ?_
  intro a w hI
  have hμ : J (μ a w) a w ∧ ∀ j, J j a w → μ a w ≤ j := by
    show J (if h : _ then _ else _) a w ∧ _
    have hh : ∃ k, J k a w := hI
    simp only [μ, dif_pos hh]
    exact Classical.choose_spec (p := fun k => J k a w ∧ ∀ j, J j a w → k ≤ j) _
  obtain ⟨s, hIs, hst⟩ := hμ.1
  refine wp_mono (round (μ a w) s hIs a w hst) ?_
  intro e a' w' hq
  cases e with
  | normal =>
    obtain ⟨k', s', hlt, hI', hst'⟩ := hq
    refine ⟨⟨k', s', hI', hst'⟩, Nat.lt_of_le_of_lt ?_ hlt⟩
    have hh : ∃ k, J k a' w' := ⟨k', s', hI', hst'⟩
    have hspec := Classical.choose_spec (p := fun k => J k a' w' ∧ ∀ j, J j a' w' → k ≤ j)
    show (if h : _ then _ else _) ≤ k'
    rw [dif_pos hh]
    exact (hspec _).2 k' ⟨s', hI', hst'⟩
  | _ => exact hq

end Go.Proofs.YtdclbbkkcngjnaaT

namespace Go.Proofs.YtdclbbkkcngjnaaT
open Go
variable {P : Program} {fr : Fr}

/-- A plain value, moved. -/
theorem la_mvs {E : Ctx} {o : Oper} {x : Operand} {t : Nat} {v : Value} (ho : o.op = .move x ∨ o.op = .assign x) (hd : o.dst = some t) (ht : Nat.blt t fr.n = true)
    (hx : vs fr.n E x = some v) : LA P fr E o [⟨t, true, some (.d (.one (.v v)))⟩] := by
  refine LA.val hd ht fun Γ a w Z β γ hle h => ⟨a.eval x, run_mv ho w, fun β' ev' hb hb' hv hv' => ?_⟩
  unfold vs at hx
  split at hx
  · rename_i r u hq
    simp at hx
    subst hx
    have := vwr_ok h (vwr_le hle hq)
    simp only [RD, RC] at this
    simp only [EntOk, RD, RC]
    exact ⟨hv.trans this.1, this.2.1, hb⟩
  · cases hx

/-- Data that may be read, moved. -/
theorem la_mvr {E : Ctx} {o : Oper} {x : Operand} {t : Nat} {r : Option Nat} {X : Dt} (ho : o.op = .move x ∨ o.op = .assign x) (hd : o.dst = some t) (ht : Nat.blt t fr.n = true)
    (hx : vwr fr.n E x = some (r, X)) (hr : r ≠ some t) : LA P fr E o [⟨t, true, some (mkv r X)⟩] := by
  refine LA.val hd ht fun Γ a w Z β γ hle h => ⟨a.eval x, run_mv ho w, fun β' ev' hb hb' hv hv' => mkv_ok hb ?_⟩
  have := vwr_ok h (vwr_le hle hx)
  rw [hv]
  refine RD.mono (fun b hb => ?_) (fun _ _ => rfl) this
  cases r with
  | none => exact hb
  | some q =>
    simp only [zr] at hb ⊢
    rw [hb' q (by rintro rfl; exact hr rfl)]
    exact hb

/-- The same value as another one. -/
theorem la_eq {E : Ctx} {o : Oper} {s t r : Nat} (ho : o.op = .move (.tmp s) ∨ o.op = .assign (.tmp s)) (hd : o.dst = some t) (ht : Nat.blt t fr.n = true) (hs : Nat.blt s fr.n = true)
    (hx : s = r ∨ E s = some (.eq r)) (hr : Nat.beq r t = false) : LA P fr E o [⟨t, true, some (.eq r)⟩] := by
  refine LA.val hd ht fun Γ a w Z β γ hle h => ⟨a.eval (.tmp s), run_mv ho w, fun β' ev' hb hb' hv hv' => ?_⟩
  have hrt : r ≠ t := by rintro rfl; simp at hr
  simp only [EntOk]
  rw [hv, hv' r hrt, eval_ev (γ := γ) hs]
  rcases hx with rfl | hx
  · rfl
  · exact h.ent s _ (hle s _ hx)

/-! ### The plain words -/
def ix {α : Type} (xs : List α) (i : Int) : Option α := bif decide (0 ≤ i) then xs[i.toNat]? else none
theorem ix_ok {α : Type} {xs : List α} {i : Int} {z : α} (h : ix xs i = some z) : 0 ≤ i ∧ xs[i.toNat]? = some z := by
  unfold ix at h
  cases hb : decide (0 ≤ i) with
  | true => rw [hb] at h; exact ⟨of_decide_eq_true hb, h⟩
  | false => rw [hb] at h; cases h
theorem bnd {α β : Type} {o : Option α} {f : α → Option β} {r : β} (h : o.bind f = some r) : ∃ x, o = some x ∧ f x = some r := by
  cases o with
  | none => cases h
  | some x => exact ⟨x, rfl, h⟩
theorem bif_t {α : Type} {c : Bool} {x y r : α} (h : (bif c then x else y) = r) (hc : c = true) : x = r := by rw [hc] at h; exact h
theorem bif_f {α : Type} {c : Bool} {x y r : α} (h : (bif c then x else y) = r) (hc : c = false) : y = r := by rw [hc] at h; exact h
/-- How a loop ends: with an answer, or goes on behind it. -/
inductive Ex (R S : Type) where
  | ret (r : R)
  | go (s : S)

abbrev iv (x : Int) : Dt := .one (.v (.int .i64 x))
abbrev bv (x : Bool) : Dt := .one (.v (.bool x))
abbrev sv (x : ByteArray) : Dt := .one (.v (.string x))

theorem la_ix {E : Ctx} {o : Oper} {t : Nat} {T Et : TypeId} {x y : Operand} {r : Option Nat} {b : Bool} {i : Int} {α : Type} {f : α → List C} {xs : List α} {z : α}
    (ho : o.op = .indexAddr T x y) (hd : o.dst = some t) (ht : Nat.blt t fr.n = true) (hT : elemT P T Et = true)
    (hx : vwr fr.n E x = some (r, .one (.sl b Et (xs.map f)))) (hy : vs fr.n E y = some (.int .i64 i)) (hz : ix xs i = some z) (hr : r ≠ some t) :
    LA P fr E o [⟨t, true, some (.sp r (f z))⟩] := by
  obtain ⟨inf, zz, hu, hi, _⟩ := elemT_ok hT
  exact la_idx ho hd ht hu hi hx hy (ix_ok hz).1 (ix_ok hz).2 hr

end Go.Proofs.YtdclbbkkcngjnaaT

namespace Go.Proofs.YtdclbbkkcngjnaaT
open Go
variable {P : Program} {fr : Fr}

/-! ### The rules as the printer uses them: every side condition a Bool -/
def neR : Option Nat → Nat → Bool
  | none, _ => true
  | some q, t => !(Nat.beq q t)
theorem neR_ok {r : Option Nat} {t : Nat} (h : neR r t = true) : r ≠ some t := by
  rintro rfl
  simp [neR] at h

def stx {α : Type} (xs : List α) (i : Int) (v : α) : Option (List α) := bif decide (0 ≤ i) && decide (i < (xs.length : Int)) then some (xs.set i.toNat v) else none
theorem stx_ok {α : Type} {xs ys : List α} {i : Int} {v : α} (h : stx xs i v = some ys) : 0 ≤ i ∧ i < (xs.length : Int) ∧ ys = xs.set i.toNat v ∧ ∃ z, xs[i.toNat]? = some z := by
  unfold stx at h
  cases hb : decide (0 ≤ i) && decide (i < (xs.length : Int)) with
  | true =>
    rw [hb] at h
    simp only [Bool.and_eq_true, decide_eq_true_eq] at hb
    simp at h
    exact ⟨hb.1, hb.2, h.symm, _, List.getElem?_eq_getElem (by omega)⟩
  | false => rw [hb] at h; cases h
/-- A length that is not too much. -/
def mkx {α : Type} (i : Int) (z : α) : Option (List α) := bif decide (0 ≤ i) && decide (i ≤ 2147483648) then some (List.replicate i.toNat z) else none
theorem mkx_ok {α : Type} {i : Int} {z : α} {ys : List α} (h : mkx i z = some ys) : 0 ≤ i ∧ i ≤ 2147483648 ∧ ys = List.replicate i.toNat z := by
  unfold mkx at h
  cases hb : decide (0 ≤ i) && decide (i ≤ 2147483648) with
  | true =>
    rw [hb] at h
    simp only [Bool.and_eq_true, decide_eq_true_eq] at hb
    simp at h
    exact ⟨hb.1, hb.2, h.symm⟩
  | false => rw [hb] at h; cases h
def apx {α : Type} (xs ys : List α) : Option (List α) := bif Nat.ble (xs.length + ys.length) 2147483648 then some (xs ++ ys) else none
theorem apx_ok {α : Type} {xs ys zs : List α} (h : apx xs ys = some zs) : xs.length + ys.length ≤ 2147483648 ∧ zs = xs ++ ys := by
  unfold apx at h
  cases hb : Nat.ble (xs.length + ys.length) 2147483648 with
  | true => rw [hb] at h; simp at h; exact ⟨Nat.le_of_ble_eq_true hb, h.symm⟩
  | false => rw [hb] at h; cases h
def slx {α : Type} (xs : List α) (i j : Int) : Option (List α) := bif decide (0 ≤ i) && decide (i ≤ j) && decide (j ≤ (xs.length : Int)) then some ((xs.drop i.toNat).take (j.toNat - i.toNat)) else none
theorem slx_ok {α : Type} {xs ys : List α} {i j : Int} (h : slx xs i j = some ys) : 0 ≤ i ∧ i ≤ j ∧ j ≤ (xs.length : Int) ∧ ys = (xs.drop i.toNat).take (j.toNat - i.toNat) := by
  unfold slx at h
  cases hb : decide (0 ≤ i) && decide (i ≤ j) && decide (j ≤ (xs.length : Int)) with
  | true =>
    rw [hb] at h
    simp only [Bool.and_eq_true, decide_eq_true_eq] at hb
    simp at h
    exact ⟨hb.1.1, hb.1.2, hb.2, h.symm⟩
  | false => rw [hb] at h; cases h

section
variable {E : Ctx} {o : Oper} {t : Nat} {T T' Et : TypeId} {x y : Operand} {α : Type} {f : α → List C} {xs ys : List α} {z : α} {i j : Int} {rr : Option Nat} {r k : Nat} {b : Bool}

theorem r_mvr {X : Dt} (ho : o.op = .move x ∨ o.op = .assign x) (hd : o.dst = some t) (ht : Nat.blt t fr.n = true) (hx : vwr fr.n E x = some (rr, X)) (hr : neR rr t = true) : LA P fr E o [⟨t, true, some (mkv rr X)⟩] :=
  la_mvr ho hd ht hx (neR_ok hr)
theorem r_ix (ho : o.op = .indexAddr T x y) (hd : o.dst = some t) (ht : Nat.blt t fr.n = true) (hT : elemT P T Et = true)
    (hx : vwr fr.n E x = some (rr, .one (.sl b Et (xs.map f)))) (hy : vs fr.n E y = some (.int .i64 i)) (hz : ix xs i = some z) (hr : neR rr t = true) : LA P fr E o [⟨t, true, some (.sp rr (f z))⟩] :=
  la_ix ho hd ht hT hx hy hz (neR_ok hr)
theorem r_ld {c : C} {cs : List C} (ho : o.op = .load T x) (hd : o.dst = some t) (ht : Nat.blt t fr.n = true) (hT : flatT P T = true) (hx : spOf fr.n E x = some (rr, c :: cs)) (hr : neR rr t = true) :
    LA P fr E o [⟨t, true, some (mkv rr (.one c))⟩] := la_ld ho hd ht hT hx (neR_ok hr)
theorem r_lds {cs : List C} (ho : o.op = .load T x) (hd : o.dst = some t) (ht : Nat.blt t fr.n = true) (hT : rowT P T = true) (hx : spOf fr.n E x = some (rr, cs)) (hn : cs.length = szOf P T) (hr : neR rr t = true) :
    LA P fr E o [⟨t, true, some (mkv rr (.agg cs))⟩] := la_lds ho hd ht hT hx hn (neR_ok hr)
theorem r_fsp {f' : Nat} {cs : List C} (ho : o.op = .fieldAddr T x f') (hd : o.dst = some t) (ht : Nat.blt t fr.n = true) (hT : fldAt P T f' k = true) (hx : spOf fr.n E x = some (rr, cs)) (hr : neR rr t = true) :
    LA P fr E o [⟨t, true, some (.sp rr (cs.drop k))⟩] := la_fsp ho hd ht hT hx (neR_ok hr)
/-- The address of an element of an own slice. -/
theorem r_eix (ho : o.op = .indexAddr T x y) (hd : o.dst = some t) (ht : Nat.blt t fr.n = true) (hT : elemT P T Et = true)
    (hx : slOf fr.n E x = some (r, Et, xs.map f)) (hy : vs fr.n E y = some (.int .i64 i)) (h0 : 0 ≤ i) (h1 : i < (xs.length : Int)) (hr : Nat.beq r t = false) : LA P fr E o [⟨t, true, some (.elt r Et i.toNat 0)⟩] :=
  la_eidx ho hd ht hT hx hy h0 h1 hr
theorem ix_lt (h : ix xs i = some z) : 0 ≤ i ∧ i < (xs.length : Int) := by
  obtain ⟨h0, h1⟩ := ix_ok h
  have := (List.getElem?_eq_some_iff.1 h1).1
  exact ⟨h0, by omega⟩
theorem r_eixg (ho : o.op = .indexAddr T x y) (hd : o.dst = some t) (ht : Nat.blt t fr.n = true) (hT : elemT P T Et = true)
    (hx : slOf fr.n E x = some (r, Et, xs.map f)) (hy : vs fr.n E y = some (.int .i64 i)) (hz : ix xs i = some z) (hr : Nat.beq r t = false) : LA P fr E o [⟨t, true, some (.elt r Et i.toNat 0)⟩] :=
  la_eidx ho hd ht hT hx hy (ix_lt hz).1 (ix_lt hz).2 hr
theorem r_eixs {v : α} (ho : o.op = .indexAddr T x y) (hd : o.dst = some t) (ht : Nat.blt t fr.n = true) (hT : elemT P T Et = true)
    (hx : slOf fr.n E x = some (r, Et, xs.map f)) (hy : vs fr.n E y = some (.int .i64 i)) (hz : stx xs i v = some ys) (hr : Nat.beq r t = false) : LA P fr E o [⟨t, true, some (.elt r Et i.toNat 0)⟩] :=
  la_eidx ho hd ht hT hx hy (stx_ok hz).1 (stx_ok hz).2.1 hr
/-- A cell of an element of a slice of single cells. -/
theorem r_ste {c' : C} {S : List Nat} {v : α} (ho : o.op = .store T x y) (hd : o.dst = none) (hT : szOf P T = 1) (hi : (P.info? T).isSome = true) (hp : elOf fr.n E x = some (r, Et, i.toNat, 0, xs.map f))
    (hz : stx xs i v = some ys) (hx : tk fr.n E y = some (.one c', S)) (h1 : ∀ z, (f z).length = 1) (hf : f v = [c']) (hS : S.contains r = false) (hSn : nodupB S = true) :
    LA P fr E o (⟨r, false, some (.d (.one (.sl true Et (ys.map f))))⟩ :: S.map rmv) := by
  obtain ⟨_, _, rfl, z, hz'⟩ := stx_ok hz
  refine la_ste ho hd hT hi hp hz' (by rw [h1]; rfl) hx ?_ hS (nodupB_ok hSn)
  have := h1 z
  rw [hf]
  match hfz : f z, this with
  | [c], _ => rfl
theorem r_lde {c : C} (ho : o.op = .load T x) (hd : o.dst = some t) (ht : Nat.blt t fr.n = true) (hT : flatT P T = true) (hx : elOf fr.n E x = some (r, Et, i.toNat, k, xs.map f)) (hz : ix xs i = some z) (hc : (f z)[k]? = some c) (hp : plainC c = true) :
    LA P fr E o [⟨t, true, some (.d (.one c))⟩] := la_lde ho hd ht hT hx (ix_ok hz).2 hc hp
theorem r_ldeb {c c' : C} (ho : o.op = .load T x) (hd : o.dst = some t) (ht : Nat.blt t fr.n = true) (hT : flatT P T = true) (hx : elOf fr.n E x = some (r, Et, i.toNat, k, xs.map f)) (hz : ix xs i = some z) (hc : (f z)[k]? = some c) (hs : shC c = c') (hr : Nat.beq r t = false) :
    LA P fr E o [⟨t, true, some (.bor r (.one c'))⟩] := la_ldeb ho hd ht hT hx (ix_ok hz).2 hc hs hr
theorem r_mk {cs : List C} (ho : o.op = .makeSlice T x y) (hd : o.dst = some t) (ht : Nat.blt t fr.n = true) (hT : elemT P T Et = true) (hz : zeroOk P Et cs) (hf : cs = f z) (hx : vs fr.n E x = some (.int .i64 i)) (hy : vs fr.n E y = some (.int .i64 i))
    (hm : mkx i z = some ys) : LA P fr E o [⟨t, true, some (.d (.one (.sl true Et (ys.map f))))⟩] := by
  obtain ⟨h0, h1, rfl⟩ := mkx_ok hm
  exact la_mk ho hd ht hT hz hf hx hy h0 h1
theorem r_slc {lo hi : Option Operand} (ho : o.op = .slice T x lo hi none) (hd : o.dst = some t) (ht : Nat.blt t fr.n = true) (hT : elemT P T Et = true) (hx : vwr fr.n E x = some (rr, .one (.sl b Et (xs.map f)))) (hlo : sbnd fr.n E lo 0 i)
    (hhi : sbnd fr.n E hi xs.length j) (hs : slx xs i j = some ys) (hr : neR rr t = true) : LA P fr E o [⟨t, true, some (mkv rr (.one (.sl false Et (ys.map f))))⟩] := by
  obtain ⟨h0, h1, h2, rfl⟩ := slx_ok hs
  exact la_slc ho hd ht hT hx hlo hhi h0 h1 h2 (neR_ok hr)
theorem r_app {s : Operand} {Ss Sx : List Nat} {o2 : Bool} {zs : List α} (ho : o.op = .call { callee := .builtin .append, args := #[s, x], argTypes := #[T, T] }) (hd : o.dst = some t) (ht : Nat.blt t fr.n = true) (hT : elemT P T Et = true)
    (hs : tk fr.n E s = some (.one (.sl true Et (xs.map f)), Ss)) (hx : tk fr.n E x = some (.one (.sl o2 Et (ys.map f)), Sx)) (hz : apx xs ys = some zs) (hS : nodupB (Ss ++ Sx) = true) :
    LA P fr E o (⟨t, true, some (.d (.one (.sl true Et (zs.map f))))⟩ :: (Ss ++ Sx).map rmv) := by
  obtain ⟨h1, rfl⟩ := apx_ok hz
  exact la_app ho hd ht hT hs hx rfl h1 (nodupB_ok hS)
/-- The length of an own slice. -/
theorem r_leno (ho : o.op = .call { callee := .builtin .len, args := #[x], argTypes := #[T] }) (hd : o.dst = some t) (ht : Nat.blt t fr.n = true) (hT : P.underlying T = some (.slice T')) (hx : slOf fr.n E x = some (r, Et, xs.map f)) :
    LA P fr E o [⟨t, true, some (.d (.one (.v (.int .i64 (xs.length : Int)))))⟩] :=
  LA.scal hd ht rfl fun Γ a w Z β γ hle h => by
    obtain ⟨_, hev, hv⟩ := slOf_ok h (slOf_le hle hx)
    rw [← hev] at hv
    have hq : ∃ ad cap, a.eval x = .slice ad xs.length cap := by
      simp only [RC] at hv
      rcases hv with ⟨h1, h2, _⟩ | ⟨ad, cap, vs, _, _, hy, _⟩ | ⟨g, cap, cur, bs, _, _, hy, _⟩
      · have : xs = [] := by simpa using h2
        subst this
        exact ⟨none, 0, h1⟩
      · exact ⟨_, cap, by simpa using hy⟩
      · exact ⟨_, cap, by simpa using hy⟩
    obtain ⟨ad, cap, hq⟩ := hq
    unfold execOp
    rw [ho]
    simp [resolve, invoke, builtin, Builtin.len_, run_underlying hT, hq, goInt]
end

/-- The nil slice. -/
theorem r_nil {E : Ctx} {o : Oper} {t : Nat} (b : Bool) (Et : TypeId) {α : Type} (f : α → List C) (ho : o.op = .move (.const (.slice none 0 0)) ∨ o.op = .assign (.const (.slice none 0 0))) (hd : o.dst = some t) (ht : Nat.blt t fr.n = true) :
    LA P fr E o [⟨t, true, some (.d (.one (.sl b Et (([] : List α).map f))))⟩] := by
  refine LA.val hd ht fun Γ a w Z β γ hle h => ⟨_, run_mv ho w, fun β' ev' hb hb' hv hv' => ?_⟩
  simp only [EntOk, RD, RC]
  exact .inl ⟨hv, rfl, hb⟩

/-! Through the frames about it -/
section
variable {Γ : Ctx} {Q : Exit → Act → World → Prop} {i j : Nat} {K : Act → World → Prop}
theorem q_in (h : ∀ a w, St P fr Γ a w → Q .normal a w) : ∀ a w, St P fr Γ a w → Exit.inBlock i Q (.exit i) a w := fun a w hs => by
  simp only [Exit.inBlock, if_true]; exact h a w hs
theorem q_out (hn : Nat.beq i j = false) (h : ∀ a w, St P fr Γ a w → Q (.exit i) a w) : ∀ a w, St P fr Γ a w → Exit.inBlock j Q (.exit i) a w := fun a w hs => by
  have : ¬ i = j := by rintro rfl; simp at hn
  simp only [Exit.inBlock, if_neg this]; exact h a w hs
theorem q_nb (h : ∀ a w, St P fr Γ a w → Q .normal a w) : ∀ a w, St P fr Γ a w → Exit.inBlock i Q .normal a w := h
theorem q_et (h : ∀ a w, St P fr Γ a w → Q (.exit i) a w) : ∀ a w, St P fr Γ a w → Exit.then K Q (.exit i) a w := h
theorem q_nt (h : ∀ a w, St P fr Γ a w → K a w) : ∀ a w, St P fr Γ a w → Exit.then K Q .normal a w := h
end

/-- On behind it. -/
theorem w_nx {Γ : Ctx} {y : Code} {Q : Exit → Act → World → Prop} (h : W P fr Γ y Q) : ∀ a w, St P fr Γ a w → Exit.then (y.wp P Q) Q .normal a w := h
theorem w_join {σ : Type} {Γ : Ctx} (Γs : σ → Ctx) (I : σ → Prop) {x y : Code} {Q : Exit → Act → World → Prop} (hx : W P fr Γ x (Exit.then (fun a w => ∃ s, I s ∧ St P fr (Γs s) a w) Q)) (hy : ∀ s, I s → W P fr (Γs s) y Q) : W P fr Γ (.seq x y) Q :=
  fun a w hs => wp_seq (wp_mono (hx a w hs) (fun e a w hq => by
    cases e <;> first | exact hq | (obtain ⟨s, hI, hst⟩ := hq; exact hy s hI a w hst)))

def LWs (P : Program) (fr : Fr) (ops : Array Oper) : Nat → List Pl → Prop
  | _, [] => True
  | k, p :: ps => LW P fr ops k (mk p.E) p.δ ∧ LWs P fr ops (k + 1) ps
def Sss (Γ0 : Ctx) (L : List Pl) : Nat → List Pl → Prop
  | _, [] => True
  | k, p :: ps => Srcs Γ0 L k p.A p.E ∧ Sss Γ0 L (k + 1) ps
theorem plans_of {ops : Array Oper} {Γ0 : Ctx} {L : List Pl} : ∀ {k : Nat} {ps : List Pl}, LWs P fr ops k ps → Sss Γ0 L k ps → Plans P fr ops Γ0 L k ps
  | _, [], _, _ => trivial
  | _, _ :: _, h, h' => ⟨⟨h.1, h'.1⟩, plans_of h.2 h'.2⟩
theorem w_drawn {Γ : Ctx} {Q : Exit → Act → World → Prop} {id : Nat} {ops : Array Oper} (L : List Pl) (E1 : List (Nat × Ent)) (hm : P.follows .mixedOrders = true) (hl : LWs P fr ops 0 L) (hs : Sss Γ L 0 L) (hah : aheadsB ops L 0 L = true)
    (hsz : Nat.beq L.length ops.size = true) (hend : SrcEs Γ L E1) (hk : ∀ a w, St P fr (mk E1) a w → Q .normal a w) : W P fr Γ (.region id ops true) Q := wp_any L hm (plans_of hl hs) hah hsz hend hk

theorem rl_n {w : World} {Z : Nat → Prop} : RL P w Z [] [] [] := by simp [RL]
theorem rl_c {w : World} {Z : Nat → Prop} {c : C} {y : Value} {cs : List C} {vs : List Value} (h : RC P w Z c y []) (hs : RL P w Z cs vs []) : RL P w Z (c :: cs) (y :: vs) [] := by
  simp only [RL]; exact ⟨y, vs, [], [], rfl, rfl, h, hs⟩
theorem rc_v {w : World} {Z : Nat → Prop} {x : Value} (h : x.oneCell' = true) : RC P w Z (.v x) x [] := by simp only [RC]; exact ⟨trivial, h, trivial⟩
theorem rc_n {w : World} {Z : Nat → Prop} {o : Bool} {E : TypeId} : RC P w Z (.sl o E []) (.slice none 0 0) [] := by simp only [RC]; exact .inl ⟨trivial, trivial, trivial⟩

theorem shC_v (x : Value) : shC (.v x) = .v x := rfl

end Go.Proofs.YtdclbbkkcngjnaaT

namespace Go.Proofs.YtdclbbkkcngjnaaT
open Go

/-! ### The plain side: loops that every statement has -/
theorem wrap_id {i : Int} (h0 : -9223372036854775808 ≤ i) (h1 : i ≤ 9223372036854775807) : IntKind.i64.wrap i = i := IntWalk.i64_in i ⟨h0, h1⟩

theorem ix_at {α : Type} {a : List α} {n : Nat} (h : n < a.length) : ix a (n : Int) = some a[n] := by
  unfold ix
  have : decide ((0 : Int) ≤ (n : Int)) = true := by simp
  rw [this]
  simp [h]

/-- A sum over a list. -/
def sumOf {α : Type} (m : α → Int) : List α → Int
  | [] => 0
  | x :: xs => m x + sumOf m xs
theorem sumOf_nn {α : Type} {m : α → Int} : ∀ {a : List α}, (∀ x, x ∈ a → 0 ≤ m x) → 0 ≤ sumOf m a
  | [], _ => by simp [sumOf]
  | x :: xs, h => by
    have h1 := h x (by simp)
    have h2 := sumOf_nn (a := xs) (fun y hy => h y (by simp [hy]))
    simp only [sumOf]; omega

theorem sz_loop {α : Type} {a : List α} {G : α → Int → Option Int} {m : α → Int} (hm : ∀ x, x ∈ a → 0 ≤ m x)
    (hG : ∀ x, x ∈ a → ∀ v, 0 ≤ v → v ≤ 1048576 → G x v = some (if m x ≤ v then v - m x else -1)) {L : Nat → Int → Int → Option (Ex Int (Int × Int))}
    (hL : ∀ k v i, L (k + 1) v i = bif decide (i < (a.length : Int)) then (ix a i).bind fun z => (G z v).bind fun y => bif decide (y < 0) then some (.ret (-1)) else L k y (IntKind.i64.wrap (i + 1)) else some (.go (v, i))) (hn : a.length ≤ 1048576) :
    ∀ (d n k : Nat) (v : Int), a.length - n = d → n ≤ a.length → d < k → 0 ≤ v → v ≤ 1048576 →
      L k v (n : Int) = some (if sumOf m (a.drop n) ≤ v then .go (v - sumOf m (a.drop n), (a.length : Int)) else .ret (-1)) := by
  intro d
  induction d with
  | zero =>
    intro n k v hd hle hk h0 h1
    obtain ⟨k, rfl⟩ : ∃ j, k = j + 1 := ⟨k - 1, by omega⟩
    have : n = a.length := by omega
    subst this
    rw [hL]
    simp [sumOf, h0]
  | succ d ih =>
    intro n k v hd hle hk h0 h1
    obtain ⟨k, rfl⟩ : ∃ j, k = j + 1 := ⟨k - 1, by omega⟩
    have hlt : n < a.length := by omega
    rw [hL]
    have hc : decide ((n : Int) < (a.length : Int)) = true := by simp [hlt]
    rw [hc, cond_true, ix_at hlt, Option.bind_some, hG a[n] (List.getElem_mem hlt) v h0 h1, Option.bind_some]
    have hdrop : a.drop n = a[n] :: a.drop (n + 1) := (List.drop_eq_getElem_cons hlt)
    have hs : sumOf m (a.drop n) = m a[n] + sumOf m (a.drop (n + 1)) := by rw [hdrop]; rfl
    have hmn := hm a[n] (List.getElem_mem hlt)
    have hss := sumOf_nn (a := a.drop (n + 1)) (fun x hx => hm x (List.mem_of_mem_drop hx))
    rw [hs]
    by_cases hmv : m a[n] ≤ v
    · rw [if_pos hmv]
      have hc2 : decide (v - m a[n] < 0) = false := by simp; omega
      rw [hc2, cond_false, wrap_id (by omega) (by omega)]
      have := ih (n + 1) k (v - m a[n]) (by omega) (by omega) (by omega) (by omega) (by omega)
      rw [show ((n + 1 : Nat) : Int) = (n : Int) + 1 by omega] at this
      rw [this]
      by_cases hq : sumOf m (a.drop (n + 1)) ≤ v - m a[n]
      · rw [if_pos hq, if_pos (by omega), show v - m a[n] - sumOf m (a.drop (n + 1)) = v - (m a[n] + sumOf m (a.drop (n + 1))) by omega]
      · rw [if_neg hq, if_neg (by omega)]
    · rw [if_neg hmv]
      have hc2 : decide ((-1 : Int) < 0) = true := by decide
      rw [hc2, cond_true, if_neg (by omega)]

/-- A copy, element by element. -/
theorem to_loop {α β : Type} {a : List α} {G : α → Option β} {h : α → β} (hG : ∀ x, x ∈ a → G x = some (h x)) {L : Nat → List β → Int → Option (Ex (List β) (List β × Int))}
    (hL : ∀ k v i, L (k + 1) v i = bif decide (i < (a.length : Int)) then (ix a i).bind fun z => (G z).bind fun y => (stx v i y).bind fun w => L k w (IntKind.i64.wrap (i + 1)) else some (.go (v, i))) (hn : a.length ≤ 1048576) :
    ∀ (d n k : Nat) (v : List β), a.length - n = d → n ≤ a.length → d < k → v.length = a.length → v.take n = (a.take n).map h → L k v (n : Int) = some (.go (a.map h, (a.length : Int))) := by
  intro d
  induction d with
  | zero =>
    intro n k v hd hle hk hv ht
    obtain ⟨k, rfl⟩ : ∃ j, k = j + 1 := ⟨k - 1, by omega⟩
    have : n = a.length := by omega
    subst this
    rw [hL]
    rw [← hv, List.take_length, hv, List.take_length] at ht
    simp [ht]
  | succ d ih =>
    intro n k v hd hle hk hv ht
    obtain ⟨k, rfl⟩ : ∃ j, k = j + 1 := ⟨k - 1, by omega⟩
    have hlt : n < a.length := by omega
    rw [hL]
    have hc : decide ((n : Int) < (a.length : Int)) = true := by simp [hlt]
    rw [hc, cond_true, ix_at hlt, Option.bind_some, hG a[n] (List.getElem_mem hlt), Option.bind_some]
    have hst : stx v (n : Int) (h a[n]) = some (v.set n (h a[n])) := by
      unfold stx
      have : (decide ((0 : Int) ≤ (n : Int)) && decide ((n : Int) < (v.length : Int))) = true := by simp [hv, hlt]
      rw [this]; simp
    rw [hst, Option.bind_some, wrap_id (by omega) (by omega)]
    have := ih (n + 1) k (v.set n (h a[n])) (by omega) (by omega) (by omega) (by simp [hv]) ?_
    · rw [show ((n + 1 : Nat) : Int) = (n : Int) + 1 by omega] at this
      exact this
    · apply List.ext_getElem?
      intro j
      by_cases hj : j < n
      · have := congrArg (fun l => l[j]?) ht
        simp only [List.getElem?_take, hj, if_true, List.getElem?_map] at this
        simp [List.getElem?_take, show j < n + 1 by omega, List.getElem?_set, show n ≠ j by omega, this]
      · by_cases hj' : j = n
        · subst hj'
          simp [List.getElem?_take, List.getElem?_set, hv, hlt]
        · simp [List.getElem?_take, show ¬ j < n + 1 by omega]

/-- Equal lists are found equal. -/
theorem eq_loop {α : Type} {a : List α} {G : α → α → Option Bool} (hG : ∀ x, x ∈ a → G x x = some true) {L : Nat → Int → Option (Ex Bool Int)}
    (hL : ∀ k i, L (k + 1) i = bif decide (i < (a.length : Int)) then (ix a i).bind fun z => (ix a i).bind fun z' => (G z z').bind fun y => bif !y then some (.ret false) else L k (IntKind.i64.wrap (i + 1)) else some (.go i)) (hn : a.length ≤ 1048576) :
    ∀ (d n k : Nat), a.length - n = d → n ≤ a.length → d < k → L k (n : Int) = some (.go (a.length : Int)) := by
  intro d
  induction d with
  | zero =>
    intro n k hd hle hk
    obtain ⟨k, rfl⟩ : ∃ j, k = j + 1 := ⟨k - 1, by omega⟩
    have : n = a.length := by omega
    subst this
    rw [hL]
    simp
  | succ d ih =>
    intro n k hd hle hk
    obtain ⟨k, rfl⟩ : ∃ j, k = j + 1 := ⟨k - 1, by omega⟩
    have hlt : n < a.length := by omega
    rw [hL]
    have hc : decide ((n : Int) < (a.length : Int)) = true := by simp [hlt]
    rw [hc, cond_true, ix_at hlt, Option.bind_some, Option.bind_some, hG a[n] (List.getElem_mem hlt), Option.bind_some, wrap_id (by omega) (by omega)]
    have := ih (n + 1) k (by omega) (by omega) (by omega)
    rw [show ((n + 1 : Nat) : Int) = (n : Int) + 1 by omega] at this
    simpa using this

theorem mem_sum {α : Type} {m : α → Int} : ∀ {a : List α}, (∀ x, x ∈ a → 0 ≤ m x) → ∀ x, x ∈ a → m x ≤ sumOf m a
  | [], _, x, hx => by simp at hx
  | y :: a, h, x, hx => by
    have h1 := h y (by simp)
    have h2 := sumOf_nn (a := a) (fun z hz => h z (by simp [hz]))
    simp only [sumOf]
    rcases List.mem_cons.1 hx with rfl | hx
    · omega
    · have := mem_sum (a := a) (fun z hz => h z (by simp [hz])) x hx; omega

theorem mkx_some {α : Type} (n : Nat) (z : α) (h : n ≤ 1048576) : mkx (n : Int) z = some (List.replicate n z) := by
  unfold mkx
  have : (decide ((0 : Int) ≤ (n : Int)) && decide ((n : Int) ≤ 2147483648)) = true := by simp; omega
  rw [this]; simp

end Go.Proofs.YtdclbbkkcngjnaaT

namespace Go.Proofs.YtdclbbkkcngjnaaT
open Go
variable {P : Program} {fr : Fr}

/-- The temporary t takes over a part of what r owns. -/
theorem Core.part {Γ : Ctx} {a : Act} {w : World} {Z : Nat → Prop} {β : Nat → List Nat} {γ : Nat → Value} (h : Core P fr Γ a w Z β γ) {t r : Nat} (ht : Nat.blt t fr.n = true) (hne : t ≠ r) {v : Value} {b1 b2 : List Nat} {e er : Ent}
    (hs : Sub (b1 ++ b2) (β r))
    (he : ∀ β' ev', β' t = b1 → ev' t = v → (∀ u, u ≠ t → ev' u = ev fr.n a γ u) → EntOk P w Z β' ev' t e)
    (her : ∀ β' ev', β' r = b2 → (∀ u, u ≠ t → ev' u = ev fr.n a γ u) → EntOk P w Z β' ev' r er) :
    Core P fr (upd Γ [⟨t, true, some e⟩, ⟨r, false, some er⟩]) (a.put (some t) v) w Z (fun u => if u = t then b1 else if u = r then b2 else β u) γ := by
  have hm1 : ∀ b, b ∈ b1 → b ∈ β r := fun b hb => hs.mem (by simp [hb])
  have hm2 : ∀ b, b ∈ b2 → b ∈ β r := fun b hb => hs.mem (by simp [hb])
  have hnd := hs.nodup (h.nodup r)
  have hlk : ∀ u, look [⟨t, true, some e⟩, ⟨r, false, some er⟩] u = if u = t then some ⟨t, true, some e⟩ else if u = r then some ⟨r, false, some er⟩ else none := by
    intro u
    have hq : ∀ x : Nat, u ≠ x → Nat.beq x u = false := by
      intro x hx
      cases hb : Nat.beq x u with
      | false => rfl
      | true => exact absurd (Nat.eq_of_beq_eq_true hb).symm hx
    simp only [look]
    by_cases hu : u = t
    · subst hu; simp
    · rw [hq t hu]
      by_cases hr : u = r
      · subst hr; simp [hu]
      · rw [hq r hr]; simp [hu, hr]
  refine h.turn _ (by simpa [Act.put] using h.defers) (by simpa [Act.put] using h.size) h.evo h.zlt (fun b hb => ⟨hb, rfl⟩) h.znew ?_ ?_ ?_ ?_ ?_ (fun _ _ _ _ => rfl) ?_
  · intro u b hb
    by_cases hu : u = t
    · simp only [hu, if_true] at hb; exact h.own r b (hm1 b hb)
    · by_cases hr : u = r
      · rw [if_neg hu, if_pos hr] at hb; exact h.own r b (hm2 b hb)
      · simp only [hu, hr, if_false] at hb; exact h.own u b hb
  · intro u
    by_cases hu : u = t
    · simpa [hu] using (List.nodup_append.1 hnd).1
    · by_cases hr : u = r
      · rw [if_neg hu, if_pos hr]; exact (List.nodup_append.1 hnd).2.1
      · simpa [hu, hr] using h.nodup u
  · intro u u' b huu hb hb'
    have hdj := (List.nodup_append.1 hnd).2.2
    by_cases hu : u = t
    · rw [if_pos hu] at hb
      have hu' : u' ≠ t := fun e => huu (hu.trans e.symm)
      rw [if_neg hu'] at hb'
      by_cases hr' : u' = r
      · rw [if_pos hr'] at hb'; exact hdj b hb b hb' rfl
      · rw [if_neg hr'] at hb'; exact h.disj r u' b (Ne.symm hr') (hm1 b hb) hb'
    · rw [if_neg hu] at hb
      by_cases hu' : u' = t
      · rw [if_pos hu'] at hb'
        by_cases hr : u = r
        · rw [if_pos hr] at hb; exact hdj b hb' b hb rfl
        · rw [if_neg hr] at hb; exact h.disj r u b (Ne.symm hr) (hm1 b hb') hb
      · rw [if_neg hu'] at hb'
        by_cases hr : u = r
        · rw [if_pos hr] at hb
          have hr' : u' ≠ r := fun e => huu (hr.trans e.symm)
          rw [if_neg hr'] at hb'
          exact h.disj r u' b (Ne.symm hr') (hm2 b hb) hb'
        · rw [if_neg hr] at hb
          by_cases hr' : u' = r
          · rw [if_pos hr'] at hb'; exact h.disj r u b (Ne.symm hr) (hm2 b hb') hb
          · rw [if_neg hr'] at hb'; exact h.disj u u' b huu hb hb'
  · intro u hu
    rw [ev_put h.size ht]
    rw [hlk] at hu
    by_cases hut : u = t
    · simp [hut] at hu
    · simp [hut]
  · intro u hu
    rw [hlk] at hu
    by_cases hut : u = t
    · simp [hut] at hu
    · by_cases hr : u = r
      · simp [hut, hr] at hu
        exact absurd hu (by split <;> simp)
      · simp [hut, hr]
  · intro u p e' hl hp
    rw [hlk] at hl
    by_cases hut : u = t
    · subst hut
      simp at hl
      subst hl
      simp at hp
      subst hp
      exact he _ _ (by simp) (by rw [ev_put h.size ht]; simp) (fun u hu => by rw [ev_put h.size ht]; simp [hu])
    · rw [if_neg hut] at hl
      by_cases hr : u = r
      · subst hr
        simp at hl
        subst hl
        simp at hp
        subst hp
        exact her _ _ (by simp [hut]) (fun u hu => by rw [ev_put h.size ht]; simp [hu])
      · rw [if_neg hr] at hl; cases hl

theorem RT.get {w : World} {Z : Nat → Prop} : ∀ {xs : List (Option Dt)} {ys : List Value} {bs : List Nat} (_ : RT P w Z xs ys bs) {i : Nat} {X : Dt}, xs[i]? = some (some X) →
    ∃ y b1 b2, ys[i]? = some y ∧ RD P w Z X y b1 ∧ RT P w Z (xs.set i none) ys b2 ∧ Sub (b1 ++ b2) bs
  | [], _, _, _, i, X, hi => by simp at hi
  | none :: xs, ys, bs, h, i, X, hi => by
    obtain ⟨y, ys', rfl, hr⟩ := h
    cases i with
    | zero => simp at hi
    | succ i =>
      obtain ⟨z, b1, b2, h1, h2, h3, h4⟩ := RT.get hr (i := i) (X := X) (by simpa using hi)
      exact ⟨z, b1, b2, by simpa using h1, h2, ⟨y, ys', rfl, h3⟩, h4⟩
  | some x :: xs, ys, bs, h, i, X, hi => by
    obtain ⟨y, ys', c1, c2, rfl, rfl, hc, hr⟩ := h
    cases i with
    | zero =>
      simp at hi
      subst hi
      exact ⟨y, c1, c2, by simp, hc, ⟨y, ys', rfl, hr⟩, Sub.refl _⟩
    | succ i =>
      obtain ⟨z, b1, b2, h1, h2, h3, h4⟩ := RT.get hr (i := i) (X := X) (by simpa using hi)
      refine ⟨z, b1, c1 ++ b2, by simpa using h1, h2, ⟨y, ys', c1, b2, rfl, rfl, hc, h3⟩, ?_⟩
      intro q
      have := h4 q
      simp only [List.count_append] at this ⊢
      omega

/-- One of several results. -/
theorem la_ext {E : Ctx} {o : Oper} {t s i : Nat} {xs : List (Option Dt)} {X : Dt} (ho : o.op = .extract (.tmp s) i) (hd : o.dst = some t) (ht : Nat.blt t fr.n = true) (hs : Nat.blt s fr.n = true) (hne : Nat.beq t s = false)
    (hx : E s = some (.tup xs)) (hi : xs[i]? = some (some X)) : LA P fr E o [⟨t, true, some (.d X)⟩, ⟨s, false, some (.tup (xs.set i none))⟩] := by
  intro Γ hle a w K Q ⟨Z, β, γ, h⟩ hk
  have he := h.ent s _ (hle s _ hx)
  simp only [EntOk] at he
  obtain ⟨ys, hy, hr⟩ := he
  obtain ⟨y, b1, b2, h1, h2, h3, h4⟩ := RT.get hr hi
  have hts : t ≠ s := by rintro rfl; simp at hne
  refine wp_of_run (w' := w) (v := y) ?_ (hk _ _ ?_)
  · unfold execOp
    rw [ho]
    have hlt : i < ys.length := (List.getElem?_eq_some_iff.1 h1).1
    have hyi : ys[i] = y := (List.getElem?_eq_some_iff.1 h1).2
    simp [eval_ev (γ := γ) hs, hy, Instr.extract, hlt, hyi]
  · rw [hd]
    refine ⟨Z, _, γ, h.part ht hts (b1 := b1) (b2 := b2) h4 ?_ ?_⟩
    · intro β' ev' hb hv _
      simp only [EntOk]
      rw [hb, hv]
      exact h2
    · intro β' ev' hb hv
      simp only [EntOk]
      rw [hb, hv s (Ne.symm hts)]
      exact ⟨ys, hy, h3⟩

/-! A field's own data is taken out; what stays in the field is not told. -/
def LX (P : Program) (fr : Fr) (E : Ctx) (o : Oper) (δ : Value → List Up) : Prop :=
  ∀ Γ : Ctx, E_le E Γ → ∀ a w (K : Act → World → Prop) Q, St P fr Γ a w → (∀ a' w' y, St P fr (upd Γ (δ y)) a' w' → K a' w') → o.wp P a w K Q

theorem seq_consx {ops : Array Oper} {k : Nat} {o : Oper} {rest : List Nat} {Γ : Ctx} {δ : Value → List Up} {Q : Exit → Act → World → Prop} (ho : ops[k]? = some o) (hg : o.guard = none) (h : LX P fr Γ o δ)
    (hr : ∀ y a w, St P fr (upd Γ (δ y)) a w → wpOps P ops Q rest a w) : ∀ a w, St P fr Γ a w → wpOps P ops Q (k :: rest) a w := by
  intro a w hs
  rw [wpOps_cons]
  unfold wpOp
  rw [ho]
  have hw : Region.wanted o (yielded ops a.tmps) = true := by simp [Region.wanted, hg]
  simp only [hw, if_true]
  exact .inl (h Γ (fun _ _ he => he) a w _ Q hs (fun a' w' y hs' => hr y a' w' hs'))

theorem la_ldft {E : Ctx} {o : Oper} {t : Nat} {T T' : TypeId} {x : Operand} {r k : Nat} {c : C} {cs : List C} (ho : o.op = .load T x) (hd : o.dst = some t) (ht : Nat.blt t fr.n = true)
    (hT : flatT P T = true) (hx : flOf fr.n E x = some (r, k, T', cs)) (hc : cs[k]? = some c) (hr : Nat.beq r t = false) : LX P fr E o (fun y => [⟨t, true, some (.d (.one c))⟩, ⟨r, false, some (.box T' (cs.set k (.v y)))⟩]) := by
  intro Γ hle a w K Q ⟨Z, β, γ, h⟩ hk
  obtain ⟨hgr, b, vs, bs, hv, hr', hb, hrl, hβ⟩ := flOf_ok h (flOf_le hle hx)
  obtain ⟨u1, y, u2, d1, d, d2, hvu, hbd, hlu, hr1, hry, hr2⟩ := RL.get hrl hc
  have htr : t ≠ r := by rintro rfl; simp at hr
  have hk' : k < cs.length := (List.getElem?_eq_some_iff.1 hc).1
  have hcell : w.cell? ⟨b, k, none⟩ = some y := by
    have := cell_row hb k
    rw [add_at] at this
    rw [this]
    have e1 : vs[k]? = vs.toList[k]? := by simp
    rw [e1, hvu, ← hlu]
    simp
  have hrun := run_load_flat (P := P) hT hcell
  refine wp_of_run (w' := w) (v := y) ?_ (hk _ _ y ?_)
  · unfold execOp
    rw [ho]
    simp [hv, hrun]
  · rw [hd]
    refine ⟨Z, _, γ, h.part ht htr (b1 := d) (b2 := b :: (d1 ++ d2)) ?_ ?_ ?_⟩
    · rw [hβ, hbd]
      intro q
      simp only [List.count_append, List.count_cons]
      omega
    · intro β' ev' hb' hv' _
      simp only [EntOk, RD]
      rw [hb', hv']
      exact hry
    · intro β' ev' hb' hv'
      simp only [EntOk]
      refine ⟨b, vs, d1 ++ d2, by rw [hv' r (Ne.symm htr)]; exact hr', hb, ?_, hb'⟩
      rw [List.set_eq_take_append_cons_drop, if_pos hk', hvu]
      refine (RL.app _ _ _ _).2 ⟨u1, y :: u2, d1, d2, rfl, rfl, hr1, ?_⟩
      simp only [RL]
      exact ⟨y, u2, [], d2, rfl, rfl, by simp only [RC]; exact ⟨trivial, RC.one hry, trivial⟩, hr2⟩

/-! A whole element is written -/
theorem setCells_row {b : Nat} {T : TypeId} : ∀ (vs : List Value) (o : Nat) (w : World) (cur : Array Value), w.heap[b]? = some (.cells cur T (0, 0)) → o + vs.length ≤ cur.size →
    ∃ cur', (w.setCells b o vs).heap[b]? = some (.cells cur' T (0, 0)) ∧ cur'.toList = cur.toList.take o ++ vs ++ cur.toList.drop (o + vs.length) ∧ (∀ b', b' ≠ b → (w.setCells b o vs).heap[b']? = w.heap[b']?) ∧
      (w.setCells b o vs).os = w.os ∧ (w.setCells b o vs).tape = w.tape ∧ (w.setCells b o vs).output = w.output ∧ (w.setCells b o vs).heap.size = w.heap.size
  | [], o, w, cur, hb, _ => ⟨cur, hb, by simp, fun _ _ => rfl, rfl, rfl, rfl, rfl⟩
  | v :: vs, o, w, cur, hb, hl => by
    simp only [List.length_cons] at hl
    obtain ⟨cur', h1, h2, h3, h4, h5, h6, h7⟩ := setCells_row vs (o + 1) (w.setCell ⟨b, o, none⟩ v) (cur.setIfInBounds o v) (setRow_of hb) (by simp; omega)
    have hg := Grow.setCell w b o v (bs := fun _ => True) trivial
    refine ⟨cur', h1, ?_, fun b' hb' => (h3 b' hb').trans ?_, h4.trans hg.os, h5.trans hg.tape, h6.trans hg.output, h7.trans (by simp [World.setCell])⟩
    · rw [h2, Array.toList_setIfInBounds]
      have ho : o < cur.toList.length := by simp; omega
      have e1 : (cur.toList.set o v).take (o + 1) = cur.toList.take o ++ [v] := by
        have hl2 : (cur.toList.take o).length = o := by rw [List.length_take]; omega
        rw [List.set_eq_take_append_cons_drop, if_pos ho, List.take_append, hl2, List.take_of_length_le (by omega)]
        simp
      have e2 : (cur.toList.set o v).drop (o + 1 + vs.length) = cur.toList.drop (o + 1 + vs.length) := by
        apply List.ext_getElem?
        intro j
        rw [List.getElem?_drop, List.getElem?_drop, List.getElem?_set_ne (by omega)]
      rw [e1, e2]
      simp only [List.length_cons, List.append_assoc, List.cons_append, List.nil_append]
      rw [show o + 1 + vs.length = o + (vs.length + 1) by omega]
    · simp only [World.setCell, Array.getElem?_modify]
      rw [if_neg (Ne.symm hb')]

theorem la_stes {E : Ctx} {o : Oper} {T Et : TypeId} {p x : Operand} {r i : Nat} {cs' : List C} {S : List Nat} {α : Type} {f : α → List C} {xs : List α} {z z' : α} (ho : o.op = .store T p x) (hd : o.dst = none)
    (hT : szOf P T = szOf P Et) (hi : (P.info? T).isSome = true) (hp : elOf fr.n E p = some (r, Et, i, 0, xs.map f)) (hz : xs[i]? = some z) (hx : tk fr.n E x = some (.agg cs', S)) (hl : cs'.length = szOf P Et) (hf : cs' = f z')
    (hS : S.contains r = false) (hSn : S.Nodup) :
    LA P fr E o (⟨r, false, some (.d (.one (.sl true Et ((xs.set i z').map f))))⟩ :: S.map rmv) := by
  subst hf
  intro Γ hle a w K Q ⟨Z, β, γ, h⟩ hK
  obtain ⟨hgr, g0, n0, cap0, hev, hv, hrc⟩ := elOf_ok h (elOf_le hle hp)
  obtain ⟨bx, ⟨ys, hye, hx1⟩, hx2⟩ := tk_sub h (tk_le hle hx)
  have he : (xs.map f)[i]? = some (f z) := by simp [hz]
  obtain ⟨g, cap, cur, v1, v, v2, b1, b, b2, op⟩ := own_get hrc he
  have hgg : g0 = g := by have := op.hy; rw [hev] at this; simp at this; exact this.1
  subst hgg
  have hyl : ys.length = szOf P Et := by rw [RL.length _ hx1, hl]
  have hcur : (i * szOf P Et + szOf P Et) ≤ cur.size := by
    have := congrArg List.length op.row
    rw [Array.length_toList] at this
    simp only [List.length_append] at this
    have h1 := op.l1
    have h2 := op.l
    omega
  obtain ⟨cur', hc1, hc2, hc3, hc4, hc5, hc6, hc7⟩ := setCells_row (T := Et) ys (i * szOf P Et) w cur op.heap (by rw [hyl]; exact hcur)
  have hthere : w.there g0 (i * szOf P Et) ys.toArray.size := by
    intro j hj
    have hj' : j < szOf P Et := by simpa [hyl] using hj
    refine ⟨?_, by simp [World.frozen?, op.heap]⟩
    have := cell_row op.heap (i * szOf P Et + j)
    rw [add_at] at this
    rw [this]
    simp; omega
  have hinfo : (P.info? T).map (·.size) = some ys.toArray.size := by
    cases hq : P.info? T with
    | none => rw [hq] at hi; cases hi
    | some inf =>
      have : inf.size = szOf P T := by simp [szOf, hq]
      simp [this, hT, hyl]
  have hrun := run_storeAt_mid (P := P) w g0 (i * szOf P Et) T ys.toArray hthere hinfo (all_oneCell_toArray (RL.one _ hx1))
  have hrS : r ∉ S := by simpa using hS
  have hnd := h.nodup r
  rw [op.hbs] at hnd
  have hgr' : g0 ∈ β r := by rw [op.hbs]; simp
  have hdis : ∀ b', b' ∈ bx → b' ∉ β r := by
    intro b' hb' hb''
    obtain ⟨s, hs1, hs2⟩ := flat_mem hx2 b' hb'
    exact h.disj s r b' (by rintro rfl; exact hrS hs1) hs2 hb''
  unfold Oper.wp
  have hexec : (execOp a.eval o).run P w = .ok .skip (w.setCells g0 (i * szOf P Et) ys) := by
    unfold execOp
    rw [ho]
    simp [hv, hye, hrun]
  rw [hexec]
  simp only [Oper.upon, hd, Act.put]
  have hng : ∀ b', b' ∈ b1 ++ bx ++ b2 → b' ≠ g0 := by
    rintro b' hb' rfl
    simp only [List.mem_append] at hb'
    simp only [List.nodup_cons, List.mem_append] at hnd
    rcases hb' with (hb' | hb') | hb'
    · exact hnd.1 (by simp [hb'])
    · exact hdis b' hb' hgr'
    · exact hnd.1 (by simp [hb'])
  have hnZ : ∀ b', Z b' → b' ≠ g0 := by rintro b' hz rfl; exact (h.own r b' hgr').2.1 hz
  have hblk : ∀ b', (Z b' ∨ b' ∈ b1 ++ bx ++ b2) → (w.setCells g0 (i * szOf P Et) ys).heap[b']? = w.heap[b']? :=
    fun b' hb' => hc3 b' (by rcases hb' with hb' | hb'; exact hnZ b' hb'; exact hng b' hb')
  have hre : RL P (w.setCells g0 (i * szOf P Et) ys) Z (f z') ys bx := RL.mono (fun _ h => h) _ (fun b' hb' => hblk b' (by rcases hb' with h | h; exact .inl h; exact .inr (by simp [h]))) hx1
  have hput := own_put op (e' := f z') (v' := ys) (be := bx) (cur' := cur') hc1 (by
      have hrow2 := op.row
      rw [hc2]
      have t1 : cur.toList.take (i * szOf P Et) = v1 := by
        rw [hrow2, ← op.l1, List.append_assoc, List.append_assoc, List.take_left]
      have t2 : cur.toList.drop (i * szOf P Et + ys.length) = v2 ++ cur.toList.drop ((xs.map f).length * szOf P Et) := by
        have : i * szOf P Et + ys.length = (v1 ++ v).length := by simp [op.l1, op.l, hyl]
        rw [this]
        conv => lhs; rw [hrow2]
        rw [List.append_assoc, List.drop_left]
      rw [t1, t2]
      simp) (by rw [hyl, op.l]) (fun b' hb' => hblk b' (by
        rcases hb' with h | h
        · exact .inl h
        · exact .inr (by simp only [List.mem_append] at h ⊢; rcases h with h | h <;> simp [h]))) hl hre
  refine hK _ _ ⟨Z, _, γ, h.poke S hrS (bn := g0 :: (b1 ++ bx ++ b2)) ⟨hc4, hc5, hc6, by omega, fun b' _ hn => hc3 b' (by rintro rfl; exact hn (.inl hgr'))⟩ ?_ ?_ ?_⟩
  · intro b' hb'
    rw [op.hbs]
    simp only [List.mem_cons, List.mem_append] at hb' ⊢
    rcases hb' with rfl | ((hb' | hb') | hb')
    · simp
    · simp [hb']
    · right; exact flat_mem hx2 b' hb'
    · simp [hb']
  · rw [List.nodup_cons]
    refine ⟨fun hm => hng g0 hm rfl, ?_⟩
    have hxn := hx2.nodup (h.flat hSn)
    have hdx : ∀ b', b' ∈ bx → b' ∉ b1 ++ b ++ b2 := fun b' hb' hm => hdis b' hb' (by rw [op.hbs]; exact List.mem_cons_of_mem _ hm)
    rw [List.nodup_iff_count] at hxn ⊢
    have hn2 := List.nodup_iff_count.1 (List.nodup_cons.1 hnd).2
    intro q
    have h1 := hxn q
    have h2 := hn2 q
    simp only [List.count_append] at h2 ⊢
    by_cases hq : q ∈ bx
    · have h3 := List.count_eq_zero.2 (hdx q hq)
      simp only [List.count_append] at h3
      omega
    · have h3 := List.count_eq_zero.2 hq
      omega
  · intro β' h1 _
    simp only [EntOk, RD]
    rw [h1, List.map_set]
    exact hput

end Go.Proofs.YtdclbbkkcngjnaaT

namespace Go.Proofs.YtdclbbkkcngjnaaT
open Go
variable {P : Program} {fr : Fr}

theorem run_equal_bool {T : TypeId} (hT : P.underlying T = some .bool) (a c : Bool) (w : World) : (Op.equal T (.bool a) (.bool c)).run P w = .ok (a == c) w := by
  have h : ∀ d, (Op.equalIn (d + 1) T (.bool a) (.bool c)).run P w = .ok (a == c) w := by
    intro d
    unfold Op.equalIn
    rw [Sem.run_bind, run_underlying hT w]
    rfl
  exact h 9999

def gb (b : Bool) : Option Value := some (.bool b)
theorem bcase {p : Prop} (b : Bool) (ht : b = true → p) (hf : b = false → p) : p := by cases b <;> simp_all

theorem w_ct {Γ : Ctx} {c : Operand} {x y : Code} {Q : Exit → Act → World → Prop} (hc : vs fr.n Γ c = some (.bool true)) (ht : W P fr Γ x Q) : W P fr Γ (.cond c x y) Q := w_cond hc (fun _ => ht) (fun e => by cases e)
theorem w_cf {Γ : Ctx} {c : Operand} {x y : Code} {Q : Exit → Act → World → Prop} (hc : vs fr.n Γ c = some (.bool false)) (hf : W P fr Γ y Q) : W P fr Γ (.cond c x y) Q := w_cond hc (fun e => by cases e) (fun _ => hf)

section
variable {E : Ctx} {o : Oper} {t : Nat} {T T' Et : TypeId} {x y : Operand} {α : Type} {f : α → List C} {xs ys : List α} {z : α} {i j : Int} {rr : Option Nat} {r k : Nat} {b : Bool}

theorem r_pick {c : Operand} {v : Value} (ho : o.op = .pick c x y) (hd : o.dst = some t) (ht : Nat.blt t fr.n = true) (hc : vs fr.n E c = some (.bool b)) (hv : vs fr.n E (bif b then x else y) = some v) : LA P fr E o [⟨t, true, some (.d (.one (.v v)))⟩] := by
  refine LA.val hd ht fun Γ a w Z β γ hle h => ⟨v, ?_, fun β' ev' hb hb' hv1 hv' => ?_⟩
  · unfold execOp
    rw [ho]
    simp only [vs_ok h (vs_le hle hc)]
    cases b with
    | true => simp [asBool, vs_ok h (vs_le hle (by simpa using hv))]
    | false => simp [asBool, vs_ok h (vs_le hle (by simpa using hv))]
  · unfold vs at hv
    split at hv
    · rename_i r u hq
      simp at hv
      subst hv
      have := vwr_ok h (vwr_le hle hq)
      simp only [RD, RC] at this
      simp only [EntOk, RD, RC]
      exact ⟨hv1, this.2.1, hb⟩
    · cases hv

theorem r_bsl {n m : Nat} {parts : Array (Nat × Operand)} {Xs : List Dt} {S : List Nat} (ho : o.op = .buildSlice T n parts) (hd : o.dst = some t) (ht : Nat.blt t fr.n = true) (hT : elemT P T Et = true) (hin : inOrd parts.toList 0 = true) (hn : Nat.beq parts.size n = true) (hn2 : Nat.ble n 65536 = true)
    (hx : tkL fr.n E (parts.toList.map (·.2)) = some (Xs, S)) (hf : Xs.map cells = xs.map f) (hm : szOf P Et = m) (hl : (Xs.all fun x => Nat.beq (cells x).length m) = true) (hS : nodupB S = true) :
    LA P fr E o (⟨t, true, some (.d (.one (.sl true Et (xs.map f))))⟩ :: S.map rmv) := by
  subst hm
  exact la_bsl ho hd ht hT hin hn hn2 hx hf (fun x hx => Nat.eq_of_beq_eq_true (List.all_eq_true.1 hl x hx)) (nodupB_ok hS)

theorem r_stes {cs' : List C} {S : List Nat} {v : α} {m : Nat} (ho : o.op = .store T x y) (hd : o.dst = none) (hT : szOf P T = m) (hE : szOf P Et = m) (hi : (P.info? T).isSome = true) (hp : elOf fr.n E x = some (r, Et, i.toNat, 0, xs.map f))
    (hz : stx xs i v = some ys) (hx : tk fr.n E y = some (.agg cs', S)) (hl : Nat.beq cs'.length m = true) (hf : cs' = f v) (hS : S.contains r = false) (hSn : nodupB S = true) :
    LA P fr E o (⟨r, false, some (.d (.one (.sl true Et (ys.map f))))⟩ :: S.map rmv) := by
  obtain ⟨_, _, rfl, z, hz'⟩ := stx_ok hz
  exact la_stes ho hd (hT.trans hE.symm) hi hp hz' hx (by rw [hE]; exact Nat.eq_of_beq_eq_true hl) hf hS (nodupB_ok hSn)

def quox (a b : Int) : Option Int := bif b == 0 then none else some (IntKind.i64.wrap (a.tdiv b))
def remx (a b : Int) : Option Int := bif b == 0 then none else some (a.tmod b)
theorem r_quo (ho : o.op = .binOp .quo T x y T') (hd : o.dst = some t) (ht : Nat.blt t fr.n = true) (hx : vs fr.n E x = some (.int .i64 i)) (hy : vs fr.n E y = some (.int .i64 j)) {q : Int} (hq : quox i j = some q) : LA P fr E o [⟨t, true, some (.d (iv q))⟩] := by
  refine la_bin ho hd ht hx hy ?_
  unfold quox at hq
  cases hb : j == 0 with
  | true => rw [hb] at hq; cases hq
  | false =>
    rw [hb] at hq
    simp at hq hb
    simp [binV, hb, hq]
theorem r_rem (ho : o.op = .binOp .rem T x y T') (hd : o.dst = some t) (ht : Nat.blt t fr.n = true) (hx : vs fr.n E x = some (.int .i64 i)) (hy : vs fr.n E y = some (.int .i64 j)) {q : Int} (hq : remx i j = some q) : LA P fr E o [⟨t, true, some (.d (iv q))⟩] := by
  refine la_bin ho hd ht hx hy ?_
  unfold remx at hq
  cases hb : j == 0 with
  | true => rw [hb] at hq; cases hq
  | false =>
    rw [hb] at hq
    simp at hq hb
    simp [binV, hb, hq]
theorem r_conv {k1 k2 : IntKind} {n : Int} (ho : o.op = .convert T T' x) (hd : o.dst = some t) (ht : Nat.blt t fr.n = true) (h1 : P.underlying T = some (.int k1)) (h2 : P.underlying T' = some (.int k2)) (hx : vs fr.n E x = some (.int k1 n)) :
    LA P fr E o [⟨t, true, some (.d (.one (.v (.int k2 (k2.wrap n)))))⟩] :=
  LA.scal hd ht rfl fun Γ a w Z β γ hle h => by
    unfold execOp
    rw [ho]
    simp [convert, run_underlying h1, run_underlying h2, vs_ok h (vs_le hle hx), Conv.intToInt]
theorem r_eqb {a c : Bool} (ho : o.op = .binOp .eql T x y T') (hd : o.dst = some t) (ht : Nat.blt t fr.n = true) (hT : P.underlying T = some .bool) (hx : vs fr.n E x = some (.bool a)) (hy : vs fr.n E y = some (.bool c)) :
    LA P fr E o [⟨t, true, some (.d (bv (a == c)))⟩] :=
  LA.scal hd ht rfl fun Γ a w Z β γ hle h => by
    unfold execOp
    rw [ho]
    simp [binOp, eqGuard, vs_ok h (vs_le hle hx), vs_ok h (vs_le hle hy), run_equal_bool hT]
theorem r_neb {a c : Bool} (ho : o.op = .binOp .neq T x y T') (hd : o.dst = some t) (ht : Nat.blt t fr.n = true) (hT : P.underlying T = some .bool) (hx : vs fr.n E x = some (.bool a)) (hy : vs fr.n E y = some (.bool c)) :
    LA P fr E o [⟨t, true, some (.d (bv (a != c)))⟩] :=
  LA.scal hd ht rfl fun Γ a w Z β γ hle h => by
    unfold execOp
    rw [ho]
    simp [binOp, eqGuard, vs_ok h (vs_le hle hx), vs_ok h (vs_le hle hy), run_equal_bool hT, bne]
end

theorem r_call {E : Ctx} {o : Oper} {t : Nat} {x : Operand} {xs : Array Operand} {ats : Array TypeId} {f : FuncId} {caps : List Nat} {n' : Nat} {pars gh posts : List Ent} {res : Ent} (R B : List Nat)
    {pes : List (Ent × Option Nat)} (ho : o.op = .call ⟨.value x, xs, ats⟩) (hd : o.dst = some t) (ht : Nat.blt t fr.n = true) (hx : calE fr.n E x = some (f, caps))
    (hc : Ret P f n' pars gh res posts) (ha : argL fr.n E R B n' xs.toList caps = some pes) (hp : pes.map (·.1) = pars) (hg : rootL E R = some gh)
    (hS : nodupB ((pes.map (·.2)).filterMap id ++ R ++ B) = true) (ht' : inB (R ++ B) t = false) (hl : Nat.ble pes.length n' = true) (hm : mov res = true) (hms : posts.all mov = true)
    (hlp : Nat.beq posts.length R.length = true) (hcl : B = [] ∨ Clean P res ∧ ∀ e, e ∈ posts → Clean P e) :
    LA P fr E o (⟨t, true, some res⟩ :: (pokes R (upg E R posts) ++ ((pes.map (·.2)).filterMap id).map rmv)) :=
  la_call R B ho hd ht hx hc ha hp hg hS ht' hl hm (fun e he => List.all_eq_true.1 hms e he) (Nat.eq_of_beq_eq_true hlp) hcl

theorem clean_box1 {T : TypeId} {x : Value} : Clean P (.box T [.v x]) := fun w Z Z' v bs h => by simpa [OwnOk, EntOk, RL, RC] using h

/-- A byte of a string. -/
def bix (s : ByteArray) (i : Int) : Option Int := bif decide (0 ≤ i) && decide (i < (s.size : Int)) then some (bt s i) else none
theorem r_index {E : Ctx} {o : Oper} {t : Nat} {T : TypeId} {x y : Operand} {s : ByteArray} {i z : Int} (ho : o.op = .index T x y) (hd : o.dst = some t) (ht : Nat.blt t fr.n = true)
    (hT : P.underlying T = some .string) (hx : vs fr.n E x = some (.string s)) (hy : vs fr.n E y = some (.int .i64 i)) (hz : bix s i = some z) : LA P fr E o [⟨t, true, some (.d (.one (.v (.int .u8 z))))⟩] := by
  unfold bix at hz
  cases hb : decide (0 ≤ i) && decide (i < (s.size : Int)) with
  | false => rw [hb] at hz; cases hz
  | true =>
    rw [hb] at hz
    simp only [Bool.and_eq_true, decide_eq_true_eq] at hb
    simp at hz
    subst hz
    exact la_index ho hd ht hT hx hy hb.1 hb.2

end Go.Proofs.YtdclbbkkcngjnaaT

namespace Go.Proofs.YtdclbbkkcngjnaaT
open Go
variable {P : Program} {fr : Fr}

/-! Regions in any order, the many Bools in one -/
/-- what stands where: (temporary, entry, from which one) -/
structure Pq where
  E : List (Nat × Ent × Option Nat)
  δ : List Up
  A : List Nat
def Pq.pl (q : Pq) : Pl := ⟨q.E.map fun x => (x.1, x.2.1), q.δ, q.A⟩

def newOf (L : List Pq) (i u : Nat) : Option Ent := match L[i]? with
  | some p => (match look p.δ u with | some q => q.e | none => none)
  | none => none

/-- the part that is told of entries -/
def QE (Γ0 : Ctx) (L : List Pq) : List (Nat × Ent × Option Nat) → Prop
  | [] => True
  | (u, e, none) :: E => Γ0 u = some e ∧ QE Γ0 L E
  | (u, e, some i) :: E => newOf L i u = some e ∧ QE Γ0 L E
def QEs (Γ0 : Ctx) (L : List Pq) : List Pq → Prop
  | [] => True
  | p :: ps => QE Γ0 L p.E ∧ QEs Γ0 L ps
/-- the part that is computed -/
def qb (L : List Pl) (k : Nat) (A : List Nat) : List (Nat × Ent × Option Nat) → Bool
  | [] => true
  | (u, e, none) :: E => free (fun j p => Nat.beq j k || inB p.A k) u e 0 L && qb L k A E
  | (u, e, some i) :: E => (inB A i && match L[i]? with
      | some p => free (fun j q => Nat.beq j k || inB q.A k || Nat.beq j i || inB p.A j) u e 0 L
      | none => false) && qb L k A E
def qbs (L : List Pl) : Nat → List Pq → Bool
  | _, [] => true
  | k, p :: ps => qb L k p.A p.E && qbs L (k + 1) ps
def qbE (L : List Pl) : List (Nat × Ent × Option Nat) → Bool
  | [] => true
  | (u, e, none) :: E => free (fun _ _ => false) u e 0 L && qbE L E
  | (u, e, some i) :: E => (match L[i]? with
      | some p => free (fun j _ => Nat.beq j i || inB p.A j) u e 0 L
      | none => false) && qbE L E

theorem newOf_ok {L : List Pq} {i u : Nat} {e : Ent} (h : newOf L i u = some e) : ∃ p, (L.map Pq.pl)[i]? = some p ∧ (match look p.δ u with | some q => q.e | none => none) = some e := by
  unfold newOf at h
  cases hl : L[i]? with
  | none => rw [hl] at h; cases h
  | some p => rw [hl] at h; exact ⟨p.pl, by simp [hl], h⟩

theorem q_srcs {Γ0 : Ctx} {L : List Pq} {k : Nat} {A : List Nat} : ∀ {E : List (Nat × Ent × Option Nat)}, QE Γ0 L E → qb (L.map Pq.pl) k A E = true → Srcs Γ0 (L.map Pq.pl) k A (E.map fun x => (x.1, x.2.1))
  | [], _, _ => trivial
  | (u, e, none) :: E, h, hb => by
    simp only [qb, Bool.and_eq_true] at hb
    exact ⟨.inl ⟨h.1, hb.1⟩, q_srcs h.2 hb.2⟩
  | (u, e, some i) :: E, h, hb => by
    simp only [qb, Bool.and_eq_true] at hb
    obtain ⟨p, hp, hn⟩ := newOf_ok h.1
    obtain ⟨⟨h1, h2⟩, h3⟩ := hb
    rw [hp] at h2
    exact ⟨.inr ⟨i, p, h1, hp, hn, h2⟩, q_srcs h.2 h3⟩
theorem q_ends {Γ0 : Ctx} {L : List Pq} : ∀ {E : List (Nat × Ent × Option Nat)}, QE Γ0 L E → qbE (L.map Pq.pl) E = true → SrcEs Γ0 (L.map Pq.pl) (E.map fun x => (x.1, x.2.1))
  | [], _, _ => trivial
  | (u, e, none) :: E, h, hb => by
    simp only [qbE, Bool.and_eq_true] at hb
    exact ⟨.inl ⟨h.1, hb.1⟩, q_ends h.2 hb.2⟩
  | (u, e, some i) :: E, h, hb => by
    simp only [qbE, Bool.and_eq_true] at hb
    obtain ⟨p, hp, hn⟩ := newOf_ok h.1
    obtain ⟨h2, h3⟩ := hb
    rw [hp] at h2
    exact ⟨.inr ⟨i, p, hp, hn, h2⟩, q_ends h.2 h3⟩
theorem q_sss {Γ0 : Ctx} {L : List Pq} : ∀ {k : Nat} {ps : List Pq}, QEs Γ0 L ps → qbs (L.map Pq.pl) k ps = true → Sss Γ0 (L.map Pq.pl) k (ps.map Pq.pl)
  | _, [], _, _ => trivial
  | k, p :: ps, h, hb => by
    simp only [qbs, Bool.and_eq_true] at hb
    exact ⟨q_srcs h.1 hb.1, q_sss h.2 hb.2⟩

def QLs (P : Program) (fr : Fr) (ops : Array Oper) : Nat → List Pq → Prop
  | _, [] => True
  | k, p :: ps => LW P fr ops k (mk (p.E.map fun x => (x.1, x.2.1))) p.δ ∧ QLs P fr ops (k + 1) ps
theorem q_lws {ops : Array Oper} : ∀ {k : Nat} {ps : List Pq}, QLs P fr ops k ps → LWs P fr ops k (ps.map Pq.pl)
  | _, [], _ => trivial
  | _, _ :: _, h => ⟨h.1, q_lws h.2⟩

theorem w_drawnq {Γ : Ctx} {Q : Exit → Act → World → Prop} {id : Nat} {ops : Array Oper} (L : List Pq) (E1 : List (Nat × Ent × Option Nat)) (hm : P.follows .mixedOrders = true) (hl : QLs P fr ops 0 L) (hs : QEs Γ L L) (he : QE Γ L E1)
    (hb : (qbs (L.map Pq.pl) 0 L && qbE (L.map Pq.pl) E1 && aheadsB ops (L.map Pq.pl) 0 (L.map Pq.pl) && Nat.beq (L.map Pq.pl).length ops.size) = true)
    (hk : ∀ a w, St P fr (mk (E1.map fun x => (x.1, x.2.1))) a w → Q .normal a w) : W P fr Γ (.region id ops true) Q := by
  simp only [Bool.and_eq_true] at hb
  obtain ⟨⟨⟨h1, h2⟩, h3⟩, h4⟩ := hb
  exact wp_any (L.map Pq.pl) hm (plans_of (q_lws hl) (q_sss hs h1)) h3 h4 (q_ends he h2) hk

end Go.Proofs.YtdclbbkkcngjnaaT

namespace Go.Proofs.YtdclbbkkcngjnaaT
open Go
variable {P : Program} {fr : Fr}

/-! ### A struct built of its parts -/
def structT (P : Program) (T : TypeId) (offs : List (Nat × Nat)) : Bool := match P.underlying T with
  | some (.struct fs) => (fs.toList.map fun f => (f.offset, szOf P f.type)) == offs && fs.toList.all (fun f => (P.info? f.type).isSome)
  | _ => false

theorem run_places {w : World} : ∀ (fs : List Field), (fs.all fun f => (P.info? f.type).isSome) = true →
    (fs.mapM fun (f : Field) => (do pure (f.offset, ← sizeOf f.type) : Sem (Nat × Nat))).run P w = .ok (fs.map fun f => (f.offset, szOf P f.type)) w
  | [], _ => rfl
  | f :: fs, h => by
    simp only [List.all_cons, Bool.and_eq_true] at h
    have ih := run_places (w := w) fs h.2
    cases hq : P.info? f.type with
    | none => rw [hq] at h; simp at h
    | some i =>
      have hs : szOf P f.type = i.size := by simp [szOf, hq]
      simp [List.mapM_cons, sizeOf, typeInfo, hq, hs]
      simp [sizeOf, typeInfo] at ih
      simp [ih]

theorem RL.setc {w : World} {Z : Nat → Prop} {cs : List C} {vs : List Value} {bs : List Nat} (h : RL P w Z cs vs bs) {k : Nat} {c : C} {y : Value} {b : List Nat} (hk : k < cs.length) (hc : RC P w Z c y b) :
    ∃ bs', RL P w Z (cs.set k c) (vs.set k y) bs' ∧ Sub bs' (bs ++ b) := by
  obtain ⟨u1, y0, u2, d1, d, d2, hvu, hbd, hlu, hr1, hry, hr2⟩ := RL.get h (List.getElem?_eq_getElem hk)
  refine ⟨d1 ++ (b ++ d2), ?_, ?_⟩
  · rw [List.set_eq_take_append_cons_drop, if_pos hk]
    have hv : vs.set k y = u1 ++ y :: u2 := by rw [hvu, ← hlu]; simp
    rw [hv]
    refine (RL.app _ _ _ _).2 ⟨u1, y :: u2, d1, b ++ d2, rfl, rfl, hr1, ?_⟩
    simp only [RL]
    exact ⟨y, u2, b, d2, rfl, rfl, hc, hr2⟩
  · rw [hbd]
    intro q
    simp only [List.count_append]
    omega

def fillC : List C → List (Nat × C) → List C
  | cs, [] => cs
  | cs, (k, c) :: ps => fillC (cs.set k c) ps

def placeOk (offs : List (Nat × Nat)) (n : Nat) : List Nat → List Nat → Bool
  | [], [] => true
  | i :: is, k :: ks => (match offs[i]? with
      | some (o, s) => Nat.beq o k && Nat.beq s 1 && Nat.blt k n
      | none => false) && placeOk offs n is ks
  | _, _ => false

theorem fill_ok {w : World} {Z : Nat → Prop} {offs : List (Nat × Nat)} : ∀ (is ks : List Nat) (vs : List Value) (cs' : List C) (cs : List C) (cur : Array Value) (bs bv : List Nat), placeOk offs cs.length is ks = true →
    is.length = vs.length → RDs P w Z (cs'.map .one) vs bv → RL P w Z cs cur.toList bs →
    ∃ cur' bs', Instr.fill (offs[·]?) cur (is.zip vs) = some cur' ∧ RL P w Z (fillC cs (ks.zip cs')) cur'.toList bs' ∧ Sub bs' (bs ++ bv)
  | [], ks, vs, cs', cs, cur, bs, bv, hp, hl, hv, hr => by
    have hv0 : vs = [] := by simpa using hl.symm
    subst hv0
    cases ks with
    | cons k ks => simp [placeOk] at hp
    | nil => exact ⟨cur, bs, rfl, by simpa [fillC] using hr, fun q => by simp⟩
  | i :: is, ks, vs, cs', cs, cur, bs, bv, hp, hl, hv, hr => by
    cases ks with
    | nil => simp [placeOk] at hp
    | cons k ks =>
      cases vs with
      | nil => simp at hl
      | cons v vs =>
        cases cs' with
        | nil => simp [RDs] at hv
        | cons c cs' =>
          simp only [List.map_cons, RDs] at hv
          obtain ⟨y, ys', b1, b2, hy, rfl, hc, hv'⟩ := hv
          simp at hy
          obtain ⟨rfl, rfl⟩ := hy
          simp only [RD] at hc
          simp only [placeOk, Bool.and_eq_true] at hp
          obtain ⟨hp1, hp2⟩ := hp
          cases ho : offs[i]? with
          | none => rw [ho] at hp1; cases hp1
          | some q =>
            obtain ⟨o, s⟩ := q
            rw [ho] at hp1
            simp only [Bool.and_eq_true] at hp1
            obtain ⟨⟨h1, h2⟩, h3⟩ := hp1
            have ho' : o = k := Nat.eq_of_beq_eq_true h1
            have hs' : s = 1 := Nat.eq_of_beq_eq_true h2
            have hk : k < cs.length := by simpa [Nat.blt_eq] using h3
            subst ho' hs'
            have hcells : v.cells = #[v] := by have := RC.one hc; cases v <;> simp_all [Value.oneCell', Value.cells]
            obtain ⟨bs1, hr1, hs1⟩ := RL.setc hr hk hc
            have hcl : cur.toList.length = cs.length := RL.length _ hr
            obtain ⟨cur', bs', hf, hr', hs2⟩ := fill_ok is ks vs cs' (cs.set o c) (cur.setIfInBounds o v) bs1 b2 (by simpa using hp2) (by simpa using hl) hv' (by simpa using hr1)
            refine ⟨cur', bs', ?_, by simpa [fillC] using hr', ?_⟩
            · simp only [List.zip_cons_cons, Instr.fill, ho, hcells]
              have hsz : ¬ cur.size < o + 1 := by simp at hcl; omega
              simpa [hsz] using hf
            · refine hs2.trans ?_
              intro q
              have := hs1 q
              simp only [List.count_append] at this ⊢
              omega

theorem la_bld {E : Ctx} {o : Oper} {t : Nat} {T : TypeId} {parts : Array (Nat × Operand)} {offs : List (Nat × Nat)} {ks : List Nat} {zcs cs' cs : List C} {S : List Nat} (ho : o.op = .build T parts) (hd : o.dst = some t) (ht : Nat.blt t fr.n = true)
    (hT : structT P T offs = true) (hz : zeroOk P T zcs) (hx : tkL fr.n E (parts.toList.map (·.2)) = some (cs'.map .one, S)) (hp : placeOk offs zcs.length (parts.toList.map (·.1)) ks = true) (hf : fillC zcs (ks.zip cs') = cs) (hS : nodupB S = true) :
    LA P fr E o (⟨t, true, some (.d (.agg cs))⟩ :: S.map rmv) := by
  subst hf
  intro Γ hle a w K Q ⟨Z, β, γ, h⟩ hk
  obtain ⟨bv, hv, hvs⟩ := tkL_sub h (tkL_le hle hx)
  obtain ⟨z, hz1, hz2⟩ := hz
  unfold structT at hT
  cases hu : P.underlying T with
  | none => rw [hu] at hT; cases hT
  | some d =>
    rw [hu] at hT
    cases d <;> simp only [Bool.false_eq_true] at hT
    rename_i fs
    simp only [Bool.and_eq_true, beq_iff_eq] at hT
    obtain ⟨hoffs, hinfo⟩ := hT
    obtain ⟨cur', bs', hfill, hr', hsub⟩ := fill_ok (P := P) (w := w) (Z := Z) (offs := offs) (parts.toList.map (·.1)) ks ((parts.toList.map (·.2)).map a.eval) cs' zcs z.cells [] bv hp (by simp) hv (hz2 w Z)
    have hpl := run_places (P := P) (w := w) fs.toList hinfo
    have hzip : (parts.map fun (x : Nat × Operand) => (x.1, a.eval x.2)).toList = (parts.toList.map (·.1)).zip ((parts.toList.map (·.2)).map a.eval) := by
      simp only [Array.toList_map, List.map_map]
      induction parts.toList with
      | nil => rfl
      | cons p ps ih => simp [ih]
    refine wp_of_run (w' := w) (v := .agg cur') ?_ (hk _ _ ?_)
    · unfold execOp
      rw [ho]
      have hzv : (zeroValue T).run P w = .ok z w := by
        cases hi : P.info? T with
        | none => rw [hi] at hz1; simp at hz1
        | some i => rw [hi] at hz1; simp at hz1; simp [zeroValue, typeInfo, hi, hz1]
      have hma : (fs.mapM fun (f : Field) => (do pure (f.offset, ← sizeOf f.type) : Sem (Nat × Nat))).run P w = .ok offs.toArray w := by
        have e2 : (fs.mapM fun (f : Field) => (do pure (f.offset, ← sizeOf f.type) : Sem (Nat × Nat))) = List.toArray <$> fs.toList.mapM fun (f : Field) => (do pure (f.offset, ← sizeOf f.type) : Sem (Nat × Nat)) := by
          rw [Array.mapM_eq_mapM_toList]
        rw [e2]
        simp only [map_eq_pure_bind, Sem.run_bind, hpl]
        rw [← hoffs]
        rfl
      have hfn : (fun i => offs.toArray[i]?) = (fun i : Nat => offs[i]?) := by funext i; simp
      have hbuild : (Instr.build T (parts.map fun (x : Nat × Operand) => (x.1, a.eval x.2))).run P w = .ok (.agg cur') w := by
        unfold Instr.build
        rw [Sem.run_bind, hzv]
        simp only [Result.andThen_ok]
        rw [Sem.run_bind, run_underlying hu w]
        simp only [Result.andThen_ok]
        rw [Sem.run_bind, hma]
        simp only [Result.andThen_ok, hzip, hfn, hfill]
        rfl
      simpa using congrArg (fun r => r.andThen fun v w' => Result.ok (Next.value v) w') hbuild
    · rw [hd]
      refine ⟨Z, _, γ, h.give S ht (bn := bs') (Grow.refl w _) ?_ ?_ ?_⟩
      · intro b hb
        have hm : b ∈ bv := by have := hsub.mem hb; simpa using this
        obtain ⟨s, hs1, hs2⟩ := flat_mem hvs b hm
        exact ⟨(h.own s b hs2).1, .inr ⟨s, hs1, hs2⟩⟩
      · have : Sub bs' (S.flatMap β) := by simpa using Sub.trans hsub (by simpa using hvs)
        exact this.nodup (h.flat (nodupB_ok hS))
      · intro β' ev' h1 h2 _ _
        simp only [EntOk, RD]
        rw [h1, h2]
        exact ⟨cur'.toList, by simp, hr'⟩

end Go.Proofs.YtdclbbkkcngjnaaT

namespace Go.Proofs.YtdclbbkkcngjnaaT
open Go
variable {P : Program} {fr : Fr}

/-! ### What stands in an element is taken out, lent, and put back -/
theorem la_take {E : Ctx} {o : Oper} {t : Nat} {T Et : TypeId} {x : Operand} {r i k : Nat} {c : C} {α : Type} {f : α → List C} {xs : List α} {z : α} (ho : o.op = .load T x) (hd : o.dst = some t) (ht : Nat.blt t fr.n = true)
    (hT : flatT P T = true) (hx : elOf fr.n E x = some (r, Et, i, k, xs.map f)) (hz : xs[i]? = some z) (hc : (f z)[k]? = some c) (hr : Nat.beq r t = false) :
    LX P fr E o (fun y => [⟨t, true, some (.dv y (.one c))⟩, ⟨r, false, some (.d (.one (.sl true Et ((xs.map f).set i ((f z).set k (.v y))))))⟩]) := by
  intro Γ hle a w K Q ⟨Z, β, γ, h⟩ hK
  obtain ⟨hgr, g0, n0, cap0, hev, hv, hrc⟩ := elOf_ok h (elOf_le hle hx)
  have he : (xs.map f)[i]? = some (f z) := by simp [hz]
  obtain ⟨g, cap, cur, v1, v, v2, b1, b, b2, op⟩ := own_get hrc he
  have hgg : g0 = g := by have := op.hy; rw [hev] at this; simp at this; exact this.1
  subst hgg
  have hk' : k < (f z).length := (List.getElem?_eq_some_iff.1 hc).1
  obtain ⟨u1, y, u2, d1, d, d2, hvu, hbd, hlu, hr1, hry, hr2⟩ := RL.get op.r hc
  have htr : t ≠ r := by rintro rfl; simp at hr
  have hidx : cur.toList[i * szOf P Et + k]? = some y := by
    rw [op.row, ← op.l1, ← hlu, hvu]
    simp
  have hy : w.cell? ⟨g0, i * szOf P Et + k, none⟩ = some y := by
    have := cell_row op.heap (i * szOf P Et + k)
    rw [add_at] at this
    rw [this]; simpa using hidx
  have hrun := run_load_flat (P := P) hT hy
  refine wp_of_run (w' := w) (v := y) ?_ (hK _ _ y ?_)
  · unfold execOp
    rw [ho]
    simp [hv, hrun]
  · rw [hd]
    have hre : RL P w Z ((f z).set k (.v y)) v (d1 ++ d2) := by
      rw [List.set_eq_take_append_cons_drop, if_pos hk', hvu]
      refine (RL.app _ _ _ _).2 ⟨u1, y :: u2, d1, d2, rfl, rfl, hr1, ?_⟩
      simp only [RL]
      exact ⟨y, u2, [], d2, rfl, rfl, by simp only [RC]; exact ⟨trivial, RC.one hry, trivial⟩, hr2⟩
    have hput := own_put op (e' := (f z).set k (.v y)) (v' := v) (be := d1 ++ d2) (cur' := cur) op.heap op.row rfl (fun _ _ => rfl) (by rw [List.length_set]; exact op.width _ (List.mem_of_getElem? he)) hre
    refine ⟨Z, _, γ, h.part ht htr (b1 := d) (b2 := g0 :: (b1 ++ (d1 ++ d2) ++ b2)) ?_ ?_ ?_⟩
    · rw [op.hbs, hbd]
      intro q
      simp only [List.count_append, List.count_cons]
      omega
    · intro β' ev' hb' hv' _
      simp only [EntOk, RD]
      rw [hb', hv']
      exact ⟨rfl, hry⟩
    · intro β' ev' hb' hv'
      simp only [EntOk, RD]
      rw [hb', hv' r (Ne.symm htr)]
      exact hput

/-- It is put back: the element's cell still holds it. -/
theorem St.put {Γ : Ctx} {a : Act} {w : World} (h : St P fr Γ a w) (t r : Nat) {y : Value} {Et : TypeId} {i k : Nat} {c c' : C} {α : Type} {f : α → List C} {xs : List α} {z z' : α}
    (ht : Γ t = some (.dv y (.one c'))) (hr : Γ r = some (.d (.one (.sl true Et ((xs.map f).set i ((f z).set k (.v y))))))) (hne : Nat.beq r t = false) (hz : xs[i]? = some z) (hc : (f z)[k]? = some c) (hf : (f z).set k c' = f z') :
    St P fr (upd Γ (⟨r, false, some (.d (.one (.sl true Et ((xs.set i z').map f))))⟩ :: [t].map rmv)) a w := by
  obtain ⟨Z, β, γ, h⟩ := h
  have h1 := h.ent t _ ht
  have h2 := h.ent r _ hr
  simp only [EntOk, RD] at h1 h2
  have hk' : k < (f z).length := (List.getElem?_eq_some_iff.1 hc).1
  have hi : i < (xs.map f).length := by simpa using (List.getElem?_eq_some_iff.1 hz).1
  have htr : r ≠ t := by rintro rfl; simp at hne
  have he : ((xs.map f).set i ((f z).set k (.v y)))[i]? = some ((f z).set k (.v y)) := by
    rw [List.getElem?_set_self hi]
  obtain ⟨g, cap, cur, v1, v, v2, b1, b, b2, op⟩ := own_get h2 he
  have hce : ((f z).set k (.v y))[k]? = some (.v y) := by rw [List.getElem?_set_self hk']
  obtain ⟨u1, y0, u2, d1, d, d2, hvu, hbd, hlu, hr1, hry, hr2⟩ := RL.get op.r hce
  simp only [RC] at hry
  obtain ⟨hy0, _, hd0⟩ := hry
  subst hy0 hd0
  have hlk : u1.length = k := hlu
  have e1 : ((f z).set k (.v y0)).take k = (f z).take k := by rw [List.take_set]; rw [List.set_eq_of_length_le (by rw [List.length_take]; omega)]
  have e2 : ((f z).set k (.v y0)).drop (k + 1) = (f z).drop (k + 1) := by
    apply List.ext_getElem?
    intro j
    rw [List.getElem?_drop, List.getElem?_drop, List.getElem?_set_ne (by omega)]
  have hval : ev fr.n a γ t = y0 := h1.1
  have hre : RL P w Z (f z') v (d1 ++ (β t ++ d2)) := by
    rw [← hf, List.set_eq_take_append_cons_drop, if_pos hk', hvu]
    rw [e1] at hr1
    rw [e2] at hr2
    refine (RL.app _ _ _ _).2 ⟨u1, y0 :: u2, d1, β t ++ d2, rfl, rfl, hr1, ?_⟩
    simp only [RL]
    refine ⟨y0, u2, β t, d2, rfl, rfl, ?_, hr2⟩
    have := h1.2
    rwa [hval] at this
  have hput := own_put op (e' := f z') (v' := v) (be := d1 ++ (β t ++ d2)) (cur' := cur) op.heap op.row rfl (fun _ _ => rfl) (by rw [← hf, List.length_set]; have := op.width _ (List.mem_of_getElem? he); rwa [List.length_set] at this) hre
  have hset : ((xs.map f).set i ((f z).set k (.v y0))).set i (f z') = (xs.set i z').map f := by
    rw [List.set_set, List.map_set]
  rw [hset] at hput
  refine ⟨Z, _, γ, h.poke [t] (by simpa using htr) (bn := g :: (b1 ++ (d1 ++ (β t ++ d2)) ++ b2)) (Grow.refl _ _) ?_ ?_ ?_⟩
  · intro b' hb'
    rw [op.hbs, hbd]
    simp only [List.mem_cons, List.mem_append] at hb' ⊢
    rcases hb' with rfl | ((hb' | (hb' | (hb' | hb'))) | hb')
    · simp
    · simp [hb']
    · simp [hb']
    · exact .inr ⟨t, by simp, hb'⟩
    · simp [hb']
    · simp [hb']
  · have hn1 := h.nodup r
    have hn2 := h.nodup t
    rw [op.hbs, hbd] at hn1
    rw [List.nodup_iff_count] at hn1 hn2 ⊢
    intro q
    have q1 := hn1 q
    have q2 := hn2 q
    simp only [List.count_cons, List.count_append, List.count_nil] at q1 q2 ⊢
    by_cases hq : q ∈ β t
    · have hnr : q ∉ β r := fun hm => h.disj r t q htr hm hq
      rw [op.hbs, hbd] at hnr
      have := List.count_eq_zero.2 hnr
      simp only [List.count_cons, List.count_append, List.count_nil] at this
      omega
    · have := List.count_eq_zero.2 hq
      omega
  · intro β' hb1 _
    simp only [EntOk, RD]
    rw [hb1]
    exact hput

theorem seq_st {X : Act → World → Prop} {Γ Γ' : Ctx} (hp : ∀ a w, St P fr Γ a w → St P fr Γ' a w) (h : ∀ a w, St P fr Γ' a w → X a w) : ∀ a w, St P fr Γ a w → X a w := fun a w hs => h a w (hp a w hs)

end Go.Proofs.YtdclbbkkcngjnaaT

namespace Go.Proofs.YtdclbbkkcngjnaaT
open Go
variable {P : Program} {fr : Fr}

/-! ### Strings made -/
def addx (s t : ByteArray) : Option ByteArray := bif Nat.ble (s.size + t.size) 4611686018427387904 then some (s ++ t) else none
theorem r_sadd {E : Ctx} {o : Oper} {t : Nat} {T T' : TypeId} {x y : Operand} {s1 s2 s3 : ByteArray} (ho : o.op = .binOp .add T x y T') (hd : o.dst = some t) (ht : Nat.blt t fr.n = true) (hx : vs fr.n E x = some (.string s1)) (hy : vs fr.n E y = some (.string s2)) (hc : addx s1 s2 = some s3) :
    LA P fr E o [⟨t, true, some (.d (sv s3))⟩] := by
  unfold addx at hc
  cases hb : Nat.ble (s1.size + s2.size) 4611686018427387904 with
  | false => rw [hb] at hc; cases hc
  | true =>
    rw [hb] at hc
    simp at hc
    subst hc
    have hle := Nat.le_of_ble_eq_true hb
    refine LA.scal hd ht rfl fun Γ a w Z β γ hle' h => ?_
    unfold execOp
    rw [ho]
    have hlim : ¬ ((s1.size + s2.size : Nat) : Int) > IntKind.i64.max := by
      have : IntKind.i64.max = 9223372036854775807 := by decide
      rw [this]; omega
    have hrun : (Op.stringOp .add s1 s2).run P w = .ok (.string (s1 ++ s2)) w := by
      unfold Op.stringOp
      simp only [if_neg hlim]
      rfl
    simp [binOp, eqGuard, vs_ok h (vs_le hle' hx), vs_ok h (vs_le hle' hy), hrun]

/-- The string of bytes. -/
def bsOf (xs : List Int) : ByteArray := xs.foldl (fun r n => r.push (UInt8.ofNat n.toNat)) ByteArray.empty

theorem bytes_row {w : World} {Z : Nat → Prop} {f : Int → List C} (hf : ∀ x, f x = [.v (.int .u8 x)]) : ∀ {xs : List Int} {vs : List Value} {bs : List Nat}, RLL P w Z (xs.map f) vs bs → vs = xs.map (Value.int .u8)
  | [], vs, bs, h => by simp only [List.map_nil, RLL] at h; simp [h.1]
  | x :: xs, vs, bs, h => by
    simp only [List.map_cons, RLL] at h
    obtain ⟨v1, v2, b1, b2, rfl, rfl, h1, h2⟩ := h
    rw [hf] at h1
    simp only [RL, RC] at h1
    obtain ⟨y, vs', c1, c2, rfl, _, hy, hv', _⟩ := h1
    rw [bytes_row hf h2, hv', hy.1]
    rfl

theorem run_b2s {w : World} {Z : Nat → Prop} {b : Bool} {Et : TypeId} {f : Int → List C} (hf : ∀ x, f x = [.v (.int .u8 x)]) {xs : List Int} {v : Value} {bs : List Nat} (h : RC P w Z (.sl b Et (xs.map f)) v bs) :
    (Conv.bytesToString v).run P w = .ok (.string (bsOf xs)) w := by
  simp only [RC] at h
  rcases h with ⟨rfl, h2, _⟩ | ⟨ad, cap, vs, _, _, rfl, _, _, _, hc, _, hr⟩ | ⟨g, cap, cur, bs', _, _, rfl, hle, _, hg, hs, hk, hr⟩
  · have : xs = [] := by simpa using h2
    subst this
    rfl
  · have hv := bytes_row hf hr
    rw [List.length_map]
    refine run_bytesToString w ad _ cap xs ?_
    have := run_loadCells_list (P := P) w ad vs (fun j u hu => hc j u hu)
    rw [hv] at this
    simpa using this
  · have hv := bytes_row hf hr
    rw [List.length_map]
    refine run_bytesToString w _ _ cap xs ?_
    have := run_loadCells_list (P := P) w ⟨g, 0, none⟩ (xs.map (Value.int .u8)) (fun j u hu => by
      rw [cell_row hg]
      rw [← hv, List.getElem?_take] at hu
      split at hu
      · simpa using hu
      · cases hu)
    simpa using this

theorem r_b2s {E : Ctx} {o : Oper} {t r : Nat} {T T' Et E1 : TypeId} {x : Operand} {xs : List Int} {f : Int → List C} (ho : o.op = .convert T T' x) (hd : o.dst = some t) (ht : Nat.blt t fr.n = true) (h1 : P.underlying T = some (.slice E1)) (h2 : P.underlying T' = some .string) (h3 : P.underlying E1 = some (.int .u8))
    (hf : ∀ x, f x = [.v (.int .u8 x)]) (hx : slOf fr.n E x = some (r, Et, xs.map f)) : LA P fr E o [⟨t, true, some (.d (sv (bsOf xs)))⟩] :=
  LA.scal hd ht rfl fun Γ a w Z β γ hle h => by
    obtain ⟨_, hev, hv⟩ := slOf_ok h (slOf_le hle hx)
    have hrun := run_b2s (P := P) hf hv
    unfold execOp
    rw [ho]
    have hsl : ∃ ad n cap, ev fr.n a γ r = .slice ad n cap := by
      simp only [RC] at hv
      rcases hv with ⟨q, _, _⟩ | ⟨ad, cap, vs, _, _, q, _⟩ | ⟨g, cap, cur, bs', _, _, q, _⟩
      · exact ⟨_, _, _, q⟩
      · exact ⟨_, _, _, q⟩
      · exact ⟨_, _, _, q⟩
    obtain ⟨ad, n, cap, hq⟩ := hsl
    rw [hq] at hrun
    cases ad <;> simp [convert, run_underlying h1, run_underlying h2, run_underlying h3, hev, hq, hrun]

/-- A call that is lent nothing. -/
theorem r_call0 {E : Ctx} {o : Oper} {t : Nat} {x : Operand} {xs : Array Operand} {ats : Array TypeId} {f : FuncId} {caps : List Nat} {n' : Nat} {pars : List Ent} {res : Ent} (B : List Nat)
    {pes : List (Ent × Option Nat)} (ho : o.op = .call ⟨.value x, xs, ats⟩) (hd : o.dst = some t) (ht : Nat.blt t fr.n = true) (hx : calE fr.n E x = some (f, caps))
    (hc : Ret P f n' pars [] res []) (ha : argL fr.n E [] B n' xs.toList caps = some pes) (hp : pes.map (·.1) = pars)
    (hS : nodupB ((pes.map (·.2)).filterMap id ++ [] ++ B) = true) (ht' : inB ([] ++ B) t = false) (hl : Nat.ble pes.length n' = true) (hm : mov res = true) (hcl : B = [] ∨ Clean P res) :
    LA P fr E o (⟨t, true, some res⟩ :: ((pes.map (·.2)).filterMap id).map rmv) := by
  have := la_call (fr := fr) (E := E) [] B ho hd ht hx hc ha hp rfl hS ht' hl hm (by simp) rfl (hcl.imp id (fun h => ⟨h, by simp⟩))
  simpa [pokes, upg] using this

/-! ### Data that shares nothing -/
def ClC (P : Program) (c : C) : Prop := ∀ w Z Z' y bs, RC P w Z c y bs → RC P w Z' c y bs
def ClL (P : Program) (cs : List C) : Prop := ∀ w Z Z' vs bs, RL P w Z cs vs bs → RL P w Z' cs vs bs
theorem cl_v {x : Value} : ClC P (.v x) := fun w Z Z' y bs h => by simpa [RC] using h
theorem cl_n : ClL P [] := fun w Z Z' vs bs h => by simpa [RL] using h
theorem cl_c {c : C} {cs : List C} (h : ClC P c) (hs : ClL P cs) : ClL P (c :: cs) := fun w Z Z' vs bs hr => by
  simp only [RL] at hr ⊢
  obtain ⟨y, vs', b1, b2, e1, e2, h1, h2⟩ := hr
  exact ⟨y, vs', b1, b2, e1, e2, h _ _ _ _ _ h1, hs _ _ _ _ _ h2⟩
theorem cl_rll {α : Type} {f : α → List C} (h : ∀ x, ClL P (f x)) {w : World} {Z Z' : Nat → Prop} : ∀ {xs : List α} {vs : List Value} {bs : List Nat}, RLL P w Z (xs.map f) vs bs → RLL P w Z' (xs.map f) vs bs
  | [], vs, bs, hr => by simpa [RLL] using hr
  | x :: xs, vs, bs, hr => by
    simp only [List.map_cons, RLL] at hr ⊢
    obtain ⟨v1, v2, b1, b2, e1, e2, h1, h2⟩ := hr
    exact ⟨v1, v2, b1, b2, e1, e2, h x _ _ _ _ _ h1, cl_rll h h2⟩
theorem cl_s {α : Type} {f : α → List C} {Et : TypeId} {xs : List α} (h : ∀ x, ClL P (f x)) : ClC P (.sl true Et (xs.map f)) := fun w Z Z' y bs hr => by
  simp only [RC] at hr ⊢
  rcases hr with hr | ⟨ad, cap, vs, ho, _⟩ | ⟨g, cap, cur, bs', ho, hb, hy, h1, h2, hg, hs, hk, hrl⟩
  · exact .inl hr
  · cases ho
  · exact .inr (.inr ⟨g, cap, cur, bs', ho, hb, hy, h1, h2, hg, hs, hk, cl_rll h hrl⟩)
theorem clean_one {c : C} (h : ClC P c) : Clean P (.d (.one c)) := fun w Z Z' v bs hr => h _ _ _ _ _ hr
theorem clean_agg {cs : List C} (h : ClL P cs) : Clean P (.d (.agg cs)) := fun w Z Z' v bs hr => by
  obtain ⟨vs, h1, h2⟩ := hr
  exact ⟨vs, h1, h _ _ _ _ _ h2⟩

end Go.Proofs.YtdclbbkkcngjnaaT

namespace Go.Proofs.YtdclbbkkcngjnaaT
open Go

/-! ### Marks that are laid and found again -/
def Held {α : Type} (Hd : α → Int → Option Int) : List α → Int → Int → Prop
  | [], v, w => v = w
  | x :: xs, v, w => ∃ u, 0 ≤ u ∧ Hd x v = some u ∧ Held Hd xs u w

theorem mark_loop {α : Type} {a : List α} {G : α → Int → Option (Int × α)} {c : α → Int} (hc : ∀ x, x ∈ a → 0 ≤ c x) {Hd : α → Int → Option Int} {B : Int}
    (hG : ∀ x, x ∈ a → ∀ v, 0 ≤ v → v + c x ≤ B → ∃ x', G x v = some (v + c x, x') ∧ Hd x' v = some (v + c x))
    {L : Nat → Int → Int → List α → Option (Ex (Int × List α) (Int × Int × List α))}
    (hL : ∀ k v i xs, L (k + 1) v i xs = bif decide (i < (xs.length : Int)) then (ix xs i).bind fun z => (G z v).bind fun y => L k y.1 (IntKind.i64.wrap (i + 1)) (xs.set i.toNat y.2) else some (.go (v, i, xs))) (hn : a.length ≤ 1048576) :
    ∀ (d n k : Nat) (v : Int) (xs : List α), a.length - n = d → n ≤ a.length → d < k → 0 ≤ v → v + sumOf c (a.drop n) ≤ B → xs.length = a.length → xs.drop n = a.drop n →
      ∃ ys, L k v (n : Int) xs = some (.go (v + sumOf c (a.drop n), (a.length : Int), ys)) ∧ ys.length = a.length ∧ ys.take n = xs.take n ∧ Held Hd (ys.drop n) v (v + sumOf c (a.drop n)) := by
  intro d
  induction d with
  | zero =>
    intro n k v xs hd hle hk h0 hB hl hdr
    obtain ⟨k, rfl⟩ : ∃ j, k = j + 1 := ⟨k - 1, by omega⟩
    have : n = a.length := by omega
    subst this
    refine ⟨xs, ?_, hl, rfl, ?_⟩
    · rw [hL, hl]; simp [sumOf]
    · rw [List.drop_of_length_le (by omega : xs.length ≤ a.length), List.drop_of_length_le (Nat.le_refl _)]; simp [Held, sumOf]
  | succ d ih =>
    intro n k v xs hd hle hk h0 hB hl hdr
    obtain ⟨k, rfl⟩ : ∃ j, k = j + 1 := ⟨k - 1, by omega⟩
    have hlt : n < a.length := by omega
    have hlx : n < xs.length := by omega
    have hdrop : a.drop n = a[n] :: a.drop (n + 1) := (List.drop_eq_getElem_cons hlt)
    have hxn : xs[n] = a[n] := by
      have h1 := congrArg (fun l => l[0]?) hdr
      simp only [List.getElem?_drop, Nat.add_zero] at h1
      rw [List.getElem?_eq_getElem hlx, List.getElem?_eq_getElem hlt] at h1
      simpa using h1
    have hs : sumOf c (a.drop n) = c a[n] + sumOf c (a.drop (n + 1)) := by rw [hdrop]; rfl
    have hcn := hc a[n] (List.getElem_mem hlt)
    have hss := sumOf_nn (a := a.drop (n + 1)) (fun x hx => hc x (List.mem_of_mem_drop hx))
    obtain ⟨x', hx1, hx2⟩ := hG a[n] (List.getElem_mem hlt) v h0 (by omega)
    rw [hL]
    have hcnd : decide ((n : Int) < (xs.length : Int)) = true := by simp [hlx]
    rw [hcnd, cond_true, ix_at hlx, Option.bind_some, hxn, hx1, Option.bind_some, wrap_id (by omega) (by omega)]
    obtain ⟨ys, h1, h2, h3, h4⟩ := ih (n + 1) k (v + c a[n]) (xs.set n x') (by omega) (by omega) (by omega) (by omega) (by omega) (by simp [hl]) (by
      apply List.ext_getElem?
      intro j
      have hj := congrArg (fun l => l[j + 1]?) hdr
      simp only [List.getElem?_drop] at hj ⊢
      rw [List.getElem?_set_ne (by omega)]
      rw [show n + 1 + j = n + (j + 1) by omega]
      exact hj)
    rw [show ((n + 1 : Nat) : Int) = (n : Int) + 1 by omega] at h1
    have hyl : n < ys.length := by omega
    refine ⟨ys, ?_, h2, ?_, ?_⟩
    · rw [hs, ← Int.add_assoc]; simpa using h1
    · have := congrArg (fun l => l.take n) h3
      simp only [List.take_take] at this
      rw [Nat.min_eq_left (by omega)] at this
      rw [this, List.take_set_of_le (by omega)]
    · have hyn : ys[n] = x' := by
        have := congrArg (fun l => l[n]?) h3
        simp only [List.getElem?_take] at this
        rw [if_pos (by omega), if_pos (by omega), List.getElem?_set_self hlx, List.getElem?_eq_getElem hyl] at this
        simpa using this
      rw [List.drop_eq_getElem_cons hyl, hyn, hs]
      exact ⟨v + c a[n], by omega, hx2, by rw [← Int.add_assoc]; exact h4⟩

theorem mark_gen {α : Type} {a : List α} {c : α → Int} (hc : ∀ x, x ∈ a → 0 ≤ c x) {Hd : α → Int → Option Int} {B : Int}
    {L : Nat → Int → Int → List α → Option (Ex (Int × List α) (Int × Int × List α))}
    (hend : ∀ k v xs, xs.length = a.length → L (k + 1) v (a.length : Int) xs = some (.go (v, (a.length : Int), xs)))
    (hstep : ∀ k v (n : Nat) (h : n < a.length) xs, xs.length = a.length → xs[n]? = some a[n] → 0 ≤ v → v + c a[n] ≤ B → ∃ x', L (k + 1) v (n : Int) xs = L k (v + c a[n]) ((n + 1 : Nat) : Int) (xs.set n x') ∧ Hd x' v = some (v + c a[n])) :
    ∀ (d n k : Nat) (v : Int) (xs : List α), a.length - n = d → n ≤ a.length → d < k → 0 ≤ v → v + sumOf c (a.drop n) ≤ B → xs.length = a.length → xs.drop n = a.drop n →
      ∃ ys, L k v (n : Int) xs = some (.go (v + sumOf c (a.drop n), (a.length : Int), ys)) ∧ ys.length = a.length ∧ ys.take n = xs.take n ∧ Held Hd (ys.drop n) v (v + sumOf c (a.drop n)) := by
  intro d
  induction d with
  | zero =>
    intro n k v xs hd hle hk h0 hB hl hdr
    obtain ⟨k, rfl⟩ : ∃ j, k = j + 1 := ⟨k - 1, by omega⟩
    have : n = a.length := by omega
    subst this
    refine ⟨xs, ?_, hl, rfl, ?_⟩
    · rw [hend _ _ _ hl]; simp [sumOf]
    · rw [List.drop_of_length_le (by omega : xs.length ≤ a.length), List.drop_of_length_le (Nat.le_refl _)]; simp [Held, sumOf]
  | succ d ih =>
    intro n k v xs hd hle hk h0 hB hl hdr
    obtain ⟨k, rfl⟩ : ∃ j, k = j + 1 := ⟨k - 1, by omega⟩
    have hlt : n < a.length := by omega
    have hlx : n < xs.length := by omega
    have hdrop : a.drop n = a[n] :: a.drop (n + 1) := (List.drop_eq_getElem_cons hlt)
    have hxn : xs[n] = a[n] := by
      have h1 := congrArg (fun l => l[0]?) hdr
      simp only [List.getElem?_drop, Nat.add_zero] at h1
      rw [List.getElem?_eq_getElem hlx, List.getElem?_eq_getElem hlt] at h1
      simpa using h1
    have hs : sumOf c (a.drop n) = c a[n] + sumOf c (a.drop (n + 1)) := by rw [hdrop]; rfl
    have hcn := hc a[n] (List.getElem_mem hlt)
    have hss := sumOf_nn (a := a.drop (n + 1)) (fun x hx => hc x (List.mem_of_mem_drop hx))
    obtain ⟨x', hx1, hx2⟩ := hstep k v n hlt xs hl (by rw [List.getElem?_eq_getElem hlx, hxn]) h0 (by omega)
    rw [hx1]
    obtain ⟨ys, h1, h2, h3, h4⟩ := ih (n + 1) k (v + c a[n]) (xs.set n x') (by omega) (by omega) (by omega) (by omega) (by omega) (by simp [hl]) (by
      apply List.ext_getElem?
      intro j
      have hj := congrArg (fun l => l[j + 1]?) hdr
      simp only [List.getElem?_drop] at hj ⊢
      rw [List.getElem?_set_ne (by omega)]
      rw [show n + 1 + j = n + (j + 1) by omega]
      exact hj)
    have hyl : n < ys.length := by omega
    refine ⟨ys, ?_, h2, ?_, ?_⟩
    · rw [hs, ← Int.add_assoc]; simpa using h1
    · have := congrArg (fun l => l.take n) h3
      simp only [List.take_take] at this
      rw [Nat.min_eq_left (by omega)] at this
      rw [this, List.take_set_of_le (by omega)]
    · have hyn : ys[n] = x' := by
        have := congrArg (fun l => l[n]?) h3
        simp only [List.getElem?_take] at this
        rw [if_pos (by omega), if_pos (by omega), List.getElem?_set_self hlx, List.getElem?_eq_getElem hyl] at this
        simpa using this
      rw [List.drop_eq_getElem_cons hyl, hyn, hs]
      exact ⟨v + c a[n], by omega, hx2, by rw [← Int.add_assoc]; exact h4⟩

theorem held_loop {α : Type} {a : List α} {Hd : α → Int → Option Int} {L : Nat → Int → Int → Option (Ex Int (Int × Int))}
    (hL : ∀ k v i, L (k + 1) v i = bif decide (i < (a.length : Int)) then (ix a i).bind fun z => (Hd z v).bind fun y => bif decide (y < 0) then some (.ret (-1)) else L k y (IntKind.i64.wrap (i + 1)) else some (.go (v, i))) (hn : a.length ≤ 1048576) :
    ∀ (d n k : Nat) (v w : Int), a.length - n = d → n ≤ a.length → d < k → Held Hd (a.drop n) v w → L k v (n : Int) = some (.go (w, (a.length : Int))) := by
  intro d
  induction d with
  | zero =>
    intro n k v w hd hle hk hh
    obtain ⟨k, rfl⟩ : ∃ j, k = j + 1 := ⟨k - 1, by omega⟩
    have : n = a.length := by omega
    subst this
    rw [List.drop_length] at hh
    rw [hL, ← (show v = w from hh)]
    simp
  | succ d ih =>
    intro n k v w hd hle hk hh
    obtain ⟨k, rfl⟩ : ∃ j, k = j + 1 := ⟨k - 1, by omega⟩
    have hlt : n < a.length := by omega
    rw [List.drop_eq_getElem_cons hlt] at hh
    obtain ⟨u, hu0, hu1, hu2⟩ := hh
    rw [hL]
    have hcnd : decide ((n : Int) < (a.length : Int)) = true := by simp [hlt]
    have hneg : decide (u < 0) = false := by simp; omega
    rw [hcnd, cond_true, ix_at hlt, Option.bind_some, hu1, Option.bind_some, hneg, cond_false, wrap_id (by omega) (by omega)]
    have := ih (n + 1) k u w (by omega) (by omega) (by omega) hu2
    rwa [show ((n + 1 : Nat) : Int) = (n : Int) + 1 by omega] at this

/-- Marks in a row of numbers. -/
theorem mark_ints {a : List Int} {L : Nat → Int → Int → List Int → Option (Ex (Int × List Int) (Int × Int × List Int))}
    (hL : ∀ k v i xs, L (k + 1) v i xs = bif decide (i < (xs.length : Int)) then (stx xs i v).bind fun z => L k (IntKind.i64.wrap (v + 1)) (IntKind.i64.wrap (i + 1)) z else some (.go (v, i, xs))) (hn : a.length ≤ 1048576) (k : Nat) (hk : a.length < k) (v : Int) (h0 : 0 ≤ v) (hB : v + a.length ≤ 1073741824) :
    ∃ ys, L k v 0 a = some (.go (v + a.length, (a.length : Int), ys)) ∧ ys.length = a.length ∧ Held (fun x v => some (bif x == v then v + 1 else -1)) ys v (v + a.length) := by
  have hs : sumOf (fun _ : Int => 1) a = a.length := by
    clear hL hn hk hB
    induction a with
    | nil => rfl
    | cons x a ih => simp only [sumOf, List.length_cons, ih]; omega
  have := mark_gen (a := a) (c := fun _ => 1) (Hd := fun x v => some (bif x == v then v + 1 else -1)) (B := 1073741824) (fun _ _ => by omega) (L := L)
    (fun k v xs hl => by rw [hL, hl]; simp) (fun k v n h xs hl hx h0 hB => ⟨v, by
      rw [hL]
      have hcnd : decide ((n : Int) < (xs.length : Int)) = true := by simp [hl, h]
      have hst : stx xs (n : Int) v = some (xs.set n v) := by
        unfold stx
        have : (decide ((0 : Int) ≤ (n : Int)) && decide ((n : Int) < (xs.length : Int))) = true := by simp [hl, h]
        rw [this]; simp
      rw [hcnd, cond_true, hst, Option.bind_some, wrap_id (i := v + 1) (by omega) (by omega), wrap_id (i := (n : Int) + 1) (by omega) (by omega)]
      rfl, by simp⟩) a.length 0 k v a (by omega) (by omega) hk h0 (by simpa [hs] using hB) rfl rfl
  simp only [List.drop_zero, hs] at this
  obtain ⟨ys, h1, h2, _, h4⟩ := this
  exact ⟨ys, h1, h2, h4⟩

theorem held_le {xs : List Int} : ∀ {v w : Int}, Held (fun x v => some (bif x == v then v + 1 else -1)) xs v w → 0 ≤ v → v ≤ w := by
  induction xs with
  | nil => intro v w h _; exact Int.le_of_eq h
  | cons x xs ih =>
    intro v w h h0
    obtain ⟨u, hu0, hu1, hu2⟩ := h
    have := ih hu2 hu0
    cases hb : x == v with
    | true => simp [hb] at hu1; omega
    | false => simp [hb] at hu1; omega
theorem held_ints {a : List Int} {L : Nat → Int → Int → Option (Ex Int (Int × Int))}
    (hL : ∀ k v i, L (k + 1) v i = bif decide (i < (a.length : Int)) then (ix a i).bind fun z => bif (z != v) then some (.ret (-1)) else L k (IntKind.i64.wrap (v + 1)) (IntKind.i64.wrap (i + 1)) else some (.go (v, i))) (hn : a.length ≤ 1048576) :
    ∀ (d n k : Nat) (v w : Int), a.length - n = d → n ≤ a.length → d < k → 0 ≤ v → w ≤ 1073741824 → Held (fun x v => some (bif x == v then v + 1 else -1)) (a.drop n) v w → L k v (n : Int) = some (.go (w, (a.length : Int))) := by
  intro d
  induction d with
  | zero =>
    intro n k v w hd hle hk h0 hw hh
    obtain ⟨k, rfl⟩ : ∃ j, k = j + 1 := ⟨k - 1, by omega⟩
    have : n = a.length := by omega
    subst this
    rw [List.drop_length] at hh
    rw [hL, ← (show v = w from hh)]
    simp
  | succ d ih =>
    intro n k v w hd hle hk h0 hw hh
    obtain ⟨k, rfl⟩ : ∃ j, k = j + 1 := ⟨k - 1, by omega⟩
    have hlt : n < a.length := by omega
    have hvw := held_le hh h0
    rw [List.drop_eq_getElem_cons hlt] at hh
    obtain ⟨u, hu0, hu1, hu2⟩ := hh
    have hvu := held_le hu2 hu0
    rw [hL]
    have hcnd : decide ((n : Int) < (a.length : Int)) = true := by simp [hlt]
    rw [hcnd, cond_true, ix_at hlt, Option.bind_some]
    cases hb : a[n] == v with
    | false => simp [hb] at hu1; omega
    | true =>
      simp [hb] at hu1
      have hbn : (a[n] != v) = false := by simp [bne, hb]
      rw [hbn, cond_false, wrap_id (i := v + 1) (by omega) (by omega), wrap_id (i := (n : Int) + 1) (by omega) (by omega), hu1]
      have := ih (n + 1) k u w (by omega) (by omega) (by omega) hu0 hw hu2
      rwa [show ((n + 1 : Nat) : Int) = (n : Int) + 1 by omega] at this

end Go.Proofs.YtdclbbkkcngjnaaT
