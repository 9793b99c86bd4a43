/- What a statement gives, as trees, and what its function's promise says of it. -/
import Derived.Test.YtdclbbkkcngjnaaTrD
import Derived.ChangeArms
import Derived.Below
import Derived.ProofKit
set_option linter.all false
namespace Go.Proofs.YtdclbbkkcngjnaaT
open Go
variable {P : Program}

/-! ### What a statement gives, as trees -/
/-- What is trod at type t is some datum x, with cells f x. -/
def Rds (P : Program) (t : TypeId) {α : Type} (f : α → List C) (wf : α → Prop) : Prop :=
  ∀ {H : Type} (enc : TypeId × Value → H) (w : World) (base : Nat) (spare : Nat → Bool) (held : Bool) (fuel : Nat) (cs : List Value) (d : DataW H × List MemPlace), DataW.trod enc P w base spare held fuel t cs = some d →
    ∃ x, wf x ∧ RL P w (fun b => b < w.heap.size) (f x) cs []

theorem rds_int {t : TypeId} {k : IntKind} (ht : P.underlying t = some (.int k)) : Rds P t (fun x => [.v (.int k x)]) (fun x => (Lit.int k x).wf = true) := by
  intro H enc w base spare held fuel cs d h
  obtain ⟨n, rfl, _, hw⟩ := DataW.trod_int ht h
  exact ⟨n, hw, rl_c (rc_v rfl) rl_n⟩
theorem rds_bool {t : TypeId} (ht : P.underlying t = some .bool) : Rds P t (fun x => [.v (.bool x)]) (fun _ => True) := by
  intro H enc w base spare held fuel cs d h
  obtain ⟨b, rfl, _⟩ := DataW.trod_bool ht h
  exact ⟨b, trivial, rl_c (rc_v rfl) rl_n⟩
theorem rds_string {t : TypeId} (ht : P.underlying t = some .string) : Rds P t (fun x => [.v (.string x)]) (fun s => s.size ≤ maxLen) := by
  intro H enc w base spare held fuel cs d h
  obtain ⟨s, rfl, _, hl⟩ := DataW.trod_string ht h
  exact ⟨s, hl, rl_c (rc_v rfl) rl_n⟩

theorem cells_get {w : World} {base : Nat} {a : Addr} {n : Nat} {cs : List Value} (h : w.cells? base a n = some cs) : cs.length = n ∧ ∀ (i : Nat) (x : Value), cs[i]? = some x → w.cell? (a.add i) = some x := by
  unfold World.cells? at h
  split at h
  · have hl := mapM_some_length h
    simp at hl
    refine ⟨hl, fun i x hx => ?_⟩
    have hi : i < cs.length := (List.getElem?_eq_some_iff.1 hx).1
    have := mapM_some_get h i i (List.getElem?_range (by omega))
    rw [← hx]
    exact this
  · cases h

theorem cell_lt {w : World} {a : Addr} {x : Value} (h : w.cell? a = some x) : a.block < w.heap.size := by
  rcases Nat.lt_or_ge a.block w.heap.size with hl | hl
  · exact hl
  · simp [World.cell?, Array.getElem?_eq_none hl] at h

theorem rds_slice {t E : TypeId} {α : Type} {f : α → List C} {wf : α → Prop} (ht : P.underlying t = some (.slice E)) (hc : P.cellsOf E = szOf P E) (hp0 : Nat.blt 0 (szOf P E) = true) (h : Rds P E f wf) :
    Rds P t (fun xs : List α => [.sl false E (xs.map f)]) (fun xs => xs.length ≤ maxLen ∧ ∀ x, x ∈ xs → wf x) := by
  have hp : 0 < szOf P E := by rw [← Nat.blt_eq]; exact hp0
  intro H enc w base spare held fuel cs d hd
  rcases DataW.trod_slice ht hd with ⟨rfl, _⟩ | ⟨a, len, cap, elems, rest, n, _, rfl, _, _, hl, hm, hel, hi, _⟩
  · exact ⟨[], ⟨Nat.zero_le _, fun x hx => by simp at hx⟩, rl_c rc_n rl_n⟩
  · rw [hc] at hi
    have key : ∀ m, m ≤ len → ∃ (xs : List α) (vs : List Value), xs.length = m ∧ (∀ x, x ∈ xs → wf x) ∧ vs.length = m * szOf P E ∧ (∀ (k : Nat) (x : Value), vs[k]? = some x → w.cell? (a.add k) = some x) ∧ (∀ e ∈ xs.map f, e.length = szOf P E) ∧
        RLL P w (fun b => b < w.heap.size) (xs.map f) vs [] := by
      intro m
      induction m with
      | zero => intro _; exact ⟨[], [], rfl, by simp, by simp, by simp, by simp, by simp [RLL]⟩
      | succ m ih =>
        intro hle
        obtain ⟨xs, vs, h1, h2, h3, h4, h5, h6⟩ := ih (by omega)
        have hm' := hi m (by omega)
        have hlt : m < elems.length := by omega
        rw [List.getElem?_eq_getElem hlt] at hm'
        obtain ⟨cs', hc1, hc2⟩ := Option.bind_eq_some_iff.1 hm'
        obtain ⟨x, hw, hr⟩ := h enc w base spare held n cs' _ hc2
        obtain ⟨hl', hg⟩ := cells_get hc1
        have hfl := RL.length _ hr
        refine ⟨xs ++ [x], vs ++ cs', by simp [h1], ?_, ?_, ?_, ?_, ?_⟩
        · intro y hy
          rcases List.mem_append.1 hy with hy | hy
          · exact h2 y hy
          · simp at hy; subst hy; exact hw
        · simp [h3, hl', Nat.add_mul]
        · intro k y hk
          by_cases hk' : k < vs.length
          · rw [List.getElem?_append_left hk'] at hk; exact h4 k y hk
          · rw [List.getElem?_append_right (by omega)] at hk
            have := hg _ y hk
            rw [add_add] at this
            rwa [show m * szOf P E + (k - vs.length) = k by omega] at this
        · intro e he
          simp only [List.map_append, List.mem_append, List.map_cons, List.map_nil, List.mem_singleton] at he
          rcases he with he | rfl
          · exact h5 e he
          · omega
        · rw [List.map_append]
          exact (RLL.app _ _ _ _).2 ⟨vs, cs', [], [], rfl, rfl, h6, by simp only [List.map_cons, List.map_nil, RLL]; exact ⟨cs', [], [], [], by simp, rfl, hr, rfl, rfl⟩⟩
    obtain ⟨xs, vs, h1, h2, h3, h4, h5, h6⟩ := key len (Nat.le_refl _)
    refine ⟨xs, ⟨by omega, h2⟩, rl_c ?_ rl_n⟩
    simp only [RC]
    refine .inr (.inl ⟨a, cap, vs, trivial, trivial, by simp [h1], by simp [h1]; omega, hm, ?_, h4, h5, h6⟩)
    by_cases hx : xs = []
    · left; simp [hx]
    · right
      have hvs : 0 < vs.length := by
        rw [h3, ← h1]
        exact Nat.mul_pos (List.length_pos_iff.2 hx) hp
      have := h4 0 vs[0] (by simp)
      have hb := cell_lt this
      rwa [add_block] at hb

/-- A struct's parts, from one on. -/
def RdsF (P : Program) (fs : List Field) (off : Nat) {α : Type} (g : α → List C) (wf : α → Prop) : Prop :=
  ∀ {H : Type} (enc : TypeId × Value → H) (w : World) (base : Nat) (spare : Nat → Bool) (held : Bool) (n : Nat) (cs : List Value),
    (∀ f, f ∈ fs → ∃ d, DataW.trod enc P w base spare held n f.type ((cs.drop f.offset).take (szOf P f.type)) = some d) → ∃ x, wf x ∧ RL P w (fun b => b < w.heap.size) (g x) (cs.drop off) []

theorem rdsF_last {f : Field} {α : Type} {g : α → List C} {wf : α → Prop} (h : Rds P f.type g wf) : ∀ {total : Nat}, f.offset + szOf P f.type = total →
    ∀ {H : Type} (enc : TypeId × Value → H) (w : World) (base : Nat) (spare : Nat → Bool) (held : Bool) (n : Nat) (cs : List Value), cs.length = total →
    (∀ f', f' ∈ [f] → ∃ d, DataW.trod enc P w base spare held n f'.type ((cs.drop f'.offset).take (szOf P f'.type)) = some d) → ∃ x, wf x ∧ RL P w (fun b => b < w.heap.size) (g x) (cs.drop f.offset) [] := by
  intro total ht H enc w base spare held n cs hcs hd
  obtain ⟨d, hd⟩ := hd f (by simp)
  obtain ⟨x, hw, hr⟩ := h enc w base spare held n _ d hd
  rw [List.take_of_length_le (by simp; omega)] at hr
  exact ⟨x, hw, hr⟩

/-- Parts one behind the other. -/
inductive Parts (P : Program) : List Field → Nat → Nat → (α : Type) → (α → List C) → (α → Prop) → Prop
  | one {f : Field} {α : Type} {g : α → List C} {wf : α → Prop} (h : Rds P f.type g wf) {total : Nat} (ht : f.offset + szOf P f.type = total) : Parts P [f] f.offset total α g wf
  | cons {f : Field} {fs : List Field} {α β : Type} {g : α → List C} {k : β → List C} {wf : α → Prop} {wk : β → Prop} (h : Rds P f.type g wf) {total off : Nat} (ho : f.offset + szOf P f.type = off) (hs : Parts P fs off total β k wk) :
      Parts P (f :: fs) f.offset total (α × β) (fun x => g x.1 ++ k x.2) (fun x => wf x.1 ∧ wk x.2)

theorem parts_ok {fs : List Field} {off total : Nat} {α : Type} {g : α → List C} {wf : α → Prop} (h : Parts P fs off total α g wf) :
    ∀ {H : Type} (enc : TypeId × Value → H) (w : World) (base : Nat) (spare : Nat → Bool) (held : Bool) (n : Nat) (cs : List Value), cs.length = total →
    (∀ f, f ∈ fs → ∃ d, DataW.trod enc P w base spare held n f.type ((cs.drop f.offset).take (szOf P f.type)) = some d) → ∃ x, wf x ∧ RL P w (fun b => b < w.heap.size) (g x) (cs.drop off) [] := by
  induction h with
  | one h ht => exact rdsF_last h ht
  | cons h ho hs ih =>
    rename_i f fs α β g k wf wk total off
    intro H enc w base spare held n cs hcs hd
    obtain ⟨y, hy, hry⟩ := ih enc w base spare held n cs hcs (fun f' hf' => hd f' (by simp [hf']))
    obtain ⟨d, hd⟩ := hd f (by simp)
    obtain ⟨x, hw, hr⟩ := h enc w base spare held n _ d hd
    refine ⟨(x, y), ⟨hw, hy⟩, (RL.app _ _ _ _).2 ⟨_, _, [], [], ?_, rfl, hr, hry⟩⟩
    rw [← ho, ← List.drop_drop, List.take_append_drop]

theorem rds_struct {t : TypeId} {fs : Array Field} {α β : Type} {g : α → List C} {wf : α → Prop} {f : β → List C} {wg : β → Prop} (mkS : α → β) (ht : P.underlying t = some (.struct fs)) (hp : Parts P fs.toList 0 (szOf P t) α g wf)
    (hf : ∀ x, f (mkS x) = g x) (hw : ∀ x, wf x → wg (mkS x)) : Rds P t f wg := by
  intro H enc w base spare held fuel cs d hd
  obtain ⟨xs, n, _, _, hl, hxl, hi⟩ := DataW.trod_struct ht hd
  obtain ⟨x, hx, hr⟩ := parts_ok hp enc w base spare held n cs hl (fun f hf => by
    obtain ⟨i, hi', rfl⟩ := List.mem_iff_getElem.1 hf
    have hlt : i < fs.size := by simpa using hi'
    have := hi i fs[i] (by simp [hlt])
    have hlx : i < xs.length := by omega
    rw [List.getElem?_eq_getElem hlx] at this
    exact ⟨xs[i], this⟩)
  refine ⟨mkS x, hw x hx, ?_⟩
  rw [hf]
  simpa using hr

end Go.Proofs.YtdclbbkkcngjnaaT

namespace Go.Proofs.YtdclbbkkcngjnaaT
open Go Go.RowKit
variable {P : Program}

theorem law_calls {f : FuncId} {n : Nat} {Xs : List Dt} {vals : List Value} {W : World} (h : Ret P f n (Xs.map .d) [] (.d (bv true)) []) (hl : vals.length = Xs.length)
    (hX : ∀ (i : Nat) X, Xs[i]? = some X → ∀ v, vals[i]? = some v → RD P W (fun b => b < W.heap.size) X v []) : Calls P f vals.toArray W fun e w' => e = .returned (.bool true) ∧ Below W.heap.size W w' := by
  have hc := h.2 W (fun b => b < W.heap.size) vals (fun _ => undef) (fun _ => []) [] ⟨by simpa using hl, fun b hb => hb, fun t b hb => by simp at hb, fun t => by simp, fun t u b _ hb => by simp at hb, ?_⟩
  · refine Calls.mono hc ?_
    rintro e w' ⟨v, rfl, Z', β', hp⟩
    have hr := hp.res
    simp only [OwnOk, EntOk, RD, RC] at hr
    refine ⟨by rw [hr.1], hp.evo.os, hp.evo.tape, hp.evo.output, hp.evo.size, fun k hk => hp.evo.block k hk (by simp)⟩
  · intro t e he
    unfold Γin at he
    cases ht : Nat.blt t n with
    | false => rw [ht] at he; simp at he
    | true =>
      rw [ht] at he
      simp only [cond_true, List.getElem?_map] at he
      cases hx : Xs[t]? with
      | none => rw [hx] at he; cases he
      | some X =>
        rw [hx] at he
        simp at he
        subst he
        have hlt : t < vals.length := by rw [hl]; exact (List.getElem?_eq_some_iff.1 hx).1
        have ht' : t < n := by simpa [Nat.blt_eq] using ht
        have hv : vals[t]? = some vals[t] := List.getElem?_eq_getElem hlt
        have := hX t X hx _ hv
        simp only [EntOk, evi, ht', if_true]
        rw [List.getD_eq_getElem?_getD, hv]
        exact this

theorem rl_one {w : World} {Z : Nat → Prop} {c : C} {v : Value} (h : RL P w Z [c] [v] []) : RC P w Z c v [] := by
  simp only [RL] at h
  obtain ⟨y, vs', b1, b2, h1, h2, h3, h4, _⟩ := h
  simp at h1
  obtain ⟨rfl, _⟩ := h1
  have := (List.append_eq_nil_iff.1 h2.symm).1
  rw [this] at h3
  exact h3

/-- A slice as an argument. -/
theorem arg_slice {H : Type} {enc : TypeId × Value → H} {W : World} {base : Nat} {spare : Nat → Bool} {held : Bool} {t E : TypeId} {α : Type} {f : α → List C} {wf : List α → Prop} (h : Rds P t (fun xs : List α => [.sl false E (xs.map f)]) wf) {a : Option Addr} {l c : Nat} {d : DataW H} {p : List MemPlace}
    (hd : DataW.Trod enc P W base spare held t (.slice a l c) d p) : ∃ xs, wf xs ∧ RD P W (fun b => b < W.heap.size) (.one (.sl false E (xs.map f))) (.slice a l c) [] := by
  obtain ⟨fuel, hf⟩ := hd
  obtain ⟨xs, hw, hr⟩ := h enc W base spare held fuel _ _ hf
  exact ⟨xs, hw, rl_one hr⟩

open Go.ChangeShapes Go.RowKit in
theorem arg_int {H : Type} {enc : TypeId × Value → H} {W : World} {base : Nat} {spare : Nat → Bool} {held : Bool} {rch : Reach} {b0 : Nat} {t : TypeId} {v : Value} {d : DataW H} {p : List MemPlace} (ht : P.underlying t = some (.int .i64)) (hval : Value.okWide P W rch b0 t v)
    (hd : DataW.Trod enc P W base spare held t v d p) : ∃ x, (Lit.int .i64 x).wf = true ∧ RD P W (fun b => b < W.heap.size) (iv x) v [] := by
  obtain ⟨a, rfl, rfl, rfl, wa⟩ := open_int ht hval hd
  exact ⟨a, wa, by simp [RD, RC, Value.oneCell']⟩

end Go.Proofs.YtdclbbkkcngjnaaT
