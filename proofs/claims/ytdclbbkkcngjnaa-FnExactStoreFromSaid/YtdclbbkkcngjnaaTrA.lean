/- Data as trees of cells, what a call knows of its temporaries, and the rules of the plain operations. -/
import Derived.Orders
import Derived.Maps.AppendAt
import Derived.Laws.MakeOwn
import Derived.Deep.MidRow
import Derived.WalkKit
set_option linter.all false
namespace Go.Proofs.YtdclbbkkcngjnaaT
open Go

/-- A cell's data as a tree: a plain value, or a slice of elements, each a list of cells; 'o': the slice's array is owned. -/
inductive C where
  | v (x : Value)
  | sl (o : Bool) (E : TypeId) (es : List (List C))

def szOf (P : Program) (E : TypeId) : Nat := ((P.info? E).map (·.size)).getD 0

mutual
/-- The value y is the cell c: what is shared lies in the zone Z, what is owned in the blocks bs, each once. -/
def RC (P : Program) (w : World) (Z : Nat → Prop) : C → Value → List Nat → Prop
  | .v x, y, bs => y = x ∧ x.oneCell' = true ∧ bs = []
  | .sl o E es, y, bs =>
    (y = .slice none 0 0 ∧ es = [] ∧ bs = []) ∨
    (∃ ad cap vs, o = false ∧ bs = [] ∧ y = .slice (some ad) es.length cap ∧ es.length ≤ cap ∧ cap ≤ maxLen ∧ (es = [] ∨ Z ad.block) ∧
      (∀ k x, vs[k]? = some x → w.cell? (ad.add k) = some x) ∧ (∀ e ∈ es, e.length = szOf P E) ∧ RLL P w Z es vs []) ∨
    (∃ g cap cur bs', o = true ∧ bs = g :: bs' ∧ y = .slice (some ⟨g, 0, none⟩) es.length cap ∧ es.length ≤ cap ∧ cap ≤ maxLen ∧
      w.heap[g]? = some (.cells cur E (0, 0)) ∧ cur.size = cap * szOf P E ∧ (∀ e ∈ es, e.length = szOf P E) ∧
      RLL P w Z es (cur.toList.take (es.length * szOf P E)) bs')
def RL (P : Program) (w : World) (Z : Nat → Prop) : List C → List Value → List Nat → Prop
  | [], vs, bs => vs = [] ∧ bs = []
  | c :: cs, vs, bs => ∃ y vs' b1 b2, vs = y :: vs' ∧ bs = b1 ++ b2 ∧ RC P w Z c y b1 ∧ RL P w Z cs vs' b2
def RLL (P : Program) (w : World) (Z : Nat → Prop) : List (List C) → List Value → List Nat → Prop
  | [], vs, bs => vs = [] ∧ bs = []
  | cs :: es, vs, bs => ∃ v1 v2 b1 b2, vs = v1 ++ v2 ∧ bs = b1 ++ b2 ∧ RL P w Z cs v1 b1 ∧ RLL P w Z es v2 b2
end

section
variable {P : Program} {w w' : World} {Z Z' : Nat → Prop}

theorem cell_of_block {a : Addr} (h : w'.heap[a.block]? = w.heap[a.block]?) : w'.cell? a = w.cell? a := by simp [World.cell?, h]

theorem add_block (a : Addr) (k : Nat) : (a.add k).block = a.block := by unfold Addr.add; split <;> rfl

mutual
theorem RC.mono (hZ : ∀ b, Z b → Z' b) : ∀ (c : C) {y : Value} {bs : List Nat} (_ : ∀ b, Z b ∨ b ∈ bs → w'.heap[b]? = w.heap[b]?) (_ : RC P w Z c y bs), RC P w' Z' c y bs
  | .v x, y, bs, _, h => by simpa [RC] using h
  | .sl o E es, y, bs, hw, h => by
    simp only [RC] at h ⊢
    rcases h with h | ⟨ad, cap, vs, ho, hb, hy, h1, h2, hz, hc, hl, hr⟩ | ⟨g, cap, cur, bs', ho, hb, hy, h1, h2, hg, hs, hl, hr⟩
    · exact .inl h
    · refine .inr (.inl ⟨ad, cap, vs, ho, hb, hy, h1, h2, hz.imp id (hZ _), ?_, hl, RLL.mono hZ es (fun b hb' => hw b (by simpa [hb] using hb')) hr⟩)
      intro k x hx
      rcases hz with he | hz
      · subst he
        have hv : vs = [] := by simpa [RLL] using hr
        simp [hv] at hx
      · have hk : w'.cell? (ad.add k) = w.cell? (ad.add k) := cell_of_block (by rw [add_block]; exact hw _ (.inl hz))
        exact hk.trans (hc k x hx)
    · subst hb
      refine .inr (.inr ⟨g, cap, cur, bs', ho, rfl, hy, h1, h2, (hw g (.inr (by simp))).trans hg, hs, hl, RLL.mono hZ es (fun b hb' => hw b (hb'.imp id (by simp_all))) hr⟩)
theorem RL.mono (hZ : ∀ b, Z b → Z' b) : ∀ (cs : List C) {vs : List Value} {bs : List Nat} (_ : ∀ b, Z b ∨ b ∈ bs → w'.heap[b]? = w.heap[b]?) (_ : RL P w Z cs vs bs), RL P w' Z' cs vs bs
  | [], _, _, _, h => by simpa [RL] using h
  | c :: cs, vs, bs, hw, h => by
    simp only [RL] at h ⊢
    obtain ⟨y, vs', b1, b2, rfl, rfl, hc, hr⟩ := h
    exact ⟨y, vs', b1, b2, rfl, rfl, RC.mono hZ c (fun b hb => hw b (hb.imp id (by simp_all))) hc, RL.mono hZ cs (fun b hb => hw b (hb.imp id (by simp_all))) hr⟩
theorem RLL.mono (hZ : ∀ b, Z b → Z' b) : ∀ (es : List (List C)) {vs : List Value} {bs : List Nat} (_ : ∀ b, Z b ∨ b ∈ bs → w'.heap[b]? = w.heap[b]?) (_ : RLL P w Z es vs bs), RLL P w' Z' es vs bs
  | [], _, _, _, h => by simpa [RLL] using h
  | cs :: es, vs, bs, hw, h => by
    simp only [RLL] at h ⊢
    obtain ⟨v1, v2, b1, b2, rfl, rfl, hc, hr⟩ := h
    exact ⟨v1, v2, b1, b2, rfl, rfl, RL.mono hZ cs (fun b hb => hw b (hb.imp id (by simp_all))) hc, RLL.mono hZ es (fun b hb => hw b (hb.imp id (by simp_all))) hr⟩
end

theorem RL.length : ∀ (cs : List C) {vs : List Value} {bs : List Nat} (_ : RL P w Z cs vs bs), vs.length = cs.length
  | [], _, _, h => by simp [RL] at h; simp [h]
  | c :: cs, vs, bs, h => by
    simp only [RL] at h
    obtain ⟨y, vs', b1, b2, rfl, rfl, _, hr⟩ := h
    simp [RL.length cs hr]

theorem RL.one : ∀ (cs : List C) {vs : List Value} {bs : List Nat} (_ : RL P w Z cs vs bs), ∀ x ∈ vs, x.oneCell' = true
  | [], _, _, h => by simp [RL] at h; simp [h]
  | c :: cs, vs, bs, h => by
    simp only [RL] at h
    obtain ⟨y, vs', b1, b2, rfl, rfl, hc, hr⟩ := h
    intro x hx
    rcases List.mem_cons.1 hx with rfl | hx
    · cases c with
      | v z => simp only [RC] at hc; rw [hc.1]; exact hc.2.1
      | sl o E es =>
        simp only [RC] at hc
        rcases hc with ⟨rfl, _⟩ | ⟨ad, cap, vs, _, _, rfl, _⟩ | ⟨g, cap, cur, bs', _, _, rfl, _⟩ <;> rfl
    · exact RL.one cs hr x hx

theorem RC.one {c : C} {y : Value} {bs : List Nat} (h : RC P w Z c y bs) : y.oneCell' = true :=
  RL.one [c] (vs := [y]) (bs := bs ++ []) (by simp only [RL]; exact ⟨y, [], bs, [], rfl, rfl, h, rfl, rfl⟩) y (by simp)

theorem RLL.length {k : Nat} : ∀ (es : List (List C)) {vs : List Value} {bs : List Nat} (_ : ∀ e ∈ es, e.length = k) (_ : RLL P w Z es vs bs), vs.length = es.length * k
  | [], _, _, _, h => by simp [RLL] at h; simp [h]
  | cs :: es, vs, bs, hk, h => by
    simp only [RLL] at h
    obtain ⟨v1, v2, b1, b2, rfl, rfl, hc, hr⟩ := h
    have h1 := RL.length cs hc
    have h2 := RLL.length es (fun e he => hk e (by simp [he])) hr
    have h3 := hk cs (by simp)
    simp [h1, h2, h3, Nat.add_mul]
    omega

/-- The same data, nothing of it owned. -/
def shC : C → C
  | .v x => .v x
  | .sl _ E es => .sl false E (shLL es)
where
  shL : List C → List C
  | [] => []
  | c :: cs => shC c :: shL cs
  shLL : List (List C) → List (List C)
  | [] => []
  | e :: es => shL e :: shLL es

theorem shL_map : ∀ cs : List C, shC.shL cs = cs.map shC
  | [] => rfl
  | c :: cs => by simp [shC.shL, shL_map cs]
theorem shLL_map : ∀ es : List (List C), shC.shLL es = es.map (List.map shC)
  | [] => rfl
  | e :: es => by simp [shC.shLL, shL_map e, shLL_map es]
theorem shC_sl (o : Bool) (E : TypeId) (es : List (List C)) : shC (.sl o E es) = .sl false E (es.map (List.map shC)) := by simp [shC, shLL_map]

theorem cell_row {g : Nat} {cur : Array Value} {E : TypeId} {fr : Nat × Nat} (hg : w.heap[g]? = some (.cells cur E fr)) (k : Nat) : w.cell? ((⟨g, 0, none⟩ : Addr).add k) = cur[k]? := by
  have : (⟨g, 0, none⟩ : Addr).add k = ⟨g, k, none⟩ := by unfold Addr.add; split <;> simp_all
  rw [this]
  simp [World.cell?, hg]

mutual
theorem RC.share : ∀ (c : C) {y : Value} {bs : List Nat} (_ : RC P w Z c y bs), RC P w (fun b => Z b ∨ b ∈ bs) (shC c) y []
  | .v x, y, bs, h => by simp only [RC, shC] at h ⊢; exact ⟨h.1, h.2.1, trivial⟩
  | .sl o E es, y, bs, h => by
    simp only [RC, shC] at h ⊢
    rcases h with ⟨h1, h2, h3⟩ | ⟨ad, cap, vs, ho, hb, hy, h1, h2, hz, hc, hl, hr⟩ | ⟨g, cap, cur, bs', ho, hb, hy, h1, h2, hg, hs, hl, hr⟩
    · exact .inl ⟨h1, by subst h2; rfl, trivial⟩
    · subst hb
      have hsh := RLL.share es hr
      refine .inr (.inl ⟨ad, cap, vs, trivial, trivial, by rw [hy, shLL_map]; simp, by rw [shLL_map]; simpa using h1, h2, ?_, hc, ?_, RLL.mono (fun b hb => hb) _ (fun b hb => rfl) hsh⟩)
      · rcases hz with rfl | hz
        · exact .inl rfl
        · exact .inr (.inl hz)
      · rw [shLL_map]; simpa using hl
    · subst hb
      have hsh := RLL.share es hr
      refine .inr (.inl ⟨⟨g, 0, none⟩, cap, _, trivial, trivial, by rw [hy, shLL_map]; simp, by rw [shLL_map]; simpa using h1, h2, .inr (.inr (by simp)), ?_, ?_,
        RLL.mono (fun b hb => hb.imp id (by intro hb; simp [hb])) _ (fun b hb => rfl) hsh⟩)
      · intro k x hx
        rw [cell_row hg]
        rw [List.getElem?_take] at hx
        split at hx
        · simpa using hx
        · cases hx
      · rw [shLL_map]; simpa using hl
theorem RL.share : ∀ (cs : List C) {vs : List Value} {bs : List Nat} (_ : RL P w Z cs vs bs), RL P w (fun b => Z b ∨ b ∈ bs) (shC.shL cs) vs []
  | [], _, _, h => by simpa [RL, shC.shL] using h.1
  | c :: cs, vs, bs, h => by
    simp only [RL, shC.shL] at h ⊢
    obtain ⟨y, vs', b1, b2, rfl, rfl, hc, hr⟩ := h
    exact ⟨y, vs', [], [], rfl, rfl, RC.mono (fun b hb => hb.imp id (by intro hb; simp [hb])) _ (fun b hb => rfl) (RC.share c hc),
      RL.mono (fun b hb => hb.imp id (by intro hb; simp [hb])) _ (fun b hb => rfl) (RL.share cs hr)⟩
theorem RLL.share : ∀ (es : List (List C)) {vs : List Value} {bs : List Nat} (_ : RLL P w Z es vs bs), RLL P w (fun b => Z b ∨ b ∈ bs) (shC.shLL es) vs []
  | [], _, _, h => by simpa [RLL, shC.shLL] using h.1
  | cs :: es, vs, bs, h => by
    simp only [RLL, shC.shLL] at h ⊢
    obtain ⟨v1, v2, b1, b2, rfl, rfl, hc, hr⟩ := h
    exact ⟨v1, v2, [], [], rfl, rfl, RL.mono (fun b hb => hb.imp id (by intro hb; simp [hb])) _ (fun b hb => rfl) (RL.share cs hc),
      RLL.mono (fun b hb => hb.imp id (by intro hb; simp [hb])) _ (fun b hb => rfl) (RLL.share es hr)⟩
end

/-- The owned blocks are there. -/
theorem block_lt {b : Nat} {o : Obj} (h : w.heap[b]? = some o) : b < w.heap.size := (Array.getElem?_eq_some_iff.1 h).1

mutual
theorem RC.lt : ∀ (c : C) {y : Value} {bs : List Nat} (_ : RC P w Z c y bs), ∀ b ∈ bs, b < w.heap.size
  | .v x, y, bs, h => by simp only [RC] at h; simp [h.2.2]
  | .sl o E es, y, bs, h => by
    simp only [RC] at h
    rcases h with ⟨_, _, rfl⟩ | ⟨_, _, _, _, rfl, _⟩ | ⟨g, cap, cur, bs', ho, rfl, hy, h1, h2, hg, hs, hl, hr⟩
    · simp
    · simp
    · intro b hb
      rcases List.mem_cons.1 hb with rfl | hb
      · exact block_lt hg
      · exact RLL.lt es hr b hb
theorem RL.lt : ∀ (cs : List C) {vs : List Value} {bs : List Nat} (_ : RL P w Z cs vs bs), ∀ b ∈ bs, b < w.heap.size
  | [], _, _, h => by simp only [RL] at h; simp [h.2]
  | c :: cs, vs, bs, h => by
    simp only [RL] at h
    obtain ⟨y, vs', b1, b2, rfl, rfl, hc, hr⟩ := h
    intro b hb
    rcases List.mem_append.1 hb with hb | hb
    · exact RC.lt c hc b hb
    · exact RL.lt cs hr b hb
theorem RLL.lt : ∀ (es : List (List C)) {vs : List Value} {bs : List Nat} (_ : RLL P w Z es vs bs), ∀ b ∈ bs, b < w.heap.size
  | [], _, _, h => by simp only [RLL] at h; simp [h.2]
  | cs :: es, vs, bs, h => by
    simp only [RLL] at h
    obtain ⟨v1, v2, b1, b2, rfl, rfl, hc, hr⟩ := h
    intro b hb
    rcases List.mem_append.1 hb with hb | hb
    · exact RL.lt cs hc b hb
    · exact RLL.lt es hr b hb
end

end
end Go.Proofs.YtdclbbkkcngjnaaT

namespace Go.Proofs.YtdclbbkkcngjnaaT
open Go

inductive Dt where
  | one (c : C)
  | agg (cs : List C)

def RD (P : Program) (w : World) (Z : Nat → Prop) : Dt → Value → List Nat → Prop
  | .one c, y, bs => RC P w Z c y bs
  | .agg cs, y, bs => ∃ vs, y = .agg vs.toArray ∧ RL P w Z cs vs bs

/-- The parts of a tuple: 'none': taken out. -/
def RT (P : Program) (w : World) (Z : Nat → Prop) : List (Option Dt) → List Value → List Nat → Prop
  | [], ys, bs => ys = [] ∧ bs = []
  | none :: xs, ys, bs => ∃ y ys', ys = y :: ys' ∧ RT P w Z xs ys' bs
  | some x :: xs, ys, bs => ∃ y ys' b1 b2, ys = y :: ys' ∧ bs = b1 ++ b2 ∧ RD P w Z x y b1 ∧ RT P w Z xs ys' b2

/-- What is known of a temporary: 'd' own data · 'dv' the same, its value known · 'tup' results · 'box' the pointer to an own variable · 'bor' data borrowed of another one ·
'eq' the same value as another one · 'fld' the pointer to a cell of another one's variable · 'elt' the pointer to a cell of an element of another one's array · 'sp' a pointer to
cells that may be read · 'fn' a function with captured variables. -/
inductive Ent where
  | d (x : Dt)
  | dv (y : Value) (x : Dt)
  | tup (xs : List (Option Dt))
  | box (T : TypeId) (cs : List C)
  | bor (r : Nat) (x : Dt)
  | eq (r : Nat)
  | fld (r k : Nat)
  | elt (r E i k : Nat)
  | sp (r : Option Nat) (cs : List C)
  | fn (f : FuncId) (caps : List Nat)

def zr (Z : Nat → Prop) (β : Nat → List Nat) : Option Nat → Nat → Prop
  | none, b => Z b
  | some r, b => Z b ∨ b ∈ β r

def EntOk (P : Program) (w : World) (Z : Nat → Prop) (β : Nat → List Nat) (ev : Nat → Value) (t : Nat) : Ent → Prop
  | .d x => RD P w Z x (ev t) (β t)
  | .dv y x => ev t = y ∧ RD P w Z x (ev t) (β t)
  | .tup xs => ∃ ys, ev t = .tuple ys.toArray ∧ RT P w Z xs ys (β t)
  | .box T cs => ∃ b vs bs, ev t = .pointer (some ⟨b, 0, none⟩) ∧ w.heap[b]? = some (.cells vs T (0, 0)) ∧ RL P w Z cs vs.toList bs ∧ β t = b :: bs
  | .bor r x => RD P w (zr Z β (some r)) x (ev t) []
  | .eq r => ev t = ev r
  | .fld r k => ∃ b, ev r = .pointer (some ⟨b, 0, none⟩) ∧ ev t = .pointer (some ⟨b, k, none⟩)
  | .elt r E i k => ∃ g n cap, ev r = .slice (some ⟨g, 0, none⟩) n cap ∧ ev t = .pointer (some ⟨g, i * szOf P E + k, none⟩)
  | .sp r cs => ∃ ad vs, ev t = .pointer (some ad) ∧ (∀ k x, vs[k]? = some x → w.cell? (ad.add k) = some x) ∧ RL P w (zr Z β r) cs vs [] ∧ (cs = [] ∨ zr Z β r ad.block)
  | .fn f caps => ev t = .func (.func f) #[] (caps.map ev).toArray

def Ent.hdep : Ent → Nat → Bool
  | .bor r _, t => Nat.beq r t
  | .eq r, t => Nat.beq r t
  | .fld r _, t => Nat.beq r t
  | .elt r _ _ _, t => Nat.beq r t
  | .sp (some r) _, t => Nat.beq r t
  | .fn _ caps, t => caps.any (Nat.beq t)
  | _, _ => false
def Ent.sdep : Ent → Nat → Bool
  | .bor r _, t => Nat.beq r t
  | .sp (some r) _, t => Nat.beq r t
  | _, _ => false

abbrev Ctx := Nat → Option Ent

/-- One change of what is known; 'hard': the temporary's value turns; else only what stands behind it. -/
structure Up where
  t : Nat
  hard : Bool
  e : Option Ent

def look : List Up → Nat → Option Up
  | [], _ => none
  | p :: δ, u => bif Nat.beq p.t u then some p else look δ u
def hit : List Up → Ent → Bool
  | [], _ => false
  | p :: δ, e => (bif p.hard then e.hdep p.t else e.sdep p.t) || hit δ e
def upd (Γ : Ctx) (δ : List Up) : Ctx := fun u => match look δ u with
  | some p => p.e
  | none => match Γ u with
    | some e => bif hit δ e then none else some e
    | none => none

theorem look_t {δ : List Up} {u : Nat} {p : Up} (h : look δ u = some p) : p.t = u := by
  induction δ with
  | nil => simp [look] at h
  | cons q δ ih =>
    simp only [look] at h
    cases hb : Nat.beq q.t u with
    | true => rw [hb] at h; simp at h; subst h; exact Nat.eq_of_beq_eq_true hb
    | false => rw [hb] at h; exact ih h

theorem hit_none {δ : List Up} {e : Ent} (h : hit δ e = false) : ∀ r, (e.hdep r = true → (look δ r = none ∨ ∃ p, look δ r = some p ∧ p.hard = false)) ∧ (e.sdep r = true → look δ r = none) := by
  induction δ with
  | nil => intro r; simp [look]
  | cons q δ ih =>
    intro r
    simp only [hit, Bool.or_eq_false_iff] at h
    obtain ⟨h1, h2⟩ := h
    have hr := ih h2 r
    simp only [look]
    cases hb : Nat.beq q.t r with
    | false => simpa using hr
    | true =>
      have hq : q.t = r := Nat.eq_of_beq_eq_true hb
      subst hq
      cases hh : q.hard with
      | true =>
        rw [hh] at h1
        simp at h1
        refine ⟨by simp [h1], fun hs => ?_⟩
        have : e.hdep q.t = true := by cases e <;> simp_all [Ent.hdep, Ent.sdep]; rename_i r _; cases r <;> simp_all
        simp [h1] at this
      | false =>
        rw [hh] at h1
        simp at h1
        exact ⟨fun _ => .inr ⟨q, by simp, hh⟩, by simp [h1]⟩

structure Evo (w0 w : World) (M : List Nat) : Prop where
  os : w.os = w0.os
  tape : w.tape = w0.tape
  output : w.output = w0.output
  size : w0.heap.size ≤ w.heap.size
  block : ∀ b, b < w0.heap.size → b ∉ M → w.heap[b]? = w0.heap[b]?

theorem Evo.refl (w : World) (M : List Nat) : Evo w w M := ⟨rfl, rfl, rfl, Nat.le_refl _, fun _ _ _ => rfl⟩
theorem Evo.trans {a b c : World} {M N : List Nat} (h : Evo a b M) (k : Evo b c N) (hN : ∀ x, x ∈ N → x ∈ M ∨ a.heap.size ≤ x) : Evo a c M :=
  ⟨k.os.trans h.os, k.tape.trans h.tape, k.output.trans h.output, Nat.le_trans h.size k.size, fun x hx hM =>
    (k.block x (Nat.lt_of_lt_of_le hx h.size) (fun hx' => by rcases hN x hx' with h' | h'; exact hM h'; omega)).trans (h.block x hx hM)⟩

/-- What a call begins with: the world, the blocks that were handed over, the zone that may be read, how many temporaries there are. -/
structure Fr where
  w0 : World
  M : List Nat
  Z0 : Nat → Prop
  n : Nat
  γ : Nat → Value

def ev (n : Nat) (a : Act) (γ : Nat → Value) (t : Nat) : Value := if t < n then a.tmps.getD t undef else γ t

structure Core (P : Program) (fr : Fr) (Γ : Ctx) (a : Act) (w : World) (Z : Nat → Prop) (β : Nat → List Nat) (γ : Nat → Value) : Prop where
  gh : γ = fr.γ
  defers : a.defers = []
  size : a.tmps.size = fr.n
  evo : Evo fr.w0 w fr.M
  zlt : ∀ b, Z b → b < w.heap.size
  zin : ∀ b, fr.Z0 b → Z b
  znew : ∀ b, Z b → fr.Z0 b ∨ fr.w0.heap.size ≤ b ∨ b ∈ fr.M
  own : ∀ t b, b ∈ β t → b < w.heap.size ∧ ¬ Z b ∧ (fr.w0.heap.size ≤ b ∨ b ∈ fr.M)
  nodup : ∀ t, (β t).Nodup
  disj : ∀ t u b, t ≠ u → b ∈ β t → b ∉ β u
  ent : ∀ t e, Γ t = some e → EntOk P w Z β (ev fr.n a γ) t e

def St (P : Program) (fr : Fr) (Γ : Ctx) (a : Act) (w : World) : Prop := ∃ Z β γ, Core P fr Γ a w Z β γ

section
variable {P : Program} {w w' : World} {Z Z' : Nat → Prop} {β β' : Nat → List Nat} {ev' ev'' : Nat → Value}

theorem RD.mono (hZ : ∀ b, Z b → Z' b) {x : Dt} {y : Value} {bs : List Nat} (hw : ∀ b, Z b ∨ b ∈ bs → w'.heap[b]? = w.heap[b]?) (h : RD P w Z x y bs) : RD P w' Z' x y bs := by
  cases x with
  | one c => exact RC.mono hZ c hw h
  | agg cs => obtain ⟨vs, hy, hr⟩ := h; exact ⟨vs, hy, RL.mono hZ cs hw hr⟩

theorem RT.mono (hZ : ∀ b, Z b → Z' b) : ∀ (xs : List (Option Dt)) {ys : List Value} {bs : List Nat} (_ : ∀ b, Z b ∨ b ∈ bs → w'.heap[b]? = w.heap[b]?) (_ : RT P w Z xs ys bs), RT P w' Z' xs ys bs
  | [], _, _, _, h => h
  | none :: xs, ys, bs, hw, h => by
    obtain ⟨y, ys', rfl, hr⟩ := h
    exact ⟨y, ys', rfl, RT.mono hZ xs hw hr⟩
  | some x :: xs, ys, bs, hw, h => by
    obtain ⟨y, ys', b1, b2, rfl, rfl, hc, hr⟩ := h
    exact ⟨y, ys', b1, b2, rfl, rfl, RD.mono hZ (fun b hb => hw b (hb.imp id (by simp_all))) hc, RT.mono hZ xs (fun b hb => hw b (hb.imp id (by simp_all))) hr⟩

theorem EntOk.mono {t : Nat} {e : Ent} (h : EntOk P w Z β ev' t e) (hZ : ∀ b, Z b → Z' b) (hb : β' t = β t) (he : ev'' t = ev' t)
    (hd : ∀ r, e.hdep r = true → ev'' r = ev' r) (hs : ∀ r, e.sdep r = true → β' r = β r)
    (hw : ∀ b, (Z b ∨ b ∈ β t ∨ ∃ r, e.sdep r = true ∧ b ∈ β r) → w'.heap[b]? = w.heap[b]?) : EntOk P w' Z' β' ev'' t e := by
  have hzr : ∀ r : Option Nat, (∀ q, r = some q → e.sdep q = true) → ∀ b, zr Z β r b → zr Z' β' r b := by
    intro r hr b hz
    cases r with
    | none => exact hZ b hz
    | some q => exact hz.imp (hZ b) (by rw [hs q (hr q rfl)]; exact id)
  cases e with
  | d x => simp only [EntOk] at h ⊢; rw [hb, he]; exact RD.mono hZ (fun b hb' => hw b (by rcases hb' with h | h; exact .inl h; exact .inr (.inl h))) h
  | dv y x => simp only [EntOk] at h ⊢; rw [hb, he]; exact ⟨h.1, RD.mono hZ (fun b hb' => hw b (by rcases hb' with h | h; exact .inl h; exact .inr (.inl h))) h.2⟩
  | tup xs =>
    simp only [EntOk] at h ⊢
    rw [hb, he]
    obtain ⟨ys, hy, hr⟩ := h
    exact ⟨ys, hy, RT.mono hZ xs (fun b hb' => hw b (by rcases hb' with h | h; exact .inl h; exact .inr (.inl h))) hr⟩
  | box T cs =>
    simp only [EntOk] at h ⊢
    rw [hb, he]
    obtain ⟨b, vs, bs, h1, h2, h3, h4⟩ := h
    exact ⟨b, vs, bs, h1, (hw b (.inr (.inl (by simp [h4])))).trans h2, RL.mono hZ cs (fun b' hb' => hw b' (by rcases hb' with h | h; exact .inl h; exact .inr (.inl (by simp [h4, h])))) h3, h4⟩
  | bor r x =>
    simp only [EntOk] at h ⊢
    rw [he]
    exact RD.mono (hzr (some r) (by rintro q ⟨rfl⟩; simp [Ent.sdep])) (fun b hb' => hw b (by
      rcases hb' with h | h
      · rcases h with h | h
        · exact .inl h
        · exact .inr (.inr ⟨r, by simp [Ent.sdep], h⟩)
      · simp at h)) h
  | eq r => simp only [EntOk] at h ⊢; rw [he, hd r (by simp [Ent.hdep])]; exact h
  | fld r k => simp only [EntOk] at h ⊢; rw [he, hd r (by simp [Ent.hdep])]; exact h
  | elt r E i k => simp only [EntOk] at h ⊢; rw [he, hd r (by simp [Ent.hdep])]; exact h
  | sp r cs =>
    simp only [EntOk] at h ⊢
    rw [he]
    have hq : ∀ q, r = some q → (Ent.sp r cs).sdep q = true := by rintro q rfl; simp [Ent.sdep]
    obtain ⟨ad, vs, h1, h2, h3, h4⟩ := h
    have hblk : ∀ b, zr Z β r b → w'.heap[b]? = w.heap[b]? := by
      intro b hz
      cases r with
      | none => exact hw b (.inl hz)
      | some q =>
        rcases hz with hz | hz
        · exact hw b (.inl hz)
        · exact hw b (.inr (.inr ⟨q, hq q rfl, hz⟩))
    refine ⟨ad, vs, h1, ?_, RL.mono (hzr r hq) cs (fun b hb' => hblk b (by simpa using hb')) h3, h4.imp id (hzr r hq _)⟩
    intro k x hx
    rcases h4 with rfl | h4
    · have := RL.length [] h3
      simp at this
      simp [this] at hx
    · have hk : w'.cell? (ad.add k) = w.cell? (ad.add k) := cell_of_block (by rw [add_block]; exact hblk _ h4)
      exact hk.trans (h2 k x hx)
  | fn f caps =>
    simp only [EntOk] at h ⊢
    rw [he, h]
    congr 2
    refine List.map_congr_left (fun r hr => (hd r ?_).symm)
    simp only [Ent.hdep, List.any_eq_true]
    exact ⟨r, hr, by simp⟩

theorem Core.turn {fr : Fr} {Γ : Ctx} {a a' : Act} {γ : Nat → Value} (h : Core P fr Γ a w Z β γ) (δ : List Up)
    (hdef : a'.defers = []) (hsize : a'.tmps.size = fr.n) (hevo : Evo fr.w0 w' fr.M) (hzlt : ∀ b, Z' b → b < w'.heap.size)
    (hZ : ∀ b, Z b → Z' b ∧ w'.heap[b]? = w.heap[b]?) (hznew : ∀ b, Z' b → fr.Z0 b ∨ fr.w0.heap.size ≤ b ∨ b ∈ fr.M)
    (hown : ∀ t b, b ∈ β' t → b < w'.heap.size ∧ ¬ Z' b ∧ (fr.w0.heap.size ≤ b ∨ b ∈ fr.M)) (hnodup : ∀ t, (β' t).Nodup) (hdisj : ∀ t u b, t ≠ u → b ∈ β' t → b ∉ β' u)
    (hev : ∀ u, (look δ u = none ∨ ∃ p, look δ u = some p ∧ p.hard = false) → ev fr.n a' γ u = ev fr.n a γ u)
    (hβ : ∀ u, look δ u = none → β' u = β u) (hblk : ∀ u, look δ u = none → ∀ b, b ∈ β u → w'.heap[b]? = w.heap[b]?)
    (hnew : ∀ u p e, look δ u = some p → p.e = some e → EntOk P w' Z' β' (ev fr.n a' γ) u e) :
    Core P fr (upd Γ δ) a' w' Z' β' γ where
  gh := h.gh
  defers := hdef
  size := hsize
  evo := hevo
  zlt := hzlt
  zin := fun b hb => (hZ b (h.zin b hb)).1
  znew := hznew
  own := hown
  nodup := hnodup
  disj := hdisj
  ent := by
    intro t e ht
    unfold upd at ht
    cases hl : look δ t with
    | some p => rw [hl] at ht; exact hnew t p e hl ht
    | none =>
      rw [hl] at ht
      simp only at ht
      cases hg : Γ t with
      | none => rw [hg] at ht; simp at ht
      | some e0 =>
        rw [hg] at ht
        simp only at ht
        cases hh : hit δ e0 with
        | true => rw [hh] at ht; simp at ht
        | false =>
          rw [hh] at ht
          simp at ht
          subst ht
          have hn := hit_none hh
          refine (h.ent t e0 hg).mono (fun b hb => (hZ b hb).1) (hβ t hl) (hev t (.inl hl)) (fun r hr => hev r ((hn r).1 hr)) (fun r hr => hβ r ((hn r).2 hr)) ?_
          rintro b (hb | hb | ⟨r, hr, hb⟩)
          · exact (hZ b hb).2
          · exact hblk t hl b hb
          · exact hblk r ((hn r).2 hr) b hb
end
end Go.Proofs.YtdclbbkkcngjnaaT

namespace Go.Proofs.YtdclbbkkcngjnaaT
open Go
variable {P : Program} {fr : Fr}

/-! ### Reading operands -/
def plainC : C → Bool
  | .v _ => true
  | .sl o _ _ => !o
def plain : Dt → Bool
  | .one c => plainC c
  | .agg cs => cs.all plainC

section
variable {w : World} {Z : Nat → Prop}
theorem plainC_nil {c : C} {y : Value} {bs : List Nat} (hp : plainC c = true) (h : RC P w Z c y bs) : bs = [] := by
  cases c with
  | v x => simp only [RC] at h; exact h.2.2
  | sl o E es =>
    simp only [RC] at h
    simp [plainC] at hp
    subst hp
    rcases h with ⟨_, _, rfl⟩ | ⟨_, _, _, _, rfl, _⟩ | ⟨_, _, _, _, h, _⟩
    · rfl
    · rfl
    · cases h
theorem plainL_nil : ∀ (cs : List C) {vs : List Value} {bs : List Nat} (_ : cs.all plainC = true) (_ : RL P w Z cs vs bs), bs = []
  | [], _, _, _, h => by simp only [RL] at h; exact h.2
  | c :: cs, vs, bs, hp, h => by
    simp only [RL] at h
    obtain ⟨y, vs', b1, b2, rfl, rfl, hc, hr⟩ := h
    simp only [List.all_cons, Bool.and_eq_true] at hp
    simp [plainC_nil hp.1 hc, plainL_nil cs hp.2 hr]
theorem plain_nil {x : Dt} {y : Value} {bs : List Nat} (hp : plain x = true) (h : RD P w Z x y bs) : bs = [] := by
  cases x with
  | one c => exact plainC_nil hp h
  | agg cs => obtain ⟨vs, _, hr⟩ := h; exact plainL_nil cs hp hr
end

/-- An operand as data that may be read; and whom it is borrowed of. -/
def vwr (n : Nat) (Γ : Ctx) : Operand → Option (Option Nat × Dt)
  | .tmp t => bif Nat.blt t n then
      match Γ t with
      | some (.d x) => bif plain x then some (none, x) else none
      | some (.dv _ x) => bif plain x then some (none, x) else none
      | some (.bor r x) => some (some r, x)
      | _ => none
    else none
  | .const v => bif v.oneCell' then some (none, .one (.v v)) else none
  | _ => none

theorem eval_ev {fr : Fr} {a : Act} {γ : Nat → Value} {t : Nat} (h : Nat.blt t fr.n = true) : a.eval (.tmp t) = ev fr.n a γ t := by
  have : t < fr.n := by simpa [Nat.blt_eq] using h
  simp [Act.eval, ev, this]

theorem vwr_ok {Γ : Ctx} {a : Act} {w : World} {Z : Nat → Prop} {β : Nat → List Nat} {γ : Nat → Value} (h : Core P fr Γ a w Z β γ) {x : Operand} {r : Option Nat} {X : Dt}
    (hv : vwr fr.n Γ x = some (r, X)) : RD P w (zr Z β r) X (a.eval x) [] := by
  cases x with
  | tmp t =>
    simp only [vwr] at hv
    cases ht : Nat.blt t fr.n with
    | false => rw [ht] at hv; simp at hv
    | true =>
      rw [ht] at hv
      simp only [cond_true] at hv
      rw [eval_ev (γ := γ) ht]
      cases hg : Γ t with
      | none => rw [hg] at hv; simp at hv
      | some e =>
        have he := h.ent t e hg
        rw [hg] at hv
        cases e with
        | d x =>
          simp only at hv
          cases hp : plain x with
          | false => rw [hp] at hv; simp at hv
          | true =>
            rw [hp] at hv
            simp at hv
            obtain ⟨rfl, rfl⟩ := hv
            simp only [EntOk] at he
            have := plain_nil hp he
            rw [this] at he
            exact he
        | dv y x =>
          simp only at hv
          cases hp : plain x with
          | false => rw [hp] at hv; simp at hv
          | true =>
            rw [hp] at hv
            simp at hv
            obtain ⟨rfl, rfl⟩ := hv
            simp only [EntOk] at he
            have := plain_nil hp he.2
            rw [this] at he
            exact he.2
        | bor q x =>
          simp at hv
          obtain ⟨rfl, rfl⟩ := hv
          exact he
        | tup _ => simp at hv
        | box _ _ => simp at hv
        | eq _ => simp at hv
        | fld _ _ => simp at hv
        | elt _ _ _ _ => simp at hv
        | sp _ _ => simp at hv
        | fn _ _ => simp at hv
  | const v =>
    simp only [vwr] at hv
    cases hp : v.oneCell' with
    | false => rw [hp] at hv; simp at hv
    | true =>
      rw [hp] at hv
      simp at hv
      obtain ⟨rfl, rfl⟩ := hv
      simp [RD, RC, Act.eval, hp]
  | global g => simp [vwr] at hv
  | func f => simp [vwr] at hv

/-- An operand as a plain value. -/
def vs (n : Nat) (Γ : Ctx) (x : Operand) : Option Value :=
  match vwr n Γ x with
  | some (_, .one (.v v)) => some v
  | _ => none

theorem vs_ok {Γ : Ctx} {a : Act} {w : World} {Z : Nat → Prop} {β : Nat → List Nat} {γ : Nat → Value} (h : Core P fr Γ a w Z β γ) {x : Operand} {v : Value}
    (hv : vs fr.n Γ x = some v) : a.eval x = v := by
  unfold vs at hv
  split at hv
  · rename_i r u hq
    simp at hv
    subst hv
    have := vwr_ok h hq
    simp only [RD, RC] at this
    exact this.1
  · cases hv

/-! ### One operation -/
/-- The operation 'o', where E is known (and more may be), turns what is known by δ. -/
def LA (P : Program) (fr : Fr) (E : Ctx) (o : Oper) (δ : List Up) : Prop :=
  ∀ Γ : Ctx, (∀ t e, E t = some e → Γ t = some e) → ∀ a w (K : Act → World → Prop) Q, St P fr Γ a w → (∀ a' w', St P fr (upd Γ δ) a' w' → K a' w') → o.wp P a w K Q

theorem wp_of_run {o : Oper} {a : Act} {w w' : World} {v : Value} {K : Act → World → Prop} {Q : Exit → Act → World → Prop}
    (h : (execOp a.eval o).run P w = .ok (.value v) w') (hk : K (a.put o.dst v) w') : o.wp P a w K Q := by
  unfold Oper.wp
  rw [h]
  exact hk

def E_le (E Γ : Ctx) : Prop := ∀ t e, E t = some e → Γ t = some e

theorem vwr_le {n : Nat} {E Γ : Ctx} (hle : E_le E Γ) {x : Operand} {q : Option Nat × Dt} (h : vwr n E x = some q) : vwr n Γ x = some q := by
  cases x with
  | tmp t =>
    simp only [vwr] at h ⊢
    cases ht : Nat.blt t n with
    | false => rw [ht] at h; simp at h
    | true =>
      rw [ht] at h
      simp only [cond_true] at h ⊢
      cases hg : E t with
      | none => rw [hg] at h; simp at h
      | some e => rw [hg] at h; rw [hle t e hg]; exact h
  | const v => exact h
  | global g => exact h
  | func f => exact h
theorem vs_le {n : Nat} {E Γ : Ctx} (hle : E_le E Γ) {x : Operand} {v : Value} (h : vs n E x = some v) : vs n Γ x = some v := by
  unfold vs at h ⊢
  cases hq : vwr n E x with
  | none => rw [hq] at h; simp at h
  | some q => rw [hq] at h; rw [vwr_le hle hq]; exact h

theorem ev_put {n : Nat} {a : Act} {γ : Nat → Value} {t : Nat} {v : Value} (hs : a.tmps.size = n) (ht : Nat.blt t n = true) (u : Nat) :
    ev n (a.put (some t) v) γ u = if u = t then v else ev n a γ u := by
  have ht' : t < n := by simpa [Nat.blt_eq] using ht
  unfold ev
  by_cases hu : u = t
  · subst hu
    simp [ht', Act.put, hs]
  · simp only [hu, if_false]
    by_cases hn : u < n
    · simp only [hn, if_true, Act.put]
      simp [Array.getD_eq_getD_getElem?, Array.getElem?_setIfInBounds_ne (Ne.symm hu)]
    · simp [hn]

/-- What an operation that only computes leaves: one entry that owns nothing. -/
theorem LA.val {E : Ctx} {o : Oper} {t : Nat} {e : Ent} (hd : o.dst = some t) (ht : Nat.blt t fr.n = true)
    (hrun : ∀ (Γ : Ctx) a w Z β γ, E_le E Γ → Core P fr Γ a w Z β γ → ∃ v, (execOp a.eval o).run P w = .ok (.value v) w ∧
      ∀ β' ev', β' t = [] → (∀ u, u ≠ t → β' u = β u) → ev' t = v → (∀ u, u ≠ t → ev' u = ev fr.n a γ u) → EntOk P w Z β' ev' t e) :
    LA P fr E o [⟨t, true, some e⟩] := by
  intro Γ hle a w K Q ⟨Z, β, γ, h⟩ hk
  obtain ⟨v, hr, he⟩ := hrun Γ a w Z β γ hle h
  refine wp_of_run hr (hk _ _ ⟨Z, fun u => if u = t then [] else β u, γ, ?_⟩)
  rw [hd]
  have hlook : ∀ u, look [⟨t, true, some e⟩] u = if u = t then some ⟨t, true, some e⟩ else none := by
    intro u
    simp only [look]
    by_cases hu : u = t
    · subst hu; simp
    · have : Nat.beq t u = false := by
        cases hb : Nat.beq t u with
        | false => rfl
        | true => exact absurd (Nat.eq_of_beq_eq_true hb).symm hu
      simp [this, hu]
  refine h.turn _ (by simpa [Act.put] using h.defers) (by simpa [Act.put] using h.size) h.evo h.zlt (fun b hb => ⟨hb, rfl⟩) h.znew ?_ ?_ ?_ ?_ ?_ ?_ ?_
  · intro u b hb
    by_cases hu : u = t
    · simp [hu] at hb
    · simp only [hu, if_false] at hb; exact h.own u b hb
  · intro u
    by_cases hu : u = t
    · simp [hu]
    · simp only [hu, if_false]; exact h.nodup u
  · intro u u' b hne hb
    by_cases hu : u = t
    · simp [hu] at hb
    · simp only [hu, if_false] at hb
      by_cases hu' : u' = t
      · simp [hu']
      · simp only [hu', if_false]; exact h.disj u u' b hne hb
  · intro u hu
    rw [ev_put h.size ht]
    rw [hlook] at hu
    by_cases hut : u = t
    · simp [hut] at hu
    · simp [hut]
  · intro u hu
    rw [hlook] at hu
    by_cases hut : u = t
    · simp [hut] at hu
    · simp [hut]
  · intro u _ b _; rfl
  · intro u p e' hl hp
    rw [hlook] at hl
    by_cases hut : u = t
    · subst hut
      simp at hl
      subst hl
      simp at hp
      subst hp
      exact he _ _ (by simp) (fun u hu => by simp [hu]) (by rw [ev_put h.size ht]; simp) (fun u hu => by rw [ev_put h.size ht]; simp [hu])
    · simp [hut] at hl

/-- A plain value. -/
theorem LA.scal {E : Ctx} {o : Oper} {t : Nat} {v : Value} (hd : o.dst = some t) (ht : Nat.blt t fr.n = true) (h1 : v.oneCell' = true)
    (hrun : ∀ (Γ : Ctx) a w Z β γ, E_le E Γ → Core P fr Γ a w Z β γ → (execOp a.eval o).run P w = .ok (.value v) w) :
    LA P fr E o [⟨t, true, some (.d (.one (.v v)))⟩] :=
  LA.val hd ht fun Γ a w Z β γ hle h => ⟨v, hrun Γ a w Z β γ hle h, fun β' ev' hb _ hv _ => by simp [EntOk, RD, RC, hb, hv, h1]⟩

theorem run_mv {ρ : Operand → Value} {o : Oper} {x : Operand} (h : o.op = .move x ∨ o.op = .assign x) (w : World) : (execOp ρ o).run P w = .ok (.value (ρ x)) w := by
  rcases h with h | h <;> (unfold execOp; rw [h]; rfl)

/-- A copy. -/
def cp (n : Nat) (Γ : Ctx) : Operand → Option Ent
  | .tmp t => bif Nat.blt t n then
      match Γ t with
      | some (.d x) => some (bif plain x then .d x else .eq t)
      | some (.dv y x) => some (bif plain x then .dv y x else .eq t)
      | some (.tup _) => some (.eq t)
      | some (.box _ _) => some (.eq t)
      | some e => some e
      | none => none
    else none
  | .const v => bif v.oneCell' then some (.d (.one (.v v))) else none
  | .func f => some (.fn f [])
  | _ => none

theorem la_mv {E : Ctx} {o : Oper} {x : Operand} {t : Nat} {e : Ent} (ho : o.op = .move x ∨ o.op = .assign x) (hd : o.dst = some t) (ht : Nat.blt t fr.n = true)
    (hx : cp fr.n E x = some e) (hne : e.hdep t = false) : LA P fr E o [⟨t, true, some e⟩] := by
  refine LA.val hd ht fun Γ a w Z β γ hle h => ⟨a.eval x, run_mv ho w, fun β' ev' hb hb' hv hv' => ?_⟩
  have hz : ∀ r : Option Nat, r ≠ some t → ∀ b, zr Z β r b ↔ zr Z β' r b := by
    intro r hr b
    cases r with
    | none => rfl
    | some q => simp only [zr]; rw [hb' q (fun e => hr (by rw [e]))]
  cases x with
  | const v =>
    simp only [cp] at hx
    cases hp : v.oneCell' with
    | false => rw [hp] at hx; simp at hx
    | true =>
      rw [hp] at hx
      simp at hx
      subst hx
      simp [EntOk, RD, RC, hb, hv, Act.eval, hp]
  | func f =>
    simp [cp] at hx
    subst hx
    simp only [EntOk, hv]
    rfl
  | global g => simp [cp] at hx
  | tmp s =>
    simp only [cp] at hx
    cases hs : Nat.blt s fr.n with
    | false => rw [hs] at hx; simp at hx
    | true =>
      rw [hs] at hx
      simp only [cond_true] at hx
      rw [eval_ev (γ := γ) hs] at hv
      cases hg : E s with
      | none => rw [hg] at hx; simp at hx
      | some e0 =>
        have he := h.ent s e0 (hle s e0 hg)
        rw [hg] at hx
        have heq : ∀ e, e = .eq s → e.hdep t = false → EntOk P w Z β' ev' t e := by
          rintro e rfl hne
          have hst : s ≠ t := by rintro rfl; simp [Ent.hdep] at hne
          simp only [EntOk]
          rw [hv, hv' s hst]
        cases e0 with
        | d x =>
          simp only at hx
          cases hp : plain x with
          | false => rw [hp] at hx; simp at hx; exact heq e hx.symm hne
          | true =>
            rw [hp] at hx
            simp at hx
            subst hx
            simp only [EntOk] at he ⊢
            rw [plain_nil hp he] at he
            rw [hb, hv]
            exact he
        | dv y x =>
          simp only at hx
          cases hp : plain x with
          | false => rw [hp] at hx; simp at hx; exact heq e hx.symm hne
          | true =>
            rw [hp] at hx
            simp at hx
            subst hx
            simp only [EntOk] at he ⊢
            rw [plain_nil hp he.2] at he
            rw [hb, hv]
            exact he
        | tup _ => simp at hx; exact heq e hx.symm hne
        | box _ _ => simp at hx; exact heq e hx.symm hne
        | bor r x =>
          simp at hx
          subst hx
          have hrt : r ≠ t := by rintro rfl; simp [Ent.hdep] at hne
          simp only [EntOk] at he ⊢
          rw [hv]
          exact RD.mono (fun b => (hz (some r) (by simpa using hrt) b).1) (fun _ _ => rfl) he
        | eq r =>
          simp at hx
          subst hx
          have hrt : r ≠ t := by rintro rfl; simp [Ent.hdep] at hne
          simp only [EntOk] at he ⊢
          rw [hv, hv' r hrt]
          exact he
        | fld r k =>
          simp at hx
          subst hx
          have hrt : r ≠ t := by rintro rfl; simp [Ent.hdep] at hne
          simp only [EntOk] at he ⊢
          rw [hv, hv' r hrt]
          exact he
        | elt r E' i k =>
          simp at hx
          subst hx
          have hrt : r ≠ t := by rintro rfl; simp [Ent.hdep] at hne
          simp only [EntOk] at he ⊢
          rw [hv, hv' r hrt]
          exact he
        | sp r cs =>
          simp at hx
          subst hx
          have hrt : r ≠ some t := by rintro rfl; simp [Ent.hdep] at hne
          simp only [EntOk] at he ⊢
          rw [hv]
          obtain ⟨ad, vs, h1, h2, h3, h4⟩ := he
          exact ⟨ad, vs, h1, h2, RL.mono (fun b => (hz r hrt b).1) cs (fun _ _ => rfl) h3, h4.imp id (hz r hrt _).1⟩
        | fn f caps =>
          simp at hx
          subst hx
          simp only [EntOk] at he ⊢
          rw [hv, he]
          congr 2
          refine List.map_congr_left (fun r hr => (hv' r ?_).symm)
          rintro rfl
          simp only [Ent.hdep, List.any_eq_false] at hne
          exact absurd (by simp) (hne r hr)

end Go.Proofs.YtdclbbkkcngjnaaT

namespace Go.Proofs.YtdclbbkkcngjnaaT
open Go
variable {P : Program} {fr : Fr}

/-! ### Plain values -/
def binV : BinOp → Value → Value → Option Value
  | op, .int .i64 a, .int .i64 b => match op with
    | .add => some (.int .i64 (IntKind.i64.wrap (a + b)))
    | .sub => some (.int .i64 (IntKind.i64.wrap (a - b)))
    | .mul => some (.int .i64 (IntKind.i64.wrap (a * b)))
    | .quo => if b = 0 then none else some (.int .i64 (IntKind.i64.wrap (a.tdiv b)))
    | .rem => if b = 0 then none else some (.int .i64 (a.tmod b))
    | .eql => some (.bool (a == b))
    | .neq => some (.bool (a != b))
    | .lss => some (.bool (decide (a < b)))
    | .leq => some (.bool (decide (a ≤ b)))
    | .gtr => some (.bool (decide (a > b)))
    | .geq => some (.bool (decide (a ≥ b)))
    | _ => none
  | op, .int .u8 a, .int .u8 b => match op with
    | .add => some (.int .u8 (IntKind.u8.wrap (a + b)))
    | .sub => some (.int .u8 (IntKind.u8.wrap (a - b)))
    | .rem => if b = 0 then none else some (.int .u8 (a.tmod b))
    | .eql => some (.bool (a == b))
    | .neq => some (.bool (a != b))
    | .lss => some (.bool (decide (a < b)))
    | .leq => some (.bool (decide (a ≤ b)))
    | .gtr => some (.bool (decide (a > b)))
    | .geq => some (.bool (decide (a ≥ b)))
    | _ => none
  | op, .string a, .string b => match op with
    | .eql => some (.bool (a.toList == b.toList))
    | .neq => some (.bool (!(a.toList == b.toList)))
    | .lss => some (.bool (Op.bytesLess a.toList b.toList))
    | .geq => some (.bool (!(Op.bytesLess a.toList b.toList)))
    | _ => none
  | _, _, _ => none

theorem run_bin {ρ : Operand → Value} {o : Oper} {op : BinOp} {T T' : TypeId} {x y : Operand} {r : Value} (ho : o.op = .binOp op T x y T') (h : binV op (ρ x) (ρ y) = some r) (w : World) :
    (execOp ρ o).run P w = .ok (.value r) w := by
  unfold execOp
  rw [ho]
  generalize hx : ρ x = u at h
  generalize hy : ρ y = v at h
  simp only [hx, hy]
  unfold binV at h
  split at h
  · cases op <;> simp_all [binOp, eqGuard, Op.intArith, Op.intDiv, Op.intCmp] <;> first | (rw [← h]; rfl) | (obtain ⟨h1, h2⟩ := h; simp [h1, ← h2]; rfl) | (subst h; rfl)
  · cases op <;> simp_all [binOp, eqGuard, Op.intArith, Op.intDiv, Op.intCmp] <;> first | (rw [← h]; rfl) | (obtain ⟨h1, h2⟩ := h; simp [h1, ← h2]; rfl) | (subst h; rfl)
  · cases op <;> simp_all [binOp, eqGuard, Op.stringOp] <;> first | (rw [← h]; rfl) | (subst h; rfl)
  · cases h

theorem binV_one {op : BinOp} {u v r : Value} (h : binV op u v = some r) : r.oneCell' = true := by
  unfold binV at h
  split at h <;> first
    | (cases op <;> simp at h <;> first | (rw [← h]; rfl) | (rw [← h.2]; rfl))
    | cases h

theorem la_bin {E : Ctx} {o : Oper} {t : Nat} {op : BinOp} {T T' : TypeId} {x y : Operand} {u v r : Value} (ho : o.op = .binOp op T x y T') (hd : o.dst = some t) (ht : Nat.blt t fr.n = true)
    (hx : vs fr.n E x = some u) (hy : vs fr.n E y = some v) (hb : binV op u v = some r) : LA P fr E o [⟨t, true, some (.d (.one (.v r)))⟩] :=
  LA.scal hd ht (binV_one hb) fun Γ a w Z β γ hle h => run_bin ho (by rw [vs_ok h (vs_le hle hx), vs_ok h (vs_le hle hy)]; exact hb) w

theorem la_not {E : Ctx} {o : Oper} {t : Nat} {T : TypeId} {x : Operand} {b : Bool} (ho : o.op = .unOp .not T x) (hd : o.dst = some t) (ht : Nat.blt t fr.n = true)
    (hx : vs fr.n E x = some (.bool b)) : LA P fr E o [⟨t, true, some (.d (.one (.v (.bool (!b)))))⟩] :=
  LA.scal hd ht rfl fun Γ a w Z β γ hle h => by
    unfold execOp
    rw [ho]
    simp only [vs_ok h (vs_le hle hx)]
    rfl

theorem la_neg {E : Ctx} {o : Oper} {t : Nat} {T : TypeId} {x : Operand} {i : Int} (ho : o.op = .unOp .neg T x) (hd : o.dst = some t) (ht : Nat.blt t fr.n = true)
    (hx : vs fr.n E x = some (.int .i64 i)) : LA P fr E o [⟨t, true, some (.d (.one (.v (.int .i64 (IntKind.i64.wrap (0 - i))))))⟩] :=
  LA.scal hd ht rfl fun Γ a w Z β γ hle h => by
    unfold execOp
    rw [ho]
    simp only [vs_ok h (vs_le hle hx)]
    rfl

theorem la_pick {E : Ctx} {o : Oper} {t : Nat} {c x y : Operand} {b r : Bool} (ho : o.op = .pick c x y) (hd : o.dst = some t) (ht : Nat.blt t fr.n = true)
    (hc : vs fr.n E c = some (.bool b)) (hx : b = true → vs fr.n E x = some (.bool r)) (hy : b = false → vs fr.n E y = some (.bool r)) : LA P fr E o [⟨t, true, some (.d (.one (.v (.bool r))))⟩] :=
  LA.scal hd ht rfl fun Γ a w Z β γ hle h => by
    unfold execOp
    rw [ho]
    simp only [vs_ok h (vs_le hle hc)]
    cases b with
    | true => simp [asBool, vs_ok h (vs_le hle (hx rfl))]
    | false => simp [asBool, vs_ok h (vs_le hle (hy rfl))]

/-- A byte out of a string. -/
def bt (s : ByteArray) (i : Int) : Int := if h : i.toNat < s.size then ((s[i.toNat]'h).toNat : Int) else 0

theorem la_index {E : Ctx} {o : Oper} {t : Nat} {T : TypeId} {x y : Operand} {s : ByteArray} {i : Int} (ho : o.op = .index T x y) (hd : o.dst = some t) (ht : Nat.blt t fr.n = true)
    (hT : P.underlying T = some .string) (hx : vs fr.n E x = some (.string s)) (hy : vs fr.n E y = some (.int .i64 i)) (h0 : 0 ≤ i) (h1 : i < (s.size : Int)) :
    LA P fr E o [⟨t, true, some (.d (.one (.v (.int .u8 (bt s i)))))⟩] :=
  LA.scal hd ht rfl fun Γ a w Z β γ hle h => by
    unfold execOp
    rw [ho]
    simp only [vs_ok h (vs_le hle hx), vs_ok h (vs_le hle hy)]
    have hlt : i.toNat < s.size := by omega
    simp [Instr.index, asIntOf, run_underlying hT, h0, bt, hlt]

theorem la_len {E : Ctx} {o : Oper} {t : Nat} {T E' : TypeId} {x : Operand} {r : Option Nat} {b : Bool} {Et : TypeId} {α : Type} {f : α → List C} {xs : List α}
    (ho : o.op = .call { callee := .builtin .len, args := #[x], argTypes := #[T] }) (hd : o.dst = some t) (ht : Nat.blt t fr.n = true)
    (hT : P.underlying T = some (.slice E')) (hx : vwr fr.n E x = some (r, .one (.sl b Et (xs.map f)))) :
    LA P fr E o [⟨t, true, some (.d (.one (.v (.int .i64 (xs.length : Int)))))⟩] :=
  LA.scal hd ht rfl fun Γ a w Z β γ hle h => by
    have hv := vwr_ok h (vwr_le hle hx)
    simp only [RD, RC] at hv
    have hq : ∃ ad cap, a.eval x = .slice ad xs.length cap := by
      rcases hv with ⟨h1, h2, _⟩ | ⟨ad, cap, vs, _, _, hy, _⟩ | ⟨g, cap, cur, bs, _, _, hy, _⟩
      · have : xs = [] := by simpa using h2
        subst this
        exact ⟨none, 0, h1⟩
      · exact ⟨_, cap, by simpa using hy⟩
      · exact ⟨_, cap, by simpa using hy⟩
    obtain ⟨ad, cap, hq⟩ := hq
    unfold execOp
    rw [ho]
    simp [resolve, invoke, builtin, Builtin.len_, run_underlying hT, hq, goInt]

theorem la_lens {E : Ctx} {o : Oper} {t : Nat} {T : TypeId} {x : Operand} {s : ByteArray}
    (ho : o.op = .call { callee := .builtin .len, args := #[x], argTypes := #[T] }) (hd : o.dst = some t) (ht : Nat.blt t fr.n = true)
    (hT : P.underlying T = some .string) (hx : vs fr.n E x = some (.string s)) :
    LA P fr E o [⟨t, true, some (.d (.one (.v (.int .i64 (s.size : Int)))))⟩] :=
  LA.scal hd ht rfl fun Γ a w Z β γ hle h => by
    unfold execOp
    rw [ho]
    simp [resolve, invoke, builtin, Builtin.len_, run_underlying hT, vs_ok h (vs_le hle hx), goInt]

end Go.Proofs.YtdclbbkkcngjnaaT

namespace Go.Proofs.YtdclbbkkcngjnaaT
open Go
variable {P : Program} {fr : Fr}

section
variable {w : World} {Z : Nat → Prop}

theorem RL.app : ∀ (l1 l2 : List C) (vs : List Value) (bs : List Nat), RL P w Z (l1 ++ l2) vs bs ↔ ∃ v1 v2 b1 b2, vs = v1 ++ v2 ∧ bs = b1 ++ b2 ∧ RL P w Z l1 v1 b1 ∧ RL P w Z l2 v2 b2
  | [], l2, vs, bs => by
    simp only [List.nil_append, RL]
    constructor
    · intro h; exact ⟨[], vs, [], bs, rfl, rfl, ⟨rfl, rfl⟩, h⟩
    · rintro ⟨v1, v2, b1, b2, rfl, rfl, ⟨rfl, rfl⟩, h⟩; simpa using h
  | c :: l1, l2, vs, bs => by
    simp only [List.cons_append, RL]
    constructor
    · rintro ⟨y, vs', b1, b2, rfl, rfl, hc, hr⟩
      obtain ⟨v1, v2, b3, b4, rfl, rfl, h1, h2⟩ := (RL.app l1 l2 _ _).1 hr
      exact ⟨y :: v1, v2, b1 ++ b3, b4, by simp, by simp, ⟨y, v1, b1, b3, rfl, rfl, hc, h1⟩, h2⟩
    · rintro ⟨v1, v2, b1, b2, rfl, rfl, ⟨y, v1', b3, b4, rfl, rfl, hc, h1⟩, h2⟩
      exact ⟨y, v1' ++ v2, b3, b4 ++ b2, by simp, by simp, hc, (RL.app l1 l2 _ _).2 ⟨v1', v2, b4, b2, rfl, rfl, h1, h2⟩⟩

theorem RLL.app : ∀ (l1 l2 : List (List C)) (vs : List Value) (bs : List Nat), RLL P w Z (l1 ++ l2) vs bs ↔ ∃ v1 v2 b1 b2, vs = v1 ++ v2 ∧ bs = b1 ++ b2 ∧ RLL P w Z l1 v1 b1 ∧ RLL P w Z l2 v2 b2
  | [], l2, vs, bs => by
    simp only [List.nil_append, RLL]
    constructor
    · intro h; exact ⟨[], vs, [], bs, rfl, rfl, ⟨rfl, rfl⟩, h⟩
    · rintro ⟨v1, v2, b1, b2, rfl, rfl, ⟨rfl, rfl⟩, h⟩; simpa using h
  | c :: l1, l2, vs, bs => by
    simp only [List.cons_append, RLL]
    constructor
    · rintro ⟨y, vs', b1, b2, rfl, rfl, hc, hr⟩
      obtain ⟨v1, v2, b3, b4, rfl, rfl, h1, h2⟩ := (RLL.app l1 l2 _ _).1 hr
      exact ⟨y ++ v1, v2, b1 ++ b3, b4, by simp, by simp, ⟨y, v1, b1, b3, rfl, rfl, hc, h1⟩, h2⟩
    · rintro ⟨v1, v2, b1, b2, rfl, rfl, ⟨y, v1', b3, b4, rfl, rfl, hc, h1⟩, h2⟩
      exact ⟨y, v1' ++ v2, b3, b4 ++ b2, by simp, by simp, hc, (RLL.app l1 l2 _ _).2 ⟨v1', v2, b4, b2, rfl, rfl, h1, h2⟩⟩

theorem split_at {α : Type} {l : List α} {i : Nat} {x : α} (h : l[i]? = some x) : l = l.take i ++ x :: l.drop (i + 1) := by
  have hi : i < l.length := (List.getElem?_eq_some_iff.1 h).1
  have := (List.getElem?_eq_some_iff.1 h).2
  rw [← this]
  simp

/-- One element of a row. -/
theorem RLL.get {k : Nat} {es : List (List C)} {vs : List Value} {bs : List Nat} (hk : ∀ e ∈ es, e.length = k) (h : RLL P w Z es vs bs) {i : Nat} {e : List C} (hi : es[i]? = some e) :
    ∃ v1 v v2 b1 b b2, vs = v1 ++ v ++ v2 ∧ bs = b1 ++ b ++ b2 ∧ v1.length = i * k ∧ v.length = k ∧ RLL P w Z (es.take i) v1 b1 ∧ RL P w Z e v b ∧ RLL P w Z (es.drop (i + 1)) v2 b2 := by
  rw [split_at hi] at h
  obtain ⟨v1, v2, b1, b2, rfl, rfl, h1, h2⟩ := (RLL.app _ _ _ _).1 h
  simp only [RLL] at h2
  obtain ⟨u1, u2, c1, c2, rfl, rfl, h3, h4⟩ := h2
  have hlt : i < es.length := (List.getElem?_eq_some_iff.1 hi).1
  have hm : e ∈ es := List.mem_of_getElem? hi
  refine ⟨v1, u1, u2, b1, c1, c2, by simp, by simp, ?_, ?_, h1, h3, h4⟩
  · rw [RLL.length (k := k) _ (fun e he => hk e (List.mem_of_mem_take he)) h1, List.length_take, Nat.min_eq_left (by omega)]
  · rw [RL.length _ h3, hk e hm]

/-- One cell of a variable. -/
theorem RL.get {cs : List C} {vs : List Value} {bs : List Nat} (h : RL P w Z cs vs bs) {i : Nat} {c : C} (hi : cs[i]? = some c) :
    ∃ v1 y v2 b1 b b2, vs = v1 ++ y :: v2 ∧ bs = b1 ++ b ++ b2 ∧ v1.length = i ∧ RL P w Z (cs.take i) v1 b1 ∧ RC P w Z c y b ∧ RL P w Z (cs.drop (i + 1)) v2 b2 := by
  rw [split_at hi] at h
  obtain ⟨v1, v2, b1, b2, rfl, rfl, h1, h2⟩ := (RL.app _ _ _ _).1 h
  simp only [RL] at h2
  obtain ⟨y, u2, c1, c2, rfl, rfl, h3, h4⟩ := h2
  have hlt : i < cs.length := (List.getElem?_eq_some_iff.1 hi).1
  refine ⟨v1, y, u2, b1, c1, c2, rfl, by simp, ?_, h1, h3, h4⟩
  rw [RL.length _ h1, List.length_take, Nat.min_eq_left (by omega)]

theorem get_mid {v1 v v2 : List Value} {j : Nat} {x : Value} (h : v[j]? = some x) : (v1 ++ v ++ v2)[v1.length + j]? = some x := by
  have hj : j < v.length := (List.getElem?_eq_some_iff.1 h).1
  rw [List.append_assoc, List.getElem?_append_right (by omega), List.getElem?_append_left (by omega)]
  simpa using h
end

/-! ### Reading memory -/
theorem add_add (a : Addr) (i j : Nat) : (a.add i).add j = a.add (i + j) := by
  unfold Addr.add
  by_cases hi : i = 0
  · subst hi; simp
  · by_cases hj : j = 0
    · subst hj; simp
    · simp [hi, hj, Nat.add_assoc]

theorem la_idx {E : Ctx} {o : Oper} {t : Nat} {T Et : TypeId} {x y : Operand} {r : Option Nat} {b : Bool} {i : Int} {α : Type} {f : α → List C} {xs : List α} {z : α} {info : TypeInfo}
    (ho : o.op = .indexAddr T x y) (hd : o.dst = some t) (ht : Nat.blt t fr.n = true) (hT : P.underlying T = some (.slice Et)) (hi : P.info? Et = some info)
    (hx : vwr fr.n E x = some (r, .one (.sl b Et (xs.map f)))) (hy : vs fr.n E y = some (.int .i64 i)) (h0 : 0 ≤ i) (hz : xs[i.toNat]? = some z) (hr : r ≠ some t) :
    LA P fr E o [⟨t, true, some (.sp r (f z))⟩] := by
  refine LA.val hd ht fun Γ a w Z β γ hle h => ?_
  have hv := vwr_ok h (vwr_le hle hx)
  have hsz : szOf P Et = info.size := by simp [szOf, hi]
  have hlt : i.toNat < xs.length := (List.getElem?_eq_some_iff.1 hz).1
  simp only [RD, RC] at hv
  rcases hv with ⟨_, h2, _⟩ | ⟨ad, cap, vs, _, _, hq, h1, h2, hzo, hc, hl, hr'⟩ | ⟨g, cap, cur, bs, _, hbs, _⟩
  · simp at h2; simp [h2] at hlt
  · have hel : (xs.map f)[i.toNat]? = some (f z) := by simp [hz]
    obtain ⟨v1, v, v2, b1, b2, b3, hvs, hbs, hl1, hl2, _, hrl, _⟩ := RLL.get hl hr' hel
    have hb2 : b2 = [] := by simp_all
    subst hb2
    refine ⟨.pointer (some (ad.add (i.toNat * szOf P Et))), ?_, fun β' ev' hb hb' hv hv' => ?_⟩
    · unfold execOp
      rw [ho]
      have hil : i < ((xs.length : Nat) : Int) := by omega
      simp [Instr.indexAt, hq, vs_ok h (vs_le hle hy), asIntOf, run_underlying hT, h0, sizeOf, typeInfo, hi, hsz, hil]
    · have hz' : ∀ b, zr Z β r b → zr Z β' r b := by
        intro b hb
        cases r with
        | none => exact hb
        | some q => simp only [zr] at hb ⊢; rw [hb' q (by rintro rfl; exact hr rfl)]; exact hb
      simp only [EntOk]
      refine ⟨_, v, hv, ?_, RL.mono hz' _ (fun _ _ => rfl) hrl, ?_⟩
      · intro k x hk
        rw [add_add]
        refine hc _ x ?_
        rw [hvs, ← hl1]
        exact get_mid hk
      · rcases hzo with hzo | hzo
        · simp at hzo; simp [hzo] at hlt
        · right; rw [add_block]; exact hz' _ hzo
  · cases hbs

/-- What is read through a pointer: a copy, or borrowed. -/
def mkv : Option Nat → Dt → Ent
  | none, x => .d x
  | some _, .one (.v x) => .d (.one (.v x))
  | some r, x => .bor r x

theorem mkv_ok {w : World} {Z : Nat → Prop} {β : Nat → List Nat} {ev : Nat → Value} {t : Nat} {r : Option Nat} {x : Dt} (hb : β t = []) (h : RD P w (zr Z β r) x (ev t) []) : EntOk P w Z β ev t (mkv r x) := by
  cases r with
  | none => simp only [mkv, EntOk]; rw [hb]; exact h
  | some q =>
    cases x with
    | agg cs => exact h
    | one c =>
      cases c with
      | sl o E es => exact h
      | v y => simp only [mkv, EntOk, RD, RC] at h ⊢; exact ⟨h.1, h.2.1, hb⟩

def spOf (n : Nat) (Γ : Ctx) : Operand → Option (Option Nat × List C)
  | .tmp t => bif Nat.blt t n then
      match Γ t with
      | some (.sp r cs) => some (r, cs)
      | _ => none
    else none
  | _ => none

theorem spOf_ok {Γ : Ctx} {a : Act} {w : World} {Z : Nat → Prop} {β : Nat → List Nat} {γ : Nat → Value} (h : Core P fr Γ a w Z β γ) {x : Operand} {r : Option Nat} {cs : List C}
    (hv : spOf fr.n Γ x = some (r, cs)) : ∃ ad vs, a.eval x = .pointer (some ad) ∧ (∀ k x, vs[k]? = some x → w.cell? (ad.add k) = some x) ∧ RL P w (zr Z β r) cs vs [] ∧ (cs = [] ∨ zr Z β r ad.block) := by
  cases x with
  | tmp t =>
    simp only [spOf] at hv
    cases ht : Nat.blt t fr.n with
    | false => rw [ht] at hv; simp at hv
    | true =>
      rw [ht] at hv
      simp only [cond_true] at hv
      cases hg : Γ t with
      | none => rw [hg] at hv; simp at hv
      | some e =>
        have he := h.ent t e hg
        rw [hg] at hv
        cases e <;> simp at hv
        obtain ⟨rfl, rfl⟩ := hv
        rw [eval_ev (γ := γ) ht]
        exact he
  | const v => simp [spOf] at hv
  | global g => simp [spOf] at hv
  | func f => simp [spOf] at hv

theorem spOf_le {n : Nat} {E Γ : Ctx} (hle : E_le E Γ) {x : Operand} {q : Option Nat × List C} (h : spOf n E x = some q) : spOf n Γ x = some q := by
  cases x with
  | tmp t =>
    simp only [spOf] at h ⊢
    cases ht : Nat.blt t n with
    | false => rw [ht] at h; simp at h
    | true =>
      rw [ht] at h
      simp only [cond_true] at h ⊢
      cases hg : E t with
      | none => rw [hg] at h; simp at h
      | some e => rw [hg] at h; rw [hle t e hg]; exact h
  | const v => exact h
  | global g => exact h
  | func f => exact h

/-- Is the type one of a single cell? -/
def flatT (P : Program) (T : TypeId) : Bool := match P.underlying T with
  | some d => !d.isRow
  | none => false
def rowT (P : Program) (T : TypeId) : Bool := match P.underlying T with
  | some d => d.isRow && (P.info? T).isSome
  | none => false

theorem run_load_flat {T : TypeId} (hT : flatT P T = true) {ad : Addr} {w : World} {x : Value} (hc : w.cell? ad = some x) : (Instr.loadAt T (.pointer (some ad))).run P w = .ok x w := by
  unfold flatT at hT
  cases hu : P.underlying T with
  | none => rw [hu] at hT; simp at hT
  | some d =>
    rw [hu] at hT
    have hagg : (isAgg T).run P w = .ok false w := by
      unfold isAgg
      rw [Sem.run_bind, run_underlying hu w]
      cases d <;> simp_all
    simp [Instr.loadAt, Instr.sureAddr, loadVar, Sem.run_bind, hagg, load, Sem.run, hc]

theorem run_load_row {T : TypeId} (hT : rowT P T = true) {ad : Addr} {w : World} {vs : List Value} (hn : vs.length = szOf P T) (hc : ∀ k x, vs[k]? = some x → w.cell? (ad.add k) = some x) :
    (Instr.loadAt T (.pointer (some ad))).run P w = .ok (.agg vs.toArray) w := by
  unfold rowT at hT
  cases hu : P.underlying T with
  | none => rw [hu] at hT; simp at hT
  | some d =>
    rw [hu] at hT
    simp only [Bool.and_eq_true] at hT
    obtain ⟨hd, hi⟩ := hT
    cases hq : P.info? T with
    | none => rw [hq] at hi; simp at hi
    | some i =>
      have hagg : (isAgg T).run P w = .ok true w := by
        unfold isAgg
        rw [Sem.run_bind, run_underlying hu w]
        cases d <;> simp_all
      have hs : i.size = vs.length := by rw [hn]; simp [szOf, hq]
      have hl : (loadCells ad vs.length).run P w = .ok vs.toArray w := run_loadCells_list (P := P) w ad vs (fun j v hv => hc j v hv)
      simp [Instr.loadAt, Instr.sureAddr, loadVar, Sem.run_bind, hagg, sizeOf, typeInfo, hq, hs, hl]

theorem la_ld {E : Ctx} {o : Oper} {t : Nat} {T : TypeId} {x : Operand} {r : Option Nat} {c : C} {cs : List C} (ho : o.op = .load T x) (hd : o.dst = some t) (ht : Nat.blt t fr.n = true)
    (hT : flatT P T = true) (hx : spOf fr.n E x = some (r, c :: cs)) (hr : r ≠ some t) : LA P fr E o [⟨t, true, some (mkv r (.one c))⟩] := by
  refine LA.val hd ht fun Γ a w Z β γ hle h => ?_
  obtain ⟨ad, vs, hv, hc, hrl, _⟩ := spOf_ok h (spOf_le hle hx)
  simp only [RL] at hrl
  obtain ⟨y, vs', b1, b2, rfl, hb, hrc, _⟩ := hrl
  have hb1 : b1 = [] := by simp_all
  subst hb1
  refine ⟨y, ?_, fun β' ev' hb hb' hv hv' => mkv_ok hb ?_⟩
  · unfold execOp
    rw [ho]
    have := run_load_flat (P := P) hT (ad := ad) (w := w) (x := y) (by simpa [Addr.add] using hc 0 y rfl)
    simp [hv, this]
  · rw [hv]
    refine RD.mono ?_ (fun _ _ => rfl) (x := .one c) hrc
    intro b hb
    cases r with
    | none => exact hb
    | some q => simp only [zr] at hb ⊢; rw [hb' q (by rintro rfl; exact hr rfl)]; exact hb

theorem la_lds {E : Ctx} {o : Oper} {t : Nat} {T : TypeId} {x : Operand} {r : Option Nat} {cs : List C} (ho : o.op = .load T x) (hd : o.dst = some t) (ht : Nat.blt t fr.n = true)
    (hT : rowT P T = true) (hx : spOf fr.n E x = some (r, cs)) (hn : cs.length = szOf P T) (hr : r ≠ some t) : LA P fr E o [⟨t, true, some (mkv r (.agg cs))⟩] := by
  refine LA.val hd ht fun Γ a w Z β γ hle h => ?_
  obtain ⟨ad, vs, hv, hc, hrl, _⟩ := spOf_ok h (spOf_le hle hx)
  refine ⟨.agg vs.toArray, ?_, fun β' ev' hb hb' hv hv' => mkv_ok hb ?_⟩
  · unfold execOp
    rw [ho]
    have := run_load_row (P := P) hT (ad := ad) (w := w) (vs := vs) (by rw [RL.length _ hrl]; exact hn) hc
    simp [hv, this]
  · rw [hv]
    refine RD.mono ?_ (fun _ _ => rfl) (x := .agg cs) ⟨vs, rfl, hrl⟩
    intro b hb
    cases r with
    | none => exact hb
    | some q => simp only [zr] at hb ⊢; rw [hb' q (by rintro rfl; exact hr rfl)]; exact hb

/-- Field f of type T begins at cell k, and has cells. -/
def fldAt (P : Program) (T : TypeId) (f k : Nat) : Bool := match P.underlying T with
  | some (.struct fs) => match fs[f]? with
    | some fd => fd.offset == k && (match P.info? fd.type with | some i => !(i.size == 0) | none => false)
    | none => false
  | _ => false

theorem run_fldAt {T : TypeId} {f k : Nat} (h : fldAt P T f k = true) (ad : Addr) (w : World) : (Instr.fieldAt T (.pointer (some ad)) f).run P w = .ok (.pointer (some (ad.add k))) w := by
  unfold fldAt at h
  split at h
  · rename_i fs hu
    split at h
    · rename_i fd hfd
      simp only [Bool.and_eq_true, beq_iff_eq] at h
      obtain ⟨h1, h2⟩ := h
      split at h2
      · rename_i i hi
        simp at h2
        simp [Instr.fieldAt, run_underlying hu, hfd, Instr.sureAddr, fieldPlace, sizeOf, typeInfo, hi, h2, h1]
      · cases h2
    · cases h
  · cases h

theorem la_fsp {E : Ctx} {o : Oper} {t : Nat} {T : TypeId} {f k : Nat} {x : Operand} {r : Option Nat} {cs : List C} (ho : o.op = .fieldAddr T x f) (hd : o.dst = some t) (ht : Nat.blt t fr.n = true)
    (hT : fldAt P T f k = true) (hx : spOf fr.n E x = some (r, cs)) (hr : r ≠ some t) : LA P fr E o [⟨t, true, some (.sp r (cs.drop k))⟩] := by
  refine LA.val hd ht fun Γ a w Z β γ hle h => ?_
  obtain ⟨ad, vs, hv, hc, hrl, hz⟩ := spOf_ok h (spOf_le hle hx)
  refine ⟨.pointer (some (ad.add k)), ?_, fun β' ev' hb hb' hv hv' => ?_⟩
  · unfold execOp
    rw [ho]
    simp [hv, run_fldAt hT]
  · have hz' : ∀ b, zr Z β r b → zr Z β' r b := by
      intro b hb
      cases r with
      | none => exact hb
      | some q => simp only [zr] at hb ⊢; rw [hb' q (by rintro rfl; exact hr rfl)]; exact hb
    have hd' : RL P w (zr Z β r) (cs.drop k) (vs.drop k) [] := by
      rw [← List.take_append_drop k cs] at hrl
      obtain ⟨v1, v2, b1, b2, rfl, hb, h1, h2⟩ := (RL.app _ _ _ _).1 hrl
      have hb2 : b2 = [] := by simp_all
      subst hb2
      have hl := RL.length _ h1
      rw [List.length_take] at hl
      by_cases hk : k ≤ cs.length
      · rw [Nat.min_eq_left hk] at hl
        rw [← hl, List.drop_left]
        rw [← hl] at h2
        exact h2
      · have hnil : cs.drop k = [] := List.drop_of_length_le (by omega)
        rw [hnil] at h2 ⊢
        simp only [RL] at h2
        rw [List.drop_of_length_le (by simp [h2.1]; omega)]
        simp [RL]
    refine ⟨_, vs.drop k, hv, ?_, RL.mono hz' _ (fun _ _ => rfl) hd', ?_⟩
    · intro j x hj
      rw [add_add]
      rw [List.getElem?_drop] at hj
      exact hc _ x hj
    · rcases hz with rfl | hz
      · simp
      · right; rw [add_block]; exact hz' _ hz

end Go.Proofs.YtdclbbkkcngjnaaT

namespace Go.Proofs.YtdclbbkkcngjnaaT
open Go
variable {P : Program} {fr : Fr}

def rmv (s : Nat) : Up := ⟨s, true, none⟩

theorem look_rmv (S : List Nat) (u : Nat) : look (S.map rmv) u = if u ∈ S then some (rmv u) else none := by
  induction S with
  | nil => simp [look]
  | cons s S ih =>
    simp only [List.map_cons, look, rmv]
    by_cases hu : u = s
    · subst hu; simp
    · have : Nat.beq s u = false := by
        cases hb : Nat.beq s u with
        | false => rfl
        | true => exact absurd (Nat.eq_of_beq_eq_true hb).symm hu
      simp only [this, cond_false]
      have hs : look (S.map rmv) u = if u ∈ S then some (rmv u) else none := ih
      simp only [rmv] at hs
      simp [hu, hs]

theorem look_cons (p : Up) (S : List Nat) (u : Nat) : look (p :: S.map rmv) u = if u = p.t then some p else if u ∈ S then some (rmv u) else none := by
  simp only [look, look_rmv]
  by_cases hu : u = p.t
  · subst hu; simp
  · have : Nat.beq p.t u = false := by
      cases hb : Nat.beq p.t u with
      | false => rfl
      | true => exact absurd (Nat.eq_of_beq_eq_true hb).symm hu
    simp [this, hu]

/-- The world behind a step: new blocks; of the old ones those in 'bs' alone may have turned. -/
structure Grow (w w' : World) (bs : Nat → Prop) : Prop where
  os : w'.os = w.os
  tape : w'.tape = w.tape
  output : w'.output = w.output
  size : w.heap.size ≤ w'.heap.size
  block : ∀ b, b < w.heap.size → ¬ bs b → w'.heap[b]? = w.heap[b]?

theorem Grow.refl (w : World) (bs : Nat → Prop) : Grow w w bs := ⟨rfl, rfl, rfl, Nat.le_refl _, fun _ _ _ => rfl⟩
theorem Grow.trans {a b c : World} {bs : Nat → Prop} (h : Grow a b bs) (k : Grow b c bs) : Grow a c bs :=
  ⟨k.os.trans h.os, k.tape.trans h.tape, k.output.trans h.output, Nat.le_trans h.size k.size, fun x hx hb => (k.block x (Nat.lt_of_lt_of_le hx h.size) hb).trans (h.block x hx hb)⟩
theorem Grow.mono {a b : World} {bs bs' : Nat → Prop} (h : Grow a b bs) (hb : ∀ x, bs x → bs' x) : Grow a b bs' :=
  ⟨h.os, h.tape, h.output, h.size, fun x hx hn => h.block x hx (fun hx' => hn (hb x hx'))⟩
theorem Grow.alloc (w : World) (o : Obj) (bs : Nat → Prop) : Grow w (w.alloc o) bs :=
  ⟨rfl, rfl, rfl, by simp, fun b hb _ => by
    show (w.heap.push o)[b]? = _
    rw [Array.getElem?_push, if_neg (by omega)]⟩
theorem Grow.of_grownBy {w w' : World} {row : Option Nat} (h : w.grownBy w' row) : Grow w w' (fun b => row = some b) :=
  ⟨h.os, h.tape, h.output, h.size, fun b hb hn => h.block b hb (fun e => hn e.symm)⟩

/-- The step gives the temporary t the data e, with the blocks bn: new ones, and what the temporaries S owned. -/
theorem Core.give {Γ : Ctx} {a : Act} {w w' : World} {Z : Nat → Prop} {β : Nat → List Nat} {γ : Nat → Value} (h : Core P fr Γ a w Z β γ) (S : List Nat) {t : Nat} (ht : Nat.blt t fr.n = true) {v : Value} {bn : List Nat} {e : Ent}
    (hw : Grow w w' (fun b => ∃ s, s ∈ S ∧ b ∈ β s))
    (hbn : ∀ b, b ∈ bn → b < w'.heap.size ∧ (w.heap.size ≤ b ∨ ∃ s, s ∈ S ∧ b ∈ β s)) (hnd : bn.Nodup)
    (he : ∀ β' ev', β' t = bn → ev' t = v → (∀ u, u ≠ t → u ∉ S → β' u = β u) → (∀ u, u ≠ t → ev' u = ev fr.n a γ u) → EntOk P w' Z β' ev' t e) :
    Core P fr (upd Γ (⟨t, true, some e⟩ :: S.map rmv)) (a.put (some t) v) w' Z (fun u => if u = t then bn else if u ∈ S then [] else β u) γ := by
  have hb : ∀ b, (∃ s, s ∈ S ∧ b ∈ β s) → fr.w0.heap.size ≤ b ∨ b ∈ fr.M := fun b ⟨s, _, hb⟩ => (h.own s b hb).2.2
  have hnZ : ∀ b, Z b → ¬ ∃ s, s ∈ S ∧ b ∈ β s := fun b hz ⟨s, _, hb⟩ => (h.own s b hb).2.1 hz
  refine h.turn _ (by simpa [Act.put] using h.defers) (by simpa [Act.put] using h.size) ?_ ?_ ?_ h.znew ?_ ?_ ?_ ?_ ?_ ?_ ?_
  · refine ⟨hw.os.trans h.evo.os, hw.tape.trans h.evo.tape, hw.output.trans h.evo.output, Nat.le_trans h.evo.size hw.size, fun b hlt hM => ?_⟩
    rw [hw.block b (Nat.lt_of_lt_of_le hlt h.evo.size) (fun hs => by rcases hb b hs with h' | h'; omega; exact hM h')]
    exact h.evo.block b hlt hM
  · exact fun b hz => Nat.lt_of_lt_of_le (h.zlt b hz) hw.size
  · exact fun b hz => ⟨hz, hw.block b (h.zlt b hz) (hnZ b hz)⟩
  · intro u b hub
    by_cases hu : u = t
    · simp only [hu, if_true] at hub
      obtain ⟨h1, h2⟩ := hbn b hub
      refine ⟨h1, fun hz => ?_, ?_⟩
      · rcases h2 with h2 | h2
        · have := h.zlt b hz; omega
        · exact hnZ b hz h2
      · rcases h2 with h2 | h2
        · exact .inl (Nat.le_trans h.evo.size h2)
        · exact hb b h2
    · simp only [hu, if_false] at hub
      by_cases hs : u ∈ S
      · simp [hs] at hub
      · simp only [hs, if_false] at hub
        obtain ⟨h1, h2, h3⟩ := h.own u b hub
        exact ⟨Nat.lt_of_lt_of_le h1 hw.size, h2, h3⟩
  · intro u
    by_cases hu : u = t
    · simpa [hu] using hnd
    · by_cases hs : u ∈ S
      · simp [hu, hs]
      · simpa [hu, hs] using h.nodup u
  · intro u u' b hne hub hub'
    have key : ∀ x y, x = t → y ≠ t → b ∈ (if x = t then bn else if x ∈ S then [] else β x) → b ∈ (if y = t then bn else if y ∈ S then [] else β y) → False := by
      intro x y hx hy h1 h2
      simp only [hx, if_true] at h1
      simp only [hy, if_false] at h2
      by_cases hs : y ∈ S
      · simp [hs] at h2
      · simp only [hs, if_false] at h2
        rcases (hbn b h1).2 with h3 | ⟨s, h3, h4⟩
        · have := (h.own y b h2).1; omega
        · exact h.disj s y b (by rintro rfl; exact hs h3) h4 h2
    by_cases hu : u = t
    · exact key u u' hu (fun e => hne (hu.trans e.symm)) hub hub'
    · by_cases hu' : u' = t
      · exact key u' u hu' hu hub' hub
      · simp only [hu, hu', if_false] at hub hub'
        by_cases hs : u ∈ S
        · simp [hs] at hub
        · by_cases hs' : u' ∈ S
          · simp [hs'] at hub'
          · simp only [hs, hs', if_false] at hub hub'
            exact h.disj u u' b hne hub hub'
  · intro u hu
    rw [ev_put h.size ht]
    rw [look_cons] at hu
    by_cases hut : u = t
    · simp [hut] at hu
    · simp [hut]
  · intro u hu
    rw [look_cons] at hu
    by_cases hut : u = t
    · simp [hut] at hu
    · by_cases hs : u ∈ S
      · simp [hut, hs] at hu
      · simp [hut, hs]
  · intro u hu b hub
    rw [look_cons] at hu
    by_cases hut : u = t
    · simp [hut] at hu
    · by_cases hs : u ∈ S
      · simp [hut, hs] at hu
      · exact hw.block b (h.own u b hub).1 (fun ⟨s, h1, h2⟩ => h.disj s u b (by rintro rfl; exact hs h1) h2 hub)
  · intro u p e' hl hp
    rw [look_cons] at hl
    by_cases hut : u = t
    · subst hut
      simp at hl
      subst hl
      simp at hp
      subst hp
      exact he _ _ (by simp) (by rw [ev_put h.size ht]; simp) (fun u hu hs => by simp [hu, hs]) (fun u hu => by rw [ev_put h.size ht]; simp [hu])
    · by_cases hs : u ∈ S
      · simp [hut, hs] at hl; subst hl; simp [rmv] at hp
      · simp [hut, hs] at hl

/-- The step turns what stands behind the root r (its value stays), taking in what the temporaries S owned. -/
theorem Core.poke {Γ : Ctx} {a : Act} {w w' : World} {Z : Nat → Prop} {β : Nat → List Nat} {γ : Nat → Value} (h : Core P fr Γ a w Z β γ) (S : List Nat) {r : Nat} (hrS : r ∉ S) {bn : List Nat} {e : Ent}
    (hw : Grow w w' (fun b => b ∈ β r ∨ ∃ s, s ∈ S ∧ b ∈ β s))
    (hbn : ∀ b, b ∈ bn → b ∈ β r ∨ ∃ s, s ∈ S ∧ b ∈ β s) (hnd : bn.Nodup)
    (he : ∀ β' : Nat → List Nat, β' r = bn → (∀ u, u ≠ r → u ∉ S → β' u = β u) → EntOk P w' Z β' (ev fr.n a γ) r e) :
    Core P fr (upd Γ (⟨r, false, some e⟩ :: S.map rmv)) a w' Z (fun u => if u = r then bn else if u ∈ S then [] else β u) γ := by
  have hb : ∀ b, (b ∈ β r ∨ ∃ s, s ∈ S ∧ b ∈ β s) → fr.w0.heap.size ≤ b ∨ b ∈ fr.M := by
    rintro b (hb | ⟨s, _, hb⟩)
    · exact (h.own r b hb).2.2
    · exact (h.own s b hb).2.2
  have hnZ : ∀ b, Z b → ¬ (b ∈ β r ∨ ∃ s, s ∈ S ∧ b ∈ β s) := by
    rintro b hz (hb | ⟨s, _, hb⟩)
    · exact (h.own r b hb).2.1 hz
    · exact (h.own s b hb).2.1 hz
  have hlt : ∀ b, (b ∈ β r ∨ ∃ s, s ∈ S ∧ b ∈ β s) → b < w.heap.size := by
    rintro b (hb | ⟨s, _, hb⟩)
    · exact (h.own r b hb).1
    · exact (h.own s b hb).1
  have hdis : ∀ u b, u ≠ r → u ∉ S → b ∈ β u → ¬ (b ∈ β r ∨ ∃ s, s ∈ S ∧ b ∈ β s) := by
    rintro u b hu hs hub (h1 | ⟨s, h1, h2⟩)
    · exact h.disj u r b hu hub h1
    · exact h.disj u s b (by rintro rfl; exact hs h1) hub h2
  refine h.turn _ h.defers h.size ?_ ?_ ?_ h.znew ?_ ?_ ?_ ?_ ?_ ?_ ?_
  · refine ⟨hw.os.trans h.evo.os, hw.tape.trans h.evo.tape, hw.output.trans h.evo.output, Nat.le_trans h.evo.size hw.size, fun b hlt hM => ?_⟩
    rw [hw.block b (Nat.lt_of_lt_of_le hlt h.evo.size) (fun hs => by rcases hb b hs with h' | h'; omega; exact hM h')]
    exact h.evo.block b hlt hM
  · exact fun b hz => Nat.lt_of_lt_of_le (h.zlt b hz) hw.size
  · exact fun b hz => ⟨hz, hw.block b (h.zlt b hz) (hnZ b hz)⟩
  · intro u b hub
    by_cases hu : u = r
    · simp only [hu, if_true] at hub
      have h2 := hbn b hub
      exact ⟨Nat.lt_of_lt_of_le (hlt b h2) hw.size, fun hz => hnZ b hz h2, hb b h2⟩
    · simp only [hu, if_false] at hub
      by_cases hs : u ∈ S
      · simp [hs] at hub
      · simp only [hs, if_false] at hub
        obtain ⟨h1, h2, h3⟩ := h.own u b hub
        exact ⟨Nat.lt_of_lt_of_le h1 hw.size, h2, h3⟩
  · intro u
    by_cases hu : u = r
    · simpa [hu] using hnd
    · by_cases hs : u ∈ S
      · simp [hu, hs]
      · simpa [hu, hs] using h.nodup u
  · intro u u' b hne hub hub'
    have key : ∀ x y, x = r → y ≠ r → b ∈ (if x = r then bn else if x ∈ S then [] else β x) → b ∈ (if y = r then bn else if y ∈ S then [] else β y) → False := by
      intro x y hx hy h1 h2
      simp only [hx, if_true] at h1
      simp only [hy, if_false] at h2
      by_cases hs : y ∈ S
      · simp [hs] at h2
      · simp only [hs, if_false] at h2
        exact hdis y b hy hs h2 (hbn b h1)
    by_cases hu : u = r
    · exact key u u' hu (fun e => hne (hu.trans e.symm)) hub hub'
    · by_cases hu' : u' = r
      · exact key u' u hu' hu hub' hub
      · simp only [hu, hu', if_false] at hub hub'
        by_cases hs : u ∈ S
        · simp [hs] at hub
        · by_cases hs' : u' ∈ S
          · simp [hs'] at hub'
          · simp only [hs, hs', if_false] at hub hub'
            exact h.disj u u' b hne hub hub'
  · intro u _; rfl
  · intro u hu
    rw [look_cons] at hu
    by_cases hut : u = r
    · simp [hut] at hu
    · by_cases hs : u ∈ S
      · simp [hut, hs] at hu
      · simp [hut, hs]
  · intro u hu b hub
    rw [look_cons] at hu
    by_cases hut : u = r
    · simp [hut] at hu
    · by_cases hs : u ∈ S
      · simp [hut, hs] at hu
      · exact hw.block b (h.own u b hub).1 (hdis u b hut hs hub)
  · intro u p e' hl hp
    rw [look_cons] at hl
    by_cases hut : u = r
    · subst hut
      simp at hl
      subst hl
      simp at hp
      subst hp
      exact he _ (by simp) (fun u hu hs => by simp [hu, hs])
    · by_cases hs : u ∈ S
      · simp [hut, hs] at hl; subst hl; simp [rmv] at hp
      · simp [hut, hs] at hl

/-! ### A variable of the call's own -/
/-- An operand's data, to be kept: plain data of nobody's, or an own temporary's, which is then used up. -/
def tk (n : Nat) (Γ : Ctx) : Operand → Option (Dt × List Nat)
  | .tmp t => bif Nat.blt t n then
      match Γ t with
      | some (.d x) => some (x, bif plain x then [] else [t])
      | some (.dv _ x) => some (x, bif plain x then [] else [t])
      | _ => none
    else none
  | .const v => bif v.oneCell' then some (.one (.v v), []) else none
  | _ => none

theorem tk_le {n : Nat} {E Γ : Ctx} (hle : E_le E Γ) {x : Operand} {q : Dt × List Nat} (h : tk n E x = some q) : tk n Γ x = some q := by
  cases x with
  | tmp t =>
    simp only [tk] at h ⊢
    cases ht : Nat.blt t n with
    | false => rw [ht] at h; simp at h
    | true =>
      rw [ht] at h
      simp only [cond_true] at h ⊢
      cases hg : E t with
      | none => rw [hg] at h; simp at h
      | some e => rw [hg] at h; rw [hle t e hg]; exact h
  | const v => exact h
  | global g => exact h
  | func f => exact h

theorem tk_ok {Γ : Ctx} {a : Act} {w : World} {Z : Nat → Prop} {β : Nat → List Nat} {γ : Nat → Value} (h : Core P fr Γ a w Z β γ) {x : Operand} {X : Dt} {S : List Nat}
    (hv : tk fr.n Γ x = some (X, S)) : ∃ bs, RD P w Z X (a.eval x) bs ∧ bs.Nodup ∧ (∀ b, b ∈ bs → b < w.heap.size ∧ ∃ s, s ∈ S ∧ b ∈ β s) := by
  cases x with
  | tmp t =>
    simp only [tk] at hv
    cases ht : Nat.blt t fr.n with
    | false => rw [ht] at hv; simp at hv
    | true =>
      rw [ht] at hv
      simp only [cond_true] at hv
      rw [eval_ev (γ := γ) ht]
      have fin : ∀ x, EntOk P w Z β (ev fr.n a γ) t (.d x) → X = x → S = (bif plain x then [] else [t]) →
          ∃ bs, RD P w Z X (ev fr.n a γ t) bs ∧ bs.Nodup ∧ (∀ b, b ∈ bs → b < w.heap.size ∧ ∃ s, s ∈ S ∧ b ∈ β s) := by
        intro x he hx hS
        subst hx
        simp only [EntOk] at he
        refine ⟨β t, he, h.nodup t, fun b hb => ⟨(h.own t b hb).1, ?_⟩⟩
        cases hp : plain X with
        | true => rw [plain_nil hp he] at hb; simp at hb
        | false => rw [hp] at hS; exact ⟨t, by simp [hS], hb⟩
      cases hg : Γ t with
      | none => rw [hg] at hv; simp at hv
      | some e =>
        have he := h.ent t e hg
        rw [hg] at hv
        cases e <;> simp at hv
        · exact fin _ he hv.1.symm hv.2.symm
        · exact fin _ he.2 hv.1.symm hv.2.symm
  | const v =>
    simp only [tk] at hv
    cases hp : v.oneCell' with
    | false => rw [hp] at hv; simp at hv
    | true =>
      rw [hp] at hv
      simp at hv
      obtain ⟨rfl, rfl⟩ := hv
      exact ⟨[], by simp [RD, RC, Act.eval, hp], by simp, by simp⟩
  | global g => simp [tk] at hv
  | func f => simp [tk] at hv

def cells : Dt → List C
  | .one c => [c]
  | .agg cs => cs

theorem RD.cells {w : World} {Z : Nat → Prop} {x : Dt} {y : Value} {bs : List Nat} (h : RD P w Z x y bs) : RL P w Z (YtdclbbkkcngjnaaT.cells x) y.cells.toList bs := by
  cases x with
  | one c =>
    simp only [RD] at h
    have h1 := RC.one h
    have : y.cells = #[y] := by cases y <;> simp_all [Value.oneCell', Value.cells]
    rw [this]
    simp only [YtdclbbkkcngjnaaT.cells, RL]
    exact ⟨y, [], bs, [], rfl, by simp, h, rfl, rfl⟩
  | agg cs =>
    obtain ⟨vs, rfl, hr⟩ := h
    simpa [Value.cells, YtdclbbkkcngjnaaT.cells] using hr

theorem la_box {E : Ctx} {o : Oper} {t : Nat} {T : TypeId} {x : Operand} {X : Dt} {S : List Nat} (ho : o.op = .box T x) (hd : o.dst = some t) (ht : Nat.blt t fr.n = true)
    (hx : tk fr.n E x = some (X, S)) : LA P fr E o (⟨t, true, some (.box T (cells X))⟩ :: S.map rmv) := by
  intro Γ hle a w K Q ⟨Z, β, γ, h⟩ hk
  obtain ⟨bs, hr, hn, hb⟩ := tk_ok h (tk_le hle hx)
  have hgrow : Grow w (w.alloc (.cells (a.eval x).cells T)) (fun b => ∃ s, s ∈ S ∧ b ∈ β s) := Grow.alloc _ _ _
  refine wp_of_run (w' := w.alloc (.cells (a.eval x).cells T)) (v := .pointer (some ⟨w.heap.size, 0, none⟩)) ?_ (hk _ _ ?_)
  · unfold execOp
    rw [ho]
    rfl
  · rw [hd]
    refine ⟨Z, _, γ, h.give S ht (bn := w.heap.size :: bs) hgrow ?_ ?_ ?_⟩
    · intro b hb'
      rcases List.mem_cons.1 hb' with rfl | hb'
      · exact ⟨by simp, .inl (Nat.le_refl _)⟩
      · exact ⟨by have := (hb b hb').1; simp; omega, .inr (hb b hb').2⟩
    · simp only [List.nodup_cons]
      exact ⟨fun hm => by have := (hb _ hm).1; omega, hn⟩
    · intro β' ev' h1 h2 _ _
      simp only [EntOk]
      refine ⟨w.heap.size, (a.eval x).cells, bs, h2, heap_alloc_new w _, ?_, h1⟩
      refine RL.mono (fun _ hz => hz) _ (fun b hb' => ?_) (RD.cells hr)
      rcases hb' with hz | hb'
      · exact (Grow.alloc w _ (fun _ => False)).block b (h.zlt b hz) (fun h => h)
      · exact (Grow.alloc w _ (fun _ => False)).block b (hb b hb').1 (fun h => h)

/-- The zero value of type T, as cells. -/
def zeroOk (P : Program) (T : TypeId) (cs : List C) : Prop := ∃ z, (P.info? T).bind (·.zero) = some z ∧ ∀ w Z, RL P w Z cs z.cells.toList []

theorem la_alloc {E : Ctx} {o : Oper} {t : Nat} {T : TypeId} {cs : List C} (ho : o.op = .alloc T) (hd : o.dst = some t) (ht : Nat.blt t fr.n = true) (hz : zeroOk P T cs) :
    LA P fr E o [⟨t, true, some (.box T cs)⟩] := by
  intro Γ hle a w K Q ⟨Z, β, γ, h⟩ hk
  obtain ⟨z, hz1, hz2⟩ := hz
  refine wp_of_run (w' := w.alloc (.cells z.cells T)) (v := .pointer (some ⟨w.heap.size, 0, none⟩)) ?_ (hk _ _ ?_)
  · unfold execOp
    rw [ho]
    cases hi : P.info? T with
    | none => rw [hi] at hz1; simp at hz1
    | some i =>
      rw [hi] at hz1
      simp at hz1
      simp [Instr.alloc, zeroValue, typeInfo, hi, hz1, newVar, newRow, newObj]
      rfl
  · rw [hd]
    refine ⟨Z, _, γ, h.give [] ht (bn := [w.heap.size]) (Grow.alloc _ _ _) ?_ (by simp) ?_⟩
    · intro b hb'
      simp at hb'
      subst hb'
      exact ⟨by simp, .inl (Nat.le_refl _)⟩
    · intro β' ev' h1 h2 _ _
      simp only [EntOk]
      exact ⟨w.heap.size, z.cells, [], h2, heap_alloc_new w _, hz2 _ _, h1⟩

end Go.Proofs.YtdclbbkkcngjnaaT

namespace Go.Proofs.YtdclbbkkcngjnaaT
open Go
variable {P : Program} {fr : Fr}

/-! ### Pointers to variables of the call's own -/
/-- An operand that points to a variable: whose, its type, its cells. -/
def bxOf (n : Nat) (Γ : Ctx) : Operand → Option (Nat × TypeId × List C)
  | .tmp t => bif Nat.blt t n then
      match Γ t with
      | some (.box T cs) => some (t, T, cs)
      | some (.eq r) => match Γ r with
        | some (.box T cs) => some (r, T, cs)
        | _ => none
      | _ => none
    else none
  | _ => none

theorem bxOf_le {n : Nat} {E Γ : Ctx} (hle : E_le E Γ) {x : Operand} {q : Nat × TypeId × List C} (h : bxOf n E x = some q) : bxOf n Γ x = some q := by
  cases x with
  | tmp t =>
    simp only [bxOf] at h ⊢
    cases ht : Nat.blt t n with
    | false => rw [ht] at h; simp at h
    | true =>
      rw [ht] at h
      simp only [cond_true] at h ⊢
      cases hg : E t with
      | none => rw [hg] at h; simp at h
      | some e =>
        rw [hg] at h
        rw [hle t e hg]
        cases e <;> simp at h ⊢
        · exact h
        · rename_i r
          cases hr : E r with
          | none => rw [hr] at h; simp at h
          | some e => rw [hr] at h; rw [hle r e hr]; exact h
  | const v => exact h
  | global g => exact h
  | func f => exact h

theorem bxOf_ok {Γ : Ctx} {a : Act} {w : World} {Z : Nat → Prop} {β : Nat → List Nat} {γ : Nat → Value} (h : Core P fr Γ a w Z β γ) {x : Operand} {r : Nat} {T : TypeId} {cs : List C}
    (hv : bxOf fr.n Γ x = some (r, T, cs)) : Γ r = some (.box T cs) ∧ ∃ b vs bs, a.eval x = .pointer (some ⟨b, 0, none⟩) ∧ ev fr.n a γ r = .pointer (some ⟨b, 0, none⟩) ∧
      w.heap[b]? = some (.cells vs T (0, 0)) ∧ RL P w Z cs vs.toList bs ∧ β r = b :: bs := by
  cases x with
  | tmp t =>
    simp only [bxOf] at hv
    cases ht : Nat.blt t fr.n with
    | false => rw [ht] at hv; simp at hv
    | true =>
      rw [ht] at hv
      simp only [cond_true] at hv
      rw [eval_ev (γ := γ) ht]
      cases hg : Γ t with
      | none => rw [hg] at hv; simp at hv
      | some e =>
        have he := h.ent t e hg
        rw [hg] at hv
        cases e <;> simp at hv
        · obtain ⟨rfl, rfl, rfl⟩ := hv
          obtain ⟨b, vs, bs, h1, h2, h3, h4⟩ := he
          exact ⟨hg, b, vs, bs, h1, h1, h2, h3, h4⟩
        · rename_i q
          cases hq : Γ q with
          | none => rw [hq] at hv; simp at hv
          | some e =>
            have he' := h.ent q e hq
            rw [hq] at hv
            cases e <;> simp at hv
            obtain ⟨rfl, rfl, rfl⟩ := hv
            obtain ⟨b, vs, bs, h1, h2, h3, h4⟩ := he'
            exact ⟨hq, b, vs, bs, by rw [show ev fr.n a γ t = ev fr.n a γ q from he]; exact h1, h1, h2, h3, h4⟩
  | const v => simp [bxOf] at hv
  | global g => simp [bxOf] at hv
  | func f => simp [bxOf] at hv

/-- A pointer to one cell of a variable. -/
def flOf (n : Nat) (Γ : Ctx) : Operand → Option (Nat × Nat × TypeId × List C)
  | .tmp t => bif Nat.blt t n then
      match Γ t with
      | some (.fld r k) => match Γ r with
        | some (.box T cs) => some (r, k, T, cs)
        | _ => none
      | some (.box T cs) => some (t, 0, T, cs)
      | some (.eq r) => match Γ r with
        | some (.box T cs) => some (r, 0, T, cs)
        | _ => none
      | _ => none
    else none
  | _ => none

theorem flOf_le {n : Nat} {E Γ : Ctx} (hle : E_le E Γ) {x : Operand} {q : Nat × Nat × TypeId × List C} (h : flOf n E x = some q) : flOf n Γ x = some q := by
  cases x with
  | tmp t =>
    simp only [flOf] at h ⊢
    cases ht : Nat.blt t n with
    | false => rw [ht] at h; simp at h
    | true =>
      rw [ht] at h
      simp only [cond_true] at h ⊢
      cases hg : E t with
      | none => rw [hg] at h; simp at h
      | some e =>
        rw [hg] at h
        rw [hle t e hg]
        cases e <;> simp at h ⊢
        · exact h
        · rename_i r
          cases hr : E r with
          | none => rw [hr] at h; simp at h
          | some e => rw [hr] at h; rw [hle r e hr]; exact h
        · rename_i r k
          cases hr : E r with
          | none => rw [hr] at h; simp at h
          | some e => rw [hr] at h; rw [hle r e hr]; exact h
  | const v => exact h
  | global g => exact h
  | func f => exact h

theorem flOf_ok {Γ : Ctx} {a : Act} {w : World} {Z : Nat → Prop} {β : Nat → List Nat} {γ : Nat → Value} (h : Core P fr Γ a w Z β γ) {x : Operand} {r k : Nat} {T : TypeId} {cs : List C}
    (hv : flOf fr.n Γ x = some (r, k, T, cs)) : Γ r = some (.box T cs) ∧ ∃ b vs bs, a.eval x = .pointer (some ⟨b, k, none⟩) ∧ ev fr.n a γ r = .pointer (some ⟨b, 0, none⟩) ∧
      w.heap[b]? = some (.cells vs T (0, 0)) ∧ RL P w Z cs vs.toList bs ∧ β r = b :: bs := by
  cases x with
  | tmp t =>
    simp only [flOf] at hv
    cases ht : Nat.blt t fr.n with
    | false => rw [ht] at hv; simp at hv
    | true =>
      rw [ht] at hv
      simp only [cond_true] at hv
      rw [eval_ev (γ := γ) ht]
      cases hg : Γ t with
      | none => rw [hg] at hv; simp at hv
      | some e =>
        have he := h.ent t e hg
        rw [hg] at hv
        cases e <;> simp at hv
        · obtain ⟨rfl, rfl, rfl, rfl⟩ := hv
          obtain ⟨b, vs, bs, h1, h2, h3, h4⟩ := he
          exact ⟨hg, b, vs, bs, h1, h1, h2, h3, h4⟩
        · rename_i q
          cases hq : Γ q with
          | none => rw [hq] at hv; simp at hv
          | some e =>
            have he' := h.ent q e hq
            rw [hq] at hv
            cases e <;> simp at hv
            obtain ⟨rfl, rfl, rfl, rfl⟩ := hv
            obtain ⟨b, vs, bs, h1, h2, h3, h4⟩ := he'
            exact ⟨hq, b, vs, bs, by rw [show ev fr.n a γ t = ev fr.n a γ q from he]; exact h1, h1, h2, h3, h4⟩
        · rename_i q k'
          cases hq : Γ q with
          | none => rw [hq] at hv; simp at hv
          | some e =>
            have he' := h.ent q e hq
            rw [hq] at hv
            cases e <;> simp at hv
            obtain ⟨rfl, rfl, rfl, rfl⟩ := hv
            obtain ⟨b, vs, bs, h1, h2, h3, h4⟩ := he'
            obtain ⟨b', h5, h6⟩ := he
            have : b' = b := by rw [h1] at h5; simpa using h5.symm
            subst this
            exact ⟨hq, b', vs, bs, h6, h1, h2, h3, h4⟩
  | const v => simp [flOf] at hv
  | global g => simp [flOf] at hv
  | func f => simp [flOf] at hv

theorem add_at (b k : Nat) : (⟨b, 0, none⟩ : Addr).add k = ⟨b, k, none⟩ := by unfold Addr.add; split <;> simp_all

theorem la_fbx {E : Ctx} {o : Oper} {t : Nat} {T T' : TypeId} {f k r : Nat} {x : Operand} {cs : List C} (ho : o.op = .fieldAddr T x f) (hd : o.dst = some t) (ht : Nat.blt t fr.n = true)
    (hT : fldAt P T f k = true) (hx : bxOf fr.n E x = some (r, T', cs)) (hr : Nat.beq r t = false) : LA P fr E o [⟨t, true, some (.fld r k)⟩] := by
  refine LA.val hd ht fun Γ a w Z β γ hle h => ?_
  obtain ⟨_, b, vs, bs, hv, hr', _⟩ := bxOf_ok h (bxOf_le hle hx)
  refine ⟨.pointer (some ⟨b, k, none⟩), ?_, fun β' ev' hb hb' hv' hv'' => ?_⟩
  · unfold execOp
    rw [ho]
    simp [hv, run_fldAt hT, add_at]
  · simp only [EntOk]
    refine ⟨b, ?_, hv'⟩
    rw [hv'' r (by rintro rfl; simp at hr)]
    exact hr'

/-- A cell of an own variable is read: it is plain. -/
theorem la_ldf {E : Ctx} {o : Oper} {t : Nat} {T T' : TypeId} {x : Operand} {r k : Nat} {c : C} {cs : List C} (ho : o.op = .load T x) (hd : o.dst = some t) (ht : Nat.blt t fr.n = true)
    (hT : flatT P T = true) (hx : flOf fr.n E x = some (r, k, T', cs)) (hc : cs[k]? = some c) (hp : plainC c = true) : LA P fr E o [⟨t, true, some (.d (.one c))⟩] := by
  refine LA.val hd ht fun Γ a w Z β γ hle h => ?_
  obtain ⟨_, b, vs, bs, hv, hr', hb, hl, _⟩ := flOf_ok h (flOf_le hle hx)
  obtain ⟨v1, y, v2, b1, b2, b3, hvs, _, hlen, _, hrc, _⟩ := RL.get hl hc
  have hy : w.cell? ⟨b, k, none⟩ = some y := by
    have : vs[k]? = some y := by rw [← Array.getElem?_toList, hvs, List.getElem?_append_right (by omega)]; simp [hlen]
    simp [World.cell?, hb, this]
  have hn := plainC_nil hp hrc
  subst hn
  refine ⟨y, ?_, fun β' ev' hb hb' hv' hv'' => ?_⟩
  · unfold execOp
    rw [ho]
    simp [hv, run_load_flat hT hy]
  · simp only [EntOk, RD]
    rw [hv', hb]
    exact hrc

/-- A cell of an own variable is read: it is borrowed. -/
theorem la_ldfb {E : Ctx} {o : Oper} {t : Nat} {T T' : TypeId} {x : Operand} {r k : Nat} {c c' : C} {cs : List C} (ho : o.op = .load T x) (hd : o.dst = some t) (ht : Nat.blt t fr.n = true)
    (hT : flatT P T = true) (hx : flOf fr.n E x = some (r, k, T', cs)) (hc : cs[k]? = some c) (hs : shC c = c') (hr : Nat.beq r t = false) : LA P fr E o [⟨t, true, some (.bor r (.one c'))⟩] := by
  refine LA.val hd ht fun Γ a w Z β γ hle h => ?_
  obtain ⟨_, b, vs, bs, hv, hr', hb, hl, hβ⟩ := flOf_ok h (flOf_le hle hx)
  obtain ⟨v1, y, v2, b1, b2, b3, hvs, hbs, hlen, _, hrc, _⟩ := RL.get hl hc
  have hy : w.cell? ⟨b, k, none⟩ = some y := by
    have : vs[k]? = some y := by rw [← Array.getElem?_toList, hvs, List.getElem?_append_right (by omega)]; simp [hlen]
    simp [World.cell?, hb, this]
  refine ⟨y, ?_, fun β' ev' hb hb' hv' hv'' => ?_⟩
  · unfold execOp
    rw [ho]
    simp [hv, run_load_flat hT hy]
  · simp only [EntOk, RD]
    rw [hv', ← hs]
    refine RC.mono ?_ _ (fun _ _ => rfl) (RC.share c hrc)
    intro b' hz
    simp only [zr]
    rw [hb' r (by rintro rfl; simp at hr), hβ, hbs]
    rcases hz with hz | hz
    · exact .inl hz
    · right; simp [hz]

/-- A whole variable is read: all of it is plain. -/
theorem la_ldb {E : Ctx} {o : Oper} {t : Nat} {T T' : TypeId} {x : Operand} {r : Nat} {cs : List C} (ho : o.op = .load T x) (hd : o.dst = some t) (ht : Nat.blt t fr.n = true)
    (hT : rowT P T = true) (hx : bxOf fr.n E x = some (r, T', cs)) (hn : cs.length = szOf P T) (hp : cs.all plainC = true) : LA P fr E o [⟨t, true, some (.d (.agg cs))⟩] := by
  refine LA.val hd ht fun Γ a w Z β γ hle h => ?_
  obtain ⟨_, b, vs, bs, hv, hr', hb, hl, _⟩ := bxOf_ok h (bxOf_le hle hx)
  have hnil := plainL_nil cs hp hl
  subst hnil
  refine ⟨.agg vs, ?_, fun β' ev' hb hb' hv' hv'' => ?_⟩
  · unfold execOp
    rw [ho]
    have := run_load_row (P := P) hT (ad := ⟨b, 0, none⟩) (w := w) (vs := vs.toList) (by rw [RL.length _ hl]; exact hn) (fun k x hk => by rw [cell_row hb]; simpa using hk)
    simp [hv, this]
  · simp only [EntOk]
    rw [hv', hb]
    exact ⟨vs.toList, by simp, hl⟩

/-- A whole variable is read: it is borrowed. -/
theorem la_ldbb {E : Ctx} {o : Oper} {t : Nat} {T T' : TypeId} {x : Operand} {r : Nat} {cs cs' : List C} (ho : o.op = .load T x) (hd : o.dst = some t) (ht : Nat.blt t fr.n = true)
    (hT : rowT P T = true) (hx : bxOf fr.n E x = some (r, T', cs)) (hn : cs.length = szOf P T) (hs : cs.map shC = cs') (hr : Nat.beq r t = false) : LA P fr E o [⟨t, true, some (.bor r (.agg cs'))⟩] := by
  refine LA.val hd ht fun Γ a w Z β γ hle h => ?_
  obtain ⟨_, b, vs, bs, hv, hr', hb, hl, hβ⟩ := bxOf_ok h (bxOf_le hle hx)
  refine ⟨.agg vs, ?_, fun β' ev' hb hb' hv' hv'' => ?_⟩
  · unfold execOp
    rw [ho]
    have := run_load_row (P := P) hT (ad := ⟨b, 0, none⟩) (w := w) (vs := vs.toList) (by rw [RL.length _ hl]; exact hn) (fun k x hk => by rw [cell_row hb]; simpa using hk)
    simp [hv, this]
  · simp only [EntOk]
    rw [hv']
    refine ⟨vs.toList, by simp, ?_⟩
    have h1 := RL.share cs hl
    rw [shL_map, hs] at h1
    refine RL.mono ?_ _ (fun _ _ => rfl) h1
    intro b' hz
    simp only [zr]
    rw [hb' r (by rintro rfl; simp at hr), hβ]
    rcases hz with hz | hz
    · exact .inl hz
    · right; simp [hz]

/-- A whole variable is read and given up. -/
theorem la_ldbt {E : Ctx} {o : Oper} {t : Nat} {T T' : TypeId} {x : Operand} {r : Nat} {cs : List C} (ho : o.op = .load T x) (hd : o.dst = some t) (ht : Nat.blt t fr.n = true)
    (hT : rowT P T = true) (hx : bxOf fr.n E x = some (r, T', cs)) (hn : cs.length = szOf P T) : LA P fr E o (⟨t, true, some (.d (.agg cs))⟩ :: [r].map rmv) := by
  intro Γ hle a w K Q ⟨Z, β, γ, h⟩ hk
  obtain ⟨_, b, vs, bs, hv, hr', hb, hl, hβ⟩ := bxOf_ok h (bxOf_le hle hx)
  refine wp_of_run (w' := w) (v := .agg vs) ?_ (hk _ _ ?_)
  · unfold execOp
    rw [ho]
    have := run_load_row (P := P) hT (ad := ⟨b, 0, none⟩) (w := w) (vs := vs.toList) (by rw [RL.length _ hl]; exact hn) (fun k x hk => by rw [cell_row hb]; simpa using hk)
    simp [hv, this]
  · rw [hd]
    have hnd := h.nodup r
    rw [hβ] at hnd
    refine ⟨Z, _, γ, h.give [r] ht (bn := bs) (Grow.refl _ _) ?_ (List.nodup_cons.1 hnd).2 ?_⟩
    · intro b' hb'
      exact ⟨(h.own r b' (by rw [hβ]; simp [hb'])).1, .inr ⟨r, by simp, by rw [hβ]; simp [hb']⟩⟩
    · intro β' ev' h1 h2 _ _
      simp only [EntOk]
      rw [h2, h1]
      exact ⟨vs.toList, by simp, hl⟩

theorem setRow_of {w : World} {b k : Nat} {vs : Array Value} {T : TypeId} {y : Value} (hb : w.heap[b]? = some (.cells vs T (0, 0))) : (w.setCell ⟨b, k, none⟩ y).heap[b]? = some (.cells (vs.setIfInBounds k y) T (0, 0)) := by
  simp [World.setCell, Array.getElem?_modify, hb]

theorem Grow.setCell (w : World) (b k : Nat) (y : Value) {bs : Nat → Prop} (h : bs b) : Grow w (w.setCell ⟨b, k, none⟩ y) bs :=
  ⟨rfl, rfl, rfl, by simp, fun b' _ hn => by
    simp only [World.setCell, Array.getElem?_modify]
    rw [if_neg (by rintro rfl; exact hn h)]⟩

theorem run_store_flat {T : TypeId} (hT : szOf P T = 1) (hi : (P.info? T).isSome = true) {ad : Addr} {w : World} {x y : Value} (hc : w.cell? ad = some x) (hf : w.frozen? ad = false) (h1 : y.oneCell' = true) :
    (Instr.storeAt T (.pointer (some ad)) y).run P w = .ok () (w.setCell ad y) := by
  cases hq : P.info? T with
  | none => simp [hq] at hi
  | some i =>
    have hs : i.size = 1 := by simpa [szOf, hq] using hT
    have hcell : y.cells = #[y] := by cases y <;> simp_all [Value.oneCell', Value.cells]
    have hst := run_store P w ad y .plain h1
    simp [Instr.storeAt, Instr.sureAddr, storeVar, sizeOf, typeInfo, hq, hs, hcell, storeCells, Addr.add]
    simp [hst, hc, hf]

/-- A cell of an own variable is written. -/
theorem la_stf {E : Ctx} {o : Oper} {T T' : TypeId} {p x : Operand} {r k : Nat} {c c' : C} {cs : List C} {S : List Nat} (ho : o.op = .store T p x) (hd : o.dst = none)
    (hT : szOf P T = 1) (hi : (P.info? T).isSome = true) (hp : flOf fr.n E p = some (r, k, T', cs)) (hc : cs[k]? = some c) (hx : tk fr.n E x = some (.one c', S)) (hS : S.contains r = false) :
    LA P fr E o (⟨r, false, some (.box T' (cs.set k c'))⟩ :: S.map rmv) := by
  intro Γ hle a w K Q ⟨Z, β, γ, h⟩ hk
  obtain ⟨hgr, b, vs, bs, hv, hr', hb, hl, hβ⟩ := flOf_ok h (flOf_le hle hp)
  obtain ⟨bx, hx1, hx2, hx3⟩ := tk_ok h (tk_le hle hx)
  obtain ⟨v1, y, v2, b1, b2, b3, hvs, hbs, hlen, hl1, hrc, hl2⟩ := RL.get hl hc
  have hk' : vs[k]? = some y := by rw [← Array.getElem?_toList, hvs, List.getElem?_append_right (by omega)]; simp [hlen]
  have hy : w.cell? ⟨b, k, none⟩ = some y := by simp [World.cell?, hb, hk']
  have hf : w.frozen? ⟨b, k, none⟩ = false := by simp [World.frozen?, hb]
  have hrun := run_store_flat (P := P) hT hi hy hf (RC.one hx1)
  unfold Oper.wp
  have hexec : (execOp a.eval o).run P w = .ok .skip (w.setCell ⟨b, k, none⟩ (a.eval x)) := by
    unfold execOp
    rw [ho]
    simp [hv, hrun]
  rw [hexec]
  simp only [Oper.upon, hd, Act.put]
  refine hk _ _ ⟨Z, _, γ, h.poke S (by simpa using hS) (bn := b :: (b1 ++ bx ++ b3)) (Grow.setCell _ _ _ _ (.inl (by rw [hβ]; simp))) ?_ ?_ ?_⟩
  · intro b' hb'
    simp only [List.mem_cons, List.mem_append] at hb'
    rcases hb' with rfl | (hb' | hb') | hb'
    · left; rw [hβ]; simp
    · left; rw [hβ, hbs]; simp [hb']
    · right; exact (hx3 b' hb').2
    · left; rw [hβ, hbs]; simp [hb']
  · have hnd := h.nodup r
    rw [hβ, hbs] at hnd
    have hdis : ∀ b', b' ∈ bx → b' ∉ β r := by
      intro b' hb' hb''
      obtain ⟨s, hs1, hs2⟩ := (hx3 b' hb').2
      exact h.disj s r b' (by rintro rfl; simp at hS; exact hS hs1) hs2 hb''
    rw [hβ, hbs] at hdis
    simp only [List.nodup_cons, List.nodup_append, List.mem_append, List.mem_cons] at hnd hdis ⊢
    obtain ⟨h1, ⟨h2, h3, h4⟩, h5, h6⟩ := hnd
    refine ⟨?_, ⟨h2, hx2, ?_⟩, h5, ?_⟩
    · rintro ((h' | h') | h')
      · exact h1 (.inl (.inl h'))
      · exact hdis b h' (.inl rfl)
      · exact h1 (.inr h')
    · intro x hx y hy e
      subst e
      exact hdis x hy (.inr (.inl (.inl hx)))
    · intro x hx y hy e
      subst e
      rcases hx with hx | hx
      · exact h6 x (.inl hx) x hy rfl
      · exact hdis x hx (.inr (.inr hy))
  · intro β' h1 _
    simp only [EntOk]
    have hblk : ∀ b', (Z b' ∨ b' ∈ b1 ++ bx ++ b3) → (w.setCell ⟨b, k, none⟩ (a.eval x)).heap[b']? = w.heap[b']? := by
      intro b' hb'
      have hne : b' ≠ b := by
        rintro rfl
        rcases hb' with hz | hb'
        · exact (h.own r b' (by rw [hβ]; simp)).2.1 hz
        · have hnd := h.nodup r
          rw [hβ, hbs] at hnd
          simp only [List.mem_append] at hb'
          rcases hb' with (hb' | hb') | hb'
          · simp [hb'] at hnd
          · obtain ⟨s, hs1, hs2⟩ := (hx3 b' hb').2
            exact h.disj s r b' (by rintro rfl; simp at hS; exact hS hs1) hs2 (by rw [hβ]; simp)
          · simp [hb'] at hnd
      simp only [World.setCell, Array.getElem?_modify]
      rw [if_neg (Ne.symm hne)]
    refine ⟨b, vs.setIfInBounds k (a.eval x), b1 ++ bx ++ b3, hr', setRow_of hb, ?_, h1⟩
    have hset : (vs.setIfInBounds k (a.eval x)).toList = v1 ++ a.eval x :: v2 := by
      rw [Array.toList_setIfInBounds, hvs, ← hlen]
      simp
    have hcs : cs.set k c' = cs.take k ++ c' :: cs.drop (k + 1) := by
      have hlt : k < cs.length := (List.getElem?_eq_some_iff.1 hc).1
      rw [List.set_eq_take_append_cons_drop, if_pos hlt]
    rw [hset, hcs]
    refine (RL.app _ _ _ _).2 ⟨v1, _, b1, bx ++ b3, rfl, by simp, RL.mono (fun _ hz => hz) _ (fun b' hb' => hblk b' (by rcases hb' with h' | h'; exact .inl h'; exact .inr (by simp [h']))) hl1, ?_⟩
    simp only [RL]
    exact ⟨a.eval x, v2, bx, b3, rfl, rfl, RC.mono (fun _ hz => hz) _ (fun b' hb' => hblk b' (by rcases hb' with h' | h'; exact .inl h'; exact .inr (by simp [h']))) hx1,
      RL.mono (fun _ hz => hz) _ (fun b' hb' => hblk b' (by rcases hb' with h' | h'; exact .inl h'; exact .inr (by simp [h']))) hl2⟩

end Go.Proofs.YtdclbbkkcngjnaaT

namespace Go.Proofs.YtdclbbkkcngjnaaT
open Go
variable {P : Program} {fr : Fr}

/-- Of no block more than there. -/
def Sub (a b : List Nat) : Prop := ∀ x, a.count x ≤ b.count x
theorem Sub.refl (a : List Nat) : Sub a a := fun _ => Nat.le_refl _
theorem Sub.trans {a b c : List Nat} (h : Sub a b) (k : Sub b c) : Sub a c := fun x => Nat.le_trans (h x) (k x)
theorem Sub.app {a b c d : List Nat} (h : Sub a b) (k : Sub c d) : Sub (a ++ c) (b ++ d) := fun x => by
  have := h x; have := k x; simp only [List.count_append]; omega
theorem Sub.mem {a b : List Nat} (h : Sub a b) {x : Nat} (hx : x ∈ a) : x ∈ b := by
  have h1 := List.count_pos_iff.2 hx
  exact List.count_pos_iff.1 (Nat.lt_of_lt_of_le h1 (h x))
theorem Sub.nodup {a b : List Nat} (h : Sub a b) (hb : b.Nodup) : a.Nodup :=
  List.nodup_iff_count.2 fun x => Nat.le_trans (h x) (List.nodup_iff_count.1 hb x)
theorem Sub.nil (b : List Nat) : Sub [] b := fun x => by simp

theorem Core.flat {Γ : Ctx} {a : Act} {w : World} {Z : Nat → Prop} {β : Nat → List Nat} {γ : Nat → Value} (h : Core P fr Γ a w Z β γ) : ∀ {S : List Nat}, S.Nodup → (S.flatMap β).Nodup
  | [], _ => by simp
  | s :: S, hS => by
    simp only [List.flatMap_cons, List.nodup_append]
    have hn := List.nodup_cons.1 hS
    refine ⟨h.nodup s, h.flat hn.2, ?_⟩
    rintro x hx y hy rfl
    obtain ⟨u, hu, hxu⟩ := List.mem_flatMap.1 hy
    exact h.disj s u x (by rintro rfl; exact hn.1 hu) hx hxu

theorem tk_sub {Γ : Ctx} {a : Act} {w : World} {Z : Nat → Prop} {β : Nat → List Nat} {γ : Nat → Value} (h : Core P fr Γ a w Z β γ) {x : Operand} {X : Dt} {S : List Nat}
    (hv : tk fr.n Γ x = some (X, S)) : ∃ bs, RD P w Z X (a.eval x) bs ∧ Sub bs (S.flatMap β) := by
  cases x with
  | tmp t =>
    simp only [tk] at hv
    cases ht : Nat.blt t fr.n with
    | false => rw [ht] at hv; simp at hv
    | true =>
      rw [ht] at hv
      simp only [cond_true] at hv
      rw [eval_ev (γ := γ) ht]
      have fin : ∀ x, EntOk P w Z β (ev fr.n a γ) t (.d x) → X = x → S = (bif plain x then [] else [t]) →
          ∃ bs, RD P w Z X (ev fr.n a γ t) bs ∧ Sub bs (S.flatMap β) := by
        intro x he hx hS
        subst hx
        simp only [EntOk] at he
        cases hp : plain X with
        | true =>
          have := plain_nil hp he
          rw [this] at he
          exact ⟨[], he, Sub.nil _⟩
        | false =>
          rw [hp] at hS
          exact ⟨β t, he, by rw [hS]; simpa using Sub.refl _⟩
      cases hg : Γ t with
      | none => rw [hg] at hv; simp at hv
      | some e =>
        have he := h.ent t e hg
        rw [hg] at hv
        cases e <;> simp at hv
        · exact fin _ he hv.1.symm hv.2.symm
        · exact fin _ he.2 hv.1.symm hv.2.symm
  | const v =>
    obtain ⟨bs, h1, _, h3⟩ := tk_ok h hv
    have : bs = [] := by
      cases bs with
      | nil => rfl
      | cons b bs =>
        obtain ⟨_, s, hs, _⟩ := h3 b (by simp)
        simp only [tk] at hv
        cases hp : v.oneCell' with
        | false => rw [hp] at hv; simp at hv
        | true => rw [hp] at hv; simp at hv; obtain ⟨rfl, rfl⟩ := hv; simp at hs
    subst this
    exact ⟨[], h1, Sub.nil _⟩
  | global g => simp [tk] at hv
  | func f => simp [tk] at hv

/-- What is handed on whole: the temporary s is used up. -/
def mov : Ent → Bool
  | .d _ => true
  | .dv _ _ => true
  | .tup _ => true
  | .box _ _ => true
  | _ => false

theorem la_mvo {E : Ctx} {o : Oper} {t s : Nat} {e : Ent} (ho : o.op = .move (.tmp s) ∨ o.op = .assign (.tmp s)) (hd : o.dst = some t) (ht : Nat.blt t fr.n = true) (hs : Nat.blt s fr.n = true)
    (hx : E s = some e) (hm : mov e = true) : LA P fr E o (⟨t, true, some e⟩ :: [s].map rmv) := by
  intro Γ hle a w K Q ⟨Z, β, γ, h⟩ hk
  have he := h.ent s e (hle s e hx)
  refine wp_of_run (w' := w) (v := a.eval (.tmp s)) (run_mv ho w) (hk _ _ ?_)
  rw [hd]
  refine ⟨Z, _, γ, h.give [s] ht (bn := β s) (Grow.refl _ _) (fun b hb => ⟨(h.own s b hb).1, .inr ⟨s, by simp, hb⟩⟩) (h.nodup s) ?_⟩
  intro β' ev' h1 h2 _ _
  rw [eval_ev (γ := γ) hs] at h2
  cases e <;> simp [mov] at hm <;> simp only [EntOk] at he ⊢ <;> rw [h2] <;> rw [h1] <;> exact he

/-- A copy of own data, to be read. -/
theorem la_bw {E : Ctx} {o : Oper} {t s r : Nat} {X X' : Dt} {cs cs' : List C} (ho : o.op = .move (.tmp s) ∨ o.op = .assign (.tmp s)) (hd : o.dst = some t) (ht : Nat.blt t fr.n = true) (hs : Nat.blt s fr.n = true)
    (hx : E s = some (.eq r) ∨ s = r) (hX : E r = some (.d X)) (hr : Nat.beq r t = false)
    (hsh : (∃ c, X = .one c ∧ X' = .one (shC c)) ∨ (∃ cs, X = .agg cs ∧ X' = .agg (cs.map shC))) : LA P fr E o [⟨t, true, some (.bor r X')⟩] := by
  refine LA.val hd ht fun Γ a w Z β γ hle h => ⟨a.eval (.tmp s), run_mv ho w, fun β' ev' hb hb' hv hv' => ?_⟩
  have he : RD P w Z X (ev fr.n a γ r) (β r) := h.ent r _ (hle r _ hX)
  have hev : ev fr.n a γ s = ev fr.n a γ r := by
    rcases hx with hx | rfl
    · exact h.ent s _ (hle s _ hx)
    · rfl
  have hrt : r ≠ t := by rintro rfl; simp at hr
  simp only [EntOk]
  rw [hv, eval_ev (γ := γ) hs, hev]
  have hz : ∀ b, (Z b ∨ b ∈ β r) → zr Z β' (some r) b := fun b hb => by simp only [zr]; rw [hb' r hrt]; exact hb
  rcases hsh with ⟨c, rfl, rfl⟩ | ⟨cs, rfl, rfl⟩
  · exact RC.mono hz _ (fun _ _ => rfl) (RC.share c he)
  · obtain ⟨vs, h1, h2⟩ := he
    refine ⟨vs, h1, ?_⟩
    have h3 := RL.share cs h2
    rw [shL_map] at h3
    exact RL.mono hz _ (fun _ _ => rfl) h3

/-- A pointer that is none of nil. -/
def isPtr (n : Nat) (Γ : Ctx) : Operand → Bool
  | .tmp t => bif Nat.blt t n then
      match Γ t with
      | some (.box _ _) => true
      | some (.fld _ _) => true
      | some (.elt _ _ _ _) => true
      | some (.sp _ _) => true
      | some (.eq r) => match Γ r with
        | some (.box _ _) => true
        | _ => false
      | _ => false
    else false
  | _ => false

theorem isPtr_ok {Γ : Ctx} {a : Act} {w : World} {Z : Nat → Prop} {β : Nat → List Nat} {γ : Nat → Value} (h : Core P fr Γ a w Z β γ) {x : Operand} (hv : isPtr fr.n Γ x = true) : ∃ ad, a.eval x = .pointer (some ad) := by
  cases x with
  | tmp t =>
    simp only [isPtr] at hv
    cases ht : Nat.blt t fr.n with
    | false => rw [ht] at hv; simp at hv
    | true =>
      rw [ht] at hv
      simp only [cond_true] at hv
      rw [eval_ev (γ := γ) ht]
      cases hg : Γ t with
      | none => rw [hg] at hv; simp at hv
      | some e =>
        have he := h.ent t e hg
        rw [hg] at hv
        cases e <;> simp at hv
        · obtain ⟨b, _, _, h1, _⟩ := he; exact ⟨_, h1⟩
        · rename_i r
          cases hr : Γ r with
          | none => rw [hr] at hv; simp at hv
          | some e' =>
            have he' := h.ent r e' hr
            rw [hr] at hv
            cases e' <;> simp at hv
            obtain ⟨b, _, _, h1, _⟩ := he'
            exact ⟨_, by rw [show ev fr.n a γ t = ev fr.n a γ r from he]; exact h1⟩
        · obtain ⟨b, _, h1⟩ := he; exact ⟨_, h1⟩
        · obtain ⟨g, n, cap, _, h1⟩ := he; exact ⟨_, h1⟩
        · obtain ⟨ad, _, h1, _⟩ := he; exact ⟨_, h1⟩
  | const v => simp [isPtr] at hv
  | global g => simp [isPtr] at hv
  | func f => simp [isPtr] at hv

theorem isPtr_le {n : Nat} {E Γ : Ctx} (hle : E_le E Γ) {x : Operand} (h : isPtr n E x = true) : isPtr n Γ x = true := by
  cases x with
  | tmp t =>
    simp only [isPtr] at h ⊢
    cases ht : Nat.blt t n with
    | false => rw [ht] at h; simp at h
    | true =>
      rw [ht] at h
      simp only [cond_true] at h ⊢
      cases hg : E t with
      | none => rw [hg] at h; simp at h
      | some e =>
        rw [hg] at h
        rw [hle t e hg]
        cases e <;> simp at h ⊢
        rename_i r
        cases hr : E r with
        | none => rw [hr] at h; simp at h
        | some e' => rw [hr] at h; rw [hle r e' hr]; exact h
  | const v => exact h
  | global g => exact h
  | func f => exact h

theorem cp_le {n : Nat} {E Γ : Ctx} (hle : E_le E Γ) {x : Operand} {e : Ent} (h : cp n E x = some e) : cp n Γ x = some e := by
  cases x with
  | tmp t =>
    simp only [cp] at h ⊢
    cases ht : Nat.blt t n with
    | false => rw [ht] at h; simp at h
    | true =>
      rw [ht] at h
      simp only [cond_true] at h ⊢
      cases hg : E t with
      | none => rw [hg] at h; simp at h
      | some e' => rw [hg] at h; rw [hle t e' hg]; exact h
  | const v => exact h
  | global g => exact h
  | func f => exact h

/-- The test for nil copies the pointer. -/
theorem la_nilc {E : Ctx} {o : Oper} {x : Operand} {t : Nat} {e : Ent} (ho : o.op = .nilCheck x) (hd : o.dst = some t) (ht : Nat.blt t fr.n = true)
    (hx : cp fr.n E x = some e) (hne : e.hdep t = false) (hp : isPtr fr.n E x = true) : LA P fr E o [⟨t, true, some e⟩] := by
  have hmv := la_mv (P := P) (fr := fr) (E := E) (o := { o with op := .move x }) (x := x) (t := t) (e := e) (.inl rfl) hd ht hx hne
  intro Γ hle a w K Q hst hk
  have h1 := hmv Γ hle a w K Q hst hk
  obtain ⟨Z, β, γ, h⟩ := hst
  obtain ⟨ad, had⟩ := isPtr_ok h (isPtr_le hle hp)
  unfold Oper.wp at h1 ⊢
  have e1 : (execOp a.eval { o with op := .move x }).run P w = .ok (.value (a.eval x)) w := run_mv (.inl rfl) w
  have e2 : (execOp a.eval o).run P w = .ok (.value (a.eval x)) w := by
    unfold execOp
    rw [ho]
    simp [had]
  rw [e1] at h1
  rw [e2]
  exact h1

/-- A whole variable is written. -/
theorem la_stb {E : Ctx} {o : Oper} {T T' : TypeId} {p x : Operand} {r : Nat} {cs cs' : List C} {S : List Nat} (ho : o.op = .store T p x) (hd : o.dst = none)
    (hp : bxOf fr.n E p = some (r, T', cs)) (hT : szOf P T = cs.length) (hi : (P.info? T).isSome = true) (hx : tk fr.n E x = some (.agg cs', S)) (hl : cs'.length = cs.length) (hS : S.contains r = false) (hSn : S.Nodup) :
    LA P fr E o (⟨r, false, some (.box T' cs')⟩ :: S.map rmv) := by
  intro Γ hle a w K Q ⟨Z, β, γ, h⟩ hk
  obtain ⟨hgr, b, vs, bs, hv, hr', hb, hrl, hβ⟩ := bxOf_ok h (bxOf_le hle hp)
  obtain ⟨bx, ⟨xs, hxe, hxr⟩, hx2⟩ := tk_sub h (tk_le hle hx)
  have hxl := RL.length _ hxr
  have hvl := RL.length _ hrl
  unfold Oper.wp
  have hexec : (execOp a.eval o).run P w = .ok .skip (w.setRow b xs.toArray) := by
    unfold execOp
    rw [ho]
    cases hq : P.info? T with
    | none => simp [hq] at hi
    | some i =>
      have hs : i.size = cs.length := by simpa [szOf, hq] using hT
      have := run_storeVar_row (P := P) w b T' T vs xs.toArray hb (by simp [hq, hs, hxl, hl]) (by simp at hvl; simp [hvl, hxl, hl]) (all_oneCell_toArray (RL.one _ hxr))
      simp [hv, hxe, Instr.storeAt, Instr.sureAddr, this]
  rw [hexec]
  simp only [Oper.upon, hd, Act.put]
  have hgw : Grow w (w.setRow b xs.toArray) (fun b' => b' ∈ β r ∨ ∃ s, s ∈ S ∧ b' ∈ β s) :=
    ⟨rfl, rfl, rfl, by simp [World.setRow], fun b' _ hn => setRow_other w b b' _ (by rintro rfl; exact hn (.inl (by rw [hβ]; simp)))⟩
  have hmem : ∀ b', b' ∈ bx → ∃ s, s ∈ S ∧ b' ∈ β s := fun b' hb' => by
    obtain ⟨s, h1, h2⟩ := List.mem_flatMap.1 (hx2.mem hb'); exact ⟨s, h1, h2⟩
  have hnb : ∀ b', b' ∈ bx → b' ∉ β r := by
    intro b' hb' hb''
    obtain ⟨s, hs1, hs2⟩ := hmem b' hb'
    exact h.disj s r b' (by rintro rfl; simp at hS; exact hS hs1) hs2 hb''
  refine hk _ _ ⟨Z, _, γ, h.poke S (by simpa using hS) (bn := b :: bx) hgw ?_ ?_ ?_⟩
  · intro b' hb'
    rcases List.mem_cons.1 hb' with rfl | hb'
    · left; rw [hβ]; simp
    · exact .inr (hmem b' hb')
  · rw [List.nodup_cons]
    exact ⟨fun hm => hnb b hm (by rw [hβ]; simp), hx2.nodup (h.flat hSn)⟩
  · intro β' h1 _
    simp only [EntOk]
    refine ⟨b, xs.toArray, bx, hr', setRow_heap w b vs _ T' _ hb, ?_, h1⟩
    refine RL.mono (fun _ hz => hz) _ (fun b' hb' => setRow_other w b b' _ ?_) hxr
    rintro rfl
    rcases hb' with hz | hb'
    · exact (h.own r b' (by rw [hβ]; simp)).2.1 hz
    · exact hnb b' hb' (by rw [hβ]; simp)

end Go.Proofs.YtdclbbkkcngjnaaT
