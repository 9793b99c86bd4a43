/- What a function promises, the rule of a call, and the ways in and out. -/
import Derived.Test.YtdclbbkkcngjnaaTrB
set_option linter.all false
namespace Go.Proofs.YtdclbbkkcngjnaaT
open Go
variable {P : Program} {fr : Fr}

/-! ### What a function promises -/
def Γin (n : Nat) (pars gh : List Ent) : Ctx := fun t => bif Nat.blt t n then pars[t]? else gh[t - n]?

def evi (n : Nat) (vals : List Value) (γ : Nat → Value) (t : Nat) : Value := if t < n then vals.getD t undef else γ t

/-- An entry that depends on none else. -/
def OwnOk (P : Program) (w : World) (Z : Nat → Prop) (e : Ent) (v : Value) (bs : List Nat) : Prop := EntOk P w Z (fun _ => bs) (fun _ => v) 0 e

theorem mov_iff {w : World} {Z : Nat → Prop} {β : Nat → List Nat} {ev' : Nat → Value} {t : Nat} {e : Ent} (hm : mov e = true) : EntOk P w Z β ev' t e ↔ OwnOk P w Z e (ev' t) (β t) := by
  cases e <;> simp [mov] at hm <;> rfl

structure Pre (P : Program) (n : Nat) (pars gh : List Ent) (w : World) (Z : Nat → Prop) (vals : List Value) (γ : Nat → Value) (β : Nat → List Nat) (M : List Nat) : Prop where
  len : vals.length = pars.length
  zlt : ∀ b, Z b → b < w.heap.size
  own : ∀ t b, b ∈ β t → b < w.heap.size ∧ ¬ Z b ∧ b ∈ M
  nodup : ∀ t, (β t).Nodup
  disj : ∀ t u b, t ≠ u → b ∈ β t → b ∉ β u
  ent : ∀ t e, Γin n pars gh t = some e → EntOk P w Z β (evi n vals γ) t e

structure Pos (P : Program) (n : Nat) (w w' : World) (Z : Nat → Prop) (M : List Nat) (γ : Nat → Value) (res : Ent) (posts : List Ent) (v : Value) (Z' : Nat → Prop) (β' : Nat → List Nat) : Prop where
  evo : Evo w w' M
  zlt : ∀ b, Z' b → b < w'.heap.size
  zin : ∀ b, Z b → Z' b
  znew : ∀ b, Z' b → Z b ∨ w.heap.size ≤ b ∨ b ∈ M
  own : ∀ t b, b ∈ β' t → b < w'.heap.size ∧ ¬ Z' b ∧ (w.heap.size ≤ b ∨ b ∈ M)
  nodup : ∀ t, (β' t).Nodup
  disj : ∀ t u b, t ≠ u → b ∈ β' t → b ∉ β' u
  res : OwnOk P w' Z' res v (β' 0)
  post : ∀ j e, posts[j]? = some e → OwnOk P w' Z' e (γ (n + j)) (β' (j + 1))

def isGo (P : Program) (f : FuncId) : Bool := match P.funcs[f]? with
  | some fn => fn.body.isSome && !(fn.name == "runtime.NumGoroutine")
  | none => false

/-- The function f, called with parameters as 'pars' and lent 'gh', answers 'res' and leaves the lent ones as 'posts'; n: how many temporaries it has. -/
def Ret (P : Program) (f : FuncId) (n : Nat) (pars gh : List Ent) (res : Ent) (posts : List Ent) : Prop :=
  isGo P f = true ∧ ∀ w Z vals γ β M, Pre P n pars gh w Z vals γ β M → Calls P f vals.toArray w fun e w' => ∃ v, e = .returned v ∧ ∃ Z' β', Pos P n w w' Z M γ res posts v Z' β'

/-! ### The way in and the way out -/
def Fin (P : Program) (fr : Fr) (fn : Func) (res : Ent) (posts : List Ent) (a : Act) (w : World) : Prop :=
  a.defers = [] ∧ ∃ v, (results fn a.tmps).run P w = .ok v w ∧ ∃ Z' β', Pos P fr.n fr.w0 w fr.Z0 fr.M fr.γ res posts v Z' β'

def RetQ (P : Program) (fr : Fr) (fn : Func) (res : Ent) (posts : List Ent) : Exit → Act → World → Prop
  | .normal, a, w => Fin P fr fn res posts a w
  | .ret, a, w => Fin P fr fn res posts a w
  | _, _, _ => False

theorem ret_of {f : FuncId} {fn : Func} {c : Code} {n : Nat} {pars gh : List Ent} {res : Ent} {posts : List Ent} (hf : P.funcs[f]? = some fn) (hb : fn.body = some c) (hn : fn.ntmps = n) (hg : isGo P f = true)
    (hl : Nat.ble pars.length n = true)
    (h : ∀ (fr : Fr) a w, fr.n = n → St P fr (Γin n pars gh) a w → c.wp P (RetQ P fr fn res posts) a w) : Ret P f n pars gh res posts := by
  refine ⟨hg, fun w Z vals γ β M hp => ?_⟩
  subst hn
  have hl' : vals.length ≤ fn.ntmps := by rw [hp.len]; exact Nat.le_of_ble_eq_true hl
  have hev : ∀ t, ev fn.ntmps { tmps := vals.toArray ++ Array.replicate (fn.ntmps - vals.toArray.size) undef, defers := [] } γ t = evi fn.ntmps vals γ t := by
    intro t
    unfold ev evi
    by_cases ht : t < fn.ntmps
    · simp only [ht, if_true]
      by_cases h1 : t < vals.length
      · simp [Array.getD_eq_getD_getElem?, Array.getElem?_append, h1]
      · have h2 : vals[t]? = none := by simp; omega
        simp [Array.getD_eq_getD_getElem?, Array.getElem?_append, h1]
        rw [Array.getElem?_replicate]
        split <;> rfl
    · simp [ht]
  have hst := h ⟨w, M, Z, fn.ntmps, γ⟩ { tmps := vals.toArray ++ Array.replicate (fn.ntmps - vals.toArray.size) undef, defers := [] } w rfl ⟨Z, β, γ, {
    gh := rfl
    defers := rfl
    size := by simp; omega
    evo := Evo.refl _ _
    zlt := hp.zlt
    zin := fun _ hb => hb
    znew := fun _ hb => .inl hb
    own := fun t b hb => ⟨(hp.own t b hb).1, (hp.own t b hb).2.1, .inr (hp.own t b hb).2.2⟩
    nodup := hp.nodup
    disj := hp.disj
    ent := fun t e he => by
      have := hp.ent t e he
      have hfun : ev fn.ntmps { tmps := vals.toArray ++ Array.replicate (fn.ntmps - vals.toArray.size) undef, defers := [] } γ = evi fn.ntmps vals γ := funext hev
      rw [hfun]
      exact this }⟩
  refine calls_of_wp hf hb (wp_mono hst ?_)
  intro e a' w' hq
  cases e <;> simp only [RetQ] at hq
  · obtain ⟨hd, v, hr, hpos⟩ := hq
    exact ⟨hd, v, hr, v, rfl, hpos⟩
  · obtain ⟨hd, v, hr, hpos⟩ := hq
    exact ⟨hd, v, hr, v, rfl, hpos⟩

end Go.Proofs.YtdclbbkkcngjnaaT

namespace Go.Proofs.YtdclbbkkcngjnaaT
open Go
variable {P : Program} {fr : Fr}

/-! ### A call -/
def idx : List Nat → Nat → Option Nat
  | [], _ => none
  | q :: R, r => bif Nat.beq q r then some 0 else match idx R r with
    | some j => some (j + 1)
    | none => none

theorem idx_ok : ∀ {R : List Nat} {r j : Nat}, idx R r = some j → R[j]? = some r
  | [], _, _, h => by simp [idx] at h
  | q :: R, r, j, h => by
    simp only [idx] at h
    cases hb : Nat.beq q r with
    | true => rw [hb] at h; simp at h; subst h; simp [Nat.eq_of_beq_eq_true hb]
    | false =>
      rw [hb] at h
      simp only [cond_false] at h
      cases hi : idx R r with
      | none => rw [hi] at h; cases h
      | some k => rw [hi] at h; simp at h; subst h; simpa using idx_ok hi

def idxs (R : List Nat) (m : Nat) : List Nat → Option (List Nat)
  | [] => some []
  | c :: cs => match idx R c, idxs R m cs with
    | some j, some js => some ((m + j) :: js)
    | _, _ => none

def ob (β : Nat → List Nat) : Option Nat → List Nat
  | some s => β s
  | none => []
def ro (v : Nat → Value) : Option Nat → Value
  | some r => v r
  | none => undef

def inB (B : List Nat) (r : Nat) : Bool := B.any (Nat.beq r)
theorem inB_ok {B : List Nat} {r : Nat} (h : inB B r = true) : r ∈ B := by
  simp only [inB, List.any_eq_true] at h
  obtain ⟨x, hx, he⟩ := h
  rw [Nat.eq_of_beq_eq_true he]
  exact hx

def shD : Dt → Dt
  | .one c => .one (shC c)
  | .agg cs => .agg (cs.map shC)

theorem RD.share {w : World} {Z : Nat → Prop} {x : Dt} {y : Value} {bs : List Nat} (h : RD P w Z x y bs) : RD P w (fun b => Z b ∨ b ∈ bs) (shD x) y [] := by
  cases x with
  | one c => exact RC.share c h
  | agg cs =>
    obtain ⟨vs, h1, h2⟩ := h
    have h3 := RL.share cs h2
    rw [shL_map] at h3
    exact ⟨vs, h1, h3⟩

/-- An entry, in the words of the one that is called. -/
def renE (R B : List Nat) (m : Nat) : Ent → Option Ent
  | .d X => bif plain X then some (.d X) else none
  | .dv y X => bif plain X then some (.dv y X) else none
  | .eq r => match idx R r with
    | some j => some (.eq (m + j))
    | none => none
  | .fld r k => match idx R r with
    | some j => some (.fld (m + j) k)
    | none => none
  | .elt r E i k => match idx R r with
    | some j => some (.elt (m + j) E i k)
    | none => none
  | .bor r X => match idx R r with
    | some j => some (.bor (m + j) X)
    | none => bif inB B r then some (.d X) else none
  | .sp none cs => some (.sp none cs)
  | .sp (some r) cs => match idx R r with
    | some j => some (.sp (some (m + j)) cs)
    | none => bif inB B r then some (.sp none cs) else none
  | .fn f caps => match idxs R m caps with
    | some js => some (.fn f js)
    | none => none
  | _ => none

def argE (n : Nat) (E : Ctx) (R B : List Nat) (m : Nat) : Operand → Option (Ent × Option Nat)
  | .const v => bif v.oneCell' then some (.d (.one (.v v)), none) else none
  | .func f => some (.fn f [], none)
  | .global _ => none
  | .tmp t => bif Nat.blt t n then
      match idx R t with
      | some j => some (.eq (m + j), none)
      | none => match E t with
        | none => none
        | some (.d X) => bif plain X then some (.d X, none) else bif inB B t then some (.d (shD X), none) else some (.d X, some t)
        | some (.box T cs) => some (.box T cs, some t)
        | some (.tup xs) => some (.tup xs, some t)
        | some (.eq r) => bif inB B r then match E r with
            | some (.d X) => some (.d (shD X), none)
            | _ => none
          else match renE R B m (.eq r) with
            | some e => some (e, none)
            | none => none
        | some e => match renE R B m e with
            | some e => some (e, none)
            | none => none
    else none

def argC (R : List Nat) (m c : Nat) : Option (Ent × Option Nat) := match idx R c with
  | some j => some (.eq (m + j), none)
  | none => none

def seqO {α : Type} : List (Option α) → Option (List α)
  | [] => some []
  | none :: _ => none
  | some x :: xs => match seqO xs with
    | some ys => some (x :: ys)
    | none => none

theorem seqO_len {α : Type} : ∀ {xs : List (Option α)} {ys : List α}, seqO xs = some ys → xs.length = ys.length
  | [], ys, h => by simp [seqO] at h; simp [h]
  | none :: xs, ys, h => by simp [seqO] at h
  | some x :: xs, ys, h => by
    simp only [seqO] at h
    cases hs : seqO xs with
    | none => rw [hs] at h; cases h
    | some zs => rw [hs] at h; simp at h; subst h; simp [seqO_len hs]
theorem seqO_get {α : Type} : ∀ {xs : List (Option α)} {ys : List α}, seqO xs = some ys → ∀ (i : Nat) (y : α), ys[i]? = some y → xs[i]? = some (some y)
  | [], ys, h, i, y, hi => by simp [seqO] at h; subst h; simp at hi
  | none :: xs, ys, h, _, _, _ => by simp [seqO] at h
  | some x :: xs, ys, h, i, y, hi => by
    simp only [seqO] at h
    cases hs : seqO xs with
    | none => rw [hs] at h; cases h
    | some zs =>
      rw [hs] at h
      simp at h
      subst h
      cases i with
      | zero => simpa using hi
      | succ i => simpa using seqO_get hs i y (by simpa using hi)

def argL (n : Nat) (E : Ctx) (R B : List Nat) (m : Nat) (xs : List Operand) (caps : List Nat) : Option (List (Ent × Option Nat)) := seqO (xs.map (argE n E R B m) ++ caps.map (argC R m))

/-- A lent entry, in the words of the one that is called. -/
def degE : Ent → Ent
  | .dv _ X => .d X
  | e => e
theorem degE_mov {e : Ent} (h : mov e = true) : mov (degE e) = true := by cases e <;> simp_all [mov, degE]

def rootL (E : Ctx) : List Nat → Option (List Ent)
  | [] => some []
  | r :: R => match E r, rootL E R with
    | some e, some es => bif mov e then some (degE e :: es) else none
    | _, _ => none

theorem rootL_ok {E : Ctx} : ∀ {R : List Nat} {gh : List Ent}, rootL E R = some gh → gh.length = R.length ∧ ∀ (j : Nat) (e : Ent), gh[j]? = some e → mov e = true ∧ ∃ r e0, R[j]? = some r ∧ E r = some e0 ∧ degE e0 = e
  | [], gh, h => by simp [rootL] at h; subst h; simp
  | r :: R, gh, h => by
    simp only [rootL] at h
    cases he : E r with
    | none => rw [he] at h; cases h
    | some e =>
      rw [he] at h
      cases hr : rootL E R with
      | none => rw [hr] at h; cases h
      | some es =>
        rw [hr] at h
        simp only at h
        cases hm : mov e with
        | false => rw [hm] at h; simp at h
        | true =>
          rw [hm] at h
          simp at h
          subst h
          obtain ⟨h1, h2⟩ := rootL_ok hr
          refine ⟨by simp [h1], ?_⟩
          intro j e' hj
          cases j with
          | zero => simp at hj; subst hj; exact ⟨degE_mov hm, r, e, by simp, he, rfl⟩
          | succ j => simpa using h2 j e' (by simpa using hj)

section
variable {w : World} {Z : Nat → Prop} {β : Nat → List Nat} {γ : Nat → Value} {Γ E : Ctx} {a : Act} {R B : List Nat} {m : Nat}
  {βc : Nat → List Nat} {evc : Nat → Value}

/-- What the one that is called knows of an argument. -/
theorem renE_ok (hgh : ∀ j r, R[j]? = some r → βc (m + j) = β r ∧ evc (m + j) = ev fr.n a γ r) {t i : Nat} {e e' : Ent}
    (he : EntOk P w Z β (ev fr.n a γ) t e) (hr : renE R B m e = some e') (hi : βc i = []) (hv : evc i = ev fr.n a γ t) :
    EntOk P w (fun b => Z b ∨ ∃ r, r ∈ B ∧ b ∈ β r) βc evc i e' := by
  have hz0 : ∀ b, Z b → Z b ∨ ∃ r, r ∈ B ∧ b ∈ β r := fun b h => .inl h
  have hzR : ∀ j r, R[j]? = some r → ∀ b, zr Z β (some r) b → zr (fun b => Z b ∨ ∃ r, r ∈ B ∧ b ∈ β r) βc (some (m + j)) b := by
    intro j r hj b hb
    rcases hb with hb | hb
    · exact .inl (.inl hb)
    · exact .inr (by rw [(hgh j r hj).1]; exact hb)
  have hzB : ∀ r, r ∈ B → ∀ b, zr Z β (some r) b → Z b ∨ ∃ r, r ∈ B ∧ b ∈ β r := by
    intro r hr b hb
    rcases hb with hb | hb
    · exact .inl hb
    · exact .inr ⟨r, hr, hb⟩
  cases e with
  | d X =>
    simp only [renE] at hr
    cases hp : plain X with
    | false => rw [hp] at hr; simp at hr
    | true =>
      rw [hp] at hr
      simp at hr
      subst hr
      simp only [EntOk] at he ⊢
      rw [plain_nil hp he] at he
      rw [hi, hv]
      exact RD.mono hz0 (fun _ _ => rfl) he
  | dv y X =>
    simp only [renE] at hr
    cases hp : plain X with
    | false => rw [hp] at hr; simp at hr
    | true =>
      rw [hp] at hr
      simp at hr
      subst hr
      simp only [EntOk] at he ⊢
      rw [plain_nil hp he.2] at he
      rw [hi, hv]
      exact ⟨he.1, RD.mono hz0 (fun _ _ => rfl) he.2⟩
  | tup xs => simp [renE] at hr
  | box T cs => simp [renE] at hr
  | eq r =>
    simp only [renE] at hr
    cases hj : idx R r with
    | none => rw [hj] at hr; cases hr
    | some j =>
      rw [hj] at hr; simp at hr; subst hr
      simp only [EntOk] at he ⊢
      rw [hv, (hgh j r (idx_ok hj)).2]; exact he
  | fld r k =>
    simp only [renE] at hr
    cases hj : idx R r with
    | none => rw [hj] at hr; cases hr
    | some j =>
      rw [hj] at hr; simp at hr; subst hr
      simp only [EntOk] at he ⊢
      rw [hv, (hgh j r (idx_ok hj)).2]; exact he
  | elt r E' i' k =>
    simp only [renE] at hr
    cases hj : idx R r with
    | none => rw [hj] at hr; cases hr
    | some j =>
      rw [hj] at hr; simp at hr; subst hr
      simp only [EntOk] at he ⊢
      rw [hv, (hgh j r (idx_ok hj)).2]; exact he
  | bor r X =>
    simp only [renE] at hr
    cases hj : idx R r with
    | some j =>
      rw [hj] at hr; simp at hr; subst hr
      simp only [EntOk] at he ⊢
      rw [hv]
      exact RD.mono (hzR j r (idx_ok hj)) (fun _ _ => rfl) he
    | none =>
      rw [hj] at hr
      simp only at hr
      cases hb : inB B r with
      | false => rw [hb] at hr; simp at hr
      | true =>
        rw [hb] at hr; simp at hr; subst hr
        simp only [EntOk] at he ⊢
        rw [hi, hv]
        exact RD.mono (hzB r (inB_ok hb)) (fun _ _ => rfl) he
  | sp r cs =>
    have key : ∀ (r' : Option Nat), (∀ b, zr Z β r b → zr (fun b => Z b ∨ ∃ r, r ∈ B ∧ b ∈ β r) βc r' b) → EntOk P w (fun b => Z b ∨ ∃ r, r ∈ B ∧ b ∈ β r) βc evc i (.sp r' cs) := by
      intro r' hzz
      simp only [EntOk] at he ⊢
      obtain ⟨ad, vs, h1, h2, h3, h4⟩ := he
      exact ⟨ad, vs, hv.trans h1, h2, RL.mono hzz cs (fun _ _ => rfl) h3, h4.imp id (hzz _)⟩
    cases r with
    | none => simp [renE] at hr; subst hr; exact key none (fun b hb => .inl hb)
    | some r =>
      simp only [renE] at hr
      cases hj : idx R r with
      | some j => rw [hj] at hr; simp at hr; subst hr; exact key _ (hzR j r (idx_ok hj))
      | none =>
        rw [hj] at hr
        simp only at hr
        cases hb : inB B r with
        | false => rw [hb] at hr; simp at hr
        | true => rw [hb] at hr; simp at hr; subst hr; exact key none (hzB r (inB_ok hb))
  | fn f caps =>
    simp only [renE] at hr
    cases hj : idxs R m caps with
    | none => rw [hj] at hr; cases hr
    | some js =>
      rw [hj] at hr; simp at hr; subst hr
      simp only [EntOk] at he ⊢
      rw [hv, he]
      have : caps.map (ev fr.n a γ) = js.map evc := by
        clear he
        induction caps generalizing js with
        | nil => simp [idxs] at hj; subst hj; rfl
        | cons c cs ih =>
          simp only [idxs] at hj
          cases h1 : idx R c with
          | none => rw [h1] at hj; cases hj
          | some j =>
            rw [h1] at hj
            cases h2 : idxs R m cs with
            | none => rw [h2] at hj; cases hj
            | some ks =>
              rw [h2] at hj
              simp at hj
              subst hj
              simp only [List.map_cons, (hgh j c (idx_ok h1)).2, ih _ h2]
      rw [this]

theorem argE_ok (h : Core P fr Γ a w Z β γ) (hle : E_le E Γ) (hgh : ∀ j r, R[j]? = some r → βc (m + j) = β r ∧ evc (m + j) = ev fr.n a γ r) {i : Nat} {x : Operand} {e : Ent} {o : Option Nat}
    (hr : argE fr.n E R B m x = some (e, o)) (hi : βc i = ob β o) (hv : evc i = a.eval x) :
    EntOk P w (fun b => Z b ∨ ∃ r, r ∈ B ∧ b ∈ β r) βc evc i e := by
  have hz0 : ∀ b, Z b → Z b ∨ ∃ r, r ∈ B ∧ b ∈ β r := fun b h => .inl h
  cases x with
  | const v =>
    simp only [argE] at hr
    cases hp : v.oneCell' with
    | false => rw [hp] at hr; simp at hr
    | true =>
      rw [hp] at hr; simp at hr
      obtain ⟨rfl, rfl⟩ := hr
      simp [EntOk, RD, RC, hi, hv, Act.eval, hp, ob]
  | func f =>
    simp [argE] at hr
    obtain ⟨rfl, rfl⟩ := hr
    simp only [EntOk, hv]
    rfl
  | global g => simp [argE] at hr
  | tmp t =>
    simp only [argE] at hr
    cases ht : Nat.blt t fr.n with
    | false => rw [ht] at hr; simp at hr
    | true =>
      rw [ht] at hr
      simp only [cond_true] at hr
      rw [eval_ev (γ := γ) ht] at hv
      cases hj : idx R t with
      | some j =>
        rw [hj] at hr; simp at hr
        obtain ⟨rfl, rfl⟩ := hr
        simp only [EntOk]
        rw [hv, (hgh j t (idx_ok hj)).2]
      | none =>
        rw [hj] at hr
        simp only at hr
        cases hg : E t with
        | none => rw [hg] at hr; cases hr
        | some e0 =>
          have he := h.ent t e0 (hle t e0 hg)
          rw [hg] at hr
          have gen : ∀ e1, (match renE R B m e1 with | some e => some (e, (none : Option Nat)) | none => none) = some (e, o) → EntOk P w Z β (ev fr.n a γ) t e1 →
              EntOk P w (fun b => Z b ∨ ∃ r, r ∈ B ∧ b ∈ β r) βc evc i e := by
            intro e1 hr1 he1
            cases h2 : renE R B m e1 with
            | none => rw [h2] at hr1; cases hr1
            | some e2 =>
              rw [h2] at hr1
              simp at hr1
              obtain ⟨rfl, rfl⟩ := hr1
              exact renE_ok hgh he1 h2 hi hv
          have own : ∀ r X, r ∈ B → EntOk P w Z β (ev fr.n a γ) r (.d X) → ev fr.n a γ t = ev fr.n a γ r → (Ent.d (shD X), (none : Option Nat)) = (e, o) →
              EntOk P w (fun b => Z b ∨ ∃ r, r ∈ B ∧ b ∈ β r) βc evc i e := by
            rintro r X hrB heX hvr ⟨⟩
            simp only [EntOk] at heX ⊢
            rw [hi, hv, hvr]
            refine RD.mono (fun b hb => ?_) (fun _ _ => rfl) (RD.share heX)
            rcases hb with hb | hb
            · exact .inl hb
            · exact .inr ⟨r, hrB, hb⟩
          have mvd : mov e0 = true → (e0, some t) = (e, o) → EntOk P w (fun b => Z b ∨ ∃ r, r ∈ B ∧ b ∈ β r) βc evc i e := by
            rintro hm ⟨⟩
            rw [mov_iff hm] at he ⊢
            rw [hi, hv]
            cases e <;> simp [mov] at hm <;> exact EntOk.mono he hz0 rfl rfl (by simp [Ent.hdep]) (by simp [Ent.sdep]) (fun _ _ => rfl)
          cases e0 with
          | d X =>
            simp only at hr
            cases hp : plain X with
            | true =>
              rw [hp] at hr
              simp at hr
              exact gen (.d X) (by simp [renE, hp, hr]) he
            | false =>
              rw [hp] at hr
              simp only [cond_false] at hr
              cases hb : inB B t with
              | true => rw [hb] at hr; simp at hr; exact own t X (inB_ok hb) he rfl (by simp [hr])
              | false => rw [hb] at hr; simp at hr; exact mvd rfl (by simp [hr])
          | box T cs => simp at hr; exact mvd rfl (by simp [hr])
          | tup xs => simp at hr; exact mvd rfl (by simp [hr])
          | eq r =>
            simp only at hr
            cases hb : inB B r with
            | false => rw [hb] at hr; exact gen (.eq r) hr he
            | true =>
              rw [hb] at hr
              simp only [cond_true] at hr
              cases hgr : E r with
              | none => rw [hgr] at hr; cases hr
              | some er =>
                rw [hgr] at hr
                have her := h.ent r er (hle r er hgr)
                cases er <;> simp at hr
                exact own r _ (inB_ok hb) her he (by simp [hr])
          | dv y X => exact gen _ hr he
          | fld r k => exact gen _ hr he
          | elt r E' i' k => exact gen _ hr he
          | bor r X => exact gen _ hr he
          | sp r cs => exact gen _ hr he
          | fn f caps => exact gen _ hr he
end

end Go.Proofs.YtdclbbkkcngjnaaT

namespace Go.Proofs.YtdclbbkkcngjnaaT
open Go
variable {P : Program} {fr : Fr}

/-- Data that shares nothing. -/
def Clean (P : Program) (e : Ent) : Prop := ∀ w Z Z' v bs, OwnOk P w Z e v bs → OwnOk P w Z' e v bs

theorem clean_v (x : Value) : Clean P (.d (.one (.v x))) := fun w Z Z' v bs h => by simpa [OwnOk, EntOk, RD, RC] using h

def nodupB : List Nat → Bool
  | [] => true
  | x :: xs => !(inB xs x) && nodupB xs

theorem nodupB_ok : ∀ {xs : List Nat}, nodupB xs = true → xs.Nodup
  | [], _ => by simp
  | x :: xs, h => by
    simp only [nodupB, Bool.and_eq_true, Bool.not_eq_true'] at h
    refine List.nodup_cons.2 ⟨fun hm => ?_, nodupB_ok h.2⟩
    have : inB xs x = true := by simp only [inB, List.any_eq_true]; exact ⟨x, hm, by simp⟩
    rw [this] at h
    simp at h

def pokes : List Nat → List Ent → List Up
  | r :: R, e :: es => ⟨r, false, some e⟩ :: pokes R es
  | _, _ => []

theorem look_pokes : ∀ (R : List Nat) (posts : List Ent) (_ : posts.length = R.length) (δ : List Up) (u : Nat),
    look (pokes R posts ++ δ) u = match idx R u with
      | some j => (posts[j]?).map fun e => ⟨u, false, some e⟩
      | none => look δ u
  | [], [], _, δ, u => by simp [pokes, idx]
  | [], _ :: _, h, _, _ => by simp at h
  | _ :: _, [], h, _, _ => by simp at h
  | r :: R, e :: es, h, δ, u => by
    have ih := look_pokes R es (by simpa using h) δ u
    simp only [pokes, List.cons_append, look, idx]
    cases hb : Nat.beq r u with
    | true => have := Nat.eq_of_beq_eq_true hb; subst this; simp
    | false =>
      simp only [cond_false, ih]
      cases hi : idx R u with
      | none => simp
      | some j => simp

theorem idx_none {R : List Nat} {u : Nat} (h : idx R u = none) : u ∉ R := by
  induction R with
  | nil => simp
  | cons r R ih =>
    simp only [idx] at h
    cases hb : Nat.beq r u with
    | true => rw [hb] at h; simp at h
    | false =>
      rw [hb] at h
      simp only [cond_false] at h
      cases hi : idx R u with
      | some j => rw [hi] at h; cases h
      | none =>
        simp only [List.mem_cons, not_or]
        exact ⟨fun e => by subst e; simp at hb, ih hi⟩

theorem owners_inj : ∀ {ow : List (Option Nat)}, (ow.filterMap id).Nodup → ∀ {i j s : Nat}, ow[i]? = some (some s) → ow[j]? = some (some s) → i = j
  | [], _, i, _, _, h, _ => by simp at h
  | none :: ow, hn, i, j, s, hi, hj => by
    cases i with
    | zero => simp at hi
    | succ i => cases j with
      | zero => simp at hj
      | succ j => have := owners_inj (ow := ow) (by simpa using hn) (i := i) (j := j) (s := s) (by simpa using hi) (by simpa using hj); omega
  | some q :: ow, hn, i, j, s, hi, hj => by
    have hn' : q ∉ ow.filterMap id ∧ (ow.filterMap id).Nodup := by simpa using hn
    have hmem : ∀ k, ow[k]? = some (some q) → False := fun k hk => hn'.1 (List.mem_filterMap.2 ⟨some q, List.mem_of_getElem? hk, rfl⟩)
    cases i with
    | zero =>
      simp at hi
      subst hi
      cases j with
      | zero => rfl
      | succ j => exact (hmem j (by simpa using hj)).elim
    | succ i => cases j with
      | zero => simp at hj; subst hj; exact (hmem i (by simpa using hi)).elim
      | succ j => have := owners_inj hn'.2 (i := i) (j := j) (s := s) (by simpa using hi) (by simpa using hj); omega

/-- What is called. -/
def calE (n : Nat) (E : Ctx) : Operand → Option (FuncId × List Nat)
  | .func f => some (f, [])
  | .tmp t => bif Nat.blt t n then match E t with
      | some (.fn f caps) => some (f, caps)
      | _ => none
    else none
  | _ => none

theorem calE_ok {Γ E : Ctx} {a : Act} {w : World} {Z : Nat → Prop} {β : Nat → List Nat} {γ : Nat → Value} (h : Core P fr Γ a w Z β γ) (hle : E_le E Γ) {x : Operand} {f : FuncId} {caps : List Nat}
    (hx : calE fr.n E x = some (f, caps)) : a.eval x = .func (.func f) #[] (caps.map (ev fr.n a γ)).toArray := by
  cases x with
  | func g => simp [calE] at hx; obtain ⟨rfl, rfl⟩ := hx; rfl
  | const v => simp [calE] at hx
  | global g => simp [calE] at hx
  | tmp t =>
    simp only [calE] at hx
    cases ht : Nat.blt t fr.n with
    | false => rw [ht] at hx; simp at hx
    | true =>
      rw [ht] at hx
      simp only [cond_true] at hx
      rw [eval_ev (γ := γ) ht]
      cases hg : E t with
      | none => rw [hg] at hx; cases hx
      | some e =>
        have he := h.ent t e (hle t e hg)
        rw [hg] at hx
        cases e <;> simp at hx
        obtain ⟨rfl, rfl⟩ := hx
        exact he

theorem run_callFunc {f : FuncId} (hg : isGo P f = true) (args : Array Value) (w : World) : (callFunc f args).run P w = .ok (.enter f args) w := by
  unfold isGo at hg
  unfold callFunc
  cases hf : P.funcs[f]? with
  | none => rw [hf] at hg; simp at hg
  | some fn =>
    rw [hf] at hg
    simp only [Bool.and_eq_true, Bool.not_eq_true'] at hg
    obtain ⟨h1, h2⟩ := hg
    have h3 : fn.body ≠ none := by intro hb; rw [hb] at h1; cases h1
    have h2' : fn.name ≠ "runtime.NumGoroutine" := by simpa using h2
    simp [hf, h2', h3]

end Go.Proofs.YtdclbbkkcngjnaaT

namespace Go.Proofs.YtdclbbkkcngjnaaT
open Go
variable {P : Program} {fr : Fr}

theorem run_call {a : Act} {o : Oper} {x : Operand} {xs : Array Operand} {ats : Array TypeId} {f : FuncId} {vs : Array Value} (ho : o.op = .call ⟨.value x, xs, ats⟩) (hx : a.eval x = .func (.func f) #[] vs)
    (hg : isGo P f = true) (w : World) : (execOp a.eval o).run P w = .ok (.enter f (xs.map a.eval ++ vs)) w := by
  unfold execOp
  rw [ho]
  simp only [resolve, hx, Deferred.ofValue, invoke]
  have := run_callFunc hg (xs.map a.eval ++ vs) w
  simp only [pure_bind]
  simpa using this

section
variable {w w' : World} {Z : Nat → Prop} {β : Nat → List Nat} {γ : Nat → Value} {Γ E : Ctx} {a : Act} {R B : List Nat} {n' : Nat}

def qown (n' : Nat) (ow : List (Option Nat)) (R : List Nat) (t : Nat) : Option Nat := if t < n' then (ow[t]?).join else R[t - n']?

theorem call_pre (h : Core P fr Γ a w Z β γ) (hle : E_le E Γ) {xs : List Operand} {caps : List Nat} {pes : List (Ent × Option Nat)} {gh : List Ent}
    (ha : argL fr.n E R B n' xs caps = some pes) (hg : rootL E R = some gh) (hS : nodupB ((pes.map (·.2)).filterMap id ++ R ++ B) = true) (hl : pes.length ≤ n') :
    Pre P n' (pes.map (·.1)) gh w (fun b => Z b ∨ ∃ r, r ∈ B ∧ b ∈ β r) (xs.map a.eval ++ caps.map (ev fr.n a γ)) (fun t => ro (ev fr.n a γ) R[t - n']?)
      (fun t => ob β (qown n' (pes.map (·.2)) R t)) (((pes.map (·.2)).filterMap id ++ R).flatMap β) := by
  have hnd := nodupB_ok hS
  have hnd1 := (List.nodup_append.1 hnd).1
  have hdj := (List.nodup_append.1 hnd).2.2
  have hndo := (List.nodup_append.1 hnd1).1
  have hndR := (List.nodup_append.1 hnd1).2.1
  have hdo := (List.nodup_append.1 hnd1).2.2
  have hmem : ∀ t s, qown n' (pes.map (·.2)) R t = some s → s ∈ (pes.map (·.2)).filterMap id ++ R := by
    intro t s hq
    unfold qown at hq
    split at hq
    · refine List.mem_append.2 (.inl ?_)
      cases ho : (pes.map (·.2))[t]? with
      | none => rw [ho] at hq; simp at hq
      | some o => rw [ho] at hq; simp at hq; subst hq; exact List.mem_filterMap.2 ⟨some s, List.mem_of_getElem? ho, rfl⟩
    · exact List.mem_append.2 (.inr (List.mem_of_getElem? hq))
  have hinj : ∀ t u s, qown n' (pes.map (·.2)) R t = some s → qown n' (pes.map (·.2)) R u = some s → t = u := by
    intro t u s h1 h2
    unfold qown at h1 h2
    have hjn : ∀ {i : Nat}, ((pes.map (·.2))[i]?).join = some s → (pes.map (·.2))[i]? = some (some s) := by
      intro i hi
      cases ho : (pes.map (·.2))[i]? with
      | none => rw [ho] at hi; simp at hi
      | some o => rw [ho] at hi; simp at hi; rw [hi]
    split at h1 <;> split at h2
    · exact owners_inj hndo (hjn h1) (hjn h2)
    · exact (hdo s (List.mem_filterMap.2 ⟨some s, List.mem_of_getElem? (hjn h1), rfl⟩) s (List.mem_of_getElem? h2) rfl).elim
    · exact (hdo s (List.mem_filterMap.2 ⟨some s, List.mem_of_getElem? (hjn h2), rfl⟩) s (List.mem_of_getElem? h1) rfl).elim
    · have := (List.getElem?_inj (List.getElem?_eq_some_iff.1 h1).1 hndR (j := u - n')).1 (h1.trans h2.symm)
      omega
  have hlen := seqO_len ha
  have hR := rootL_ok hg
  have hev : ∀ i, i < n' → evi n' (xs.map a.eval ++ caps.map (ev fr.n a γ)) (fun t => ro (ev fr.n a γ) R[t - n']?) i = (xs.map a.eval ++ caps.map (ev fr.n a γ)).getD i undef := by
    intro i hi; simp [evi, hi]
  have hgh : ∀ j r, R[j]? = some r → ob β (qown n' (pes.map (·.2)) R (n' + j)) = β r ∧
      evi n' (xs.map a.eval ++ caps.map (ev fr.n a γ)) (fun t => ro (ev fr.n a γ) R[t - n']?) (n' + j) = ev fr.n a γ r := by
    intro j r hj
    have hn : ¬ n' + j < n' := by omega
    simp [qown, evi, hj, ob, ro, hn]
  refine ⟨?_, ?_, ?_, ?_, ?_, ?_⟩
  · simp only [List.length_append, List.length_map] at hlen ⊢
    exact hlen
  · rintro b (hb | ⟨r, hr, hb⟩)
    · exact h.zlt b hb
    · exact (h.own r b hb).1
  · intro t b hb
    cases hq : qown n' (pes.map (·.2)) R t with
    | none => simp [hq, ob] at hb
    | some s =>
      simp only [hq, ob] at hb
      have hm := hmem t s hq
      refine ⟨(h.own s b hb).1, ?_, List.mem_flatMap.2 ⟨s, hm, hb⟩⟩
      rintro (hz | ⟨r, hr, hbr⟩)
      · exact (h.own s b hb).2.1 hz
      · exact h.disj s r b (hdj s hm r hr) hb hbr
  · intro t
    cases hq : qown n' (pes.map (·.2)) R t with
    | none => simp [hq, ob]
    | some s => simpa [hq, ob] using h.nodup s
  · intro t u b htu hb
    cases hq : qown n' (pes.map (·.2)) R t with
    | none => simp [hq, ob] at hb
    | some s =>
      simp only [hq, ob] at hb
      cases hq' : qown n' (pes.map (·.2)) R u with
      | none => simp [hq', ob]
      | some s' => simp only [hq', ob]; exact h.disj s s' b (fun e => htu (hinj t u s hq (e ▸ hq'))) hb
  · intro t e he
    unfold Γin at he
    cases ht : Nat.blt t n' with
    | true =>
      rw [ht] at he
      simp only [cond_true] at he
      have ht' : t < n' := by simpa [Nat.blt_eq] using ht
      cases hp : pes[t]? with
      | none => simp [hp] at he
      | some pe =>
        obtain ⟨e0, o⟩ := pe
        simp [hp] at he
        subst he
        have hsrc := seqO_get ha t _ hp
        have hown : ob β (qown n' (pes.map (·.2)) R t) = ob β o := by
          simp [qown, ht', hp]
        by_cases hx : t < xs.length
        · rw [List.getElem?_append_left (by simpa using hx)] at hsrc
          simp only [List.getElem?_map, List.getElem?_eq_getElem hx, Option.map_some, Option.some.injEq] at hsrc
          refine argE_ok h hle hgh hsrc hown ?_
          rw [hev t ht', List.getD_eq_getElem?_getD, List.getElem?_append_left (by simpa using hx)]
          simp [hx]
        · have hx' : xs.length ≤ t := Nat.le_of_not_lt hx
          rw [List.getElem?_append_right (by simpa using hx')] at hsrc
          simp only [List.length_map, List.getElem?_map] at hsrc
          cases hc : caps[t - xs.length]? with
          | none => rw [hc] at hsrc; simp at hsrc
          | some c =>
            rw [hc] at hsrc
            simp only [Option.map_some, Option.some.injEq, argC] at hsrc
            cases hj : idx R c with
            | none => rw [hj] at hsrc; cases hsrc
            | some j =>
              rw [hj] at hsrc
              simp at hsrc
              obtain ⟨rfl, rfl⟩ := hsrc
              simp only [EntOk]
              rw [hev t ht', (hgh j c (idx_ok hj)).2, List.getD_eq_getElem?_getD, List.getElem?_append_right (by simpa using hx')]
              simp [hc]
    | false =>
      rw [ht] at he
      simp only [cond_false] at he
      have ht' : ¬ t < n' := fun hlt => by rw [show Nat.blt t n' = true by rw [Nat.blt_eq]; exact hlt] at ht; cases ht
      obtain ⟨hm, r, e0, hr, hEr, hdg⟩ := hR.2 _ _ he
      have h1 : EntOk P w Z β (ev fr.n a γ) r e := by
        have h0 := h.ent r e0 (hle r e0 hEr)
        rw [← hdg]
        cases e0 <;> first | exact h0 | exact h0.2
      rw [mov_iff hm] at h1 ⊢
      have e1 : t = n' + (t - n') := by omega
      rw [e1, (hgh _ r hr).1, (hgh _ r hr).2]
      cases e <;> simp [mov] at hm <;> exact EntOk.mono h1 (fun b hb => .inl hb) rfl rfl (by simp [Ent.hdep]) (by simp [Ent.sdep]) (fun _ _ => rfl)
end

end Go.Proofs.YtdclbbkkcngjnaaT

namespace Go.Proofs.YtdclbbkkcngjnaaT
open Go
variable {P : Program} {fr : Fr}

/-- A lent one's value stays what it was. -/
def keepv : Option Ent → Ent → Ent
  | some (.dv y _), .d X => .dv y X
  | _, e => e
def upg (E : Ctx) : List Nat → List Ent → List Ent
  | r :: R, e :: es => keepv (E r) e :: upg E R es
  | _, _ => []
theorem keepv_mov {q : Option Ent} {e : Ent} (h : mov e = true) : mov (keepv q e) = true := by
  unfold keepv
  split
  · rfl
  · exact h
theorem upg_len {E : Ctx} : ∀ {R : List Nat} {es : List Ent}, es.length = R.length → (upg E R es).length = R.length
  | [], [], _ => rfl
  | [], _ :: _, h => by simp at h
  | _ :: _, [], h => by simp at h
  | r :: R, e :: es, h => by simp only [upg, List.length_cons]; rw [upg_len (by simpa using h)]
theorem upg_get {E : Ctx} : ∀ {R : List Nat} {es : List Ent} {j r : Nat} {e : Ent}, R[j]? = some r → (upg E R es)[j]? = some e → ∃ e1, es[j]? = some e1 ∧ e = keepv (E r) e1
  | [], _, j, r, e, h, _ => by simp at h
  | q :: R, [], j, r, e, _, h => by simp [upg] at h
  | q :: R, e0 :: es, j, r, e, hr, h => by
    cases j with
    | zero => simp at hr; subst hr; simp [upg] at h; exact ⟨e0, by simp, h.symm⟩
    | succ j => simpa using upg_get (R := R) (es := es) (j := j) (by simpa using hr) (by simpa [upg] using h)

theorem la_call {E : Ctx} {o : Oper} {t : Nat} {x : Operand} {xs : Array Operand} {ats : Array TypeId} {f : FuncId} {caps : List Nat} {n' : Nat} {pars gh posts : List Ent} {res : Ent} (R B : List Nat)
    {pes : List (Ent × Option Nat)} (ho : o.op = .call ⟨.value x, xs, ats⟩) (hd : o.dst = some t) (ht : Nat.blt t fr.n = true) (hx : calE fr.n E x = some (f, caps))
    (hc : Ret P f n' pars gh res posts) (ha : argL fr.n E R B n' xs.toList caps = some pes) (hp : pes.map (·.1) = pars) (hg : rootL E R = some gh)
    (hS : nodupB ((pes.map (·.2)).filterMap id ++ R ++ B) = true) (ht' : inB (R ++ B) t = false) (hl : Nat.ble pes.length n' = true) (hm : mov res = true) (hms : ∀ e, e ∈ posts → mov e = true)
    (hlp : posts.length = R.length) (hcl : B = [] ∨ Clean P res ∧ ∀ e, e ∈ posts → Clean P e) :
    LA P fr E o (⟨t, true, some res⟩ :: (pokes R (upg E R posts) ++ ((pes.map (·.2)).filterMap id).map rmv)) := by
  intro Γ hle a w K Q ⟨Z, β, γ, h⟩ hk
  subst hp
  have hxe := calE_ok h hle hx
  unfold Oper.wp
  rw [run_call ho hxe hc.1]
  have hpre := call_pre h hle ha hg hS (Nat.le_of_ble_eq_true hl)
  have hcall := hc.2 w _ _ _ _ _ hpre
  have harr : (xs.toList.map a.eval ++ caps.map (ev fr.n a γ)).toArray = xs.map a.eval ++ (caps.map (ev fr.n a γ)).toArray := by
    apply Array.ext'
    simp
  rw [harr] at hcall
  refine Calls.mono hcall ?_
  rintro e w' ⟨v, rfl, Z', β', hq⟩
  refine hk _ _ ?_
  rw [hd]
  have hnd := nodupB_ok hS
  have hnd1 := (List.nodup_append.1 hnd).1
  have hdj := (List.nodup_append.1 hnd).2.2
  have hndR := (List.nodup_append.1 hnd1).2.1
  -- the blocks that were handed over
  generalize hM : ((pes.map (·.2)).filterMap id ++ R) = M at *
  have hMown : ∀ b, b ∈ M.flatMap β → b < w.heap.size ∧ ¬ Z b ∧ (fr.w0.heap.size ≤ b ∨ b ∈ fr.M) ∧ ∃ s, s ∈ M ∧ b ∈ β s := by
    intro b hb
    obtain ⟨s, hs, hb⟩ := List.mem_flatMap.1 hb
    obtain ⟨h1, h2, h3⟩ := h.own s b hb
    exact ⟨h1, h2, h3, s, hs, hb⟩
  have hMB : ∀ b r, r ∈ B → b ∈ β r → b ∉ M.flatMap β := by
    intro b r hr hb hm
    obtain ⟨_, _, _, s, hs, hbs⟩ := hMown b hm
    exact h.disj s r b (hdj s hs r hr) hbs hb
  have hZM : ∀ b, Z b → b ∉ M.flatMap β := fun b hz hm => (hMown b hm).2.1 hz
  have hZn : ∀ b, Z' b → ¬ (∃ r, r ∈ B ∧ b ∈ β r) → Z b ∨ w.heap.size ≤ b ∨ b ∈ M.flatMap β := by
    intro b hz hn
    rcases hq.znew b hz with (h1 | h1) | h1 | h1
    · exact .inl h1
    · exact (hn h1).elim
    · exact .inr (.inl h1)
    · exact .inr (.inr h1)
  -- what was given keeps its hold
  have hzone : ∀ e v bs, (e = res ∨ e ∈ posts) → OwnOk P w' Z' e v bs → OwnOk P w' (fun b => Z' b ∧ ¬ ∃ r, r ∈ B ∧ b ∈ β r) e v bs := by
    intro e v bs he hok
    rcases hcl with rfl | ⟨hc1, hc2⟩
    · have hmv : mov e = true := by rcases he with rfl | he; exact hm; exact hms e he
      cases e <;> simp [mov] at hmv <;> exact EntOk.mono hok (fun b hb => ⟨hb, by simp⟩) rfl rfl (by simp [Ent.hdep]) (by simp [Ent.sdep]) (fun _ _ => rfl)
    · rcases he with rfl | he
      · exact hc1 _ _ _ _ _ hok
      · exact hc2 e he _ _ _ _ _ hok
  have htR : t ∉ R := fun hmem => by
    have : inB (R ++ B) t = true := by simp only [inB, List.any_eq_true]; exact ⟨t, by simp [hmem], by simp⟩
    rw [this] at ht'; cases ht'
  have htB : t ∉ B := fun hmem => by
    have : inB (R ++ B) t = true := by simp only [inB, List.any_eq_true]; exact ⟨t, by simp [hmem], by simp⟩
    rw [this] at ht'; cases ht'
  have hidx : ∀ {u j}, idx R u = some j → u ∈ R := fun hj => List.mem_of_getElem? (idx_ok hj)
  -- the new owners
  let bn : Nat → List Nat := fun u => if u = t then β' 0 else match idx R u with
    | some j => β' (j + 1)
    | none => if u ∈ (pes.map (·.2)).filterMap id then [] else β u
  have hbnT : bn t = β' 0 := by simp [bn]
  have hbnR : ∀ u j, idx R u = some j → bn u = β' (j + 1) := by
    intro u j hj
    have hut : u ≠ t := by rintro rfl; exact htR (hidx hj)
    simp [bn, hut, hj]
  have hbnS : ∀ u, u ≠ t → idx R u = none → u ∈ (pes.map (·.2)).filterMap id → bn u = [] := by
    intro u h1 h2 h3
    simp only [bn, h1, if_false, h2, h3, if_true]
  have hbnO : ∀ u, u ≠ t → idx R u = none → u ∉ (pes.map (·.2)).filterMap id → bn u = β u := by
    intro u h1 h2 h3
    simp only [bn, h1, if_false, h2, h3]
  -- whose a block is
  have hcase : ∀ u b, b ∈ bn u → (∃ k, b ∈ β' k ∧ (k = 0 ∧ u = t ∨ ∃ j, k = j + 1 ∧ idx R u = some j)) ∨ (u ≠ t ∧ u ∉ M ∧ b ∈ β u) := by
    intro u b hb
    by_cases hut : u = t
    · subst hut; rw [hbnT] at hb; exact .inl ⟨0, hb, .inl ⟨rfl, rfl⟩⟩
    · cases hj : idx R u with
      | some j => rw [hbnR u j hj] at hb; exact .inl ⟨j + 1, hb, .inr ⟨j, rfl, rfl⟩⟩
      | none =>
        by_cases hs : u ∈ (pes.map (·.2)).filterMap id
        · rw [hbnS u hut hj hs] at hb; simp at hb
        · rw [hbnO u hut hj hs] at hb
          refine .inr ⟨hut, ?_, hb⟩
          rw [← hM]
          simp only [List.mem_append, not_or]
          exact ⟨hs, idx_none hj⟩
  have hnew : ∀ k b, b ∈ β' k → ∀ u, u ∉ M → b ∈ β u → False := by
    intro k b hb u hu hbu
    rcases (hq.own k b hb).2.2 with h1 | h1
    · have := (h.own u b hbu).1; omega
    · obtain ⟨_, _, _, s, hs, hbs⟩ := hMown b h1
      exact h.disj s u b (fun e => hu (e ▸ hs)) hbs hbu
  have hlk : ∀ u, look (⟨t, true, some res⟩ :: (pokes R (upg E R posts) ++ ((pes.map (·.2)).filterMap id).map rmv)) u =
      if u = t then some ⟨t, true, some res⟩ else match idx R u with
        | some j => ((upg E R posts)[j]?).map fun e => ⟨u, false, some e⟩
        | none => if u ∈ (pes.map (·.2)).filterMap id then some (rmv u) else none := by
    intro u
    simp only [look]
    by_cases hut : u = t
    · subst hut; simp
    · have : Nat.beq t u = false := by
        cases hb : Nat.beq t u with
        | false => rfl
        | true => exact absurd (Nat.eq_of_beq_eq_true hb).symm hut
      rw [this, cond_false, if_neg hut, look_pokes _ _ (upg_len hlp), look_rmv]
      try (cases idx R u <;> rfl)
  refine ⟨fun b => Z' b ∧ ¬ ∃ r, r ∈ B ∧ b ∈ β r, bn, γ, h.turn _ (by simpa [Act.put] using h.defers) (by simpa [Act.put] using h.size) ?_ ?_ ?_ ?_ ?_ ?_ ?_ ?_ ?_ ?_ ?_⟩
  · exact h.evo.trans hq.evo (fun b hb => by
      rcases (hMown b hb).2.2.1 with h1 | h1
      · exact .inr h1
      · exact .inl h1)
  · exact fun b hb => hq.zlt b hb.1
  · intro b hz
    refine ⟨⟨hq.zin b (.inl hz), ?_⟩, hq.evo.block b (h.zlt b hz) (hZM b hz)⟩
    rintro ⟨r, _, hb⟩
    exact (h.own r b hb).2.1 hz
  · rintro b ⟨hz, hn⟩
    rcases hZn b hz hn with h1 | h1 | h1
    · exact h.znew b h1
    · exact .inr (.inl (Nat.le_trans h.evo.size h1))
    · rcases (hMown b h1).2.2.1 with h2 | h2
      · exact .inr (.inl h2)
      · exact .inr (.inr h2)
  · intro u b hb
    rcases hcase u b hb with ⟨k, hk', _⟩ | ⟨_, hu, hb'⟩
    · obtain ⟨h1, h2, h3⟩ := hq.own k b hk'
      refine ⟨h1, fun hz => h2 hz.1, ?_⟩
      rcases h3 with h3 | h3
      · exact .inl (Nat.le_trans h.evo.size h3)
      · exact (hMown b h3).2.2.1
    · obtain ⟨h1, h2, h3⟩ := h.own u b hb'
      refine ⟨Nat.lt_of_lt_of_le h1 hq.evo.size, ?_, h3⟩
      rintro ⟨hz, hn⟩
      rcases hZn b hz hn with h4 | h4 | h4
      · exact h2 h4
      · omega
      · obtain ⟨_, _, _, s, hs, hbs⟩ := hMown b h4
        exact h.disj s u b (fun e => hu (e ▸ hs)) hbs hb'
  · intro u
    by_cases hut : u = t
    · subst hut; rw [hbnT]; exact hq.nodup 0
    · cases hj : idx R u with
      | some j => rw [hbnR u j hj]; exact hq.nodup _
      | none =>
        by_cases hs : u ∈ (pes.map (·.2)).filterMap id
        · rw [hbnS u hut hj hs]; simp
        · rw [hbnO u hut hj hs]; exact h.nodup u
  · intro u u' b hne hb hb'
    rcases hcase u b hb with ⟨k, hk1, hk2⟩ | ⟨_, hu, hb1⟩ <;> rcases hcase u' b hb' with ⟨k', hk1', hk2'⟩ | ⟨_, hu', hb1'⟩
    · refine hq.disj k k' b ?_ hk1 hk1'
      rintro rfl
      rcases hk2 with ⟨h0, rfl⟩ | ⟨j, hj1, hj2⟩ <;> rcases hk2' with ⟨h0', rfl⟩ | ⟨j', hj1', hj2'⟩
      · exact hne rfl
      · omega
      · omega
      · have : j = j' := by omega
        subst this
        have := (idx_ok hj2).symm.trans (idx_ok hj2')
        exact hne (by simpa using this)
    · exact hnew k b hk1 u' hu' hb1'
    · exact hnew k' b hk1' u hu hb1
    · exact h.disj u u' b hne hb1 hb1'
  · intro u hu
    rw [ev_put h.size ht]
    rw [hlk] at hu
    by_cases hut : u = t
    · simp [hut] at hu
    · simp [hut]
  · intro u hu
    rw [hlk] at hu
    by_cases hut : u = t
    · simp [hut] at hu
    · simp only [hut, if_false] at hu
      cases hj : idx R u with
      | some j =>
        rw [hj] at hu
        have hjl : j < (upg E R posts).length := by rw [upg_len hlp]; exact (List.getElem?_eq_some_iff.1 (idx_ok hj)).1
        simp [hjl] at hu
      | none =>
        rw [hj] at hu
        simp only at hu
        by_cases hs : u ∈ (pes.map (·.2)).filterMap id
        · rw [if_pos hs] at hu; cases hu
        · exact hbnO u hut hj hs
  · intro u hu b hub
    rw [hlk] at hu
    refine hq.evo.block b (h.own u b hub).1 (fun hm => ?_)
    obtain ⟨_, _, _, s, hs, hbs⟩ := hMown b hm
    by_cases hut : u = t
    · simp [hut] at hu
    · simp only [hut, if_false] at hu
      cases hj : idx R u with
      | some j =>
        rw [hj] at hu
        have hjl : j < (upg E R posts).length := by rw [upg_len hlp]; exact (List.getElem?_eq_some_iff.1 (idx_ok hj)).1
        simp [hjl] at hu
      | none =>
        rw [hj] at hu
        simp only at hu
        by_cases hs' : u ∈ (pes.map (·.2)).filterMap id
        · rw [if_pos hs'] at hu; cases hu
        · refine h.disj s u b ?_ hbs hub
          rintro rfl
          rw [← hM] at hs
          rcases List.mem_append.1 hs with h1 | h1
          · exact hs' h1
          · exact idx_none hj h1
  · intro u p e hl' hpe
    rw [hlk] at hl'
    by_cases hut : u = t
    · subst hut
      simp at hl'
      subst hl'
      simp at hpe
      subst hpe
      rw [mov_iff hm, hbnT, ev_put h.size ht]
      simp only [if_true]
      exact hzone _ _ _ (.inl rfl) hq.res
    · simp only [hut, if_false] at hl'
      cases hj : idx R u with
      | some j =>
        rw [hj] at hl'
        simp only at hl'
        cases hpj' : (upg E R posts)[j]? with
        | none => rw [hpj'] at hl'; cases hl'
        | some ek =>
          obtain ⟨e0, hpj, rfl⟩ := upg_get (idx_ok hj) hpj'
          rw [hpj'] at hl'
          simp at hl'
          subst hl'
          simp at hpe
          subst hpe
          have hmem := List.mem_of_getElem? hpj
          rw [mov_iff (keepv_mov (hms _ hmem)), hbnR u j hj, ev_put h.size ht]
          simp only [hut, if_false]
          have h2 := hq.post j _ hpj
          have h3 : ro (ev fr.n a γ) R[n' + j - n']? = ev fr.n a γ u := by
            have : n' + j - n' = j := by omega
            rw [this, idx_ok hj]; rfl
          rw [h3] at h2
          have h4 := hzone _ _ _ (.inr hmem) h2
          unfold keepv
          split
          · rename_i y X0 X hEu
            have h5 := h.ent u _ (hle u _ hEu)
            exact ⟨h5.1, h4⟩
          · exact h4
      | none =>
        rw [hj] at hl'
        simp only at hl'
        by_cases hs : u ∈ (pes.map (·.2)).filterMap id
        · rw [if_pos hs] at hl'; simp at hl'; subst hl'; simp [rmv] at hpe
        · rw [if_neg hs] at hl'; cases hl'

end Go.Proofs.YtdclbbkkcngjnaaT

namespace Go.Proofs.YtdclbbkkcngjnaaT
open Go
variable {P : Program} {fr : Fr}

/-! ### The way out -/
inductive RvOk (P : Program) (n : Nat) (Γ : Ctx) : ResultVar → Dt → Nat → Prop
  | tmp {t : Nat} {X : Dt} (ht : Nat.blt t n = true) (h : Γ t = some (.d X)) : RvOk P n Γ (.tmp t) X t
  | cell {t : Nat} {T : TypeId} {cs : List C} (ht : Nat.blt t n = true) (h : Γ t = some (.box T cs)) (hT : rowT P T = true) (hl : cs.length = szOf P T) : RvOk P n Γ (.cell t T) (.agg cs) t

def rvRun (tmps : Array Value) : ResultVar → Sem Value
  | .tmp t => pure (tmps.getD t undef)
  | .cell a t => do loadVar t (← asAddr (tmps.getD a undef))

theorem rv_ok {Γ : Ctx} {a : Act} {w : World} {Z : Nat → Prop} {β : Nat → List Nat} {γ : Nat → Value} (h : Core P fr Γ a w Z β γ) {r : ResultVar} {X : Dt} {t : Nat} (hr : RvOk P fr.n Γ r X t) :
    ∃ v bs, (rvRun a.tmps r).run P w = .ok v w ∧ RD P w Z X v bs ∧ Sub bs (β t) := by
  cases hr with
  | tmp ht hx =>
    have he := h.ent t _ hx
    refine ⟨a.tmps.getD t undef, β t, rfl, ?_, Sub.refl _⟩
    have : ev fr.n a γ t = a.tmps.getD t undef := (eval_ev (a := a) ht).symm
    rw [← this]
    exact he
  | cell ht hx hT hl =>
    rename_i T cs
    have he := h.ent t _ hx
    simp only [EntOk] at he
    obtain ⟨b, vs, bs, h1, h2, h3, h4⟩ := he
    have hev : a.tmps.getD t undef = .pointer (some ⟨b, 0, none⟩) := (eval_ev (a := a) ht).trans h1
    have hlen := RL.length _ h3
    have hload := run_load_row (P := P) (w := w) hT (ad := ⟨b, 0, none⟩) (vs := vs.toList) (hlen.trans hl) (fun k x hk => by
      rw [cell_row h2]; simpa using hk)
    refine ⟨.agg vs, bs, ?_, ⟨vs.toList, by simp, h3⟩, ?_⟩
    · simp only [rvRun, hev]
      simp [Instr.loadAt, Instr.sureAddr] at hload
      simp [asAddr, hload]
    · rw [h4]
      intro x
      simp only [List.count_cons]
      omega

inductive RvsOk (P : Program) (n : Nat) (Γ : Ctx) : List ResultVar → List Dt → List Nat → Prop
  | nil : RvsOk P n Γ [] [] []
  | cons {r X t rs Xs ts} (h : RvOk P n Γ r X t) (hs : RvsOk P n Γ rs Xs ts) : RvsOk P n Γ (r :: rs) (X :: Xs) (t :: ts)

theorem rvs_ok {Γ : Ctx} {a : Act} {w : World} {Z : Nat → Prop} {β : Nat → List Nat} {γ : Nat → Value} (h : Core P fr Γ a w Z β γ) {rs : List ResultVar} {Xs : List Dt} {ts : List Nat} (hr : RvsOk P fr.n Γ rs Xs ts) :
    ∃ vs bs, (rs.mapM (rvRun a.tmps)).run P w = .ok vs w ∧ RT P w Z (Xs.map some) vs bs ∧ Sub bs (ts.flatMap β) ∧ vs.length = rs.length := by
  induction hr with
  | nil => exact ⟨[], [], rfl, ⟨rfl, rfl⟩, Sub.nil _, rfl⟩
  | cons h1 hs ih =>
    obtain ⟨v, b1, e1, e2, e3⟩ := rv_ok h h1
    obtain ⟨vs, b2, f1, f2, f3, f4⟩ := ih
    refine ⟨v :: vs, b1 ++ b2, ?_, ⟨v, vs, b1, b2, rfl, rfl, e2, f2⟩, ?_, by simp [f4]⟩
    · simp [List.mapM_cons, e1, f1]
    · simpa using Sub.app e3 f3

def PostsOk (Γ : Ctx) : Nat → List Ent → Prop
  | _, [] => True
  | m, e :: es => (Γ m = some e ∧ mov e = true) ∧ PostsOk Γ (m + 1) es

theorem posts_ok {Γ : Ctx} : ∀ {m : Nat} {es : List Ent} (_ : PostsOk Γ m es) (j : Nat) (e : Ent), es[j]? = some e → Γ (m + j) = some e ∧ mov e = true
  | _, [], _, j, e, hj => by simp at hj
  | m, e0 :: es, h, j, e, hj => by
    cases j with
    | zero => simp at hj; subst hj; exact h.1
    | succ j =>
      have := posts_ok h.2 j e (by simpa using hj)
      rw [show m + (j + 1) = m + 1 + j by omega]
      exact this

theorem fin_core {Γ : Ctx} {a : Act} {w : World} {Z : Nat → Prop} {β : Nat → List Nat} {γ : Nat → Value} (h : Core P fr Γ a w Z β γ) {fn : Func} {v : Value} {bs : List Nat} {ts : List Nat} {res : Ent} {posts : List Ent}
    (hv : (results fn a.tmps).run P w = .ok v w) (hr : OwnOk P w Z res v bs) (hb : Sub bs (ts.flatMap β)) (hts : ∀ t, t ∈ ts → t < fr.n) (hnd : ts.Nodup) (hp : PostsOk Γ fr.n posts) : Fin P fr fn res posts a w := by
  have hp' := posts_ok hp
  have hfl := h.flat hnd
  have hmem : ∀ b, b ∈ bs → ∃ s, s ∈ ts ∧ b ∈ β s := fun b hb' => by
    obtain ⟨s, h1, h2⟩ := List.mem_flatMap.1 (hb.mem hb')
    exact ⟨s, h1, h2⟩
  refine ⟨h.defers, v, hv, Z, fun k => match k with | 0 => bs | j + 1 => β (fr.n + j), ?_⟩
  refine ⟨h.evo, h.zlt, h.zin, h.znew, ?_, ?_, ?_, hr, ?_⟩
  · intro k b hb'
    cases k with
    | zero => obtain ⟨s, _, hs⟩ := hmem b hb'; exact h.own s b hs
    | succ j => exact h.own _ b hb'
  · intro k
    cases k with
    | zero => exact hb.nodup hfl
    | succ j => exact h.nodup _
  · intro k k' b hne h1 h2
    cases k with
    | zero =>
      cases k' with
      | zero => exact hne rfl
      | succ j =>
        obtain ⟨s, hs1, hs2⟩ := hmem b h1
        exact h.disj s (fr.n + j) b (by have := hts s hs1; omega) hs2 h2
    | succ i =>
      cases k' with
      | zero =>
        obtain ⟨s, hs1, hs2⟩ := hmem b h2
        exact h.disj s (fr.n + i) b (by have := hts s hs1; omega) hs2 h1
      | succ j => exact h.disj _ _ b (by omega) h1 h2
  · intro j e hj
    obtain ⟨h1, h2⟩ := hp' j e hj
    have := h.ent _ e h1
    rw [mov_iff h2] at this
    rw [← h.gh]
    have hn : ¬ fr.n + j < fr.n := by omega
    have hev : ev fr.n a γ (fr.n + j) = γ (fr.n + j) := by simp [ev, hn]
    rw [hev] at this
    exact this

theorem rvs_lt {Γ : Ctx} {n : Nat} {rs : List ResultVar} {Xs : List Dt} {ts : List Nat} (hr : RvsOk P n Γ rs Xs ts) : ∀ t, t ∈ ts → t < n := by
  induction hr with
  | nil => simp
  | cons h1 hs ih =>
    intro t ht
    rcases List.mem_cons.1 ht with rfl | ht
    · cases h1 with
      | tmp ht _ => simpa [Nat.blt_eq] using ht
      | cell ht _ _ _ => simpa [Nat.blt_eq] using ht
    · exact ih t ht

theorem results_run {fn : Func} {tmps : Array Value} {rs : List ResultVar} (h : fn.results.toList = rs) {w : World} {vs : List Value} (hr : (rs.mapM (rvRun tmps)).run P w = .ok vs w) :
    (results fn tmps).run P w = .ok (if h : vs.toArray.size = 1 then vs.toArray[0] else .tuple vs.toArray) w := by
  have e1 : fn.results = rs.toArray := by rw [← h]
  unfold results
  rw [e1]
  have e2 : (rs.toArray.mapM (rvRun tmps)) = List.toArray <$> rs.mapM (rvRun tmps) := by simp
  show ((rs.toArray.mapM (rvRun tmps)) >>= _).run P w = _
  rw [e2, Sem.run_bind]
  simp [hr]

theorem fin_one {Γ : Ctx} {a : Act} {w : World} {fn : Func} {r : ResultVar} {X : Dt} {t : Nat} {posts : List Ent} (h : St P fr Γ a w) (hrs : fn.results.toList = [r]) (hr : RvOk P fr.n Γ r X t) (hp : PostsOk Γ fr.n posts) :
    Fin P fr fn (.d X) posts a w := by
  obtain ⟨Z, β, γ, h⟩ := h
  have hrv := RvsOk.cons hr .nil
  obtain ⟨v, bs, h1, h2, h3⟩ := rv_ok h hr
  have hres := results_run (P := P) hrs (w := w) (tmps := a.tmps) (vs := [v]) (by simp [h1])
  exact fin_core h (ts := [t]) hres h2 (by simpa using h3) (rvs_lt hrv) (by simp) hp

theorem fin_many {Γ : Ctx} {a : Act} {w : World} {fn : Func} {rs : List ResultVar} {Xs : List Dt} {ts : List Nat} {posts : List Ent} (h : St P fr Γ a w) (hrs : fn.results.toList = rs) (hr : RvsOk P fr.n Γ rs Xs ts)
    (hn : Nat.beq rs.length 1 = false) (hnd : nodupB ts = true) (hp : PostsOk Γ fr.n posts) : Fin P fr fn (.tup (Xs.map some)) posts a w := by
  obtain ⟨Z, β, γ, h⟩ := h
  obtain ⟨vs, bs, h1, h2, h3, h4⟩ := rvs_ok h hr
  have hres := results_run (P := P) hrs h1
  have hne : ¬ vs.toArray.size = 1 := by
    intro e
    have : rs.length = 1 := by rw [← h4]; simpa using e
    rw [this] at hn
    cases hn
  rw [dif_neg hne] at hres
  exact fin_core h (ts := ts) hres ⟨vs, rfl, h2⟩ h3 (rvs_lt hr) (nodupB_ok hnd) hp

/-! ### Steps of the mind -/
theorem St.weaken {Γ Γ' : Ctx} {a : Act} {w : World} (h : St P fr Γ a w) (hl : E_le Γ' Γ) : St P fr Γ' a w := by
  obtain ⟨Z, β, γ, h⟩ := h
  exact ⟨Z, β, γ, ⟨h.gh, h.defers, h.size, h.evo, h.zlt, h.zin, h.znew, h.own, h.nodup, h.disj, fun t e ht => h.ent t e (hl t e ht)⟩⟩

/-- A list of entries. -/
def mk : List (Nat × Ent) → Ctx
  | [], _ => none
  | (t, e) :: L, u => bif Nat.beq t u then some e else mk L u

def Has (Γ : Ctx) : List (Nat × Ent) → Prop
  | [] => True
  | (t, e) :: L => Γ t = some e ∧ Has Γ L

theorem has_le {Γ : Ctx} : ∀ {L : List (Nat × Ent)}, Has Γ L → E_le (mk L) Γ
  | [], _, t, e, h => by simp [mk] at h
  | (u, e0) :: L, hh, t, e, h => by
    simp only [mk] at h
    cases hb : Nat.beq u t with
    | true =>
      rw [hb] at h
      simp at h
      subst h
      rw [← Nat.eq_of_beq_eq_true hb]
      exact hh.1
    | false => rw [hb] at h; exact has_le hh.2 t e h

/-- What is owned is owned by none any more, and may be read by all. -/
theorem St.freeze {Γ : Ctx} {a : Act} {w : World} (h : St P fr Γ a w) (t : Nat) {X : Dt} (hx : Γ t = some (.d X)) : St P fr (upd Γ [⟨t, false, some (.d (shD X))⟩]) a w := by
  obtain ⟨Z, β, γ, h⟩ := h
  have hlk : ∀ u, look [⟨t, false, some (.d (shD X))⟩] u = if u = t then some ⟨t, false, some (.d (shD X))⟩ else none := by
    intro u
    simp only [look]
    by_cases hu : u = t
    · subst hu; simp
    · have : Nat.beq t u = false := by
        cases hb : Nat.beq t u with
        | false => rfl
        | true => exact absurd (Nat.eq_of_beq_eq_true hb).symm hu
      simp [this, hu]
  refine ⟨fun b => Z b ∨ b ∈ β t, fun u => if u = t then [] else β u, γ, h.turn _ h.defers h.size h.evo ?_ (fun b hb => ⟨.inl hb, rfl⟩) ?_ ?_ ?_ ?_ (fun _ _ => rfl) ?_ (fun _ _ _ _ => rfl) ?_⟩
  · rintro b (hb | hb)
    · exact h.zlt b hb
    · exact (h.own t b hb).1
  · rintro b (hb | hb)
    · exact h.znew b hb
    · exact .inr (h.own t b hb).2.2
  · intro u b hb
    by_cases hu : u = t
    · simp [hu] at hb
    · simp only [hu, if_false] at hb
      refine ⟨(h.own u b hb).1, ?_, (h.own u b hb).2.2⟩
      rintro (hz | hz)
      · exact (h.own u b hb).2.1 hz
      · exact h.disj u t b hu hb hz
  · intro u
    by_cases hu : u = t
    · simp [hu]
    · simpa [hu] using h.nodup u
  · intro u u' b hne hb hb'
    by_cases hu : u = t
    · simp [hu] at hb
    · by_cases hu' : u' = t
      · simp [hu'] at hb'
      · simp only [hu, hu', if_false] at hb hb'
        exact h.disj u u' b hne hb hb'
  · intro u hu
    rw [hlk] at hu
    by_cases hut : u = t
    · simp [hut] at hu
    · simp [hut]
  · intro u p e hl hpe
    rw [hlk] at hl
    by_cases hut : u = t
    · subst hut
      simp at hl
      subst hl
      simp at hpe
      subst hpe
      have he := h.ent u _ hx
      simp only [EntOk] at he ⊢
      simp only [if_true]
      exact RD.share he
    · simp [hut] at hl

end Go.Proofs.YtdclbbkkcngjnaaT
