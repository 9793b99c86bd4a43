/- The rules of append, of slices that are built, made and cut, and of elements. -/
import Derived.Test.YtdclbbkkcngjnaaTrA
set_option linter.all false
namespace Go.Proofs.YtdclbbkkcngjnaaT
open Go
variable {P : Program} {fr : Fr}

/-- T is a type of slices of E; what is asked of E. -/
def elemT (P : Program) (T E : TypeId) : Bool := match P.underlying T, P.info? E with
  | some (.slice e), some i => e == E && (match i.zero with | some z => z.cells.size == i.size | none => false) && !(i.size == 0) && Nat.ble i.bytes 65536 && Nat.ble i.size 256
  | _, _ => false

theorem elemT_ok {T E : TypeId} (h : elemT P T E = true) : ∃ i z, P.underlying T = some (.slice E) ∧ P.info? E = some i ∧ i.zero = some z ∧ z.cells.size = i.size ∧ 0 < i.size ∧ i.bytes ≤ 65536 ∧ szOf P E = i.size ∧ i.size ≤ 256 := by
  unfold elemT at h
  split at h
  · rename_i e i hu hi
    simp only [Bool.and_eq_true, beq_iff_eq] at h
    obtain ⟨⟨⟨⟨rfl, h2⟩, h3⟩, h4⟩, h5⟩ := h
    cases hz : i.zero with
    | none => rw [hz] at h2; simp at h2
    | some z =>
      rw [hz] at h2
      simp at h2 h3 h4 h5
      exact ⟨i, z, hu, hi, hz, h2, by omega, h4, by simp [szOf, hi], h5⟩
  · cases h


/-- What is appended: nothing, or cells that lie somewhere. -/
def Src (P : Program) (w : World) (Z : Nat → Prop) (Et : TypeId) (es : List (List C)) (x : Value) (bs : List Nat) : Prop :=
  (x = .slice none 0 0 ∧ es = [] ∧ bs = []) ∨
  ∃ ad c news, x = .slice (some ad) es.length c ∧ news.length = es.length * szOf P Et ∧ (∀ k u, news[k]? = some u → w.cell? (ad.add k) = some u) ∧ (∀ e ∈ es, e.length = szOf P Et) ∧ RLL P w Z es news bs

theorem RLL.one {w : World} {Z : Nat → Prop} : ∀ (es : List (List C)) {vs : List Value} {bs : List Nat} (_ : RLL P w Z es vs bs), ∀ x ∈ vs, x.oneCell' = true
  | [], _, _, h => by simp [RLL] at h; simp [h]
  | e :: es, vs, bs, h => by
    simp only [RLL] at h
    obtain ⟨v1, v2, b1, b2, rfl, rfl, hc, hr⟩ := h
    intro x hx
    rcases List.mem_append.1 hx with hx | hx
    · exact RL.one e hc x hx
    · exact RLL.one es hr x hx

theorem run_app {T Et ty : TypeId} {w : World} {Z : Nat → Prop} {es1 es2 : List (List C)} {v x : Value} {b1 b2 : List Nat} (hT : elemT P T Et = true)
    (h1 : RC P w Z (.sl true Et es1) v b1) (h2 : Src P w Z Et es2 x b2) (hlen : es1.length + es2.length ≤ 2147483648) (hnd : (b1 ++ b2).Nodup)
    (hZ : ∀ b, b ∈ b1 → ¬ Z b) (hlt : ∀ b, b ∈ b1 ++ b2 → b < w.heap.size) (hZlt : ∀ b, Z b → b < w.heap.size) :
    ∃ v' w' b', (Builtin.append_ #[T, T] ty #[v, x]).run P w = .ok v' w' ∧ Grow w w' (fun b => b ∈ b1) ∧ RC P w' Z (.sl true Et (es1 ++ es2)) v' b' ∧
      Sub b' (w.heap.size :: (b1 ++ b2)) ∧ (∀ b, b ∈ b' → b < w'.heap.size) := by
  obtain ⟨i, z, hu, hi, hz, hzs, hpos, hby, hsz, _⟩ := elemT_ok hT
  rcases h2 with ⟨rfl, rfl, rfl⟩ | ⟨ad, c, news, rfl, hnl, hnc, hnk, hnr⟩
  · -- nothing
    refine ⟨v, w, b1, ?_, Grow.refl _ _, by simpa using h1, fun y => by simp only [List.append_nil, List.count_cons]; omega, fun b hb => hlt b (by simp [hb])⟩
    simp only [RC] at h1
    rcases h1 with ⟨rfl, _⟩ | ⟨_, _, _, h, _⟩ | ⟨g, cap, cur, bs', _, _, rfl, hle, _⟩
    · simp [Builtin.append_, run_underlying hu, sizeOf, typeInfo, hi, Builtin.lenOf, Builtin.firstCells]
    · cases h
    · simp [Builtin.append_, run_underlying hu, sizeOf, typeInfo, hi, Builtin.lenOf, Builtin.firstCells, hle, storeCells]
  · -- the row before
    have hv : ∃ vals bs', w.ownsRow 0 Et i.size v es1.length vals ∧ RLL P w Z es1 vals bs' ∧ (∀ e ∈ es1, e.length = i.size) ∧ ((v = .slice none 0 0 ∧ b1 = [] ∧ bs' = [] ∧ es1 = []) ∨ ∃ g, b1 = g :: bs' ∧ v.ownBlock = some g) := by
      simp only [RC] at h1
      rcases h1 with ⟨rfl, rfl, rfl⟩ | ⟨_, _, _, h, _⟩ | ⟨g, cap, cur, bs', _, rfl, rfl, hle, hcm, hg, hcs, hk, hr⟩
      · exact ⟨[], [], World.ownsRow_nil _ _ _ _, by simp [RLL], by simp, .inl ⟨rfl, rfl, rfl, rfl⟩⟩
      · cases h
      · rw [hsz] at hcs hk hr
        refine ⟨_, bs', ⟨by rw [RLL.length es1 hk hr], .inr ⟨g, cap, cur, rfl, Nat.zero_le _, hg, hle, hcm, hcs, rfl⟩⟩, hr, hk, .inr ⟨g, rfl, rfl⟩⟩
    obtain ⟨vals, bs', hown, hvr, hvk, hb1⟩ := hv
    rw [hsz] at hnl hnk
    have hm : (es1.length + es2.length) * i.bytes ≤ 140737488355328 := Nat.le_trans (Nat.mul_le_mul hlen hby) (by decide)
    obtain ⟨v', w', hrun, hown', hgrow, _, hat⟩ := run_append_own_at (P := P) w 0 T ty Et i z i.size i.bytes hu hi hz rfl rfl hzs hpos v es1.length vals hown ad es2.length c news hnl hnc (RLL.one es2 hnr) (by unfold maxLen; omega) hm (Nat.zero_le _)
    have hrow : ∀ b, v.ownBlock = some b → b ∈ b1 := by
      intro b hb
      rcases hb1 with ⟨rfl, _, _, _⟩ | ⟨g, rfl, hg⟩
      · simp [Value.ownBlock] at hb
      · rw [hg] at hb; simp at hb; simp [hb]
    have hgr : Grow w w' (fun b => b ∈ b1) := (Grow.of_grownBy hgrow).mono hrow
    have hsame : ∀ b, (Z b ∨ b ∈ bs' ++ b2) → w'.heap[b]? = w.heap[b]? := by
      intro b hb
      have hbl : b < w.heap.size := by
        rcases hb with hb | hb
        · exact hZlt b hb
        · rcases List.mem_append.1 hb with hb | hb
          · rcases hb1 with ⟨_, _, rfl, _⟩ | ⟨g, rfl, _⟩
            · simp at hb
            · exact hlt b (by simp [hb])
          · exact hlt b (by simp [hb])
      refine hgrow.block b hbl (fun e => ?_)
      have hbm := hrow b e.symm
      rcases hb with hb | hb
      · exact hZ b hbm hb
      · rcases hb1 with ⟨rfl, _, _, _⟩ | ⟨g, rfl, hg⟩
        · simp [Value.ownBlock] at e
        · have : g = b := by rw [hg] at e; simpa using e.symm
          subst this
          simp only [List.cons_append, List.nodup_cons] at hnd
          exact hnd.1 hb
    have hall : RLL P w' Z (es1 ++ es2) (vals ++ news) (bs' ++ b2) :=
      (RLL.app _ _ _ _).2 ⟨vals, news, bs', b2, rfl, rfl, RLL.mono (fun _ h => h) _ (fun b hb => hsame b (by rcases hb with h | h; exact .inl h; exact .inr (by simp [h]))) hvr,
        RLL.mono (fun _ h => h) _ (fun b hb => hsame b (by rcases hb with h | h; exact .inl h; exact .inr (by simp [h]))) hnr⟩
    have hk2 : ∀ e ∈ es1 ++ es2, e.length = szOf P Et := by
      intro e he
      rw [hsz]
      rcases List.mem_append.1 he with he | he
      · exact hvk e he
      · exact hnk e he
    have hrun' : (Builtin.append_ #[T, T] ty #[v, .slice (some ad) es2.length c]).run P w = .ok v' w' := hrun
    rcases hown'.2 with ⟨rfl, h0⟩ | ⟨g, cap, cur, rfl, _, hg, hle, hcm, hcs, htake⟩
    · have he1 : es1 = [] := List.eq_nil_of_length_eq_zero (by omega)
      have he2 : es2 = [] := List.eq_nil_of_length_eq_zero (by omega)
      subst he1 he2
      exact ⟨_, w', [], hrun', hgr, by simp [RC], Sub.nil _, by simp⟩
    · refine ⟨_, w', g :: (bs' ++ b2), hrun', hgr, ?_, ?_, ?_⟩
      · simp only [RC]
        refine .inr (.inr ⟨g, cap, cur, bs' ++ b2, trivial, rfl, by simp, by simpa using hle, hcm, hg, by rw [hsz]; exact hcs, hk2, ?_⟩)
        rw [hsz, List.length_append, htake]
        exact hall
      · intro y
        rcases hat with hat | hat
        · rcases hb1 with ⟨rfl, _, _, _⟩ | ⟨g', rfl, hg'⟩
          · simp [Value.ownBlock] at hat
          · rw [hg'] at hat
            simp [Value.ownBlock] at hat
            subst hat
            simp only [List.count_cons, List.count_append]
            omega
        · simp [Value.ownBlock] at hat
          subst hat
          rcases hb1 with ⟨_, rfl, rfl, _⟩ | ⟨g', rfl, _⟩
          · simp only [List.count_cons, List.count_append, List.count_nil]
            omega
          · simp only [List.count_cons, List.count_append]
            omega
      · intro b hb
        rcases List.mem_cons.1 hb with rfl | hb
        · exact block_lt hg
        · refine Nat.lt_of_lt_of_le ?_ hgr.size
          rcases List.mem_append.1 hb with hb | hb
          · rcases hb1 with ⟨_, _, rfl, _⟩ | ⟨g', rfl, _⟩
            · simp at hb
            · exact hlt b (by simp [hb])
          · exact hlt b (by simp [hb])

/-- Own or plain data as what is appended. -/
theorem RC.toSrc {w : World} {Z : Nat → Prop} {o : Bool} {Et : TypeId} {es : List (List C)} {y : Value} {bs : List Nat} (h : RC P w Z (.sl o Et es) y bs) : ∃ b0, Src P w Z Et es y b0 ∧ Sub b0 bs := by
  simp only [RC] at h
  rcases h with ⟨h1, h2, h3⟩ | ⟨ad, cap, vs, rfl, rfl, hy, h1, h2, hz, hc, hl, hr⟩ | ⟨g, cap, cur, bs', rfl, rfl, hy, h1, h2, hg, hs, hl, hr⟩
  · exact ⟨[], .inl ⟨h1, h2, rfl⟩, Sub.nil _⟩
  · exact ⟨[], .inr ⟨ad, cap, vs, hy, RLL.length es hl hr, hc, hl, hr⟩, Sub.nil _⟩
  · refine ⟨bs', .inr ⟨_, cap, _, hy, RLL.length es hl hr, ?_, hl, hr⟩, fun x => by rw [List.count_cons]; omega⟩
    intro k x hx
    rw [cell_row hg]
    rw [List.getElem?_take] at hx
    split at hx
    · simpa using hx
    · cases hx

theorem la_app {E : Ctx} {o : Oper} {t : Nat} {T Et : TypeId} {s x : Operand} {Ss Sx : List Nat} {o2 : Bool} {α : Type} {f : α → List C} {xs ys : List α} {es2 : List (List C)}
    (ho : o.op = .call { callee := .builtin .append, args := #[s, x], argTypes := #[T, T] }) (hd : o.dst = some t) (ht : Nat.blt t fr.n = true) (hT : elemT P T Et = true)
    (hs : tk fr.n E s = some (.one (.sl true Et (xs.map f)), Ss)) (hx : tk fr.n E x = some (.one (.sl o2 Et es2), Sx)) (hf : es2 = ys.map f)
    (hlen : xs.length + ys.length ≤ 2147483648) (hS : (Ss ++ Sx).Nodup) :
    LA P fr E o (⟨t, true, some (.d (.one (.sl true Et ((xs ++ ys).map f))))⟩ :: (Ss ++ Sx).map rmv) := by
  subst hf
  intro Γ hle a w K Q ⟨Z, β, γ, h⟩ hk
  obtain ⟨b1, hs1, hs2⟩ := tk_sub h (tk_le hle hs)
  obtain ⟨b2', hx1, hx2⟩ := tk_sub h (tk_le hle hx)
  simp only [RD] at hs1 hx1
  obtain ⟨b2, hsrc, hsub⟩ := RC.toSrc hx1
  have hbs : Sub (b1 ++ b2) ((Ss ++ Sx).flatMap β) := by
    rw [List.flatMap_append]
    exact Sub.app hs2 (hsub.trans hx2)
  have hfl := h.flat hS
  have hmem : ∀ b, b ∈ b1 ++ b2 → ∃ s, s ∈ Ss ++ Sx ∧ b ∈ β s := fun b hb => by
    obtain ⟨s, h1, h2⟩ := List.mem_flatMap.1 (hbs.mem hb); exact ⟨s, h1, h2⟩
  have hlt : ∀ b, b ∈ b1 ++ b2 → b < w.heap.size := fun b hb => by
    obtain ⟨s, h1, h2⟩ := hmem b hb; exact (h.own s b h2).1
  obtain ⟨v', w', b', hrun, hgr, hres, hb', hb'lt⟩ := run_app (P := P) (ty := o.type) hT hs1 hsrc (by simpa using hlen) (hbs.nodup hfl)
    (fun b hb => by obtain ⟨s, h1, h2⟩ := hmem b (by simp [hb]); exact (h.own s b h2).2.1) hlt h.zlt
  refine wp_of_run (w' := w') (v := v') ?_ (hk _ _ ?_)
  · unfold execOp
    rw [ho]
    simp [resolve, invoke, builtin, hrun]
  · rw [hd]
    refine ⟨Z, _, γ, h.give (Ss ++ Sx) ht (bn := b') (hgr.mono fun b hb => hmem b (by simp [hb])) ?_ ?_ ?_⟩
    · intro b hb
      refine ⟨hb'lt b hb, ?_⟩
      rcases List.mem_cons.1 (hb'.mem hb) with rfl | hb
      · exact .inl (Nat.le_refl _)
      · exact .inr (hmem b hb)
    · refine hb'.nodup ?_
      rw [List.nodup_cons]
      exact ⟨fun hm => by have := hlt _ hm; omega, hbs.nodup hfl⟩
    · intro β' ev' h1 h2 _ _
      simp only [EntOk, RD]
      rw [h2, h1, List.map_append]
      exact hres

end Go.Proofs.YtdclbbkkcngjnaaT

namespace Go.Proofs.YtdclbbkkcngjnaaT
open Go
variable {P : Program} {fr : Fr}

/-! ### Several operands -/
def tkL (n : Nat) (Γ : Ctx) : List Operand → Option (List Dt × List Nat)
  | [] => some ([], [])
  | x :: xs => match tk n Γ x, tkL n Γ xs with
    | some (X, S), some (Xs, Ss) => some (X :: Xs, S ++ Ss)
    | _, _ => none

def RDs (P : Program) (w : World) (Z : Nat → Prop) : List Dt → List Value → List Nat → Prop
  | [], ys, bs => ys = [] ∧ bs = []
  | x :: xs, ys, bs => ∃ y ys' b1 b2, ys = y :: ys' ∧ bs = b1 ++ b2 ∧ RD P w Z x y b1 ∧ RDs P w Z xs ys' b2

theorem tkL_le {n : Nat} {E Γ : Ctx} (hle : E_le E Γ) : ∀ {xs : List Operand} {q : List Dt × List Nat} (_ : tkL n E xs = some q), tkL n Γ xs = some q
  | [], _, h => h
  | x :: xs, q, h => by
    simp only [tkL] at h ⊢
    cases h1 : tk n E x with
    | none => rw [h1] at h; simp at h
    | some q1 =>
      cases h2 : tkL n E xs with
      | none => rw [h1, h2] at h; simp at h
      | some q2 => rw [h1, h2] at h; rw [tk_le hle h1, tkL_le hle h2]; exact h

theorem tkL_sub {Γ : Ctx} {a : Act} {w : World} {Z : Nat → Prop} {β : Nat → List Nat} {γ : Nat → Value} (h : Core P fr Γ a w Z β γ) : ∀ {xs : List Operand} {Xs : List Dt} {S : List Nat}
    (_ : tkL fr.n Γ xs = some (Xs, S)), ∃ bs, RDs P w Z Xs (xs.map a.eval) bs ∧ Sub bs (S.flatMap β)
  | [], Xs, S, hv => by
    simp [tkL] at hv
    obtain ⟨rfl, rfl⟩ := hv
    exact ⟨[], by simp [RDs], Sub.nil _⟩
  | x :: xs, Xs, S, hv => by
    simp only [tkL] at hv
    cases h1 : tk fr.n Γ x with
    | none => rw [h1] at hv; simp at hv
    | some q1 =>
      cases h2 : tkL fr.n Γ xs with
      | none => rw [h1, h2] at hv; simp at hv
      | some q2 =>
        rw [h1, h2] at hv
        simp at hv
        obtain ⟨rfl, rfl⟩ := hv
        obtain ⟨b1, hr1, hs1⟩ := tk_sub h h1
        obtain ⟨b2, hr2, hs2⟩ := tkL_sub h h2
        refine ⟨b1 ++ b2, ⟨_, _, b1, b2, rfl, rfl, hr1, hr2⟩, ?_⟩
        rw [List.flatMap_append]
        exact Sub.app hs1 hs2

theorem RDs.cells {w : World} {Z : Nat → Prop} : ∀ {xs : List Dt} {ys : List Value} {bs : List Nat} (_ : RDs P w Z xs ys bs), RLL P w Z (xs.map YtdclbbkkcngjnaaT.cells) (ys.map fun y => y.cells.toList).flatten bs
  | [], _, _, h => by obtain ⟨rfl, rfl⟩ := h; simp [RLL]
  | x :: xs, ys, bs, h => by
    obtain ⟨y, ys', b1, b2, rfl, rfl, h1, h2⟩ := h
    simp only [List.map_cons, List.flatten_cons, RLL]
    exact ⟨_, _, b1, b2, rfl, rfl, RD.cells h1, RDs.cells h2⟩

/-! ### A slice made of its elements -/
theorem foldl_set (n : Nat) : ∀ (vs : List Value) (k : Nat) (cur : Array Value), n + k + vs.length ≤ cur.size →
    ((vs.zipIdx k).foldl (fun cs (cj : Value × Nat) => cs.setIfInBounds (n + cj.2) cj.1) cur).toList = cur.toList.take (n + k) ++ vs ++ cur.toList.drop (n + k + vs.length)
  | [], k, cur, _ => by simp
  | v :: vs, k, cur, h => by
    simp only [List.zipIdx_cons, List.foldl_cons]
    rw [foldl_set n vs (k + 1) _ (by simp at h ⊢; omega)]
    simp only [Array.toList_setIfInBounds]
    have hlt : n + k < cur.toList.length := by simp at h ⊢; omega
    rw [List.set_eq_take_append_cons_drop, if_pos hlt]
    have e1 : n + (k + 1) = n + k + 1 := by omega
    rw [e1]
    have hl : (cur.toList.take (n + k)).length = n + k := by rw [List.length_take]; omega
    have e2 : (cur.toList.take (n + k) ++ v :: cur.toList.drop (n + k + 1)).take (n + k + 1) = cur.toList.take (n + k) ++ [v] := by
      rw [List.take_append, hl, List.take_of_length_le (by rw [hl]; omega), show n + k + 1 - (n + k) = 1 by omega]
      simp
    have e3 : (cur.toList.take (n + k) ++ v :: cur.toList.drop (n + k + 1)).drop (n + k + 1 + vs.length) = cur.toList.drop (n + k + (v :: vs).length) := by
      rw [List.drop_append, hl, List.drop_of_length_le (by rw [hl]; omega), show n + k + 1 + vs.length - (n + k) = vs.length + 1 by omega]
      simp [Nat.add_assoc, Nat.add_comm 1]
    rw [e2, e3]
    simp

theorem fill_all (sz : Nat) : ∀ (vs : List Value) (k : Nat) (cur : Array Value), (∀ v ∈ vs, v.cells.size = sz) → cur.size = (k + vs.length) * sz →
    ∃ r, Instr.fill (fun i => some (i * sz, sz)) cur ((vs.zipIdx k).map fun (v, i) => (i, v)) = some r ∧ r.toList = cur.toList.take (k * sz) ++ (vs.map fun v => v.cells.toList).flatten
  | [], k, cur, _, hs => by
    refine ⟨cur, by simp [Instr.fill], ?_⟩
    simp at hs
    simp [List.take_of_length_le, hs]
  | v :: vs, k, cur, hv, hs => by
    have hvc := hv v (by simp)
    simp only [List.zipIdx_cons, List.map_cons, Instr.fill]
    have hsz : cur.size = (k + 1 + vs.length) * sz := by rw [hs]; congr 1; simp; omega
    have hfit : ¬ (v.cells.size ≠ sz ∨ k * sz + v.cells.size > cur.size) := by
      rw [hvc, hsz]
      have : k * sz + sz ≤ (k + 1 + vs.length) * sz := by
        rw [← Nat.succ_mul]
        exact Nat.mul_le_mul_right _ (by omega)
      simp
      omega
    have hfl : (v.cells.zipIdx.foldl (fun cs (cj : Value × Nat) => cs.setIfInBounds (k * sz + cj.2) cj.1) cur).toList = cur.toList.take (k * sz) ++ v.cells.toList ++ cur.toList.drop (k * sz + sz) := by
      have := foldl_set (k * sz) v.cells.toList 0 cur (by simp at hfit ⊢; omega)
      simp only [Nat.add_zero, Array.length_toList, hvc] at this
      rw [← this]
      rw [← Array.foldl_toList]
      simp
    obtain ⟨r, hr, hrl⟩ := fill_all sz vs (k + 1) (v.cells.zipIdx.foldl (fun cs (cj : Value × Nat) => cs.setIfInBounds (k * sz + cj.2) cj.1) cur) (fun u hu => hv u (by simp [hu])) (by
      have hlen := congrArg List.length hfl
      simp only [Array.length_toList, List.length_append, List.length_take, List.length_drop, hvc] at hlen
      rw [hlen, hsz]
      have h1 : k * sz + sz ≤ (k + 1 + vs.length) * sz := by
        rw [← Nat.succ_mul]
        exact Nat.mul_le_mul_right _ (by omega)
      omega)
    refine ⟨r, ?_, ?_⟩
    · have hdec : (decide (v.cells.size ≠ sz) || decide (k * sz + v.cells.size > cur.size)) = false := by simp; simp at hfit; omega
      simp only [hdec]
      simpa using hr
    · rw [hrl, hfl, Nat.succ_mul]
      have hl : (cur.toList.take (k * sz) ++ v.cells.toList).length = k * sz + sz := by
        rw [List.length_append, List.length_take, Array.length_toList, Array.length_toList, hvc, hsz]
        have h1 : k * sz + sz ≤ (k + 1 + vs.length) * sz := by
          rw [← Nat.succ_mul]
          exact Nat.mul_le_mul_right _ (by omega)
        omega
      rw [← hl, List.take_left]
      simp

def inOrd : List (Nat × Operand) → Nat → Bool
  | [], _ => true
  | p :: ps, k => Nat.beq p.1 k && inOrd ps (k + 1)

theorem inOrd_ok (ρ : Operand → Value) : ∀ (ps : List (Nat × Operand)) (k : Nat), inOrd ps k = true → ps.map (fun p => (p.1, ρ p.2)) = (((ps.map fun p => ρ p.2).zipIdx k).map fun (v, i) => (i, v))
  | [], _, _ => rfl
  | p :: ps, k, h => by
    simp only [inOrd, Bool.and_eq_true] at h
    have hk : p.1 = k := Nat.eq_of_beq_eq_true h.1
    simp only [List.map_cons, List.zipIdx_cons]
    rw [inOrd_ok ρ ps (k + 1) h.2, hk]

theorem la_bsl {E : Ctx} {o : Oper} {t n : Nat} {T Et : TypeId} {parts : Array (Nat × Operand)} {Xs : List Dt} {S : List Nat} {α : Type} {f : α → List C} {xs : List α}
    (ho : o.op = .buildSlice T n parts) (hd : o.dst = some t) (ht : Nat.blt t fr.n = true) (hT : elemT P T Et = true) (hin : inOrd parts.toList 0 = true) (hn : Nat.beq parts.size n = true) (hn2 : Nat.ble n 65536 = true)
    (hx : tkL fr.n E (parts.toList.map (·.2)) = some (Xs, S)) (hf : Xs.map cells = xs.map f) (hl : ∀ x ∈ Xs, (cells x).length = szOf P Et) (hS : S.Nodup) :
    LA P fr E o (⟨t, true, some (.d (.one (.sl true Et (xs.map f))))⟩ :: S.map rmv) := by
  intro Γ hle a w K Q ⟨Z, β, γ, h⟩ hk
  obtain ⟨i, z, hu, hi, hz, hzs, hpos, hby, hsz, hs256⟩ := elemT_ok hT
  obtain ⟨bs, hr, hb⟩ := tkL_sub h (tkL_le hle hx)
  have hn' : parts.size = n := Nat.eq_of_beq_eq_true hn
  have hn2' : n ≤ 65536 := by simpa using hn2
  have hcells := RDs.cells hr
  have hfl := h.flat hS
  -- the values' widths
  have hvs : ∀ v ∈ (parts.toList.map (·.2)).map a.eval, v.cells.size = i.size := by
    have : ∀ (Xs : List Dt) (ys : List Value) (bs : List Nat), RDs P w Z Xs ys bs → (∀ x ∈ Xs, (cells x).length = szOf P Et) → ∀ v ∈ ys, v.cells.size = i.size := by
      intro Xs
      induction Xs with
      | nil => intro ys bs h1 _ v hv; obtain ⟨rfl, _⟩ := h1; simp at hv
      | cons x Xs ih =>
        intro ys bs h1 h2 v hv
        obtain ⟨y, ys', b1, b2, rfl, rfl, h3, h4⟩ := h1
        rcases List.mem_cons.1 hv with rfl | hv
        · have := RL.length _ (RD.cells h3)
          rw [h2 x (by simp), hsz] at this
          simpa using this
        · exact ih ys' b2 h4 (fun x hx => h2 x (by simp [hx])) v hv
    exact this Xs _ _ hr hl
  have hXl : Xs.length = n := by
    have : ∀ (Xs : List Dt) (ys : List Value) (bs : List Nat), RDs P w Z Xs ys bs → ys.length = Xs.length := by
      intro Xs
      induction Xs with
      | nil => intro ys bs h1; obtain ⟨rfl, _⟩ := h1; rfl
      | cons x Xs ih => intro ys bs h1; obtain ⟨y, ys', b1, b2, rfl, rfl, h3, h4⟩ := h1; simp [ih _ _ h4]
    have := this _ _ _ hr
    simp at this
    omega
  obtain ⟨r, hfill, hrl⟩ := fill_all i.size ((parts.toList.map (·.2)).map a.eval) 0 ((Array.range (n * i.size)).map fun k => (if n * i.size = 0 then #[] else z.cells)[k % (if n * i.size = 0 then #[] else z.cells).size]!) hvs (by simp [hn'])
  have hrl' : r.toList = (((parts.toList.map (·.2)).map a.eval).map fun v => v.cells.toList).flatten := by simpa using hrl
  refine wp_of_run (w' := w.alloc (.cells r Et)) (v := .slice (some ⟨w.heap.size, 0, none⟩) n n) ?_ (hk _ _ ?_)
  · unfold execOp
    rw [ho]
    have hpl := inOrd_ok a.eval parts.toList 0 hin
    have hmap : (parts.toList.map (·.2)).map a.eval = parts.toList.map fun p => a.eval p.2 := by simp
    rw [hmap, ← hpl] at hfill
    have hle24 : ¬ (n * i.size > 2 ^ 24) := by
      have : n * i.size ≤ 65536 * 256 := Nat.mul_le_mul hn2' hs256
      simp
      omega
    have hlist : (parts.map fun (i, x) => (i, a.eval x)).toList = parts.toList.map (fun p => (p.1, a.eval p.2)) := by simp
    by_cases h0 : n * i.size = 0
    · have he : (Array.range 0).map (fun _ : Nat => (default : Value)) = #[] := by simp
      have he2 : (Array.range 0).map (fun k : Nat => (#[] : Array Value)[k % (#[] : Array Value).size]!) = #[] := by simp
      simp only [h0, if_true, he2] at hfill
      simp [Instr.buildSlice, run_underlying hu, sizeOf, typeInfo, hi, h0, newRow, newObj]
      rw [he, hfill]
      rfl
    · simp only [h0, if_false] at hfill
      simp [Instr.buildSlice, run_underlying hu, sizeOf, typeInfo, hi, h0, hle24, zeroValue, hz, hfill, newRow, newObj]
      rfl
  · rw [hd]
    have hmem : ∀ b, b ∈ bs → ∃ s, s ∈ S ∧ b ∈ β s := fun b hb' => by
      obtain ⟨s, h1, h2⟩ := List.mem_flatMap.1 (hb.mem hb'); exact ⟨s, h1, h2⟩
    have hlt : ∀ b, b ∈ bs → b < w.heap.size := fun b hb' => by obtain ⟨s, h1, h2⟩ := hmem b hb'; exact (h.own s b h2).1
    refine ⟨Z, _, γ, h.give S ht (bn := w.heap.size :: bs) (Grow.alloc _ _ _) ?_ ?_ ?_⟩
    · intro b hb'
      rcases List.mem_cons.1 hb' with rfl | hb'
      · exact ⟨by simp, .inl (Nat.le_refl _)⟩
      · exact ⟨by have := hlt b hb'; simp; omega, .inr (hmem b hb')⟩
    · rw [List.nodup_cons]
      exact ⟨fun hm => by have := hlt _ hm; omega, hb.nodup hfl⟩
    · intro β' ev' h1 h2 _ _
      simp only [EntOk, RD, RC]
      have hlen : (xs.map f).length = n := by rw [← hf]; simpa using hXl
      have hel : ∀ e ∈ xs.map f, e.length = szOf P Et := by
        rw [← hf]
        intro e he
        obtain ⟨x, hx, rfl⟩ := List.mem_map.1 he
        exact hl x hx
      rw [h2, h1]
      refine .inr (.inr ⟨w.heap.size, n, r, bs, trivial, rfl, by rw [hlen], by omega, by unfold maxLen; omega, heap_alloc_new w _, ?_, hel, ?_⟩)
      · have h3 := RLL.length _ (by rw [hf]; exact hel) hcells
        rw [← hrl'] at h3
        simp only [Array.length_toList, List.length_map, hXl] at h3
        exact h3
      · have h3 := RLL.length _ (by rw [hf]; exact hel) hcells
        rw [← hrl'] at h3
        simp only [List.length_map, hXl] at h3
        rw [hlen, ← h3, List.take_length]
        rw [hf, ← hrl'] at hcells
        refine RLL.mono (fun _ hz => hz) _ (fun b hb' => ?_) hcells
        rcases hb' with hz | hb'
        · exact (Grow.alloc w _ (fun _ => False)).block b (h.zlt b hz) (fun h => h)
        · exact (Grow.alloc w _ (fun _ => False)).block b (hlt b hb') (fun h => h)

end Go.Proofs.YtdclbbkkcngjnaaT

namespace Go.Proofs.YtdclbbkkcngjnaaT
open Go
variable {P : Program} {fr : Fr}

/-! ### Elements of a slice of the call's own -/
def slOf (n : Nat) (Γ : Ctx) : Operand → Option (Nat × TypeId × List (List C))
  | .tmp t => bif Nat.blt t n then
      match Γ t with
      | some (.d (.one (.sl true E es))) => some (t, E, es)
      | some (.eq r) => match Γ r with
        | some (.d (.one (.sl true E es))) => some (r, E, es)
        | _ => none
      | _ => none
    else none
  | _ => none

theorem slOf_le {n : Nat} {E Γ : Ctx} (hle : E_le E Γ) {x : Operand} {q : Nat × TypeId × List (List C)} (h : slOf n E x = some q) : slOf n Γ x = some q := by
  cases x with
  | tmp t =>
    simp only [slOf] at h ⊢
    cases ht : Nat.blt t n with
    | false => rw [ht] at h; simp at h
    | true =>
      rw [ht] at h
      simp only [cond_true] at h ⊢
      cases hg : E t with
      | none => rw [hg] at h; simp at h
      | some e =>
        rw [hg] at h
        rw [hle t e hg]
        split at h
        · rename_i E' es' hq
          simp only [Option.some.injEq] at hq
          subst hq
          exact h
        · rename_i r hq
          simp only [Option.some.injEq] at hq
          subst hq
          cases hr : E r with
          | none => rw [hr] at h; simp at h
          | some e => rw [hr] at h; rw [hle r e hr]; exact h
        · cases h
  | const v => exact h
  | global g => exact h
  | func f => exact h

theorem slOf_ok {Γ : Ctx} {a : Act} {w : World} {Z : Nat → Prop} {β : Nat → List Nat} {γ : Nat → Value} (h : Core P fr Γ a w Z β γ) {x : Operand} {r : Nat} {Et : TypeId} {es : List (List C)}
    (hv : slOf fr.n Γ x = some (r, Et, es)) : Γ r = some (.d (.one (.sl true Et es))) ∧ a.eval x = ev fr.n a γ r ∧ RC P w Z (.sl true Et es) (ev fr.n a γ r) (β r) := by
  cases x with
  | tmp t =>
    simp only [slOf] at hv
    cases ht : Nat.blt t fr.n with
    | false => rw [ht] at hv; simp at hv
    | true =>
      rw [ht] at hv
      simp only [cond_true] at hv
      rw [eval_ev (γ := γ) ht]
      have main : ∀ r, Γ r = some (.d (.one (.sl true Et es))) → RC P w Z (.sl true Et es) (ev fr.n a γ r) (β r) := fun r hr => h.ent r _ hr
      cases hg : Γ t with
      | none => rw [hg] at hv; simp at hv
      | some e =>
        have he := h.ent t e hg
        rw [hg] at hv
        split at hv
        · rename_i E' es' hq
          simp at hv
          obtain ⟨rfl, rfl, rfl⟩ := hv
          rw [hq] at hg
          exact ⟨hg, rfl, main t hg⟩
        · rename_i q hq
          split at hv
          · rename_i E' es' hq'
            simp at hv
            obtain ⟨rfl, rfl, rfl⟩ := hv
            simp at hq
            subst hq
            exact ⟨hq', he, main q hq'⟩
          · cases hv
        · cases hv
  | const v => simp [slOf] at hv
  | global g => simp [slOf] at hv
  | func f => simp [slOf] at hv

def elOf (n : Nat) (Γ : Ctx) : Operand → Option (Nat × TypeId × Nat × Nat × List (List C))
  | .tmp t => bif Nat.blt t n then
      match Γ t with
      | some (.elt r E i k) => match Γ r with
        | some (.d (.one (.sl true E' es))) => bif Nat.beq E E' then some (r, E, i, k, es) else none
        | _ => none
      | _ => none
    else none
  | _ => none

theorem elOf_le {n : Nat} {E Γ : Ctx} (hle : E_le E Γ) {x : Operand} {q : Nat × TypeId × Nat × Nat × List (List C)} (h : elOf n E x = some q) : elOf n Γ x = some q := by
  cases x with
  | tmp t =>
    simp only [elOf] at h ⊢
    cases ht : Nat.blt t n with
    | false => rw [ht] at h; simp at h
    | true =>
      rw [ht] at h
      simp only [cond_true] at h ⊢
      cases hg : E t with
      | none => rw [hg] at h; simp at h
      | some e =>
        rw [hg] at h
        rw [hle t e hg]
        cases e <;> simp at h ⊢
        rename_i r _ _ _
        cases hr : E r with
        | none => rw [hr] at h; simp at h
        | some e => rw [hr] at h; rw [hle r e hr]; exact h
  | const v => exact h
  | global g => exact h
  | func f => exact h

theorem elOf_ok {Γ : Ctx} {a : Act} {w : World} {Z : Nat → Prop} {β : Nat → List Nat} {γ : Nat → Value} (h : Core P fr Γ a w Z β γ) {x : Operand} {r : Nat} {Et : TypeId} {i k : Nat} {es : List (List C)}
    (hv : elOf fr.n Γ x = some (r, Et, i, k, es)) : Γ r = some (.d (.one (.sl true Et es))) ∧ ∃ g n cap, ev fr.n a γ r = .slice (some ⟨g, 0, none⟩) n cap ∧ a.eval x = .pointer (some ⟨g, i * szOf P Et + k, none⟩) ∧
      RC P w Z (.sl true Et es) (ev fr.n a γ r) (β r) := by
  cases x with
  | tmp t =>
    simp only [elOf] at hv
    cases ht : Nat.blt t fr.n with
    | false => rw [ht] at hv; simp at hv
    | true =>
      rw [ht] at hv
      simp only [cond_true] at hv
      rw [eval_ev (γ := γ) ht]
      cases hg : Γ t with
      | none => rw [hg] at hv; simp at hv
      | some e =>
        have he := h.ent t e hg
        rw [hg] at hv
        cases e <;> simp at hv
        rename_i q E' i' k'
        split at hv
        · rename_i E'' es' hq'
          cases hb : Nat.beq E' E'' with
          | false => rw [hb] at hv; simp at hv
          | true =>
            rw [hb] at hv
            simp at hv
            have := Nat.eq_of_beq_eq_true hb
            subst this
            obtain ⟨rfl, rfl, rfl, rfl, rfl⟩ := hv
            obtain ⟨g, n, cap, h1, h2⟩ := he
            exact ⟨hq', g, n, cap, h1, h2, h.ent q _ hq'⟩
        · cases hv
  | const v => simp [elOf] at hv
  | global g => simp [elOf] at hv
  | func f => simp [elOf] at hv

/-- What an own slice with an element is. -/
theorem RC.own {w : World} {Z : Nat → Prop} {Et : TypeId} {es : List (List C)} {y : Value} {bs : List Nat} (h : RC P w Z (.sl true Et es) y bs) (hne : es ≠ []) :
    ∃ g cap cur bs', bs = g :: bs' ∧ y = .slice (some ⟨g, 0, none⟩) es.length cap ∧ es.length ≤ cap ∧ cap ≤ maxLen ∧ w.heap[g]? = some (.cells cur Et (0, 0)) ∧ cur.size = cap * szOf P Et ∧
      (∀ e ∈ es, e.length = szOf P Et) ∧ RLL P w Z es (cur.toList.take (es.length * szOf P Et)) bs' := by
  simp only [RC] at h
  rcases h with ⟨_, h, _⟩ | ⟨_, _, _, h, _⟩ | ⟨g, cap, cur, bs', _, h⟩
  · exact absurd h hne
  · cases h
  · exact ⟨g, cap, cur, bs', h⟩

theorem la_eidx {E : Ctx} {o : Oper} {t : Nat} {T Et : TypeId} {x y : Operand} {r : Nat} {i : Int} {α : Type} {f : α → List C} {xs : List α}
    (ho : o.op = .indexAddr T x y) (hd : o.dst = some t) (ht : Nat.blt t fr.n = true) (hT : elemT P T Et = true)
    (hx : slOf fr.n E x = some (r, Et, xs.map f)) (hy : vs fr.n E y = some (.int .i64 i)) (h0 : 0 ≤ i) (h1 : i < (xs.length : Int)) (hr : Nat.beq r t = false) :
    LA P fr E o [⟨t, true, some (.elt r Et i.toNat 0)⟩] := by
  refine LA.val hd ht fun Γ a w Z β γ hle h => ?_
  obtain ⟨inf, z, hu, hi, hz, hzs, hpos, hby, hsz, _⟩ := elemT_ok hT
  obtain ⟨_, hev, hrc⟩ := slOf_ok h (slOf_le hle hx)
  have hne : xs.map f ≠ [] := by rintro h; simp at h; subst h; simp at h1; omega
  obtain ⟨g, cap, cur, bs', hbs, hy', hle', hcm, hg, hcs, hk, hrl⟩ := RC.own hrc hne
  refine ⟨.pointer (some ⟨g, i.toNat * szOf P Et + 0, none⟩), ?_, fun β' ev' hb hb' hv hv' => ?_⟩
  · unfold execOp
    rw [ho]
    have hil : i < (((xs.map f).length : Nat) : Int) := by simpa using h1
    simp [Instr.indexAt, hev, hy', vs_ok h (vs_le hle hy), asIntOf, run_underlying hu, h0, sizeOf, typeInfo, hi, hsz, h1, add_at]
  · simp only [EntOk]
    exact ⟨g, _, cap, by rw [hv' r (by rintro rfl; simp at hr)]; exact hy', hv⟩

theorem la_felt {E : Ctx} {o : Oper} {t : Nat} {T Et : TypeId} {f k r i k0 : Nat} {x : Operand} {es : List (List C)} (ho : o.op = .fieldAddr T x f) (hd : o.dst = some t) (ht : Nat.blt t fr.n = true)
    (hT : fldAt P T f k = true) (hx : elOf fr.n E x = some (r, Et, i, k0, es)) (hr : Nat.beq r t = false) : LA P fr E o [⟨t, true, some (.elt r Et i (k0 + k))⟩] := by
  refine LA.val hd ht fun Γ a w Z β γ hle h => ?_
  obtain ⟨_, g, n, cap, h1, h2, _⟩ := elOf_ok h (elOf_le hle hx)
  refine ⟨.pointer (some ⟨g, i * szOf P Et + (k0 + k), none⟩), ?_, fun β' ev' hb hb' hv' hv'' => ?_⟩
  · unfold execOp
    rw [ho]
    have : (⟨g, i * szOf P Et + k0, none⟩ : Addr).add k = ⟨g, i * szOf P Et + (k0 + k), none⟩ := by
      unfold Addr.add
      split
      · simp_all
      · simp [Nat.add_assoc]
    simp [h2, run_fldAt hT, this]
  · simp only [EntOk]
    exact ⟨g, n, cap, by rw [hv'' r (by rintro rfl; simp at hr)]; exact h1, hv'⟩

/-- One cell of one element. -/
theorem own_cell {w : World} {Z : Nat → Prop} {Et : TypeId} {es : List (List C)} {y : Value} {bs : List Nat} (h : RC P w Z (.sl true Et es) y bs) {g n cap : Nat} (hy : y = .slice (some ⟨g, 0, none⟩) n cap)
    {i k : Nat} {e : List C} (he : es[i]? = some e) {c : C} (hc : e[k]? = some c) : ∃ u bu, w.cell? ⟨g, i * szOf P Et + k, none⟩ = some u ∧ RC P w Z c u bu ∧ (∀ b, b ∈ bu → b ∈ bs) := by
  have hne : es ≠ [] := by rintro rfl; simp at he
  obtain ⟨g', cap', cur, bs', rfl, hy', _, _, hg, hcs, hk, hrl⟩ := RC.own h hne
  have hgg : g' = g := by rw [hy'] at hy; simp at hy; exact hy.1
  subst hgg
  obtain ⟨v1, v, v2, b1, b, b2, hvs, hbs, hl1, hl, _, hre, _⟩ := RLL.get hk hrl he
  obtain ⟨u1, u, u2, c1, cu, c2, hv, hb, hlu, _, hrc, _⟩ := RL.get hre hc
  refine ⟨u, cu, ?_, hrc, fun x hx => by simp [hbs, hb, hx]⟩
  have hidx : (cur.toList.take (es.length * szOf P Et))[i * szOf P Et + k]? = some u := by
    rw [hvs, ← hl1]
    apply get_mid
    rw [hv, ← hlu]
    simp
  rw [List.getElem?_take] at hidx
  split at hidx
  · have := cell_row hg (i * szOf P Et + k)
    rw [add_at] at this
    rw [this]
    simpa using hidx
  · cases hidx

theorem la_lde {E : Ctx} {o : Oper} {t : Nat} {T Et : TypeId} {x : Operand} {r i k : Nat} {c : C} {α : Type} {f : α → List C} {xs : List α} {z : α} (ho : o.op = .load T x) (hd : o.dst = some t) (ht : Nat.blt t fr.n = true)
    (hT : flatT P T = true) (hx : elOf fr.n E x = some (r, Et, i, k, xs.map f)) (hz : xs[i]? = some z) (hc : (f z)[k]? = some c) (hp : plainC c = true) : LA P fr E o [⟨t, true, some (.d (.one c))⟩] := by
  refine LA.val hd ht fun Γ a w Z β γ hle h => ?_
  obtain ⟨_, g, n, cap, h1, h2, h3⟩ := elOf_ok h (elOf_le hle hx)
  obtain ⟨u, bu, hu, hrc, _⟩ := own_cell h3 h1 (i := i) (e := f z) (by simp [hz]) hc
  have := plainC_nil hp hrc
  subst this
  refine ⟨u, ?_, fun β' ev' hb hb' hv' hv'' => ?_⟩
  · unfold execOp
    rw [ho]
    simp [h2, run_load_flat hT hu]
  · simp only [EntOk, RD]
    rw [hv', hb]
    exact hrc

theorem la_ldeb {E : Ctx} {o : Oper} {t : Nat} {T Et : TypeId} {x : Operand} {r i k : Nat} {c c' : C} {α : Type} {f : α → List C} {xs : List α} {z : α} (ho : o.op = .load T x) (hd : o.dst = some t) (ht : Nat.blt t fr.n = true)
    (hT : flatT P T = true) (hx : elOf fr.n E x = some (r, Et, i, k, xs.map f)) (hz : xs[i]? = some z) (hc : (f z)[k]? = some c) (hs : shC c = c') (hr : Nat.beq r t = false) : LA P fr E o [⟨t, true, some (.bor r (.one c'))⟩] := by
  refine LA.val hd ht fun Γ a w Z β γ hle h => ?_
  obtain ⟨_, g, n, cap, h1, h2, h3⟩ := elOf_ok h (elOf_le hle hx)
  obtain ⟨u, bu, hu, hrc, hbu⟩ := own_cell h3 h1 (i := i) (e := f z) (by simp [hz]) hc
  refine ⟨u, ?_, fun β' ev' hb hb' hv' hv'' => ?_⟩
  · unfold execOp
    rw [ho]
    simp [h2, run_load_flat hT hu]
  · simp only [EntOk, RD]
    rw [hv', ← hs]
    refine RC.mono ?_ _ (fun _ _ => rfl) (RC.share c hrc)
    intro b hz
    simp only [zr]
    rw [hb' r (by rintro rfl; simp at hr)]
    exact hz.imp id (hbu b)

/-- A whole element is read: it is borrowed. -/
theorem la_ldes {E : Ctx} {o : Oper} {t : Nat} {T Et : TypeId} {x : Operand} {r i : Nat} {cs' : List C} {α : Type} {f : α → List C} {xs : List α} {z : α} (ho : o.op = .load T x) (hd : o.dst = some t) (ht : Nat.blt t fr.n = true)
    (hT : rowT P T = true) (hTE : szOf P T = szOf P Et) (hx : elOf fr.n E x = some (r, Et, i, 0, xs.map f)) (hz : xs[i]? = some z) (hs : (f z).map shC = cs') (hr : Nat.beq r t = false) : LA P fr E o [⟨t, true, some (.bor r (.agg cs'))⟩] := by
  refine LA.val hd ht fun Γ a w Z β γ hle h => ?_
  obtain ⟨_, g, n, cap, h1, h2, h3⟩ := elOf_ok h (elOf_le hle hx)
  have he : (xs.map f)[i]? = some (f z) := by simp [hz]
  have hne : xs.map f ≠ [] := by intro h; rw [h] at he; simp at he
  obtain ⟨g', cap', cur, bs', hbs', hy', _, _, hg, hcs, hk, hrl⟩ := RC.own h3 hne
  have hgg : g' = g := by rw [hy'] at h1; simp at h1; exact h1.1
  subst hgg
  obtain ⟨v1, v, v2, b1, b, b2, hvs, hbs, hl1, hl, _, hre, _⟩ := RLL.get hk hrl he
  refine ⟨.agg v.toArray, ?_, fun β' ev' hb hb' hv' hv'' => ?_⟩
  · unfold execOp
    rw [ho]
    have := run_load_row (P := P) hT (ad := ⟨g', i * szOf P Et + 0, none⟩) (w := w) (vs := v) (by rw [hl, hTE]) (fun j x hj => by
      have hidx : (cur.toList.take ((xs.map f).length * szOf P Et))[i * szOf P Et + j]? = some x := by
        rw [hvs, ← hl1]
        exact get_mid hj
      rw [List.getElem?_take] at hidx
      split at hidx
      · have h5 := cell_row hg (i * szOf P Et + j)
        rw [add_at] at h5
        have h6 : (⟨g', i * szOf P Et + 0, none⟩ : Addr).add j = ⟨g', i * szOf P Et + j, none⟩ := by unfold Addr.add; split <;> simp_all
        rw [h6, h5]
        simpa using hidx
      · cases hidx)
    simp only [Nat.add_zero] at h2 this
    simp [h2, this]
  · simp only [EntOk]
    rw [hv']
    refine ⟨v, rfl, ?_⟩
    have h5 := RL.share _ hre
    rw [shL_map, hs] at h5
    refine RL.mono ?_ _ (fun _ _ => rfl) h5
    intro b' hz'
    simp only [zr]
    rw [hb' r (by rintro rfl; simp at hr), hbs']
    rcases hz' with hz' | hz'
    · exact .inl hz'
    · right; simp [hbs, hz']

/-- An own slice, laid open at one element. -/
structure Laid (P : Program) (w : World) (Z : Nat → Prop) (Et : TypeId) (es : List (List C)) (y : Value) (bs : List Nat) (i : Nat) (e : List C)
    (g cap : Nat) (cur : Array Value) (v1 v v2 : List Value) (b1 b b2 : List Nat) : Prop where
  hbs : bs = g :: (b1 ++ b ++ b2)
  hy : y = .slice (some ⟨g, 0, none⟩) es.length cap
  hle : es.length ≤ cap
  hcap : cap ≤ maxLen
  heap : w.heap[g]? = some (.cells cur Et (0, 0))
  size : cur.size = cap * szOf P Et
  width : ∀ e ∈ es, e.length = szOf P Et
  lt : i < es.length
  row : cur.toList = v1 ++ v ++ v2 ++ cur.toList.drop (es.length * szOf P Et)
  l1 : v1.length = i * szOf P Et
  l : v.length = szOf P Et
  l2 : (v1 ++ v ++ v2).length = es.length * szOf P Et
  r1 : RLL P w Z (es.take i) v1 b1
  r : RL P w Z e v b
  r2 : RLL P w Z (es.drop (i + 1)) v2 b2

theorem own_get {w : World} {Z : Nat → Prop} {Et : TypeId} {es : List (List C)} {y : Value} {bs : List Nat} (h : RC P w Z (.sl true Et es) y bs) {i : Nat} {e : List C} (he : es[i]? = some e) :
    ∃ g cap cur v1 v v2 b1 b b2, Laid P w Z Et es y bs i e g cap cur v1 v v2 b1 b b2 := by
  have hne : es ≠ [] := by rintro rfl; simp at he
  obtain ⟨g, cap, cur, bs', rfl, hy, h1, h2, hg, hcs, hk, hrl⟩ := RC.own h hne
  obtain ⟨v1, v, v2, b1, b, b2, hvs, hbs, hl1, hl, hr1, hre, hr2⟩ := RLL.get hk hrl he
  have hcap : es.length * szOf P Et ≤ cur.size := by rw [hcs]; exact Nat.mul_le_mul_right _ h1
  exact ⟨g, cap, cur, v1, v, v2, b1, b, b2, by rw [hbs], hy, h1, h2, hg, hcs, hk, (List.getElem?_eq_some_iff.1 he).1, by rw [← hvs, List.take_append_drop], hl1, hl,
    by rw [← hvs, List.length_take]; simp; omega, hr1, hre, hr2⟩

theorem own_put {w w' : World} {Z : Nat → Prop} {Et : TypeId} {es : List (List C)} {y : Value} {bs : List Nat} {i : Nat} {e : List C} {g cap : Nat} {cur cur' : Array Value} {v1 v v2 : List Value} {b1 b b2 : List Nat}
    (h : Laid P w Z Et es y bs i e g cap cur v1 v v2 b1 b b2) {e' : List C} {v' : List Value} {be : List Nat} (hg' : w'.heap[g]? = some (.cells cur' Et (0, 0)))
    (hc' : cur'.toList = v1 ++ v' ++ v2 ++ cur.toList.drop (es.length * szOf P Et)) (hlv : v'.length = v.length)
    (hblk : ∀ b', (Z b' ∨ b' ∈ b1 ++ b2) → w'.heap[b']? = w.heap[b']?) (hel : e'.length = szOf P Et) (hre : RL P w' Z e' v' be) :
    RC P w' Z (.sl true Et (es.set i e')) y (g :: (b1 ++ be ++ b2)) := by
  have hes : es.set i e' = es.take i ++ e' :: es.drop (i + 1) := by rw [List.set_eq_take_append_cons_drop, if_pos h.lt]
  simp only [RC]
  refine .inr (.inr ⟨g, cap, cur', b1 ++ be ++ b2, trivial, rfl, by simpa using h.hy, by simpa using h.hle, h.hcap, hg', ?_, ?_, ?_⟩)
  · have e1 := congrArg List.length hc'
    have e2 := congrArg List.length h.row
    simp only [List.length_append, hlv] at e1 e2
    rw [← h.size, ← Array.length_toList, ← Array.length_toList, e1, e2]
  · intro e0 he0
    rcases List.mem_or_eq_of_mem_set he0 with h0 | rfl
    · exact h.width e0 h0
    · exact hel
  · have hlen3 : (v1 ++ v' ++ v2).length = es.length * szOf P Et := by
      rw [← h.l2]; simp [hlv]
    have htake : cur'.toList.take (es.length * szOf P Et) = v1 ++ v' ++ v2 := by
      rw [hc', ← hlen3, List.take_left]
    simp only [List.length_set]
    rw [htake, hes]
    refine (RLL.app _ _ _ _).2 ⟨v1, v' ++ v2, b1, be ++ b2, by simp, by simp, RLL.mono (fun _ h => h) _ (fun b' hb' => hblk b' (by rcases hb' with h | h; exact .inl h; exact .inr (by simp [h]))) h.r1, ?_⟩
    simp only [RLL]
    exact ⟨v', v2, be, b2, rfl, rfl, hre, RLL.mono (fun _ h => h) _ (fun b' hb' => hblk b' (by rcases hb' with h | h; exact .inl h; exact .inr (by simp [h]))) h.r2⟩

end Go.Proofs.YtdclbbkkcngjnaaT

namespace Go.Proofs.YtdclbbkkcngjnaaT
open Go
variable {P : Program} {fr : Fr}

theorem flat_mem {β : Nat → List Nat} {S : List Nat} {bs : List Nat} (h : Sub bs (S.flatMap β)) : ∀ b, b ∈ bs → ∃ s, s ∈ S ∧ b ∈ β s := fun b hb => by
  obtain ⟨s, h1, h2⟩ := List.mem_flatMap.1 (h.mem hb); exact ⟨s, h1, h2⟩

/-- A cell of an element is written. -/
theorem la_ste {E : Ctx} {o : Oper} {T Et : TypeId} {p x : Operand} {r i k : Nat} {c' : C} {S : List Nat} {α : Type} {f : α → List C} {xs : List α} {z z' : α} (ho : o.op = .store T p x) (hd : o.dst = none)
    (hT : szOf P T = 1) (hi : (P.info? T).isSome = true) (hp : elOf fr.n E p = some (r, Et, i, k, xs.map f)) (hz : xs[i]? = some z) (hk : Nat.blt k (f z).length = true) (hx : tk fr.n E x = some (.one c', S)) (hf : (f z).set k c' = f z')
    (hS : S.contains r = false) (hSn : S.Nodup) :
    LA P fr E o (⟨r, false, some (.d (.one (.sl true Et ((xs.set i z').map f))))⟩ :: S.map rmv) := by
  intro Γ hle a w K Q ⟨Z, β, γ, h⟩ hK
  obtain ⟨hgr, g0, n0, cap0, hev, hv, hrc⟩ := elOf_ok h (elOf_le hle hp)
  obtain ⟨bx, hx1, hx2⟩ := tk_sub h (tk_le hle hx)
  simp only [RD] at hx1
  have he : (xs.map f)[i]? = some (f z) := by simp [hz]
  obtain ⟨g, cap, cur, v1, v, v2, b1, b, b2, op⟩ := own_get hrc he
  have hgg : g0 = g := by have := op.hy; rw [hev] at this; simp at this; exact this.1
  subst hgg
  have hk' : k < (f z).length := by simpa [Nat.blt_eq] using hk
  obtain ⟨c, hc⟩ : ∃ c, (f z)[k]? = some c := ⟨_, List.getElem?_eq_getElem hk'⟩
  obtain ⟨u1, y, u2, d1, d, d2, hvu, hbd, hlu, hr1, hry, hr2⟩ := RL.get op.r hc
  have hrow := op.row
  have hidx : cur.toList[i * szOf P Et + k]? = some y := by
    rw [hrow, ← op.l1, ← hlu, hvu]
    simp
  have hy : w.cell? ⟨g0, i * szOf P Et + k, none⟩ = some y := by
    have := cell_row op.heap (i * szOf P Et + k)
    rw [add_at] at this
    rw [this]; simpa using hidx
  have hfz : w.frozen? ⟨g0, i * szOf P Et + k, none⟩ = false := by simp [World.frozen?, op.heap]
  have hrun := run_store_flat (P := P) hT hi hy hfz (RC.one hx1)
  have hrS : r ∉ S := by simpa using hS
  have hnd := h.nodup r
  rw [op.hbs] at hnd
  have hgr' : g0 ∈ β r := by rw [op.hbs]; simp
  have hdis : ∀ b', b' ∈ bx → b' ∉ β r := by
    intro b' hb' hb''
    obtain ⟨s, hs1, hs2⟩ := flat_mem hx2 b' hb'
    exact h.disj s r b' (by rintro rfl; exact hrS hs1) hs2 hb''
  unfold Oper.wp
  have hexec : (execOp a.eval o).run P w = .ok .skip (w.setCell ⟨g0, i * szOf P Et + k, none⟩ (a.eval x)) := by
    unfold execOp
    rw [ho]
    simp [hv, hrun]
  rw [hexec]
  simp only [Oper.upon, hd, Act.put]
  have hoth : ∀ b', b' ≠ g0 → (w.setCell ⟨g0, i * szOf P Et + k, none⟩ (a.eval x)).heap[b']? = w.heap[b']? := by
    intro b' hb'
    simp only [World.setCell, Array.getElem?_modify]
    rw [if_neg (Ne.symm hb')]
  have hng : ∀ b', b' ∈ b1 ++ (d1 ++ bx ++ d2) ++ b2 → b' ≠ g0 := by
    rintro b' hb' rfl
    simp only [List.mem_append] at hb'
    rw [hbd] at hnd
    simp only [List.nodup_cons, List.mem_append] at hnd
    rcases hb' with (hb' | (hb' | hb') | hb') | hb'
    · exact hnd.1 (by simp [hb'])
    · exact hnd.1 (by simp [hb'])
    · exact hdis b' hb' hgr'
    · exact hnd.1 (by simp [hb'])
    · exact hnd.1 (by simp [hb'])
  have hnZ : ∀ b', Z b' → b' ≠ g0 := by rintro b' hz rfl; exact (h.own r b' hgr').2.1 hz
  have hblk : ∀ b', (Z b' ∨ b' ∈ b1 ++ (d1 ++ bx ++ d2) ++ b2) → (w.setCell ⟨g0, i * szOf P Et + k, none⟩ (a.eval x)).heap[b']? = w.heap[b']? :=
    fun b' hb' => hoth b' (by rcases hb' with hb' | hb'; exact hnZ b' hb'; exact hng b' hb')
  have hsetf : (f z).set k c' = (f z).take k ++ c' :: (f z).drop (k + 1) := by rw [List.set_eq_take_append_cons_drop, if_pos hk']
  have hre : RL P (w.setCell ⟨g0, i * szOf P Et + k, none⟩ (a.eval x)) Z (f z') (u1 ++ a.eval x :: u2) (d1 ++ bx ++ d2) := by
    rw [← hf, hsetf]
    refine (RL.app _ _ _ _).2 ⟨u1, _, d1, bx ++ d2, rfl, by simp, RL.mono (fun _ h => h) _ (fun b' hb' => hblk b' (by rcases hb' with h | h; exact .inl h; exact .inr (by simp [h]))) hr1, ?_⟩
    simp only [RL]
    exact ⟨a.eval x, u2, bx, d2, rfl, rfl, RC.mono (fun _ h => h) _ (fun b' hb' => hblk b' (by rcases hb' with h | h; exact .inl h; exact .inr (by simp [h]))) hx1,
      RL.mono (fun _ h => h) _ (fun b' hb' => hblk b' (by rcases hb' with h | h; exact .inl h; exact .inr (by simp [h]))) hr2⟩
  have hput := own_put op (e' := f z') (v' := u1 ++ a.eval x :: u2) (be := d1 ++ bx ++ d2) (cur' := cur.setIfInBounds (i * szOf P Et + k) (a.eval x)) (setRow_of op.heap) (by
      have hrow2 := hrow
      generalize cur.toList.drop ((xs.map f).length * szOf P Et) = tl at hrow2 ⊢
      rw [Array.toList_setIfInBounds, hrow2, ← op.l1, ← hlu, hvu]
      simp) (by rw [hvu]; simp) (fun b' hb' => hblk b' (by
        rcases hb' with h | h
        · exact .inl h
        · exact .inr (by simp only [List.mem_append] at h ⊢; rcases h with h | h <;> simp [h]))) (by rw [← hf, List.length_set]; exact op.width _ (List.mem_of_getElem? he)) hre
  refine hK _ _ ⟨Z, _, γ, h.poke S hrS (bn := g0 :: (b1 ++ (d1 ++ bx ++ d2) ++ b2)) (Grow.setCell _ _ _ _ (.inl hgr')) ?_ ?_ ?_⟩
  · intro b' hb'
    rw [op.hbs, hbd]
    simp only [List.mem_cons, List.mem_append] at hb' ⊢
    rcases hb' with rfl | ((hb' | (hb' | hb') | hb') | hb')
    · simp
    · simp [hb']
    · simp [hb']
    · right; exact flat_mem hx2 b' hb'
    · simp [hb']
    · simp [hb']
  · rw [List.nodup_cons]
    refine ⟨fun hm => hng g0 hm rfl, ?_⟩
    rw [hbd] at hnd
    have hxn := hx2.nodup (h.flat hSn)
    have hdx : ∀ b', b' ∈ bx → b' ∉ b1 ++ (d1 ++ d ++ d2) ++ b2 := by
      intro b' hb' hm
      exact hdis b' hb' (by rw [op.hbs, hbd]; simp only [List.mem_cons]; exact .inr hm)
    rw [List.nodup_iff_count] at hxn ⊢
    have hn2 := List.nodup_iff_count.1 (List.nodup_cons.1 hnd).2
    intro q
    have h1 := hxn q
    have h2 := hn2 q
    simp only [List.count_append] at h2 ⊢
    by_cases hq : q ∈ bx
    · have h3 := List.count_eq_zero.2 (hdx q hq)
      simp only [List.count_append] at h3
      omega
    · have h3 := List.count_eq_zero.2 hq
      omega
  · intro β' h1 _
    simp only [EntOk, RD]
    rw [h1, List.map_set]
    exact hput

end Go.Proofs.YtdclbbkkcngjnaaT

namespace Go.Proofs.YtdclbbkkcngjnaaT
open Go
variable {P : Program} {fr : Fr}

theorem RLL.rep {w : World} {Z : Nat → Prop} {cs : List C} {vs : List Value} (h : RL P w Z cs vs []) : ∀ n : Nat, RLL P w Z (List.replicate n cs) (List.replicate n vs).flatten []
  | 0 => by simp [RLL]
  | n + 1 => by
    simp only [List.replicate_succ, List.flatten_cons, RLL]
    exact ⟨vs, _, [], [], rfl, rfl, h, RLL.rep h n⟩

theorem range_rep (z : Array Value) (hz : 0 < z.size) : ∀ n : Nat, ((Array.range (n * z.size)).map fun k => z[k % z.size]!).toList = (List.replicate n z.toList).flatten
  | 0 => by simp
  | n + 1 => by
    have ih := range_rep z hz n
    simp only [Array.toList_map, Array.toList_range] at ih ⊢
    rw [Nat.succ_mul, List.range_add, List.map_append, ih, List.replicate_succ', List.flatten_append]
    congr 1
    simp only [List.flatten_cons, List.flatten_nil, List.append_nil, List.map_map]
    apply List.ext_getElem
    · simp
    · intro i h1 h2
      simp only [List.length_map, List.length_range] at h1
      have : (n * z.size + i) % z.size = i := by rw [Nat.mul_comm, Nat.mul_add_mod]; exact Nat.mod_eq_of_lt h1
      simp [this, h1]

/-- make([]T, n). -/
theorem la_mk {E : Ctx} {o : Oper} {t : Nat} {T Et : TypeId} {x y : Operand} {i : Int} {cs : List C} {α : Type} {f : α → List C} {z : α} (ho : o.op = .makeSlice T x y) (hd : o.dst = some t) (ht : Nat.blt t fr.n = true)
    (hT : elemT P T Et = true) (hz : zeroOk P Et cs) (hf : cs = f z) (hx : vs fr.n E x = some (.int .i64 i)) (hy : vs fr.n E y = some (.int .i64 i)) (h0 : 0 ≤ i) (h1 : i ≤ 2147483648) :
    LA P fr E o [⟨t, true, some (.d (.one (.sl true Et ((List.replicate i.toNat z).map f))))⟩] := by
  subst hf
  intro Γ hle a w K Q ⟨Z, β, γ, h⟩ hk
  obtain ⟨inf, zz, hu, hi, hzz, hzs, hpos, hby, hsz, _⟩ := elemT_ok hT
  obtain ⟨z', hz1, hz2⟩ := hz
  have hze : z' = zz := by rw [hi] at hz1; simp [hzz] at hz1; exact hz1.symm
  subst hze
  have hb : (inf.bytes : Int) * i ≤ 281474976710656 := by
    have hb1 : (inf.bytes : Int) * i ≤ 65536 * 2147483648 := by
      have h2 : (inf.bytes : Int) ≤ 65536 := by omega
      exact Int.mul_le_mul h2 h1 h0 (by omega)
    omega
  have hrun := run_make (P := P) w T Et inf z' hu hi hzz .i64 .i64 i i h0 (Int.le_refl _) hb (by omega)
  have hpos' : 0 < z'.cells.size := by omega
  have hl : (f z).length = szOf P Et := by
    have := RL.length _ (hz2 w Z)
    rw [hsz, ← hzs]
    simpa using this.symm
  have hmc : (madeCells z'.cells (i.toNat * inf.size)).toList = (List.replicate i.toNat z'.cells.toList).flatten := by
    rw [← hzs, ← range_rep z'.cells hpos' i.toNat]
    rfl
  refine wp_of_run (w' := w.alloc (.cells (madeCells z'.cells (i.toNat * inf.size)) Et)) (v := .slice (some ⟨w.heap.size, 0, none⟩) i.toNat i.toNat) ?_ (hk _ _ ?_)
  · unfold execOp
    rw [ho]
    simp [vs_ok h (vs_le hle hx), vs_ok h (vs_le hle hy), hrun]
  · rw [hd]
    refine ⟨Z, _, γ, h.give [] ht (bn := [w.heap.size]) (Grow.alloc _ _ _) ?_ (by simp) ?_⟩
    · intro b hb'
      simp at hb'
      subst hb'
      exact ⟨by simp, .inl (Nat.le_refl _)⟩
    · intro β' ev' h2 h3 _ _
      simp only [EntOk, RD, RC]
      rw [h2, h3]
      have hr := RLL.rep (P := P) (hz2 (w.alloc (.cells (madeCells z'.cells (i.toNat * inf.size)) Et)) Z) i.toNat
      rw [← hmc] at hr
      refine .inr (.inr ⟨w.heap.size, i.toNat, _, [], trivial, rfl, by simp, by simp, by unfold maxLen; omega, heap_alloc_new w _, ?_, ?_, ?_⟩)
      · rw [hsz]; simp [madeCells]
      · intro e he
        simp at he
        rw [he.2]
        exact hl
      · have hlen : (madeCells z'.cells (i.toNat * inf.size)).toList.length = i.toNat * inf.size := by simp [madeCells]
        have e1 : ((List.replicate i.toNat z).map f).length * szOf P Et = i.toNat * inf.size := by simp [hsz]
        rw [e1, List.take_of_length_le (Nat.le_of_eq hlen)]
        simpa [List.map_replicate] using hr

theorem run_bounds (w : World) (b : Bool) (len cap : Nat) (lo hi : Option Value) (i j : Int) (hlo : lo = some (.int .i64 i) ∨ lo = none ∧ i = 0) (hhi : hi = some (.int .i64 j) ∨ hi = none ∧ j = (len : Int)) (h0 : 0 ≤ i) (h1 : i ≤ j) (h2 : j ≤ (cap : Int)) :
    (Instr.sliceBounds b len cap lo hi none).run P w = .ok (i.toNat, j.toNat, cap) w := by
  have hj0 : 0 ≤ j := by omega
  have hij : i ≤ ((j.toNat : Nat) : Int) := by omega
  have hs : ∀ (k : Int) (m : Nat) (c : BoundsCode), 0 ≤ k → k ≤ (m : Int) → (Instr.sliceBound (.int .i64 k) m c).run P w = .ok k.toNat w := by
    intro k m c a1 a2
    simp [Instr.sliceBound, asIntOf, a1, a2]
  rcases hlo with rfl | ⟨rfl, rfl⟩ <;> rcases hhi with rfl | ⟨rfl, rfl⟩ <;> simp [Instr.sliceBounds, hs _ _ _ hj0 h2, hs _ _ _ h0 hij] <;> simp_all

/-- A bound of a slice. -/
def sbnd (n : Nat) (E : Ctx) (o : Option Operand) (d : Nat) (i : Int) : Prop :=
  match o with | some y => vs n E y = some (.int .i64 i) | none => i = (d : Int)

theorem sbnd_ok {Γ E : Ctx} {a : Act} {w : World} {Z : Nat → Prop} {β : Nat → List Nat} {γ : Nat → Value} (h : Core P fr Γ a w Z β γ) (hle : E_le E Γ) {o : Option Operand} {d : Nat} {i : Int} (hb : sbnd fr.n E o d i) :
    o.map a.eval = some (.int .i64 i) ∨ o.map a.eval = none ∧ i = (d : Int) := by
  cases o with
  | none => exact .inr ⟨rfl, hb⟩
  | some y => exact .inl (by simp [vs_ok h (vs_le hle hb)])

/-- A part of a slice that may be read. -/
theorem la_slc {E : Ctx} {o : Oper} {t : Nat} {T Et : TypeId} {x : Operand} {lo hi : Option Operand} {r : Option Nat} {b : Bool} {i j : Int} {α : Type} {f : α → List C} {xs : List α} (ho : o.op = .slice T x lo hi none) (hd : o.dst = some t) (ht : Nat.blt t fr.n = true)
    (hT : elemT P T Et = true) (hx : vwr fr.n E x = some (r, .one (.sl b Et (xs.map f)))) (hlo : sbnd fr.n E lo 0 i)
    (hhi : sbnd fr.n E hi xs.length j) (h0 : 0 ≤ i) (h1 : i ≤ j) (h2 : j ≤ (xs.length : Int)) (hr : r ≠ some t) :
    LA P fr E o [⟨t, true, some (mkv r (.one (.sl false Et (((xs.drop i.toNat).take (j.toNat - i.toNat)).map f))))⟩] := by
  refine LA.val hd ht fun Γ a w Z β γ hle h => ?_
  obtain ⟨inf, zz, hu, hin, hzz, hzs, hpos, hby, hsz, _⟩ := elemT_ok hT
  have hv := vwr_ok h (vwr_le hle hx)
  simp only [RD] at hv
  -- the bounds
  have hlo' := sbnd_ok h hle hlo
  have hhi' := sbnd_ok h hle hhi
  have hz' : ∀ β' : Nat → List Nat, (∀ u, u ≠ t → β' u = β u) → ∀ b, zr Z β r b → zr Z β' r b := by
    intro β' hb' b hb
    cases r with
    | none => exact hb
    | some q => simp only [zr] at hb ⊢; rw [hb' q (by rintro rfl; exact hr rfl)]; exact hb
  have hcase : (a.eval x = .slice none 0 0 ∧ xs = []) ∨ ∃ ad cap vs, a.eval x = .slice (some ad) xs.length cap ∧ xs.length ≤ cap ∧ cap ≤ maxLen ∧ (xs = [] ∨ zr Z β r ad.block) ∧ (∀ k x, vs[k]? = some x → w.cell? (ad.add k) = some x) ∧
      (∀ e ∈ xs.map f, e.length = szOf P Et) ∧ RLL P w (zr Z β r) (xs.map f) vs [] := by
    simp only [RC] at hv
    rcases hv with ⟨h3, h4, _⟩ | ⟨ad, cap, vs, _, _, hq, h3, h4, h5, h6, h7, h8⟩ | ⟨g, cap, cur, bs, _, hbs, _⟩
    · exact .inl ⟨h3, by simpa using h4⟩
    · exact .inr ⟨ad, cap, vs, by simpa using hq, by simpa using h3, h4, by simpa using h5, h6, h7, h8⟩
    · cases hbs
  rcases hcase with ⟨hq, rfl⟩ | ⟨ad, cap, vs, hq, hle1, hcm, hzo, hc, hk, hrl⟩
  · have hj : j = 0 := by simp at h2; omega
    have hi0 : i = 0 := by omega
    subst hj hi0
    refine ⟨.slice none 0 0, ?_, fun β' ev' hb hb' hv hv' => mkv_ok hb ?_⟩
    · unfold execOp
      rw [ho]
      have e1 := run_bounds (P := P) w true 0 0 _ _ _ _ hlo' hhi' h0 h1 (by simp)
      simp [Instr.sliceAt, run_underlying hu, Instr.slice, hq, e1, sizeOf, typeInfo, hin]
    · simp [RD, RC, hv]
  · refine ⟨.slice (if cap = i.toNat then some ad else some (ad.add (i.toNat * szOf P Et))) (j.toNat - i.toNat) (cap - i.toNat), ?_, fun β' ev' hb hb' hv hv' => mkv_ok hb ?_⟩
    · unfold execOp
      rw [ho]
      have e1 := run_bounds (P := P) w true xs.length cap _ _ _ _ hlo' hhi' h0 h1 (by omega)
      simp [Instr.sliceAt, run_underlying hu, Instr.slice, hq, e1, sizeOf, typeInfo, hin, hsz]
    · have hlen : ((xs.drop i.toNat).take (j.toNat - i.toNat)).length = j.toNat - i.toNat := by rw [List.length_take, List.length_drop]; omega
      simp only [RD, RC]
      rw [hv]
      by_cases hempty : j.toNat - i.toNat = 0
      · have hnil : (xs.drop i.toNat).take (j.toNat - i.toNat) = [] := by rw [hempty]; rfl
        rw [hnil, hempty]
        refine .inr (.inl ?_)
        by_cases hci : cap = i.toNat
        · exact ⟨ad, cap - i.toNat, [], trivial, trivial, by simp [hci], by simp, by omega, .inl rfl, by simp, by simp, by simp [RLL]⟩
        · exact ⟨ad.add (i.toNat * szOf P Et), cap - i.toNat, [], trivial, trivial, by simp [hci], by simp, by omega, .inl rfl, by simp, by simp, by simp [RLL]⟩
      · have hci : ¬ cap = i.toNat := by omega
        refine .inr (.inl ⟨ad.add (i.toNat * szOf P Et), cap - i.toNat, (vs.drop (i.toNat * szOf P Et)).take ((j.toNat - i.toNat) * szOf P Et), trivial, trivial, by simp only [hci, if_false, List.length_map, hlen], by rw [List.length_map, hlen]; omega, by omega, ?_, ?_, ?_, ?_⟩)
        · right
          rw [add_block]
          rcases hzo with hzo | hzo
          · subst hzo; simp at h2; omega
          · exact hz' β' hb' _ hzo
        · intro k u hk'
          rw [add_add]
          rw [List.getElem?_take] at hk'
          split at hk'
          · rw [List.getElem?_drop] at hk'
            exact hc _ u hk'
          · cases hk'
        · intro e he
          obtain ⟨q, hq1, rfl⟩ := List.mem_map.1 he
          exact hk _ (List.mem_map_of_mem (List.mem_of_mem_drop (List.mem_of_mem_take hq1)))
        · have hsplit : xs.map f = (xs.take i.toNat).map f ++ (((xs.drop i.toNat).take (j.toNat - i.toNat)).map f ++ ((xs.drop i.toNat).drop (j.toNat - i.toNat)).map f) := by
            rw [← List.map_append, List.take_append_drop, ← List.map_append, List.take_append_drop]
          have hk2 : ∀ l : List α, (∀ q ∈ l, q ∈ xs) → ∀ e ∈ l.map f, e.length = szOf P Et := by
            intro l hl e he
            obtain ⟨q, hq1, rfl⟩ := List.mem_map.1 he
            exact hk _ (List.mem_map_of_mem (hl q hq1))
          rw [hsplit] at hrl
          obtain ⟨v1, v2, b1, b2, rfl, hbb, hr1, hr2⟩ := (RLL.app _ _ _ _).1 hrl
          obtain ⟨v3, v4, b3, b4, rfl, rfl, hr3, hr4⟩ := (RLL.app _ _ _ _).1 hr2
          have hb3 : b3 = [] := (List.append_eq_nil_iff.1 (List.append_eq_nil_iff.1 hbb.symm).2).1
          subst hb3
          have l1 := RLL.length _ (hk2 _ (fun q hq => List.mem_of_mem_take hq)) hr1
          have l3 := RLL.length _ (hk2 _ (fun q hq => List.mem_of_mem_drop (List.mem_of_mem_take hq))) hr3
          rw [List.length_map, List.length_take, Nat.min_eq_left (by omega)] at l1
          rw [List.length_map, hlen] at l3
          have e1 : ((v1 ++ (v3 ++ v4)).drop (i.toNat * szOf P Et)).take ((j.toNat - i.toNat) * szOf P Et) = v3 := by
            rw [← l1, List.drop_left, ← l3, List.take_left]
          rw [e1]
          exact RLL.mono (hz' β' hb') _ (fun _ _ => rfl) hr3

end Go.Proofs.YtdclbbkkcngjnaaT
