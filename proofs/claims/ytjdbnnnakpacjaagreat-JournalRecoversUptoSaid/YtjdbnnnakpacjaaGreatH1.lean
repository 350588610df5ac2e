/-
  Heaps of which only some objects are known: what is read of them after changes.
-/
import Derived.Test.YtjdbnnnakpacjaaGreatAvD
set_option linter.unusedVariables false
set_option linter.unusedSimpArgs false
set_option linter.constructorNameAsVariable false
namespace Go.Av
theorem lk_app (t : Nat) (a b : List (Nat × AO)) : look t (a ++ b) = (look t a).or (look t b) := look_append2 t a b
theorem lk_setl (j t : Nat) (y : AO) : ∀ O : List (Nat × AO), look j (setl t y O) = if j = t then (look t O).map (fun _ => y) else look j O
  | [] => by simp
  | (u, w) :: r => by
    have ih := lk_setl j t y r
    by_cases hu : u = t
    · subst hu
      by_cases hj : j = u
      · subst hj; simp
      · have : ¬ u = j := fun h => hj h.symm
        simp [hj, this]
    · by_cases hj : j = t
      · subst hj; simp [hu]; simpa using ih
      · by_cases hv : u = j
        · subst hv; simp [hu]
        · simp [hu, hv, hj]; simpa [hj] using ih
theorem lk_dropl {j t : Nat} (h : j ≠ t) : ∀ O : List (Nat × AO), look j (dropl t O) = look j O
  | [] => by simp
  | (u, w) :: r => by
    have ih := lk_dropl h r
    by_cases hu : u = t
    · subst hu
      have : ¬ u = j := fun e => h e.symm
      simp [this]
    · by_cases hv : u = j
      · subst hv; simp [hu]
      · simp [hu, hv, ih]
theorem lk_dropl_none {j t : Nat} : ∀ O : List (Nat × AO), look j O = none → look j (dropl t O) = none
  | [], _ => by simp
  | (u, w) :: r, h => by
    by_cases hv : u = j
    · subst hv; simp at h
    · simp [hv] at h
      have ih := lk_dropl_none (t := t) r h
      by_cases hu : u = t
      · subst hu; simpa using h
      · simp [hu, hv, ih]
theorem lk_sweep {j : Nat} : ∀ {O : List (Nat × AO)}, look j O ≠ some .res → look j (sweepL O) = look j O
  | [], _ => by simp
  | (u, w) :: r, h => by
    by_cases hv : u = j
    · subst hv
      simp at h
      cases w <;> simp at h ⊢
    · simp [hv] at h
      have ih := lk_sweep h
      cases w <;> simp [hv, ih]
-- lengths and cells, by the form of the value
section
variable (z t i o n : Nat) (es : List (List AV))
@[simp] theorem lenOf_sl : lenOf (.slice z es) = some es.length := rfl
@[simp] theorem lenOf_fs : lenOf (.fslice z es) = some es.length := rfl
@[simp] theorem lenOf_ap : lenOf (.app z es t) = some es.length := rfl
@[simp] theorem lenOf_rw : lenOf (.row t z o n) = some n := rfl
@[simp] theorem cells_agg (cs : List AV) : AV.cells (.agg cs) = some cs := rfl
@[simp] theorem cells_int (k : IntKind) (x : Int) : AV.cells (.int k x) = some [.int k x] := rfl
@[simp] theorem cells_bool (b : Bool) : AV.cells (.bool b) = some [.bool b] := rfl
@[simp] theorem cells_str (b : List UInt8) : AV.cells (.str b) = some [.str b] := rfl
@[simp] theorem cells_nilptr : AV.cells .nilptr = some [.nilptr] := rfl
@[simp] theorem cells_nilmap : AV.cells .nilmap = some [.nilmap] := rfl
@[simp] theorem cells_sl : AV.cells (.slice z es) = some [.slice z es] := rfl
@[simp] theorem cells_fs : AV.cells (.fslice z es) = some [.fslice z es] := rfl
@[simp] theorem cells_ap : AV.cells (.app z es t) = some [.app z es t] := rfl
@[simp] theorem cells_rw : AV.cells (.row t z o n) = some [.row t z o n] := rfl
@[simp] theorem cells_ptr : AV.cells (.ptr t z o n) = some [.ptr t z o n] := rfl
@[simp] theorem cells_iptr : AV.cells (.iptr z es o n) = some [.iptr z es o n] := rfl
@[simp] theorem cells_map : AV.cells (.map t) = some [.map t] := rfl
@[simp] theorem cells_func (f : Fn) (a b : List AV) : AV.cells (.func f a b) = some [.func f a b] := rfl
end
-- the end of a heap
theorem Tail_append_iff {a b : List (Nat × AO)} {n : Nat} : Tail (a ++ b) n ↔ Tail a n ∧ Tail b n := by
  constructor
  · intro h
    refine ⟨fun j hj => ?_, fun j hj => ?_⟩
    · have := h j hj
      rw [lk_app] at this
      cases hl : look j a with
      | none => rfl
      | some x => rw [hl] at this; cases this
    · have := h j hj
      rw [lk_app] at this
      cases hl : look j a with
      | none => rw [hl] at this; simpa using this
      | some x => rw [hl] at this; cases this
  · rintro ⟨h1, h2⟩ j hj
    rw [lk_app, h1 j hj, h2 j hj]
    rfl
theorem Tail_cons_iff {u n : Nat} {x : AO} {r : List (Nat × AO)} : Tail ((u, x) :: r) n ↔ u < n ∧ Tail r n := by
  constructor
  · intro h
    have hu : u < n := by
      refine Decidable.byContradiction fun hc => ?_
      have := h u (by omega)
      simp at this
    refine ⟨hu, fun j hj => ?_⟩
    have := h j hj
    have hne : ¬ u = j := by omega
    simpa [hne] using this
  · rintro ⟨h1, h2⟩ j hj
    have hne : ¬ u = j := by omega
    simp [hne, h2 j hj]
theorem Tail_nil_iff {n : Nat} : Tail [] n ↔ True := ⟨fun _ => trivial, fun _ => Tail.nil n⟩
theorem Tail_setl2 {t n : Nat} {y : AO} {O : List (Nat × AO)} (h : Tail O n) : Tail (setl t y O) n := by
  intro j hj
  rw [lk_setl]
  split
  · rename_i e
    rw [← e, h j hj]; rfl
  · exact h j hj
theorem Tail_dropl2 {t n : Nat} {O : List (Nat × AO)} (h : Tail O n) : Tail (dropl t O) n := fun j hj => lk_dropl_none _ (h j hj)
theorem Tail_sweep2 {n : Nat} {O : List (Nat × AO)} (h : Tail O n) : Tail (sweepL O) n := by
  intro j hj
  rw [lk_sweep (by rw [h j hj]; simp), h j hj]
theorem Tail.lt {O : List (Nat × AO)} {n j : Nat} {x : AO} (h : Tail O n) (hl : look j O = some x) : j < n := by
  refine Decidable.byContradiction fun hc => ?_
  rw [h j (by omega)] at hl
  cases hl
-- what a call leaves as it was
def Kp (X : Nat → Prop) (N : Nat) (O O' : List (Nat × AO)) : Prop := ∀ j, j < N → ¬ X j → look j O' = look j O
theorem Kp.refl {X : Nat → Prop} {N : Nat} {O : List (Nat × AO)} : Kp X N O O := fun _ _ _ => rfl
theorem Kp.trans {X : Nat → Prop} {N N' : Nat} {O O' O'' : List (Nat × AO)} (h : Kp X N O O') (h2 : Kp X N' O' O'') (hn : N ≤ N') : Kp X N O O'' :=
  fun j hj hx => (h2 j (by omega) hx).trans (h j hj hx)
theorem Kp.mono {X Y : Nat → Prop} {N : Nat} {O O' : List (Nat × AO)} (h : Kp X N O O') (hx : ∀ j, j < N → X j → Y j) : Kp Y N O O' :=
  fun j hj hy => h j hj fun hc => hy (hx j hj hc)
-- a step whose outcome is told by a contract
section
variable {Φ : FuncId → Option AFun} {β : Type} {fin : Option (Ex × St) → Option β}
theorem stepVQ {d : Bool} {dst : Option Nat} {r : List AOper} {K : List Go.Av.Fr} {e : Env} {o : Option (Rt × AH)} {Q : Option β → Prop} {P : AV → List (Nat × AO) → Nat → Prop}
    (h : ∃ v O N, o = some (.val v, ⟨O, N⟩) ∧ P v O N) (k : ∀ v O N, P v O N → Q (stepV Φ fin d dst r K e (some (.val v, ⟨O, N⟩)))) : Q (stepV Φ fin d dst r K e o) := by
  obtain ⟨v, O, N, rfl, hp⟩ := h
  exact k v O N hp
theorem drStepQ {base : Nat} {pairs : List (Nat × Nat)} {acc : List Foot} {f : Foot} {h0 : AH} {dst : Option Nat} {r : List AOper} {K : List Go.Av.Fr} {e : Env} {o : Option (Rt × AH)} {Q : Option β → Prop} {P : AV → List (Nat × AO) → Nat → Prop}
    (h : ∃ v O N, o = some (.val v, ⟨O, N⟩) ∧ P v O N) (k : ∀ v O N, P v O N → Q (drStep Φ fin base pairs acc f h0 dst r K e (some (.val v, ⟨O, N⟩)))) : Q (drStep Φ fin base pairs acc f h0 dst r K e o) := by
  obtain ⟨v, O, N, rfl, hp⟩ := h
  exact k v O N hp
theorem loopQ {σ : Type} (m : σ → Nat) (Inv : σ → Env → AH → Prop) (R : σ → Option β → Prop) {b : ACode} {K : List Go.Av.Fr}
    (step : ∀ x e h L, (∀ j s, go Φ fin L (.exit j) s = go Φ fin K (.exit j) s) → Inv x e h → (∀ y e' h', m y < m x → Inv y e' h' → R y (go Φ fin L .normal ⟨e', h'⟩)) → R x (go Φ fin (.c b :: L) .normal ⟨e, h⟩)) :
    ∀ x e h, Inv x e h → R x (go Φ fin (.c (.loop b) :: K) .normal ⟨e, h⟩) := by
  have key : ∀ n x e h, m x ≤ n → Inv x e h → R x (go Φ fin (.c (.loop b) :: K) .normal ⟨e, h⟩) := by
    intro n
    induction n with
    | zero =>
      intro x e h hn hi
      rw [go_loop]
      exact step x e h _ (fun j s => by simp) hi fun y e' h' hlt => by omega
    | succ n ih =>
      intro x e h hn hi
      rw [go_loop]
      exact step x e h _ (fun j s => by simp) hi fun y e' h' hlt hy => ih y e' h' (by omega) hy
  intro x e h hi
  exact key (m x) x e h (Nat.le_refl _) hi
theorem loopNQ (N : Nat) (Inv : Nat → Env → AH → Prop) (Q : Option β → Prop) {b : ACode} {K : List Go.Av.Fr}
    (step : ∀ i e h L, i < N → (∀ j s, go Φ fin L (.exit j) s = go Φ fin K (.exit j) s) → Inv i e h → (∀ e' h', Inv (i + 1) e' h' → Q (go Φ fin L .normal ⟨e', h'⟩)) → Q (go Φ fin (.c b :: L) .normal ⟨e, h⟩))
    (last : ∀ e h L, (∀ j s, go Φ fin L (.exit j) s = go Φ fin K (.exit j) s) → Inv N e h → Q (go Φ fin (.c b :: L) .normal ⟨e, h⟩)) :
    ∀ i e h, i ≤ N → Inv i e h → Q (go Φ fin (.c (.loop b) :: K) .normal ⟨e, h⟩) := by
  intro i e h hi hinv
  refine loopQ (σ := { i : Nat // i ≤ N }) (fun x => N - x.1) (fun x => Inv x.1) (fun _ => Q) ?_ ⟨i, hi⟩ e h hinv
  intro ⟨i, hi⟩ e h L hL hinv ih
  rcases Nat.lt_or_eq_of_le hi with hlt | heq
  · exact step i e h L hlt hL hinv fun e' h' hi' => ih ⟨i + 1, hlt⟩ e' h' (by simp; omega) hi'
  · subst heq
    exact last e h L hL hinv
end
-- a mutable slice, from the start of its object; empty ones may have none
def vid : AV → Option Nat
  | .row id _ _ _ => some id
  | _ => none
inductive Mu (O : List (Nat × AO)) (z : Nat) : AV → List (List AV) → Prop
  | nilF : Mu O z (.fslice z []) []
  | nilA (t : Nat) : Mu O z (.app z [] t) []
  | row (id : Nat) (es es0 : List (List AV)) (n : Nat) (hn : n = es.length) (hl : look id O = some (.row z es0)) (hle : es.length ≤ es0.length) (ht : es0.take es.length = es) : Mu O z (.row id z 0 n) es
theorem Mu.len {O : List (Nat × AO)} {z : Nat} {v : AV} {es : List (List AV)} (h : Mu O z v es) : lenOf v = some es.length := by
  cases h with
  | nilF => rfl
  | nilA => rfl
  | row id _ es0 n hn => subst hn; rfl
theorem Mu.fr {O O' : List (Nat × AO)} {z : Nat} {v : AV} {es : List (List AV)} (h : Mu O z v es) (hf : ∀ j, vid v = some j → look j O' = look j O) : Mu O' z v es := by
  cases h with
  | nilF => exact .nilF
  | nilA => exact .nilA _
  | row id _ es0 n hn hl hle ht => exact .row id es es0 n hn (by rw [hf id rfl, hl]) hle ht
theorem Mu.nonempty {O : List (Nat × AO)} {z : Nat} {v : AV} {es : List (List AV)} (h : Mu O z v es) (hp : 0 < es.length) : ∃ id es0, v = .row id z 0 es.length ∧ look id O = some (.row z es0) ∧ es.length ≤ es0.length ∧ es0.take es.length = es := by
  cases h with
  | nilF => simp at hp
  | nilA => simp at hp
  | row id _ es0 n hn hl hle ht => subst hn; exact ⟨id, es0, rfl, hl, hle, ht⟩
theorem Mu.snp {O : List (Nat × AO)} {z N n : Nat} {v : AV} {es : List (List AV)} (h : Mu O z v es) : snap (n + 1) ⟨O, N⟩ v = (mapO (mapO (snap n ⟨O, N⟩)) es).map (.slice z) := by
  cases h with
  | nilF => simp
  | nilA => simp
  | row id _ es0 k hn hl hle ht =>
    subst hn
    simp [hl, hle, ht]
-- a slice that can be read: immutable, append-only or mutable
inductive Re (O : List (Nat × AO)) (z : Nat) : AV → List (List AV) → Prop
  | sl (es : List (List AV)) : Re O z (.slice z es) es
  | fs (es : List (List AV)) : Re O z (.fslice z es) es
  | ap (es : List (List AV)) (t : Nat) : Re O z (.app z es t) es
  | row (id : Nat) (es es0 : List (List AV)) (n : Nat) (hn : n = es.length) (hl : look id O = some (.row z es0)) (hle : es.length ≤ es0.length) (ht : es0.take es.length = es) : Re O z (.row id z 0 n) es
theorem Mu.re {O : List (Nat × AO)} {z : Nat} {v : AV} {es : List (List AV)} (h : Mu O z v es) : Re O z v es := by
  cases h with
  | nilF => exact .fs []
  | nilA => exact .ap [] _
  | row id _ es0 n hn hl hle ht => exact .row id es es0 n hn hl hle ht
theorem Re.fr {O O' : List (Nat × AO)} {z : Nat} {v : AV} {es : List (List AV)} (h : Re O z v es) (hf : ∀ j, vid v = some j → look j O' = look j O) : Re O' z v es := by
  cases h with
  | sl => exact .sl es
  | fs => exact .fs es
  | ap => exact .ap es _
  | row id _ es0 n hn hl hle ht => exact .row id es es0 n hn (by rw [hf id rfl, hl]) hle ht
theorem Re.len {O : List (Nat × AO)} {z : Nat} {v : AV} {es : List (List AV)} (h : Re O z v es) : lenOf v = some es.length := by
  cases h with
  | sl => rfl
  | fs => rfl
  | ap => rfl
  | row id _ es0 n hn => subst hn; rfl
theorem Re.snp {O : List (Nat × AO)} {z N n : Nat} {v : AV} {es : List (List AV)} (h : Re O z v es) (he : mapO (mapO (snap n ⟨O, N⟩)) es = some es) : snap (n + 1) ⟨O, N⟩ v = some (.slice z es) := by
  cases h with
  | sl => simp
  | fs => simp
  | ap => simp
  | row id _ es0 k hn hl hle ht =>
    subst hn
    simp [hl, hle, ht, he]
theorem Re.cells {O : List (Nat × AO)} {z : Nat} {v : AV} {es : List (List AV)} (h : Re O z v es) : v.cells = some [v] := by
  cases h <;> rfl
theorem Mu.cells {O : List (Nat × AO)} {z : Nat} {v : AV} {es : List (List AV)} (h : Mu O z v es) : v.cells = some [v] := h.re.cells
end Go.Av
