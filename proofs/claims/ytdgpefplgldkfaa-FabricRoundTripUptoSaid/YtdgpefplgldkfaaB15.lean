/-
  Lemmas for the law.
-/
import Derived.Test.YtdgpefplgldkfaaB14
set_option linter.unusedVariables false
set_option linter.unusedSimpArgs false
set_option linter.constructorNameAsVariable false
namespace Go.Av
set_option maxRecDepth 8000
def FieldOk (O : List (Nat × AO)) (f : AV) (g : List Int) : Prop := (∃ id, f = .row id 1 0 g.length ∧ look id O = some (.row 1 (g.map c32)) ∧ (id = 55 ∨ id = 90 ∨ id = 125)) ∨ ∃ t, f = .app 1 (g.map c32) t
inductive FieldsOk (O : List (Nat × AO)) : List AV → List (List Int) → Prop
  | nil : FieldsOk O [] []
  | cons {f g fs gs} : FieldOk O f g → FieldsOk O fs gs → FieldsOk O (f :: fs) (g :: gs)
theorem snap_c32 {H : AH} {k : Nat} : ∀ g : List Int, mapO (mapO (snap (k + 1) H)) (g.map c32) = some (g.map c32)
  | [] => rfl
  | a :: g => by simp [c32, snap_c32 g]
theorem FieldOk.snap {O : List (Nat × AO)} {f : AV} {g : List Int} (h : FieldOk O f g) (k m : Nat) : snap (k + 2) ⟨O, m⟩ f = some (.slice 1 (g.map c32)) := by
  rcases h with ⟨id, rfl, h, _⟩ | ⟨t, rfl⟩
  · have : (List.map c32 g).take g.length = List.map c32 g := List.take_of_length_le (by simp)
    simp [h, this, snap_c32]
  · simp
theorem FieldsOk.snap {O : List (Nat × AO)} {fs : List AV} {gs : List (List Int)} (h : FieldsOk O fs gs) (k m : Nat) : mapO (mapO (snap (k + 2) ⟨O, m⟩)) (fs.map fun f => [f]) = some (gs.map fun g => [.slice 1 (g.map c32)]) := by
  induction h with
  | nil => rfl
  | cons h _ ih => simp [h.snap, ih]
theorem FieldOk.mono {O O' : List (Nat × AO)} {f : AV} {g : List Int} (h : FieldOk O f g) (hk : ∀ j, j = 55 ∨ j = 90 ∨ j = 125 → look j O' = look j O) : FieldOk O' f g := by
  rcases h with ⟨id, rfl, h, h'⟩ | ⟨t, rfl⟩
  · exact .inl ⟨id, rfl, by rw [hk _ h']; exact h, h'⟩
  · exact .inr ⟨t, rfl⟩
theorem FieldsOk.mono {O O' : List (Nat × AO)} {fs : List AV} {gs : List (List Int)} (h : FieldsOk O fs gs) (hk : ∀ j, j = 55 ∨ j = 90 ∨ j = 125 → look j O' = look j O) : FieldsOk O' fs gs := by
  induction h with
  | nil => exact .nil
  | cons h _ ih => exact .cons (h.mono hk) ih
theorem FieldsOk.set {O : List (Nat × AO)} {fs : List AV} {gs : List (List Int)} (h : FieldsOk O fs gs) (g : List Int) (t : Nat) : ∀ i, FieldsOk O (fs.set i (.app 1 (g.map c32) t)) (gs.set i g) := by
  induction h with
  | nil => intro i; exact .nil
  | cons h hr ih =>
    intro i
    cases i with
    | zero => exact .cons (.inr ⟨t, rfl⟩) hr
    | succ i => exact .cons h (ih i)
theorem snap_bools {H : AH} {k : Nat} : ∀ l : List Bool, mapO (mapO (snap (k + 1) H)) (l.map fun b => [AV.bool b]) = some (l.map fun b => [AV.bool b])
  | [] => rfl
  | a :: g => by simp [snap_bools g]
def z4 : List AV := [.fslice 1 [], .fslice 1 [], .fslice 1 [], .fslice 1 []]
def meta0 : List (List AV) := [[.int .u32 0], [.int .u32 0], [.int .u32 0], [.int .u32 0]]
structure RunH (O : List (Nat × AO)) (n : Nat) (data : List Int) (pos : Nat) (vs : List Bool) (fs : List AV) (gs : List (List Int)) (k : Nat) : Prop where
  T : Tail O n
  S : sweepL O = O
  big : 130 ≤ n
  p : look 0 O = some (.row 9 [pvA])
  rc : look 1 O = some (.row 4 [z4])
  ec : look 126 O = some (.row 4 [eV 2])
  r : look 128 O = some (rdr data 127 (8 * pos))
  tk : look 129 O = some (.tok 1 k)
  va : look 12 O = some (.row 1 (vs.map fun b => [.bool b]))
  fa : look 16 O = some (.row 1 (fs.map fun f => [f]))
  mt : look 20 O = some (.row 1 meta0)
  fok : FieldsOk O fs gs
  lv : vs.length = 3
  lf : fs.length = 3
def RunE (e : Env) (ents : List (List AV)) (s : Int) : Prop :=
  look 2 e = some (.ptr 0 9 0 0) ∧ look 4 e = some (.ptr 1 4 0 0) ∧ look 7 e = some (.ptr 126 4 0 0) ∧ look 9 e = some (.ptr 128 3 0 0) ∧ look 10 e = some (.app 1 ents 129) ∧ look 11 e = some (.int .i64 s)
-- the heap after a state's header was read
theorem RunH.step {O : List (Nat × AO)} {n : Nat} {data : List Int} {pos : Nat} {vs : List Bool} {fs : List AV} {gs : List (List Int)} {k : Nat} (h : RunH O n data pos vs fs gs k) {O' : List (Nat × AO)} {N t len hh : Nat} {g : List Int}
    (hr : look 128 O' = some (rdr data 127 (8 * pos + 8 * len))) (hT : Tail O' N) (hS : sweepL O' = O') (hk : ∀ j, j < n → j ≠ 128 → look j O' = look j O) (hN : n ≤ N) :
    RunH (setl 16 (.row 1 ((fs.set hh (.app 1 (g.map c32) t)).map fun f => [f])) (setl 12 (.row 1 ((vs.set hh true).map fun b => [.bool b])) O')) N data (pos + len) (vs.set hh true) (fs.set hh (.app 1 (g.map c32) t)) (gs.set hh g) k := by
  have hb := h.big
  have lk : ∀ j x, look j O = some x → j < n → j ≠ 128 → j ≠ 12 → j ≠ 16 → ∀ a b, look j (setl 16 a (setl 12 b O')) = some x := by
    intro j x hx h1 h2 h3 h4 a b
    rw [look_setl, if_neg (by omega), look_setl, if_neg (by omega), hk j h1 h2, hx]
  refine ⟨Tail_setl (Tail_setl hT), sweepL_setl (by simp) (sweepL_setl (by simp) hS), by omega, ?_, ?_, ?_, ?_, ?_, ?_, ?_, ?_, ?_, by simp [h.lv], by simp [h.lf]⟩
  · exact lk _ _ h.p (by omega) (by omega) (by omega) (by omega) _ _
  · exact lk _ _ h.rc (by omega) (by omega) (by omega) (by omega) _ _
  · exact lk _ _ h.ec (by omega) (by omega) (by omega) (by omega) _ _
  · rw [look_setl, if_neg (by omega), look_setl, if_neg (by omega), hr, Nat.mul_add]
  · exact lk _ _ h.tk (by omega) (by omega) (by omega) (by omega) _ _
  · rw [look_setl, if_neg (by omega)]
    exact look_setl_same (by rw [hk 12 (by omega) (by omega)]; exact h.va)
  · exact look_setl_same (x := .row 1 (fs.map fun f => [f])) (by rw [look_setl, if_neg (by omega), hk 16 (by omega) (by omega)]; exact h.fa)
  · exact lk _ _ h.mt (by omega) (by omega) (by omega) (by omega) _ _
  · refine (h.fok.set g t hh).mono ?_
    intro j hj
    rw [look_setl, if_neg (by omega), look_setl, if_neg (by omega), hk j (by omega) (by omega)]
end Go.Av
