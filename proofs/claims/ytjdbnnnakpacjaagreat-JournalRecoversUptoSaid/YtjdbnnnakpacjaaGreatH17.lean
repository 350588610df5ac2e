/-
  A store's object is the same as itself: the check's own comparison.
-/
import Derived.Test.YtjdbnnnakpacjaaGreatH16
set_option linter.unusedVariables false
set_option linter.unusedSimpArgs false
set_option linter.constructorNameAsVariable false
namespace Go.Av
set_option maxRecDepth 4000
-- a valid program has no complaint anywhere
theorem fe_ne {α : Type} {f : Nat → Option α} {Q : α → Prop} (h : ∀ i x, f i = some x → Q x) {N : Nat} {x : α} (hx : fe f N 0 = some x) : Q x := by
  obtain ⟨k, _, hk⟩ := fe_some hx
  exact h k x hk
theorem limD_ne {p : Prg} {d : Dg} (h : limD p = some d) : d.1 ≠ 0 := by
  unfold limD at h
  repeat' split at h
  all_goals first | (cases h; simp; done) | cases h
theorem hdrD_ne {p : Prg} {d : Dg} (h : hdrD p = some d) : d.1 ≠ 0 := by
  refine fe_ne (Q := fun d : Dg => d.1 ≠ 0) (fun i x hx => ?_) h
  rw [Option.bind_eq_some_iff] at hx
  obtain ⟨a, _, hx⟩ := hx
  split at hx
  · cases hx
  · cases hx; assumption
theorem metD_ne {p : Prg} {d : Dg} (h : metD p = some d) : d.1 ≠ 0 := by
  unfold metD at h
  split at h
  · cases h; simp
  split at h
  · rename_i d' hd'
    cases h
    refine fe_ne (Q := fun d : Dg => d.1 ≠ 0) (fun i x hx => ?_) hd'
    rw [Option.bind_eq_some_iff] at hx
    obtain ⟨a, _, hx⟩ := hx
    split at hx
    · cases hx
    · cases hx; assumption
  · refine fe_ne (Q := fun d : Dg => d.1 ≠ 0) (fun i x hx => ?_) h
    split at hx
    · cases hx
    · cases hx; simp
theorem regD_ne {p : Prg} {d : Dg} (h : regD p = some d) : d.1 ≠ 0 := by
  refine fe_ne (Q := fun d : Dg => d.1 ≠ 0) (fun i x hx => ?_) h
  rw [Option.bind_eq_some_iff] at hx
  obtain ⟨a, _, hx⟩ := hx
  split at hx
  · cases hx
  · cases hx; assumption
theorem actD_ne {p : Prg} {d : Dg} (h : actD1 p = some d) : d.1 ≠ 0 := by
  refine fe_ne (Q := fun d : Dg => d.1 ≠ 0) (fun i x hx => ?_) h
  rw [Option.bind_eq_some_iff] at hx
  obtain ⟨a, _, hx⟩ := hx
  split at hx
  · cases hx; assumption
  · split at hx
    · cases hx; simp
    · cases hx
theorem tblD_ne {p : Prg} {d : Dg} (h : tblD p = some d) : d.1 ≠ 0 := by
  refine fe_ne (Q := fun d : Dg => d.1 ≠ 0) (fun i x hx => ?_) h
  rw [Option.bind_eq_some_iff] at hx
  obtain ⟨a, _, hx⟩ := hx
  split at hx
  · cases hx; assumption
  · split at hx
    · cases hx; simp
    · cases hx
theorem floD_ne {p : Prg} {d : Dg} (h : floD p = some d) : d.1 ≠ 0 := by
  unfold floD at h
  split at h
  · cases h; assumption
  split at h
  · cases h; assumption
  split at h
  · cases h; assumption
  · cases h
structure PrgV (p : Prg) : Prop where
  lim : limD p = none
  hdr : hdrD p = none
  met : metD p = none
  reg : regD p = none
  act : actD1 p = none
  tbl : tblD p = none
  flo : floD p = none
theorem PrgV_of {p : Prg} (h : (prgD p).1 = 0) : PrgV p := by
  unfold prgD at h
  cases h1 : limD p with
  | some d => rw [h1] at h; exact absurd h (limD_ne h1)
  | none =>
  cases h2 : hdrD p with
  | some d => rw [h1, h2] at h; exact absurd h (hdrD_ne h2)
  | none =>
  cases h3 : metD p with
  | some d => rw [h1, h2, h3] at h; exact absurd h (metD_ne h3)
  | none =>
  cases h4 : regD p with
  | some d => rw [h1, h2, h3, h4] at h; exact absurd h (regD_ne h4)
  | none =>
  cases h5 : actD1 p with
  | some d => rw [h1, h2, h3, h4, h5] at h; exact absurd h (actD_ne h5)
  | none =>
  cases h6 : tblD p with
  | some d => rw [h1, h2, h3, h4, h5, h6] at h; exact absurd h (tblD_ne h6)
  | none =>
  cases h7 : floD p with
  | some d => rw [h1, h2, h3, h4, h5, h6, h7] at h; exact absurd h (floD_ne h7)
  | none => exact ⟨h1, h2, h3, h4, h5, h6, h7⟩
theorem PrgV.nest {p : Prg} (v : PrgV p) : nest p.control ≤ 6 := by
  have h := v.flo
  unfold floD at h
  split at h
  · cases h
  split at h
  · cases h
  rename_i h1
  refine Decidable.byContradiction fun hc => h1 ?_
  unfold ctlE
  split
  · simp
  · rw [if_pos (by omega)]; simp
theorem PrgV.tabs {p : Prg} (v : PrgV p) : p.tables.length ≤ 12 := by
  have h := v.lim
  unfold limD at h
  repeat' split at h
  all_goals first | omega | cases h
-- reflexive
theorem eqL_rf {α : Type} (f : α → α → Bool) : ∀ l : List α, (∀ x ∈ l, f x x = true) → eqL f l l = true
  | [], _ => by simp [eqL]
  | x :: r, h => by simp [eqL, h x (List.mem_cons_self ..), eqL_rf f r (fun y hy => h y (List.mem_cons_of_mem _ hy))]
def Rf (n : Nat) (v : AV) : Prop := avEq n v v = true
theorem Rf.int (n : Nat) (k : IntKind) (v : Int) : Rf (n + 1) (.int k v) := by unfold Rf avEq; simp
theorem Rf.bool (n : Nat) (b : Bool) : Rf (n + 1) (.bool b) := by unfold Rf avEq; simp
theorem Rf.str (n : Nat) (b : List UInt8) : Rf (n + 1) (.str b) := by unfold Rf avEq; simp
theorem Rf.row (n a b c d : Nat) : Rf (n + 1) (.row a b c d) := by unfold Rf avEq; simp
theorem Rf.slice (n z : Nat) (es : List (List AV)) (h : ∀ e ∈ es, ∀ c ∈ e, Rf n c) : Rf (n + 1) (.slice z es) := by
  have := eqL_rf (eqL (avEq n)) es fun e he => eqL_rf (avEq n) e (h e he)
  unfold Rf avEq; simp [this]
theorem Rf.fslice (n z : Nat) (es : List (List AV)) (h : ∀ e ∈ es, ∀ c ∈ e, Rf n c) : Rf (n + 1) (.fslice z es) := by
  have := eqL_rf (eqL (avEq n)) es fun e he => eqL_rf (avEq n) e (h e he)
  unfold Rf avEq; simp [this]
theorem Rf.app (n z t : Nat) (es : List (List AV)) (h : ∀ e ∈ es, ∀ c ∈ e, Rf n c) : Rf (n + 1) (.app z es t) := by
  have := eqL_rf (eqL (avEq n)) es fun e he => eqL_rf (avEq n) e (h e he)
  unfold Rf avEq; simp [this]
theorem Rf.map {α : Type} (n z : Nat) (f : α → List AV) (l : List α) (h : ∀ x ∈ l, ∀ c ∈ f x, Rf n c) : Rf (n + 1) (.slice z (l.map f)) := by
  refine Rf.slice n z _ fun e he => ?_
  obtain ⟨x, hx, rfl⟩ := List.mem_map.1 he
  exact h x hx
theorem rf_expr (n : Nat) (x : ExprNode) : ∀ c ∈ ExprNode.c x, Rf (n + 1) c := by
  simp [ExprNode.c, Rf.int]
theorem rf_fld (n : Nat) (x : Fld) : ∀ c ∈ Fld.c x, Rf (n + 1) c := by
  simp [Fld.c, Rf.int, Rf.str]
theorem rf_I (n : Nat) (x : Int) : ∀ c ∈ cI x, Rf (n + 1) c := by simp [cI, Rf.int]
theorem rf_32 (n : Nat) (x : Int) : ∀ c ∈ c32 x, Rf (n + 1) c := by simp [c32, Rf.int]
theorem rf_ctl : ∀ (k : Nat) (l : List ControlNode), nest l ≤ k → Rf (k + 3) (.slice 5 (l.map ControlNode.c))
  | 0, l, h => by
    cases l with
    | nil => exact Rf.slice _ _ _ (by simp)
    | cons x l => simp only [nest] at h; omega
  | k + 1, l, h => by
    have key : ∀ x ∈ l, nest1 x ≤ k := by
      intro x hx
      have : ∀ l : List ControlNode, x ∈ l → 1 + nest1 x ≤ nest l := by
        intro l
        induction l with
        | nil => intro h; cases h
        | cons y l ih =>
          intro h
          simp only [nest]
          rcases List.mem_cons.1 h with rfl | h
          · omega
          · have := ih h; omega
      have := this l hx
      omega
    refine Rf.map _ _ _ _ fun x hx => ?_
    have hk := key x hx
    cases x with
    | mk kd t cnd a b =>
      simp only [nest1] at hk
      rw [ControlNode.ce]
      intro c hc
      simp only [List.mem_cons, List.not_mem_nil, or_false] at hc
      rcases hc with rfl | rfl | rfl | rfl | rfl
      · exact Rf.int _ _ _
      · exact Rf.int _ _ _
      · exact Rf.map _ _ _ _ fun x _ => rf_expr _ x
      · exact rf_ctl k a (by omega)
      · exact rf_ctl k b (by omega)
theorem rf_prg {p : Prg} (v : PrgV p) : ∀ c ∈ Prg.c p, Rf 40 c := by
  rw [Prg.ce]
  intro c hc
  simp only [List.mem_cons, List.not_mem_nil, or_false] at hc
  rcases hc with rfl | rfl | rfl | rfl | rfl | rfl | rfl | rfl | rfl
  · exact Rf.str _ _
  · refine Rf.map _ _ _ _ fun x _ => ?_
    simp only [Header.c, List.mem_cons, List.not_mem_nil, or_false]
    rintro c (rfl | rfl)
    · exact Rf.str _ _
    · exact Rf.map _ _ _ _ fun x _ => rf_fld _ x
  · exact Rf.map _ _ _ _ fun x _ => rf_fld _ x
  · refine Rf.map _ _ _ _ fun x _ => ?_
    simp [Register.c, Rf.int, Rf.str]
  · refine Rf.map _ _ _ _ fun x _ => ?_
    rw [Action.ce]
    simp only [List.mem_cons, List.not_mem_nil, or_false]
    rintro c (rfl | rfl | rfl)
    · exact Rf.str _ _
    · exact Rf.map _ _ _ _ fun x _ => rf_fld _ x
    · refine Rf.map _ _ _ _ fun x _ => ?_
      rw [Statement.ce]
      simp only [List.mem_cons, List.not_mem_nil, or_false]
      rintro c (rfl | rfl | rfl | rfl | rfl | rfl | rfl)
      · exact Rf.int _ _ _
      · exact Rf.int _ _ _
      · exact Rf.int _ _ _
      · exact Rf.int _ _ _
      · exact Rf.int _ _ _
      · exact Rf.map _ _ _ _ fun x _ => rf_expr _ x
      · exact Rf.map _ _ _ _ fun x _ => rf_expr _ x
  · refine Rf.map _ _ _ _ fun x _ => ?_
    rw [Tbl.ce]
    simp only [List.mem_cons, List.not_mem_nil, or_false]
    rintro c (rfl | rfl | rfl | rfl | rfl | rfl)
    · exact Rf.str _ _
    · exact Rf.map _ _ _ _ fun x _ => by simp [TableKey.c, Rf.int]
    · exact Rf.map _ _ _ _ fun x _ => rf_I _ x
    · exact Rf.int _ _ _
    · exact Rf.map _ _ _ _ fun x _ => rf_32 _ x
    · exact Rf.int _ _ _
  · refine Rf.map _ _ _ _ fun x _ => ?_
    rw [ParserState.ce]
    simp only [List.mem_cons, List.not_mem_nil, or_false]
    rintro c (rfl | rfl | rfl | rfl | rfl | rfl | rfl)
    · exact Rf.str _ _
    · exact Rf.map _ _ _ _ fun x _ => rf_I _ x
    · exact Rf.bool _ _
    · exact Rf.int _ _ _
    · exact Rf.int _ _ _
    · exact Rf.map _ _ _ _ fun x _ => by simp [SelectCase.c, Rf.int]
    · exact Rf.int _ _ _
  · have := v.nest
    exact rf_ctl 37 p.control (by omega)
  · exact Rf.map _ _ _ _ fun x _ => rf_I _ x
theorem rf_mu {O : List (Nat × AO)} {z n : Nat} {v : AV} {es : List (List AV)} (h : Mu O z v es) : Rf (n + 1) v := by
  cases h with
  | nilF => exact Rf.fslice _ _ _ (by simp)
  | nilA => exact Rf.app _ _ _ _ (by simp)
  | row => exact Rf.row _ _ _ _ _
theorem aoEq_store {O : List (Nat × AO)} {S : SV} {p : Prg} {c : Config} (m : StoreM O S p c) (v : PrgV p) : aoEq (some (.row 15 [S.cells p])) (some (.row 15 [S.cells p])) = true := by
  have h : ∀ x ∈ S.cells p, avEq 40 x x = true := by
    intro x hx
    simp only [SV.cells, List.mem_cons, List.mem_append, List.not_mem_nil, or_false] at hx
    rcases hx with rfl | rfl | rfl | rfl | hx | rfl | rfl
    · exact rf_mu m.cm.r
    · exact rf_mu m.cm.n
    · exact rf_mu m.cm.d
    · rcases m.cm.g with e | ⟨t, e⟩ <;> rw [e]
      · refine Rf.fslice _ _ _ fun e he => ?_
        obtain ⟨l, _, rfl⟩ := List.mem_map.1 he
        simp only [cS, List.mem_cons, List.not_mem_nil, or_false]
        rintro c rfl
        exact Rf.map _ _ _ _ fun x _ => rf_32 _ x
      · refine Rf.app _ _ _ _ fun e he => ?_
        obtain ⟨l, _, rfl⟩ := List.mem_map.1 he
        simp only [cS, List.mem_cons, List.not_mem_nil, or_false]
        rintro c rfl
        exact Rf.map _ _ _ _ fun x _ => rf_32 _ x
    · exact rf_prg v x hx
    · exact rf_mu m.x.i
    · exact Rf.bool _ _
  have h1 := eqL_rf (avEq 40) _ h
  unfold aoEq
  simp [snapFuel, eqL, h1]
end Go.Av
