/-
  The control flow: the program's answer.
-/
import Derived.Test.YtjdbnnnakpacjaaGreatK16
set_option linter.unusedVariables false
set_option linter.unusedSimpArgs false
set_option linter.constructorNameAsVariable false
namespace Go.Av
set_option maxRecDepth 4000
structure Wk where
  e : Int
  n : Int
  us : List Int
def wk1 (p : Prg) (w : Wk) (x : ControlNode) : Wk := if w.e ≠ 0 then w else if nodeU p w.us x ≠ 0 then ⟨nodeU p w.us x, w.n, w.us⟩ else ⟨0, w.n + 1, if appl x then w.us ++ [x.table] else w.us⟩
def wk (p : Prg) (w : Wk) (l : List ControlNode) : Wk := l.foldl (wk1 p) w
theorem wk_append (p : Prg) (w : Wk) (a b : List ControlNode) : wk p w (a ++ b) = wk p (wk p w a) b := by simp [wk]
theorem wk_stop (p : Prg) (w : Wk) (h : w.e ≠ 0) : ∀ l, wk p w l = w
  | [] => rfl
  | x :: l => by
    have : wk1 p w x = w := by simp [wk1, h]
    show wk p (wk1 p w x) l = w
    rw [this]; exact wk_stop p w h l
theorem wk_n (p : Prg) : ∀ (l : List ControlNode) (w : Wk), w.n ≤ (wk p w l).n ∧ (wk p w l).n ≤ w.n + l.length ∧ (wk p w l).us.length ≤ w.us.length + l.length
  | [], w => by simp [wk]
  | x :: l, w => by
    have h := wk_n p l (wk1 p w x)
    show w.n ≤ (wk p (wk1 p w x) l).n ∧ (wk p (wk1 p w x) l).n ≤ w.n + (x :: l).length ∧ (wk p (wk1 p w x) l).us.length ≤ w.us.length + (x :: l).length
    have h1 : w.n ≤ (wk1 p w x).n ∧ (wk1 p w x).n ≤ w.n + 1 ∧ (wk1 p w x).us.length ≤ w.us.length + 1 := by
      unfold wk1
      split
      · simp; omega
      split
      · simp; omega
      · refine ⟨by simp; omega, by simp, ?_⟩
        simp only
        split <;> simp
    simp only [List.length_cons]
    omega
-- the memory of the walk
def chkF (p : Prg) : AV := .func (.func f_control_Check_1) [] [.iptr 9 [Prg.c p] 0 0, .ptr 2 1 0 0, .ptr 0 1 0 0, .ptr 1 1 0 0]
def ChkH (w : Wk) (m : Nat) (H : AH) : Prop := 3 ≤ m ∧ ((w.us = [] ∧ H = ⟨[(0, .row 1 [[.int .i64 w.e]]), (1, .row 1 [[.int .i64 w.n]]), (2, .row 1 [[.fslice 1 []]])], m⟩) ∨
  ∃ q, 3 ≤ q ∧ q < m ∧ H = ⟨[(0, .row 1 [[.int .i64 w.e]]), (1, .row 1 [[.int .i64 w.n]]), (2, .row 1 [[.app 1 (w.us.map cI) q]]), (q, .tok 1 w.us.length)], m⟩)
theorem check1_ok (p : Prg) (k t : Int) (cd : List ExprNode) (a b : List ControlNode) (w : Wk) (m : Nat) (H : AH) (hH : ChkH w m H) (he : w.e = 0) (hn : 0 ≤ w.n ∧ w.n < 2 ^ 60) (hu : w.us.length < 2 ^ 40 - 1) (ha : a.length < 2 ^ 40) (hb : b.length < 2 ^ 40) :
    ∃ m' H', m ≤ m' ∧ ChkH (wk1 p w (.mk k t cd a b)) m' H' ∧ callI Φ f_control_Check_1 [.agg (ControlNode.c (.mk k t cd a b)), .iptr 9 [Prg.c p] 0 0, .ptr 2 1 0 0, .ptr 0 1 0 0, .ptr 1 1 0 0] H = some (.val (.bool (decide ((wk1 p w (.mk k t cd a b)).e = 0))), H') := by
  have hw : IntKind.wrap .i64 (w.n + 1) = w.n + 1 := wrap64 (by omega) (by omega)
  have hU := nodeU_ok p k t cd a b w.us ha hb (by omega)
  have hA := applies_ok k t cd a b
  simp only [Prg.e, ControlNode.e] at hU hA
  obtain ⟨h3, ⟨hus, rfl⟩ | ⟨q, hq, hqm, rfl⟩⟩ := hH
  · rw [callI_go (fn := c_control_Check_1) rfl rfl]
    rw [hus] at hU
    simp only [List.map_nil] at hU
    by_cases z : nodeU p [] (.mk k t cd a b) = 0
    · rw [z] at hU
      cases qa : appl (.mk k t cd a b) with
      | true =>
        rw [qa] at hA
        have hn0 : ¬ (0 = m) := by omega
        have hn1 : ¬ (1 = m) := by omega
        have hn2 : ¬ (2 = m) := by omega
        have hn0' : ¬ (m = 0) := by omega
        have hn1' : ¬ (m = 1) := by omega
        have hn2' : ¬ (m = 2) := by omega
        refine ⟨m + 1, ⟨[(0, .row 1 [[.int .i64 0]]), (1, .row 1 [[.int .i64 (w.n + 1)]]), (2, .row 1 [[.app 1 [[.int .i64 t]] m]]), (m, .tok 1 1)], m + 1⟩, Nat.le_succ _, ⟨by omega, .inr ⟨m, h3, by omega, by simp [wk1, he, hus, z, qa, cI]⟩⟩, ?_⟩
        simp [c_control_Check_1, ControlNode.e, Prg.e, hU, wk1, he, hus, z, qa, hA, hw, hn0, hn1, hn2]
      | false =>
        rw [qa] at hA
        refine ⟨m, ⟨[(0, .row 1 [[.int .i64 0]]), (1, .row 1 [[.int .i64 (w.n + 1)]]), (2, .row 1 [[.fslice 1 []]])], m⟩, Nat.le_refl _, ⟨by omega, .inl ⟨by simp [wk1, he, hus, z, qa], by simp [wk1, he, hus, z, qa]⟩⟩, ?_⟩
        simp [c_control_Check_1, ControlNode.e, Prg.e, hU, wk1, he, hus, z, qa, hA, hw]
    · refine ⟨m, ⟨[(0, .row 1 [[.int .i64 (nodeU p [] (.mk k t cd a b))]]), (1, .row 1 [[.int .i64 w.n]]), (2, .row 1 [[.fslice 1 []]])], m⟩, Nat.le_refl _, ⟨by omega, .inl ⟨by simp [wk1, he, hus, z], by simp [wk1, he, hus, z]⟩⟩, ?_⟩
      simp [c_control_Check_1, ControlNode.e, Prg.e, hU, wk1, he, hus, z]
  · rw [callI_go (fn := c_control_Check_1) rfl rfl]
    have q0 : ¬ (0 = q) := by omega
    have q1 : ¬ (1 = q) := by omega
    have q2 : ¬ (2 = q) := by omega
    have q0' : ¬ (q = 0) := by omega
    have q1' : ¬ (q = 1) := by omega
    have q2' : ¬ (q = 2) := by omega
    have hbb : (w.us.length + 1) * 8 ≤ 70368744177664 := by omega
    by_cases z : nodeU p w.us (.mk k t cd a b) = 0
    · rw [z] at hU
      cases qa : appl (.mk k t cd a b) with
      | true =>
        rw [qa] at hA
        refine ⟨m, ⟨[(0, .row 1 [[.int .i64 0]]), (1, .row 1 [[.int .i64 (w.n + 1)]]), (2, .row 1 [[.app 1 ((w.us ++ [t]).map cI) q]]), (q, .tok 1 (w.us.length + 1))], m⟩, Nat.le_refl _, ⟨by omega, .inr ⟨q, hq, hqm, by simp [wk1, he, z, qa]⟩⟩, ?_⟩
        simp [c_control_Check_1, ControlNode.e, Prg.e, hU, wk1, he, z, qa, hA, hw, q0, q1, q2, hbb, cI]
      | false =>
        rw [qa] at hA
        refine ⟨m, ⟨[(0, .row 1 [[.int .i64 0]]), (1, .row 1 [[.int .i64 (w.n + 1)]]), (2, .row 1 [[.app 1 (w.us.map cI) q]]), (q, .tok 1 w.us.length)], m⟩, Nat.le_refl _, ⟨by omega, .inr ⟨q, hq, hqm, by simp [wk1, he, z, qa]⟩⟩, ?_⟩
        simp [c_control_Check_1, ControlNode.e, Prg.e, hU, wk1, he, z, qa, hA, hw]
    · refine ⟨m, ⟨[(0, .row 1 [[.int .i64 (nodeU p w.us (.mk k t cd a b))]]), (1, .row 1 [[.int .i64 w.n]]), (2, .row 1 [[.app 1 (w.us.map cI) q]]), (q, .tok 1 w.us.length)], m⟩, Nat.le_refl _, ⟨by omega, .inr ⟨q, hq, hqm, by simp [wk1, he, z]⟩⟩, ?_⟩
      simp [c_control_Check_1, ControlNode.e, Prg.e, hU, wk1, he, z]
end Go.Av
