/-
  The control flow and the whole check of a program: the program's answers.
-/
import Derived.Test.YtjdbnnnakpacjaaGreatK18
set_option linter.unusedVariables false
set_option linter.unusedSimpArgs false
set_option linter.constructorNameAsVariable false
namespace Go.Av
set_option maxRecDepth 4000
def usOf (l : List ControlNode) : List Int := (l.filter appl).map (·.table)
theorem usOf_contains (t : Int) (l : List ControlNode) : (usOf l).contains t = l.any (fun y => appl y && decide (y.table = t)) := by
  unfold usOf
  rw [contains_map, List.any_filter]
theorem nodeE_eq (p : Prg) (l : List ControlNode) (x : ControlNode) : nodeE p l x = nodeU p (usOf l) x := by
  unfold nodeE nodeU
  rw [usOf_contains]
def ctlG (p : Prg) (l : List ControlNode) (i : Nat) : Option (Int × Int) := (l[i]?).bind fun x => if nodeE p (l.take i) x = 0 then none else some ((i : Int), nodeE p (l.take i) x)
theorem wk_fe (p : Prg) (l : List ControlNode) : ∀ n i, n + i = l.length → ((wk p ⟨0, i, usOf (l.take i)⟩ (l.drop i)).e = 0 ∧ fe (ctlG p l) l.length i = none) ∨
    ((wk p ⟨0, i, usOf (l.take i)⟩ (l.drop i)).e ≠ 0 ∧ fe (ctlG p l) l.length i = some ((wk p ⟨0, i, usOf (l.take i)⟩ (l.drop i)).n, (wk p ⟨0, i, usOf (l.take i)⟩ (l.drop i)).e))
  | 0, i, h => by
    have : i = l.length := by omega
    subst this
    simp [wk, fe_end]
  | n + 1, i, h => by
    have hi : i < l.length := by omega
    rw [List.drop_eq_getElem_cons hi]
    show ((wk p (wk1 p ⟨0, i, usOf (l.take i)⟩ l[i]) (l.drop (i + 1))).e = 0 ∧ _) ∨ ((wk p (wk1 p ⟨0, i, usOf (l.take i)⟩ l[i]) (l.drop (i + 1))).e ≠ 0 ∧ fe (ctlG p l) l.length i = some ((wk p (wk1 p ⟨0, i, usOf (l.take i)⟩ l[i]) (l.drop (i + 1))).n, (wk p (wk1 p ⟨0, i, usOf (l.take i)⟩ l[i]) (l.drop (i + 1))).e))
    by_cases z : nodeU p (usOf (l.take i)) l[i] = 0
    · have e1 : wk1 p ⟨0, i, usOf (l.take i)⟩ l[i] = ⟨0, ((i + 1 : Nat) : Int), usOf (l.take (i + 1))⟩ := by
        have hu : usOf (l.take (i + 1)) = if appl l[i] then usOf (l.take i) ++ [l[i].table] else usOf (l.take i) := by
          rw [List.take_succ_eq_append_getElem hi]
          unfold usOf
          rw [List.filter_append, List.map_append]
          cases q : appl l[i] <;> simp [q]
        rw [hu]
        simp [wk1, z]
      rw [e1, fe_miss hi (by simp [ctlG, hi, nodeE_eq, z])]
      exact wk_fe p l n (i + 1) (by omega)
    · have e1 : wk1 p ⟨0, i, usOf (l.take i)⟩ l[i] = ⟨nodeU p (usOf (l.take i)) l[i], i, usOf (l.take i)⟩ := by simp [wk1, z]
      rw [e1, wk_stop p _ z]
      refine .inr ⟨z, ?_⟩
      rw [fe_hit hi (by simp only [ctlG, List.getElem?_eq_getElem hi, Option.bind_some, nodeE_eq]; rw [if_neg z])]
theorem ctlE_ok (p : Prg) (hl : (pre p.control).length < 2 ^ 40 - 1) : pureI Φ f_control_Check [.agg (Prg.c p)] = some (.val (.tup [.int .i64 (ctlE p).1, .int .i64 (ctlE p).2])) := by
  rw [pureI_go (fn := c_control_Check) rfl rfl]
  have hc := count_ok p.control (by omega)
  have hn := nest_ok _ p.control (Nat.le_refl _) (by omega)
  by_cases z1 : 24 < (pre p.control).length
  · simp [c_control_Check, Prg.e, hc, ctlE, z1]
  by_cases z2 : 6 < nest p.control
  · simp [c_control_Check, Prg.e, hc, hn, ctlE, z1, z2]
  have hE : ctlE p = (fe (ctlG p (pre p.control)) (pre p.control).length 0).getD (0, 0) := by unfold ctlE; rw [if_neg z1, if_neg z2]; rfl
  obtain ⟨m', H', hm', hH', hp⟩ := preK_ok p _ p.control ⟨0, 0, []⟩ 3 ⟨[(0, .row 1 [[.int .i64 0]]), (1, .row 1 [[.int .i64 0]]), (2, .row 1 [[.fslice 1 []]])], 3⟩ ⟨by omega, .inl ⟨rfl, rfl⟩⟩ rfl (Nat.le_refl _) (by simp) (by simp; omega) (by simp; omega)
  have hf := wk_fe p (pre p.control) (pre p.control).length 0 (by omega)
  simp only [List.take_zero, List.drop_zero, show usOf [] = [] from rfl, Int.ofNat_zero] at hf
  generalize hW : wk p ⟨0, 0, []⟩ (pre p.control) = W at *
  simp only [chkF, Prg.e] at hp
  rw [hE]
  rcases hf with ⟨y, hf⟩ | ⟨y, hf⟩
  · rw [hf]
    obtain ⟨h3, ⟨hus, rfl⟩ | ⟨q, hq, hqm, rfl⟩⟩ := hH'
    · simp [y] at hp
      simp [c_control_Check, Prg.e, hc, hn, z1, z2, hp]
    · simp [y] at hp
      simp [c_control_Check, Prg.e, hc, hn, z1, z2, hp]
  · rw [hf]
    obtain ⟨h3, ⟨hus, rfl⟩ | ⟨q, hq, hqm, rfl⟩⟩ := hH'
    · simp [y] at hp
      simp [c_control_Check, Prg.e, hc, hn, z1, z2, hp, y]
    · simp [y] at hp
      simp [c_control_Check, Prg.e, hc, hn, z1, z2, hp, y]
end Go.Av
