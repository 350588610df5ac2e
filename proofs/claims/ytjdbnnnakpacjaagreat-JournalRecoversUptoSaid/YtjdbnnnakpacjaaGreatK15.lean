/-
  Control nodes: the program's answers for one node, nesting, count.
-/
import Derived.Test.YtjdbnnnakpacjaaGreatK14
set_option linter.unusedVariables false
set_option linter.unusedSimpArgs false
set_option linter.constructorNameAsVariable false
namespace Go.Av
set_option maxRecDepth 4000
@[simp] theorem ControlNode.kind_mk (k t : Int) (c : List ExprNode) (a b : List ControlNode) : (ControlNode.mk k t c a b).kind = k := by simp [ControlNode.kind]
@[simp] theorem ControlNode.table_mk (k t : Int) (c : List ExprNode) (a b : List ControlNode) : (ControlNode.mk k t c a b).table = t := by simp [ControlNode.table]
@[simp] theorem ControlNode.cond_mk (k t : Int) (c : List ExprNode) (a b : List ControlNode) : (ControlNode.mk k t c a b).cond = c := by simp [ControlNode.cond]
@[simp] theorem ControlNode.thn_mk (k t : Int) (c : List ExprNode) (a b : List ControlNode) : (ControlNode.mk k t c a b).thn = a := by simp [ControlNode.thn]
@[simp] theorem ControlNode.els_mk (k t : Int) (c : List ExprNode) (a b : List ControlNode) : (ControlNode.mk k t c a b).els = b := by simp [ControlNode.els]
theorem applies_ok (k t : Int) (c : List ExprNode) (a b : List ControlNode) : pureI Φ f_control_applies [.agg (ControlNode.c (.mk k t c a b))] = some (.val (.bool (appl (.mk k t c a b)))) := by
  rw [pureI_go (fn := c_control_applies) rfl rfl]
  by_cases k1 : k = 1
  · simp [c_control_applies, ControlNode.e, appl, k1]
  · simp [c_control_applies, ControlNode.e, appl, k1]
def nodeU (p : Prg) (us : List Int) (x : ControlNode) : Int :=
  if x.kind = 2 then (if (exE p [] x.cond).2 = 0 then (if (exE p [] x.cond).1 = 1 then 0 else 10) else (exE p [] x.cond).2)
  else if x.kind = 1 ∨ x.kind = 3 then (if x.table < 0 ∨ (p.tables.length : Int) ≤ x.table then 8
    else if us.contains x.table then 7
    else if x.kind = 1 ∧ 0 < x.thn.length + x.els.length then 5 else 0)
  else 11
def nodeV (us : List Int) (x : ControlNode) : Int := if us.contains x.table then 7 else if x.kind = 1 ∧ 0 < x.thn.length + x.els.length then 5 else 0
theorem nodeV_ok {p : Prg} (k t : Int) (c : List ExprNode) (a b : List ControlNode) (us : List Int) (ha : a.length < 2 ^ 40) (hb : b.length < 2 ^ 40) (hu : us.length < 2 ^ 40) (e : Env)
    (h4 : look 4 e = some (.iptr 5 [ControlNode.c (.mk k t c a b)] 0 0)) (h27 : look 27 e = some (.slice 1 (us.map cI))) (h28 : look 28 e = some (.int .i64 us.length)) (h29 : look 29 e = some (.int .i64 0)) :
    go Φ (finP [.tmp 6]) [.c (.loop c_control_checkNode_l0), .b 1, .c c_control_checkNode_k1, .b 0, .c c_control_checkNode_k2] .normal ⟨e, ⟨[], 0⟩⟩ = some (.val (.int .i64 (nodeV us (.mk k t c a b)))) := by
  have hc := contains_map (fun y : Int => y) t us
  rw [List.map_id'] at hc
  refine (loop_any us (fun y => decide (y = t)) (some (Rt.val (.int .i64 7))) (some (Rt.val (.int .i64 (if k = 1 ∧ 0 < a.length + b.length then 5 else 0))))
    (fun i e H => look 4 e = some (.iptr 5 [ControlNode.c (.mk k t c a b)] 0 0) ∧ look 27 e = some (.slice 1 (us.map cI)) ∧ look 28 e = some (.int .i64 us.length) ∧ look 29 e = some (.int .i64 i) ∧ H = ⟨[], 0⟩) ?_ ?_ ?_ _ _ ⟨h4, h27, h28, h29, rfl⟩).trans ?_
  · rintro i e _ L hi hL ⟨h4, h27, h28, h29, rfl⟩ hb
    simp only [decide_eq_true_eq] at hb
    rw [ControlNode.e] at h4
    simp [c_control_checkNode_l0, cI, h4, h27, h28, h29, hi, hb]
  · rintro i e _ L X hi hL ⟨h4, h27, h28, h29, rfl⟩ hb ih
    have hw : IntKind.wrap .i64 ((i : Int) + 1) = ((i + 1 : Nat) : Int) := wrap64 (by omega) (by omega)
    simp only [decide_eq_false_iff_not] at hb
    rw [ControlNode.e] at h4
    simp [c_control_checkNode_l0, cI, h4, h27, h28, h29, hi, hb, hw]
    exact ih _ _ ⟨by simp [h4, ControlNode.e], by simp [h27], by simp [h28], by simp, rfl⟩
  · rintro e _ L hL ⟨h4, h27, h28, h29, rfl⟩
    rw [ControlNode.e] at h4
    have hw : IntKind.wrap .i64 ((a.length : Int) + b.length) = (a.length : Int) + b.length := wrap64 (by omega) (by omega)
    by_cases k1 : k = 1
    · by_cases z : 0 < a.length + b.length
      · have z' : (0 : Int) < (a.length : Int) + b.length := by omega
        simp [c_control_checkNode_l0, c_control_checkNode_k1, c_control_checkNode_k2, h4, h28, h29, hL, hw, k1, z, z']
      · have z' : ¬ (0 : Int) < (a.length : Int) + b.length := by omega
        have za : a.length = 0 := by omega
        have zb : b.length = 0 := by omega
        simp [c_control_checkNode_l0, c_control_checkNode_k1, c_control_checkNode_k2, h4, h28, h29, hL, k1, za, zb]
        rw [show IntKind.wrap .i64 0 = 0 by decide]
        simp [List.eq_nil_of_length_eq_zero za, List.eq_nil_of_length_eq_zero zb]
    · simp [c_control_checkNode_l0, c_control_checkNode_k1, c_control_checkNode_k2, h4, h28, h29, hL, k1]
  · unfold nodeV
    simp only [ControlNode.table_mk, ControlNode.kind_mk, ControlNode.thn_mk, ControlNode.els_mk, hc]
    cases us.any (fun y => decide (y = t)) <;> rfl
theorem nodeU_ok (p : Prg) (k t : Int) (c : List ExprNode) (a b : List ControlNode) (us : List Int) (ha : a.length < 2 ^ 40) (hb : b.length < 2 ^ 40) (hu : us.length < 2 ^ 40) :
    pureI Φ f_control_checkNode [.agg (Prg.c p), .agg (ControlNode.c (.mk k t c a b)), .slice 1 (us.map cI)] = some (.val (.int .i64 (nodeU p us (.mk k t c a b)))) := by
  rw [pureI_go (fn := c_control_checkNode) rfl rfl]
  have hV := nodeV_ok (p := p) k t c a b us ha hb hu
  simp only [ControlNode.e] at hV
  by_cases k1 : k = 1
  · by_cases t0 : t < 0
    · simp [c_control_checkNode, c_control_checkNode_k2, ControlNode.e, Prg.e, nodeU, k1, t0]
    by_cases t1 : (p.tables.length : Int) ≤ t
    · simp [c_control_checkNode, c_control_checkNode_k2, ControlNode.e, Prg.e, nodeU, k1, t0, t1]
    have e : nodeU p us (.mk k t c a b) = nodeV us (.mk k t c a b) := by simp [nodeU, nodeV, k1, t0, t1]
    rw [e]
    simp [c_control_checkNode, ControlNode.e, Prg.e, k1, t0, t1]
    rw [hV]
    all_goals simp [k1]
  by_cases k3 : k = 3
  · by_cases t0 : t < 0
    · simp [c_control_checkNode, c_control_checkNode_k2, ControlNode.e, Prg.e, nodeU, k3, t0]
    by_cases t1 : (p.tables.length : Int) ≤ t
    · simp [c_control_checkNode, c_control_checkNode_k2, ControlNode.e, Prg.e, nodeU, k3, t0, t1]
    have e : nodeU p us (.mk k t c a b) = nodeV us (.mk k t c a b) := by simp [nodeU, nodeV, k3, t0, t1]
    rw [e]
    simp [c_control_checkNode, ControlNode.e, Prg.e, k3, t0, t1]
    rw [hV]
    all_goals simp [k3]
  by_cases k2 : k = 2
  · have hx := exE_ok p [] c
    simp only [scC_e, List.map_nil] at hx
    by_cases z : (exE p [] c).2 = 0
    · rw [z] at hx
      by_cases y : (exE p [] c).1 = 1
      · rw [y] at hx
        simp [c_control_checkNode, c_control_checkNode_k2, ControlNode.e, Prg.e, nodeU, k2, hx, z, y]
      · simp [c_control_checkNode, c_control_checkNode_k2, ControlNode.e, Prg.e, nodeU, k2, hx, z, y]
    · simp [c_control_checkNode, c_control_checkNode_k2, ControlNode.e, Prg.e, nodeU, k2, hx, z]
  · simp [c_control_checkNode, c_control_checkNode_k2, ControlNode.e, Prg.e, nodeU, k1, k2, k3]
end Go.Av
