/-
  The check of the control flow: the reference's answer.
-/
import Derived.Test.YtjdbnnnakpacjaaGreatL8
set_option linter.unusedVariables false
set_option linter.unusedSimpArgs false
set_option linter.constructorNameAsVariable false
namespace Go.Av
set_option maxRecDepth 4000
theorem rapplies_ok (k t : Int) (c : List ExprNode) (a b : List ControlNode) : pureI Φ f_ref20_applies [.agg (ControlNode.c (.mk k t c a b))] = some (.val (.bool (appl (.mk k t c a b)))) := by
  rw [pureI_go (fn := c_ref20_applies) rfl rfl]
  by_cases k1 : k = 1
  · simp [c_ref20_applies, ControlNode.e, appl, k1]
  · simp [c_ref20_applies, ControlNode.e, appl, k1]
theorem before_ok (l : List ControlNode) (i : Nat) (hi : i < l.length) (hl : l.length < 2 ^ 40) : pureI Φ f_ref20_appliedBefore [.slice 5 (l.map ControlNode.c), .int .i64 i] = some (.val (.bool ((l.take i).any fun y => appl y && decide (y.table = l[i].table)))) := by
  rw [pureI_go (fn := c_ref20_appliedBefore) rfl rfl]
  generalize hX : some (Rt.val (.bool ((l.take i).any fun y => appl y && decide (y.table = l[i].table)))) = X
  simp [c_ref20_appliedBefore]
  refine (loop_any (l.take i) (fun y => appl y && decide (y.table = l[i].table)) (some (Rt.val (.bool true))) (some (Rt.val (.bool false)))
    (fun k e H => look 0 e = some (.slice 5 (l.map ControlNode.c)) ∧ look 1 e = some (.int .i64 i) ∧ look 5 e = some (.int .i64 k) ∧ H = ⟨[], 0⟩) ?_ ?_ ?_ _ _ ?_).trans ?_
  · rintro j e _ L hk hL ⟨h0, h1, h5, rfl⟩ hb
    simp only [List.length_take] at hk
    have hk1 : j < i := by omega
    have hk2 : j < l.length := by omega
    simp only [List.getElem_take, Bool.and_eq_true, decide_eq_true_eq] at hb
    obtain ⟨k, t, c, a, b, hx⟩ := node_mk l[j]
    obtain ⟨k', t', c', a', b', hx'⟩ := node_mk l[i]
    have ha := rapplies_ok k t c a b
    rw [hx, hx'] at hb
    simp only [ControlNode.table_mk] at hb
    obtain ⟨hb1, hb2⟩ := hb
    subst hb2
    rw [hb1] at ha
    simp only [ControlNode.e] at ha
    simp [c_ref20_appliedBefore_l0, h0, h1, h5, hk1, hk2, hi, hx, hx', ControlNode.e, ha]
  · rintro j e _ L X hk hL ⟨h0, h1, h5, rfl⟩ hb ih
    simp only [List.length_take] at hk
    have hk1 : j < i := by omega
    have hk2 : j < l.length := by omega
    have hw : IntKind.wrap .i64 ((j : Int) + 1) = ((j + 1 : Nat) : Int) := wrap64 (by omega) (by omega)
    simp only [List.getElem_take] at hb
    obtain ⟨k, t, c, a, b, hx⟩ := node_mk l[j]
    obtain ⟨k', t', c', a', b', hx'⟩ := node_mk l[i]
    have ha := rapplies_ok k t c a b
    rw [hx, hx'] at hb
    simp only [ControlNode.table_mk] at hb
    cases q : appl (.mk k t c a b) with
    | false =>
      rw [q] at ha
      simp only [ControlNode.e] at ha
      simp [c_ref20_appliedBefore_l0, h0, h1, h5, hk1, hk2, hx, ControlNode.e, ha, hw]
      exact ih _ _ ⟨by simp [h0], by simp [h1], by simp, rfl⟩
    | true =>
      rw [q] at ha hb
      simp only [ControlNode.e] at ha
      simp only [Bool.true_and, decide_eq_false_iff_not] at hb
      simp [c_ref20_appliedBefore_l0, h0, h1, h5, hk1, hk2, hi, hx, hx', ControlNode.e, ha, hb, hw]
      exact ih _ _ ⟨by simp [h0], by simp [h1], by simp, rfl⟩
  · rintro e _ L hL ⟨h0, h1, h5, rfl⟩
    have hm : min i l.length = i := by omega
    simp [hm] at h5
    simp [c_ref20_appliedBefore_l0, c_ref20_appliedBefore_k1, h1, h5, hL]
  · simp
  · rw [← hX]
    cases (l.take i).any (fun y => appl y && decide (y.table = l[i].table)) <;> rfl
theorem rnodeE_ok (p : Prg) (l : List ControlNode) (i : Nat) (hi : i < l.length) (hl : l.length < 2 ^ 40) (hc : l[i].thn.length < 2 ^ 40 ∧ l[i].els.length < 2 ^ 40) : pureI Φ f_ref20_checkNode [.agg (Prg.c p), .slice 5 (l.map ControlNode.c), .int .i64 i] = some (.val (.int .i64 (nodeE p (l.take i) l[i]))) := by
  rw [pureI_go (fn := c_ref20_checkNode) rfl rfl]
  have hb := before_ok l i hi hl
  obtain ⟨k, t, c, a, b, hx⟩ := node_mk l[i]
  rw [hx] at hc hb ⊢
  simp only [ControlNode.thn_mk, ControlNode.els_mk] at hc
  have hab : IntKind.wrap .i64 ((a.length : Int) + b.length) = (a.length : Int) + b.length := wrap64 (by omega) (by omega)
  by_cases k0 : k < 1
  · rw [show nodeE p (l.take i) (.mk k t c a b) = 11 by simp [nodeE, show ¬ k = 2 by omega, show ¬ k = 1 by omega, show ¬ k = 3 by omega]]
    simp [c_ref20_checkNode, hi, hx, ControlNode.e, Prg.e, k0]
  by_cases k4 : 3 < k
  · rw [show nodeE p (l.take i) (.mk k t c a b) = 11 by simp [nodeE, show ¬ k = 2 by omega, show ¬ k = 1 by omega, show ¬ k = 3 by omega]]
    simp [c_ref20_checkNode, hi, hx, ControlNode.e, Prg.e, k0, k4]
  by_cases k2 : k = 2
  · have he := rexE_ok p [] c
    simp only [scC_e, List.map_nil] at he
    by_cases z : (exE p [] c).2 = 0
    · rw [z] at he
      by_cases y : (exE p [] c).1 = 1
      · rw [y] at he
        simp [c_ref20_checkNode, hi, hx, ControlNode.e, Prg.e, k2, nodeE, he, z, y]
      · simp [c_ref20_checkNode, hi, hx, ControlNode.e, Prg.e, k2, nodeE, he, z, y]
    · simp [c_ref20_checkNode, hi, hx, ControlNode.e, Prg.e, k2, nodeE, he, z]
  have k13 : k = 1 ∨ k = 3 := by omega
  by_cases t0 : t < 0
  · rw [show nodeE p (l.take i) (.mk k t c a b) = 8 by simp [nodeE, k2, k13, t0]]
    simp [c_ref20_checkNode, hi, hx, ControlNode.e, Prg.e, k0, k4, k2, t0]
  by_cases t1 : (p.tables.length : Int) ≤ t
  · rw [show nodeE p (l.take i) (.mk k t c a b) = 8 by simp [nodeE, k2, k13, t0, t1]]
    simp [c_ref20_checkNode, hi, hx, ControlNode.e, Prg.e, k0, k4, k2, t0, t1]
  cases q : (l.take i).any (fun y => appl y && decide (y.table = (ControlNode.mk k t c a b).table)) with
  | true =>
    rw [q] at hb
    have e : nodeE p (l.take i) (.mk k t c a b) = 7 := by
      unfold nodeE
      rw [q]
      simp [k2, k13, t0, t1]
    rw [e]
    simp [c_ref20_checkNode, hi, hx, ControlNode.e, Prg.e, k0, k4, k2, t0, t1, hb]
  | false =>
    rw [q] at hb
    have e : nodeE p (l.take i) (.mk k t c a b) = if k = 1 ∧ 0 < a.length + b.length then 5 else 0 := by
      unfold nodeE
      rw [q]
      simp [k2, k13, t0, t1]
    rw [e]
    by_cases k1 : k = 1
    · by_cases z : 0 < a.length + b.length
      · have z' : (0 : Int) < (a.length : Int) + b.length := by omega
        simp [c_ref20_checkNode, hi, hx, ControlNode.e, Prg.e, k1, t0, t1, hb, hab, z, z']
        first
          | done
          | (intro h; simp [h] at z; omega)
      · have za : a.length = 0 := by omega
        have zb : b.length = 0 := by omega
        simp [c_ref20_checkNode, hi, hx, ControlNode.e, Prg.e, k1, t0, t1, hb, za, zb]
        rw [show IntKind.wrap .i64 0 = 0 by decide]
        simp [List.eq_nil_of_length_eq_zero za, List.eq_nil_of_length_eq_zero zb]
    · simp [c_ref20_checkNode, hi, hx, ControlNode.e, Prg.e, k0, k4, k2, k1, t0, t1, hb]
mutual
theorem pre1_kids : ∀ (x : ControlNode) (n : Nat), (pre1 x).length ≤ n → ∀ y ∈ pre1 x, y.thn.length ≤ n ∧ y.els.length ≤ n
  | .mk k t c a b, n, h, y, hy => by
    rw [pre1_mk] at h hy
    simp at h
    have ha := pre_len a
    have hb := pre_len b
    rcases List.mem_cons.1 hy with rfl | hy
    · simp; omega
    · rcases List.mem_append.1 hy with hy | hy
      · exact pre_kids a n (by omega) y hy
      · exact pre_kids b n (by omega) y hy
theorem pre_kids : ∀ (l : List ControlNode) (n : Nat), (pre l).length ≤ n → ∀ y ∈ pre l, y.thn.length ≤ n ∧ y.els.length ≤ n
  | [], n, h, y, hy => by simp [pre] at hy
  | x :: r, n, h, y, hy => by
    rw [pre] at h hy
    simp at h
    rcases List.mem_append.1 hy with hy | hy
    · exact pre1_kids x n (by omega) y hy
    · exact pre_kids r n (by omega) y hy
end
theorem rctlE_ok (p : Prg) (hl : (pre p.control).length < 2 ^ 40 - 1) : pureI Φ f_ref20_Check [.agg (Prg.c p)] = some (.val (.tup [.int .i64 (ctlE p).1, .int .i64 (ctlE p).2])) := by
  rw [pureI_go (fn := c_ref20_Check) rfl rfl]
  have hc := rcount_ok _ p.control (Nat.le_refl _) (by omega)
  have hn := rnest_ok _ p.control (Nat.le_refl _) (by omega)
  by_cases z1 : 24 < (pre p.control).length
  · simp [c_ref20_Check, Prg.e, hc, ctlE, z1]
  by_cases z2 : 6 < nest p.control
  · simp [c_ref20_Check, Prg.e, hc, hn, ctlE, z1, z2]
  have hE : ctlE p = (fe (ctlG p (pre p.control)) (pre p.control).length 0).getD (0, 0) := by unfold ctlE; rw [if_neg z1, if_neg z2]; rfl
  have hp := preorder_ok _ p.control (Nat.le_refl _) (by omega)
  rw [hE]
  simp [c_ref20_Check, Prg.e, hc, hn, hp, z1, z2]
  refine loop_nat0 (pre p.control).length (fun i e => look 1 e = some (.iptr 9 [Prg.c p] 0 0) ∧ look 4 e = some (.slice 5 ((pre p.control).map ControlNode.c)) ∧ look 5 e = some (.int .i64 i))
    (fun i => some (Rt.val (.tup [.int .i64 ((fe (ctlG p (pre p.control)) (pre p.control).length i).getD (0, 0)).1, .int .i64 ((fe (ctlG p (pre p.control)) (pre p.control).length i).getD (0, 0)).2]))) ?_ ?_ 0 _ (Nat.zero_le _) ?_
  · rintro i e L hi hL ⟨h1, h4, h5⟩ ih
    have hw : IntKind.wrap .i64 ((i : Int) + 1) = ((i + 1 : Nat) : Int) := wrap64 (by omega) (by omega)
    have hk := pre_kids p.control 24 (by omega) _ (List.getElem_mem hi)
    have hE := rnodeE_ok p (pre p.control) i hi (by omega) ⟨by omega, by omega⟩
    simp only [Prg.e] at hE
    rw [Prg.e] at h1
    by_cases y : nodeE p ((pre p.control).take i) (pre p.control)[i] = 0
    · rw [y] at hE
      rw [fe_miss hi (by simp [ctlG, hi, y])]
      simp [c_ref20_Check_l0, h1, h4, h5, hi, hE, hw]
      exact ih _ ⟨by simp [h1, Prg.e], by simp [h4], by simp⟩
    · rw [fe_hit (x := ((i : Int), nodeE p ((pre p.control).take i) (pre p.control)[i])) hi (by simp [ctlG, hi, y])]
      simp [c_ref20_Check_l0, h1, h4, h5, hi, hE, y]
  · rintro e L hL ⟨h1, h4, h5⟩
    rw [fe_end]
    simp [c_ref20_Check_l0, c_ref20_Check_k1, h4, h5, hL]
  · simp [Prg.e]
end Go.Av
