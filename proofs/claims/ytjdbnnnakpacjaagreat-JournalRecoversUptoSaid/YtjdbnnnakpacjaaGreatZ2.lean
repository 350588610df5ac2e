/-
  Towards TxnInverse: equal lists of operations.
-/
import Derived.Test.YtjdbnnnakpacjaaGreatZ1
set_option linter.unusedVariables false
set_option linter.unusedSimpArgs false
set_option linter.constructorNameAsVariable false
namespace Go.Av
set_option maxRecDepth 4000
theorem TableOp.eq_iff (x y : TableOp) : x = y ↔ x.kind = y.kind ∧ x.table = y.table ∧ x.id = y.id ∧ x.entry = y.entry ∧ x.call = y.call := by
  cases x; cases y; simp
theorem rEqualOps_ok (l m : List TableOp) (hl : l.length < 2 ^ 40) (ho : ∀ o ∈ l, OpS o) : pureI Φ f_ref27_EqualOps [.slice 9 (l.map TableOp.c), .slice 9 (m.map TableOp.c)] = some (.val (.bool (decide (l = m)))) := by
  rw [pureI_go (fn := c_ref27_EqualOps) rfl rfl]
  by_cases q : l.length = m.length
  rotate_left
  · have : l ≠ m := fun h => q (congrArg List.length h)
    simp [c_ref27_EqualOps, q, this]
  generalize hR : decide (l = m) = R
  simp [c_ref27_EqualOps, q]
  refine loop_nat l.length (fun i e h => (∃ O N, h = ⟨O, N⟩ ∧ Tail O N) ∧ l.take i = m.take i ∧ look 0 e = some (.slice 9 (l.map TableOp.c)) ∧ look 1 e = some (.slice 9 (m.map TableOp.c)) ∧ look 5 e = some (.int .i64 i)) (fun _ => some (Rt.val (.bool R))) ?_ ?_ 0 _ _ (Nat.zero_le _) ?_
  · rintro i e _ L hi hL ⟨⟨O, N, rfl, hT⟩, he, h0, h1, h5⟩ ih
    have hj : i < m.length := by omega
    have hw : IntKind.wrap .i64 ((i : Int) + 1) = ((i + 1 : Nat) : Int) := wrap64 (by omega) (by omega)
    have oi := ho _ (List.getElem_mem hi)
    have k1 := rEqual_ok l[i].entry m[i].entry ⟨oi.e.kl, oi.e.al⟩
    have k2 := rCalls_ok l[i].call m[i].call oi.c.al
    simp only [Entry.ce] at k1
    simp only [ActionCall.ce] at k2
    have t0 : ∀ k, look (N + k) O = none := fun k => hT (N + k) (by omega)
    have t1 := hT N (Nat.le_refl _)
    have b1 : (N + 1 == N) = false := by simp
    have b2 : (N == N + 1) = false := by simp
    have l6 : ∀ x y : List AV, look (N + 6) (O ++ [(N + 6, AO.row 9 [x]), (N + 7, AO.row 9 [y])]) = some (.row 9 [x]) := fun x y => by simp [t0]
    have l7 : ∀ x y : List AV, look (N + 7) (O ++ [(N + 6, AO.row 9 [x]), (N + 7, AO.row 9 [y])]) = some (.row 9 [y]) := fun x y => by simp [t0]
    have s6 : ∀ x y : List AV, look (N + 6) (sweepL (O ++ [(N + 6, AO.row 9 [x]), (N + 7, AO.row 9 [y])])) = some (.row 9 [x]) := fun x y => by rw [lk_sweep (by rw [l6]; simp), l6]
    have s7 : ∀ x y : List AV, look (N + 7) (sweepL (O ++ [(N + 6, AO.row 9 [x]), (N + 7, AO.row 9 [y])])) = some (.row 9 [y]) := fun x y => by rw [lk_sweep (by rw [l7]; simp), l7]
    by_cases z : l[i] = m[i]
    · obtain ⟨y1, y2, y3, y4, y5⟩ := (TableOp.eq_iff _ _).1 z
      have he' : l.take (i + 1) = m.take (i + 1) := by
        rw [List.take_succ_eq_append_getElem hi, List.take_succ_eq_append_getElem hj, he, z]
      rw [decide_eq_true y4] at k1
      rw [decide_eq_true y5] at k2
      simp [c_ref27_EqualOps_l0, TableOp.ce2, h0, h1, h5, hi, hj, t0, k1, k2, y1, y2, y3, b1, b2, s6, s7, hw]
      refine ih _ _ ⟨⟨_, _, rfl, ?_⟩, he', by simp [h0], by simp [h1], by simp⟩
      refine Tail_sweep2 fun j hj => ?_
      rw [lk_app, hT j (by omega)]
      have hj' : N + 8 ≤ j := by first | exact hj | (simp at hj; omega)
      have n6 : ¬ N + 6 = j := by omega
      have n7 : ¬ N + 7 = j := by omega
      simp [look, n6, n7]
    · have hf : R = false := by
        rw [← hR]
        simp only [decide_eq_false_iff_not]
        intro e
        subst e
        exact z rfl
      rw [hf]
      rw [TableOp.eq_iff] at z
      by_cases y1 : l[i].kind = m[i].kind
      rotate_left
      · simp [c_ref27_EqualOps_l0, TableOp.ce2, h0, h1, h5, hi, hj, t0, y1, b1, b2, s6, s7]
      by_cases y2 : l[i].table = m[i].table
      rotate_left
      · simp [c_ref27_EqualOps_l0, TableOp.ce2, h0, h1, h5, hi, hj, t0, y1, y2, b1, b2, s6, s7]
      by_cases y3 : l[i].id = m[i].id
      rotate_left
      · simp [c_ref27_EqualOps_l0, TableOp.ce2, h0, h1, h5, hi, hj, t0, y1, y2, y3, b1, b2, s6, s7]
      by_cases y4 : l[i].entry = m[i].entry
      rotate_left
      · rw [decide_eq_false y4] at k1
        simp [c_ref27_EqualOps_l0, TableOp.ce2, h0, h1, h5, hi, hj, t0, y1, y2, y3, k1, b1, b2, s6, s7]
      have y5 : ¬ l[i].call = m[i].call := fun h => z ⟨y1, y2, y3, y4, h⟩
      rw [decide_eq_true y4] at k1
      rw [decide_eq_false y5] at k2
      simp [c_ref27_EqualOps_l0, TableOp.ce2, h0, h1, h5, hi, hj, t0, y1, y2, y3, k1, k2, b1, b2, s6, s7]
  · rintro e _ L hL ⟨⟨O, N, rfl, hT⟩, he, h0, h1, h5⟩
    have hf : R = true := by
      rw [← hR]
      simp only [decide_eq_true_eq]
      rw [List.take_length, q, List.take_length] at he
      exact he
    rw [hf]
    simp [c_ref27_EqualOps_l0, c_ref27_EqualOps_k1, h0, h5, hL, q]
  · exact ⟨⟨[], 0, rfl, Tail.nil 0⟩, by simp, by simp, by simp, by simp⟩
end Go.Av
