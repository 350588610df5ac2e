/-
  Lemmas for the law.
-/
import Derived.Test.YtgnlablpigoioaaGreatFunsAD
import Derived.Test.YtgnlablpigoioaaGreatAvD
set_option linter.unusedVariables false
set_option linter.unusedSimpArgs false
set_option linter.constructorNameAsVariable false
namespace Go.Av
set_option maxRecDepth 4000
def kd (x : TableOp) : Nat := if 1 ≤ x.kind ∧ x.kind ≤ 4 then x.kind.toNat else 0
def cnt (l : List TableOp) (j : Nat) : Nat := (l.filter fun x => kd x == j).length
def cnts (l : List TableOp) : List AV := [.int .i64 (cnt l 0), .int .i64 (cnt l 1), .int .i64 (cnt l 2), .int .i64 (cnt l 3), .int .i64 (cnt l 4)]
theorem cnt_succ {l : List TableOp} {i : Nat} (hi : i < l.length) (j : Nat) : cnt (l.take (i + 1)) j = cnt (l.take i) j + if kd l[i] = j then 1 else 0 := by
  unfold cnt
  rw [List.take_succ_eq_append_getElem hi, List.filter_append, List.length_append]
  by_cases h : kd l[i] = j <;> simp [h]
theorem cnt_le (l : List TableOp) (j : Nat) : cnt l j ≤ l.length := List.length_filter_le _ _
theorem kd_cases (x : TableOp) : (x.kind = 1 ∧ kd x = 1) ∨ (x.kind = 2 ∧ kd x = 2) ∨ (x.kind = 3 ∧ kd x = 3) ∨ (x.kind = 4 ∧ kd x = 4) ∨ (¬ 1 ≤ x.kind ∧ x.kind < 1 ∧ ¬ x.kind > 4 ∧ kd x = 0) ∨ (1 ≤ x.kind ∧ ¬ x.kind < 1 ∧ ¬ x.kind ≤ 4 ∧ x.kind > 4 ∧ kd x = 0) := by
  unfold kd
  by_cases h : 1 ≤ x.kind ∧ x.kind ≤ 4
  · rw [if_pos h]; omega
  · rw [if_neg h]; omega
theorem cnt_wrap {l : List TableOp} (hl : l.length ≤ 80) {i : Nat} (hi : i < l.length) (j : Nat) : IntKind.wrap .i64 ((cnt (l.take i) j : Int) + 1) = ((cnt (l.take i) j + 1 : Nat) : Int) := by
  have := cnt_le (l.take i) j
  rw [List.length_take] at this
  exact wrap64 (by omega) (by omega)
theorem CountByKind_ok (l : List TableOp) (hl : l.length ≤ 80) : pureI Φ f_configdiff_CountByKind [.slice 9 (l.map TableOp.c)] = some (.val (.agg (cnts l))) := by
  rw [pureI_go (fn := c_configdiff_CountByKind) rfl rfl]
  simp [c_configdiff_CountByKind]
  refine loop_nat l.length (fun i e h => look 2 e = some (.ptr 0 5 0 0) ∧ look 3 e = some (.ptr 1 5 0 0) ∧ look 6 e = some (.slice 9 (l.map TableOp.c)) ∧ look 7 e = some (.int .i64 l.length) ∧ look 8 e = some (.int .i64 i) ∧
     HP [(0, AO.row 5 [cnts []]), (1, AO.row 5 [cnts (l.take i)])] 2 h) (fun _ => _) ?_ ?_ 0 _ _ (Nat.zero_le _) ?_
  · rintro i e _ L hi hL ⟨h2, h3, h6, h7, h8, T, n, hT, rfl⟩ ih
    have hw : IntKind.wrap .i64 ((i : Int) + 1) = ((i + 1 : Nat) : Int) := wrap64 (by omega) (by omega)
    have hT' := hT (n + 2) (Nat.le_refl _)
    have hc := cnt_wrap hl hi
    have hs := cnt_succ hi
    rcases kd_cases l[i] with ⟨k1, k2⟩ | ⟨k1, k2⟩ | ⟨k1, k2⟩ | ⟨k1, k2⟩ | ⟨k1, k3, k4, k2⟩ | ⟨k1, k3, k4, k5, k2⟩
    all_goals
      simp [c_configdiff_CountByKind_l0, TableOp.c, cnts, h2, h3, h6, h7, h8, hi, hL, hw, hT', hc, *]
      refine ih _ _ ⟨by simp [h2], by simp [h3], by simp [h6, TableOp.c], by simp [h7], by simp, ?_⟩
      simp only [cnts, hs, k2]
      exact HP.next hT
  · rintro e _ L hL ⟨h2, h3, h6, h7, h8, T, n, hT, rfl⟩
    simp [c_configdiff_CountByKind_l0, c_configdiff_CountByKind_k1, cnts, *]
  · simp [cnts, cnt]
    exact HP.mk
end Go.Av
