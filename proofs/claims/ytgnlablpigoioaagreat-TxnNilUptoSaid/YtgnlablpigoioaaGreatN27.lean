/-
  Fixed calls of the law TxnNil, by computation.
-/
import Derived.Test.YtgnlablpigoioaaGreatW27
import Derived.Test.YtgnlablpigoioaaGreatPVr
set_option linter.unusedVariables false
set_option linter.unusedSimpArgs false
set_option linter.constructorNameAsVariable false
namespace Go.Av
set_option maxRecDepth 100000
def aggOf : Option Rt → List AV
  | some (.val (.agg c)) => c
  | _ => []
def pc27 : List AV := aggOf (pureRt (evF Φ 50 f_law27_program [] H0))
def cc27 : List AV := aggOf (pureRt (evF Φ 50 f_store_EmptyConfig [.agg pc27] H0))
theorem program27 : pureI Φ f_law27_program [] = some (.val (.agg pc27)) := pureI_of_ev2 (n := 50) (by kernel_rfl)
theorem empty27 : pureI Φ f_store_EmptyConfig [.agg pc27] = some (.val (.agg cc27)) := pureI_of_ev2 (n := 50) (by kernel_rfl)
theorem pc27_length : pc27.length = 9 := by kernel_rfl
theorem cc27_length : cc27.length = 4 := by kernel_rfl
def op27 : List AV := [.int .i64 4, .int .i64 0, .int .i64 0, .slice 2 [], .int .i64 0, .int .i64 0, .slice 1 [], .int .i64 0, .slice 1 []]
def okA (m : Nat) : Option Rt → Bool
  | some (.val (.tup [.agg c, .slice 1 ids, .int .i64 a, .int .i64 e])) => c.length == 4 && (if m ≤ 64 then ids.length == m && decide (a = 0) && decide (e = 0) else ids.length == 0 && decide (a = -1) && decide (e = 12))
  | _ => false
def ApplyOk (m : Nat) : Prop := ∃ c ids a e, pureI Φ f_txn_Apply [.agg pc27, .agg cc27, .slice 9 (List.replicate m op27)] = some (.val (.tup [.agg c, .slice 1 ids, .int .i64 a, .int .i64 e])) ∧ c.length = 4 ∧ (if m ≤ 64 then ids.length = m ∧ a = 0 ∧ e = 0 else ids.length = 0 ∧ a = -1 ∧ e = 12)
theorem ApplyOk_of {m n : Nat} (h : okA m (pureRt (evF Φ n f_txn_Apply [.agg pc27, .agg cc27, .slice 9 (List.replicate m op27)] H0)) = true) : ApplyOk m := by
  unfold okA at h
  split at h
  · rename_i c ids a e heq
    refine ⟨c, ids, a, e, pureI_of_ev2 heq, ?_⟩
    simp only [Bool.and_eq_true, beq_iff_eq] at h
    refine ⟨h.1, ?_⟩
    have h2 := h.2
    split at h2
    · rename_i hm
      simp only [Bool.and_eq_true, beq_iff_eq, decide_eq_true_eq] at h2
      rw [if_pos hm]; exact ⟨h2.1.1, h2.1.2, h2.2⟩
    · rename_i hm
      simp only [Bool.and_eq_true, beq_iff_eq, decide_eq_true_eq] at h2
      rw [if_neg hm]; exact ⟨h2.1.1, h2.1.2, h2.2⟩
  · cases h
theorem apply60 : ApplyOk 60 := ApplyOk_of (n := 300) (by kernel_rfl)
theorem apply61 : ApplyOk 61 := ApplyOk_of (n := 300) (by kernel_rfl)
theorem apply62 : ApplyOk 62 := ApplyOk_of (n := 300) (by kernel_rfl)
theorem apply63 : ApplyOk 63 := ApplyOk_of (n := 300) (by kernel_rfl)
theorem apply64 : ApplyOk 64 := ApplyOk_of (n := 300) (by kernel_rfl)
theorem apply65 : ApplyOk 65 := ApplyOk_of (n := 300) (by kernel_rfl)
theorem apply66 : ApplyOk 66 := ApplyOk_of (n := 300) (by kernel_rfl)
theorem apply67 : ApplyOk 67 := ApplyOk_of (n := 300) (by kernel_rfl)
end Go.Av
