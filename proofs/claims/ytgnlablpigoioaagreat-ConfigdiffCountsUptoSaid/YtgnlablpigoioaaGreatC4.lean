/-
  Lemmas for the law.
-/
import Derived.Test.YtgnlablpigoioaaGreatC3
set_option linter.unusedVariables false
set_option linter.unusedSimpArgs false
set_option linter.constructorNameAsVariable false
namespace Go.Av
set_option maxRecDepth 4000
theorem cnt_sum : ∀ l : List TableOp, cnt l 0 + cnt l 1 + cnt l 2 + cnt l 3 + cnt l 4 = l.length
  | [] => rfl
  | x :: l => by
    have ih := cnt_sum l
    unfold cnt at ih ⊢
    have := kd_cases x
    rcases kd_cases x with ⟨k1, k2⟩ | ⟨k1, k2⟩ | ⟨k1, k2⟩ | ⟨k1, k2⟩ | ⟨k1, k3, k4, k2⟩ | ⟨k1, k3, k4, k5, k2⟩ <;> simp [List.filter_cons, k2] <;> omega
theorem smallOps_len {l : List TableOp} (h : smallOps l = true) : l.length ≤ 80 := by
  unfold smallOps at h
  simp at h
  exact h.1
theorem ConfigdiffCounts_ok (l : List TableOp) : pureI Φ f_law30_ConfigdiffCounts [.slice 9 (l.map TableOp.c)] = some (.val (.bool true)) := by
  rw [pureI_go (fn := c_law30_ConfigdiffCounts) rfl rfl]
  cases h : smallOps l with
  | false => simp [c_law30_ConfigdiffCounts, SmallOps_ok, works30, h]
  | true =>
    have hl := smallOps_len h
    have hs := cnt_sum l
    have w1 : IntKind.wrap .i64 ((cnt l 0 : Int) + cnt l 1) = ((cnt l 0 + cnt l 1 : Nat) : Int) := wrap64 (by omega) (by omega)
    have w2 : IntKind.wrap .i64 (((cnt l 0 + cnt l 1 : Nat) : Int) + cnt l 2) = ((cnt l 0 + cnt l 1 + cnt l 2 : Nat) : Int) := wrap64 (by omega) (by omega)
    have w3 : IntKind.wrap .i64 (((cnt l 0 + cnt l 1 + cnt l 2 : Nat) : Int) + cnt l 3) = ((cnt l 0 + cnt l 1 + cnt l 2 + cnt l 3 : Nat) : Int) := wrap64 (by omega) (by omega)
    have w4 : IntKind.wrap .i64 (((cnt l 0 + cnt l 1 + cnt l 2 + cnt l 3 : Nat) : Int) + cnt l 4) = ((l.length : Nat) : Int) := by rw [← hs]; exact wrap64 (by omega) (by omega)
    simp [c_law30_ConfigdiffCounts, SmallOps_ok, works30, h, CountByKind_ok, rCountByKind_ok, hl, cnts, w1, w2, w3, w4, -Int.natCast_add]
theorem ConfigdiffCounts_all {B : Nat} (l : List TableOp) (_ : okL B (TableOp.Ok B) l) : pureI Φ f_law30_ConfigdiffCounts [.slice 9 (l.map TableOp.c)] = some (.val (.bool true)) := ConfigdiffCounts_ok l
end Go.Av
