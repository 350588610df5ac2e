/-
  Calls by computation, whatever the result.
-/
import Derived.Test.YtgnlablpigoioaaGreatAvC
set_option linter.unusedVariables false
set_option linter.unusedSimpArgs false
set_option linter.constructorNameAsVariable false
namespace Go.Av
theorem pureI_of_ev2 {Φ : FuncId → Option AFun} {f : FuncId} {as : List AV} {n : Nat} {r : Rt} (h : pureRt (evF Φ n f as H0) = some r) : pureI Φ f as = some r := by
  unfold pureI
  cases hc : evF Φ n f as H0 with
  | none => rw [hc] at h; cases h
  | some p => rw [callI_of Φ hc, ← hc]; exact h
end Go.Av
