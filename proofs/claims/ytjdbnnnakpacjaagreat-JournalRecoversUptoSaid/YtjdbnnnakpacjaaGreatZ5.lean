/-
  Lemmas for the law.
-/
import Derived.Test.YtjdbnnnakpacjaaGreatZ4
set_option linter.unusedVariables false
set_option linter.unusedSimpArgs false
set_option linter.constructorNameAsVariable false
namespace Go.Av
set_option maxRecDepth 4000
theorem equiv_symm (a b : Config) : equiv b a = equiv a b := by
  unfold equiv
  rw [decide_eq_decide.2 (eq_comm (a := enRR b.rows)), decide_eq_decide.2 (eq_comm (a := b.defaults)), decide_eq_decide.2 (eq_comm (a := b.registers))]
theorem equiv_refl (a : Config) : equiv a a = true := by simp [equiv]
end Go.Av
