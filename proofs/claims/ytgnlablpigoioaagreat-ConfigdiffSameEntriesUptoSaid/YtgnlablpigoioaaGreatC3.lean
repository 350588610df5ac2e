/-
  Lemmas for the law.
-/
import Derived.Test.YtgnlablpigoioaaGreatC2
import Derived.KernelRfl
set_option linter.unusedVariables false
set_option linter.unusedSimpArgs false
set_option linter.constructorNameAsVariable false
namespace Go.Av
set_option maxRecDepth 4000
theorem works30 : pureI Φ f_law30_works [] = some (.val (.bool true)) := pureI_of_ev (n := 200) (by kernel_rfl)
end Go.Av
