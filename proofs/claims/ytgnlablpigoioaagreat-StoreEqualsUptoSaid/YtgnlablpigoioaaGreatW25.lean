/-
  The fixed results of the laws of the store, by computation.
-/
import Derived.Test.YtgnlablpigoioaaGreatFunsAS
import Derived.KernelRfl
set_option linter.unusedVariables false
set_option linter.unusedSimpArgs false
set_option linter.constructorNameAsVariable false
namespace Go.Av
set_option maxRecDepth 100000
theorem awake25 : pureI Φ f_law25_awake [] = some (.val (.bool true)) := pureI_of_ev (n := 300) (by kernel_rfl)
end Go.Av
