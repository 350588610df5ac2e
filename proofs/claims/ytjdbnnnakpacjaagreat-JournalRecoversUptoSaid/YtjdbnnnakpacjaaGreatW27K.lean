/-
  The fixed results of the laws of transactions, by computation.
-/
import Derived.Test.YtjdbnnnakpacjaaGreatFunsAU
import Derived.KernelRfl
set_option linter.unusedVariables false
set_option linter.unusedSimpArgs false
set_option linter.constructorNameAsVariable false
namespace Go.Av
set_option maxRecDepth 100000
theorem works27 : pureI Φ f_law27_works [] = some (.val (.bool true)) := pureI_of_ev (n := 300) (by kernel_rfl)
end Go.Av
