/-
 The fixed results of the laws of the store, by computation.
-/
import Derived.Test.YtknmfocedphgmaaGreatFunsAR
import Derived.KernelRfl
set_option linter.unusedVariables false
set_option linter.unusedSimpArgs false
set_option linter.constructorNameAsVariable false
namespace Go.Av
set_option maxRecDepth 100000
end Go.Av
