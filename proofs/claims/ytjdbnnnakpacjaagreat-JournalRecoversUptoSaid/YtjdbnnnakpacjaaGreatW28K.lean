/-
 The fixed results of the law of the journal, by computation.
-/
import Derived.Test.YtjdbnnnakpacjaaGreatFunsAU
import Derived.KernelRfl
set_option linter.unusedVariables false
set_option linter.unusedSimpArgs false
set_option linter.constructorNameAsVariable false
namespace Go.Av
set_option maxRecDepth 100000
theorem qng:qad Φ f_19 []=some (.val (.bool true)):=qv1 (n:=1000) (by kernel_rfl)
end Go.Av
