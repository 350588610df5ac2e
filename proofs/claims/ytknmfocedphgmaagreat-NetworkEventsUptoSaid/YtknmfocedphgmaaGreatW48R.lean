/-
 The law's fixed example.
-/
import Derived.Test.YtknmfocedphgmaaGreatFunsAR
import Derived.KernelRfl
set_option linter.unusedVariables false
set_option linter.unusedSimpArgs false
set_option linter.constructorNameAsVariable false
namespace Go.Av
theorem qjs:qac Φ f_8 []=some (.val (.bool true)):=qsh (n:=200) (by kernel_rfl)
end Go.Av
