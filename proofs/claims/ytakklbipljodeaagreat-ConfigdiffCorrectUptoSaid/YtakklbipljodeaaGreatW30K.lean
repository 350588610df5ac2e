/-
 The fixed results of the laws of differences, by computation.
-/
import Derived.Test.YtakklbipljodeaaGreatFunsAK
import Derived.KernelRfl
set_option linter.unusedVariables false
set_option linter.unusedSimpArgs false
set_option linter.constructorNameAsVariable false
namespace Go.Av
set_option maxRecDepth 100000
theorem qnm:qab Φ f_39 []=some (.val (.bool true)):=qn1 (n:=300) (by kernel_rfl)
end Go.Av
