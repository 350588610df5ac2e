/-
 The examples of the laws of packet spaces, by computation.
-/
import Derived.Test.YtbhkkpfccfoioaaGreatFunsAH
import Derived.KernelRfl
set_option linter.unusedVariables false
set_option linter.unusedSimpArgs false
set_option linter.constructorNameAsVariable false
namespace Go.Av
set_option maxRecDepth 100000
theorem Ac:dK Φ MY []=some (.val (.bool true)):=Y6 (n:=400) (by kernel_rfl)
end Go.Av
