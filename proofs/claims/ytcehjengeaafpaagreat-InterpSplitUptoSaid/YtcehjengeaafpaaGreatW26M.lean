/-
 works of law 26, by the kernel.
-/
import Derived.Test.YtcehjengeaafpaaGreatFunsAM
set_option linter.unusedVariables false
set_option linter.unusedSimpArgs false
set_option linter.constructorNameAsVariable false
namespace Go.Av
set_option maxRecDepth 100000
theorem Y3:aB Φ zO []=some (.val (.bool true)):=Zn (n:=200) (by kernel_rfl)
end Go.Av
