/-
 works of law 26, by the kernel.
-/
import Derived.Test.YtcehjengeaafpaaGreatFunsAM
set_option linter.all false
namespace Go.Av
set_option maxRecDepth 100000
theorem Oh:a8 Φ 12 []=some (.val (.bool true)):=XO (n:=200) (by kernel_rfl)
end Go.Av
