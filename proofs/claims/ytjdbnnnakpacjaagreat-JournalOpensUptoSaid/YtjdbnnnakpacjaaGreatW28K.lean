/-
 The fixed results of the law of the journal, by computation.
-/
import Derived.Test.YtjdbnnnakpacjaaGreatFunsAU
import Derived.KernelRfl
namespace Go.Av
set_option maxRecDepth 100000
theorem RN:a9 Φ NI []=some (.val (.bool true)):=qxf (n:=1000) (by kernel_rfl)
end Go.Av
