/-
  The law FabricProgram, by computation.
-/
import Derived.Test.YtdgpefplgldkfaaGreatFunsAZ
import Derived.KernelRfl
set_option linter.unusedVariables false
set_option linter.unusedSimpArgs false
set_option linter.constructorNameAsVariable false
namespace Go.Av
set_option maxRecDepth 100000
theorem FabricProgram_all : pureI Φ f_law46_FabricProgram [] = some (.val (.bool true)) := pureI_of_ev (n := 400) (by kernel_rfl)
end Go.Av
