/-
  Lemmas for the law.
-/
import Derived.Test.YtdgpefplgldkfaaFunsA
import Derived.Test.YtdgpefplgldkfaaAvD
import Derived.KernelRfl
set_option linter.unusedVariables false
set_option linter.unusedSimpArgs false
set_option linter.constructorNameAsVariable false
namespace Go.Av
theorem works_ok : pureI Φ f_law46_works [] = some (.val (.bool true)) := pureI_of_ev (n := 200) (by kernel_rfl)
end Go.Av
