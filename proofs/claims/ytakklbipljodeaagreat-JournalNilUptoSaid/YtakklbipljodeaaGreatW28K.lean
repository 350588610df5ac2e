/-
 The fixed results of the law of the journal, by computation.
-/
import Derived.Test.YtakklbipljodeaaGreatFunsAK
import Derived.KernelRfl
set_option linter.unusedVariables false
set_option linter.unusedSimpArgs false
set_option linter.constructorNameAsVariable false
namespace Go.Av
set_option maxRecDepth 100000
theorem works28 : pureI Φ f_law28_works [] = some (.val (.bool true)) := pureI_of_ev (n := 1000) (by kernel_rfl)
theorem empty_nil : pureI Φ f_law28_empty [.nilptr] = some (.val (.bool true)) := pureI_of_ev (n := 1000) (by kernel_rfl)
theorem empty_log : pureI Φ f_law28_empty [.iptr 16 [[.bool false, .str [], .slice 2 [], .slice 2 [], .slice 3 [], .slice 3 [], .slice 6 [], .slice 7 [], .slice 5 [], .slice 1 [], .slice 1 [], .slice 1 [], .slice 2 [], .slice 1 [], .slice 1 [], .int .i64 0]] 0 0] = some (.val (.bool true)) := pureI_of_ev (n := 1000) (by kernel_rfl)
end Go.Av
