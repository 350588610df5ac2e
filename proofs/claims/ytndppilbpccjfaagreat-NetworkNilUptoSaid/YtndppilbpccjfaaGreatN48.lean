/-
  The law NetworkNil: nothing hangs on its arguments.
-/
import Derived.Test.YtndppilbpccjfaaGreatFunsAN
import Derived.KernelRfl
import Derived.Test.YtndppilbpccjfaaGreatAvD
set_option linter.unusedVariables false
set_option linter.unusedSimpArgs false
set_option linter.constructorNameAsVariable false
namespace Go.Av
set_option maxRecDepth 100000
theorem nil_any (a b : Int) (d : List (List AV)) : pureI Φ f_law48_NetworkNil [.int .i64 a, .int .i64 b, .slice 1 d] = some (.val (.bool true)) := pureI_of_ev (n := 1000) (by kernel_rfl)
theorem NetworkNil_all (a b : Int) (d : List Int) (_ : okI bulkMax a) (_ : okI bulkMax b) (_ : okL bulkMax (ok8 bulkMax) d) : pureI Φ f_law48_NetworkNil [.int .i64 a, .int .i64 b, .slice 1 (d.map c8)] = some (.val (.bool true)) := nil_any a b _
end Go.Av
