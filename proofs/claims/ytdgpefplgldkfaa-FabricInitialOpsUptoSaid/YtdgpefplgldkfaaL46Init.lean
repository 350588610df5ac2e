/-
  Lemmas for the law.
-/
import Derived.Test.YtdgpefplgldkfaaT46b
import Derived.Test.YtdgpefplgldkfaaW46
set_option linter.unusedVariables false
set_option linter.unusedSimpArgs false
set_option linter.constructorNameAsVariable false
namespace Go.Av
theorem FabricInitialOps_all (x : Topology) (sw : Int) (_ : x.Ok bulkMax) (_ : okI bulkMax sw) : pureI Φ 6 [.agg x.c, .int .i64 sw] = some (.val (.bool true)) :=
  FabricInitialOps_ok x.ports x.links x.hosts sw works_ok
end Go.Av
