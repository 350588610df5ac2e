/-
  The law NetworkNeedsProcessor, over the structures.
-/
import Derived.Test.YtndppilbpccjfaaGreatN48b
set_option linter.unusedVariables false
set_option linter.unusedSimpArgs false
set_option linter.constructorNameAsVariable false
namespace Go.Av
theorem okL_lt {α : Type} {p : α → Prop} {l : List α} (h : okL bulkMax p l) : l.length < 2 ^ 40 := by
  have := h.1
  rw [bulkMax_eq] at this
  omega
theorem NetworkNeedsProcessor_all (x : Topology) (l : List Config) (o : x.Ok bulkMax) (ol : okL bulkMax (Config.Ok bulkMax) l) : pureI Φ f_law48_NetworkNeedsProcessor [.agg x.c, .slice 4 (l.map Config.c)] = some (.val (.bool true)) :=
  NeedsProcessor_ok x.ports x.links x.hosts l (okL_lt o.1) (okL_lt o.2.1) (okL_lt o.2.2) (okL_lt ol) (fun c hc => okL_lt (ol.2 c hc).1)
end Go.Av
