/-
  Closed facts of the row of FabricRoundTrip, by computation, the rest.
-/
import Derived.Test.YtdgpefplgldkfaaRows
import Derived.KernelRfl
set_option linter.unusedVariables false
set_option linter.unusedSimpArgs false
set_option linter.constructorNameAsVariable false
namespace Go.Proofs.Ytdgpefplgldkfaa
set_option maxRecDepth 100000
theorem fa5 : (Rows.fabricRoundTripUptoRow.lifted == Try.checked.prog.liftsFinal) = true := by kernel_rfl
theorem fa6 : (Try.checked.prog.make == some Rows.fabricRoundTripUptoRow.make) = true := by kernel_rfl
theorem pf1 : Try.checked.prog.stopsHeard = true := by kernel_rfl
end Go.Proofs.Ytdgpefplgldkfaa
