/-
  Closed facts of the row of HsaChecks, by computation, the rest.
-/
import Derived.Test.YtbhkkpfccfoioaaGreatRows
import Derived.KernelRfl
set_option linter.unusedVariables false
set_option linter.unusedSimpArgs false
set_option linter.constructorNameAsVariable false
namespace Go.Proofs.YtbhkkpfccfoioaaGreat
set_option maxRecDepth 100000
theorem fa5:(Rows.hsaChecksUptoRow.lifted == Tryz.checked.prog.liftsFinal)=true:=by kernel_rfl
theorem fa6:(Tryz.checked.prog.make == some Rows.hsaChecksUptoRow.make)=true:=by kernel_rfl
theorem pf1:Tryz.checked.prog.stopsHeard=true:=by kernel_rfl
end Go.Proofs.YtbhkkpfccfoioaaGreat
