/-
  Closed facts of the row of FabricStamp, by computation, the rest.
-/
import Derived.Test.YtcehjengeaafpaaGreatRows
import Derived.KernelRfl
set_option linter.all false
namespace Go.Proofs.YtcehjengeaafpaaGreat
set_option maxRecDepth 100000
theorem fa5:(Rows.fabricStampUptoRow.lifted == Tryz.checked.prog.liftsFinal)=true:=by kernel_rfl
theorem fa6:(Tryz.checked.prog.make == some Rows.fabricStampUptoRow.make)=true:=by kernel_rfl
theorem pf1:Tryz.checked.prog.stopsHeard=true:=by kernel_rfl
end Go.Proofs.YtcehjengeaafpaaGreat
