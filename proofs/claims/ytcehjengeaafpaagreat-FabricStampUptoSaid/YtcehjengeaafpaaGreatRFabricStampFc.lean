/-
  A closed fact of the program, by computation.
-/
import Derived.Test.YtcehjengeaafpaaGreatRows
import Derived.KernelRfl
set_option linter.all false
namespace Go.Proofs.YtcehjengeaafpaaGreat
set_option maxRecDepth 100000
theorem pf2:Tryz.checked.prog.mayEnter=true:=by kernel_rfl
end Go.Proofs.YtcehjengeaafpaaGreat
