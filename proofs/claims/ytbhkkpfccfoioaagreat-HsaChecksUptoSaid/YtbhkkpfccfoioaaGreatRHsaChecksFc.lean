/-
  A closed fact of the program, by computation.
-/
import Derived.Test.YtbhkkpfccfoioaaGreatRows
import Derived.KernelRfl
set_option linter.unusedVariables false
set_option linter.unusedSimpArgs false
set_option linter.constructorNameAsVariable false
namespace Go.Proofs.YtbhkkpfccfoioaaGreat
set_option maxRecDepth 100000
theorem pf2:Tryz.checked.prog.mayEnter=true:=by kernel_rfl
end Go.Proofs.YtbhkkpfccfoioaaGreat
