/-
  A closed fact of the program, by computation.
-/
import Derived.Test.YtjdbnnnakpacjaaGreatRows
import Derived.KernelRfl
namespace Go.Proofs.YtjdbnnnakpacjaaGreat
set_option maxRecDepth 100000
theorem pf2:Tryz.checked.prog.mayEnter=true:=by kernel_rfl
end Go.Proofs.YtjdbnnnakpacjaaGreat
