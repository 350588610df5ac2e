/-
  Closed facts of the row of JournalOpens, by computation, the rest.
-/
import Derived.Test.YtjdbnnnakpacjaaGreatRows
import Derived.KernelRfl
namespace Go.Proofs.YtjdbnnnakpacjaaGreat
set_option maxRecDepth 100000
theorem fa5:(Rows.journalOpensUptoRow.lifted == Tryz.checked.prog.liftsFinal)=true:=by kernel_rfl
theorem fa6:(Tryz.checked.prog.make == some Rows.journalOpensUptoRow.make)=true:=by kernel_rfl
theorem pf1:Tryz.checked.prog.stopsHeard=true:=by kernel_rfl
end Go.Proofs.YtjdbnnnakpacjaaGreat
