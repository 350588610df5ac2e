/-
  Closed facts of the row of JournalRecovers, by computation, the rest.
-/
import Derived.Test.YtjdbnnnakpacjaaGreatRows
import Derived.KernelRfl
set_option linter.unusedVariables false
set_option linter.unusedSimpArgs false
set_option linter.constructorNameAsVariable false
namespace Go.Proofs.YtjdbnnnakpacjaaGreat
set_option maxRecDepth 100000
theorem fa5:(Rows.journalRecoversUptoRow.lifted == Tryz.checked.prog.liftsFinal)=true:=by kernel_rfl
theorem fa6:(Tryz.checked.prog.make == some Rows.journalRecoversUptoRow.make)=true:=by kernel_rfl
theorem pf1:Tryz.checked.prog.stopsHeard=true:=by kernel_rfl
end Go.Proofs.YtjdbnnnakpacjaaGreat
