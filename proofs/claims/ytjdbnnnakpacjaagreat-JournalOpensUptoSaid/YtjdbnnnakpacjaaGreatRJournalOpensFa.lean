/-
  Closed facts of the row of JournalOpens, by computation.
-/
import Derived.Test.YtjdbnnnakpacjaaGreatRows
import Derived.KernelRfl
import Derived.ClosedOfChecked
namespace Go.Proofs.YtjdbnnnakpacjaaGreat
set_option maxRecDepth 100000
theorem closed2:laidOutB Tryz.checked.prog=true/\mapsRowed Tryz.checked.prog=true:=
  have H:=Go.ClosedOfChecked.allSpec_of Tryz.checked.wellFormed (show Tryz.checked.prog.types=Tryz.checked.src.types by kernel_rfl)
  ⟨Go.ClosedOfChecked.laidOutB_of H (by kernel_rfl),Go.ClosedOfChecked.mapsRowed_of H⟩
theorem fa1:(Rows.journalOpensUptoRow.inPlace == Tryz.checked.prog.inPlace 7)=true:=by kernel_rfl
theorem fa2:(Rows.journalOpensUptoRow.unfollowed == Tryz.checked.prog.unfollowed 7)=true:=by kernel_rfl
theorem fa3:(Rows.journalOpensUptoRow.recurses == Tryz.checked.prog.recurses 7)=true:=by kernel_rfl
theorem fa4:(Rows.journalOpensUptoRow.named == Tryz.checked.prog.varsNamed 7)=true:=by kernel_rfl
end Go.Proofs.YtjdbnnnakpacjaaGreat
