/-
  Closed facts of the row of InterpInvariants, by computation.
-/
import Derived.Test.YtcehjengeaafpaaGreatRows
import Derived.KernelRfl
import Derived.ClosedOfChecked
set_option linter.unusedVariables false
set_option linter.unusedSimpArgs false
set_option linter.constructorNameAsVariable false
namespace Go.Proofs.YtcehjengeaafpaaGreat
set_option maxRecDepth 100000
theorem closed2:laidOutB Tryz.checked.prog=true/\mapsRowed Tryz.checked.prog=true:=
  have H:=Go.ClosedOfChecked.allSpec_of Tryz.checked.wellFormed (show Tryz.checked.prog.types=Tryz.checked.src.types by kernel_rfl)
  ⟨Go.ClosedOfChecked.laidOutB_of H (by kernel_rfl),Go.ClosedOfChecked.mapsRowed_of H⟩
theorem fa1:(Rows.interpInvariantsUptoRow.inPlace == Tryz.checked.prog.inPlace 5)=true:=by kernel_rfl
theorem fa2:(Rows.interpInvariantsUptoRow.unfollowed == Tryz.checked.prog.unfollowed 5)=true:=by kernel_rfl
theorem fa3:(Rows.interpInvariantsUptoRow.recurses == Tryz.checked.prog.recurses 5)=true:=by kernel_rfl
theorem fa4:(Rows.interpInvariantsUptoRow.named == Tryz.checked.prog.varsNamed 5)=true:=by kernel_rfl
end Go.Proofs.YtcehjengeaafpaaGreat
