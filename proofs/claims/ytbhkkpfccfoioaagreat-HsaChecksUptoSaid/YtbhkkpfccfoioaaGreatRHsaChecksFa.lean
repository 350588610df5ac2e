/-
  Closed facts of the row of HsaChecks, by computation.
-/
import Derived.Test.YtbhkkpfccfoioaaGreatRows
import Derived.KernelRfl
import Derived.ClosedOfChecked
set_option linter.unusedVariables false
set_option linter.unusedSimpArgs false
set_option linter.constructorNameAsVariable false
namespace Go.Proofs.YtbhkkpfccfoioaaGreat
set_option maxRecDepth 100000
theorem closed2:laidOutB Tryz.checked.prog=true/\mapsRowed Tryz.checked.prog=true:=
  have H:=Go.ClosedOfChecked.allSpec_of Tryz.checked.wellFormed (show Tryz.checked.prog.types=Tryz.checked.src.types by kernel_rfl)
  ⟨Go.ClosedOfChecked.laidOutB_of H (by kernel_rfl),Go.ClosedOfChecked.mapsRowed_of H⟩
theorem fa1:(Rows.hsaChecksUptoRow.inPlace == Tryz.checked.prog.inPlace 3)=true:=by kernel_rfl
theorem fa2:(Rows.hsaChecksUptoRow.unfollowed == Tryz.checked.prog.unfollowed 3)=true:=by kernel_rfl
theorem fa3:(Rows.hsaChecksUptoRow.recurses == Tryz.checked.prog.recurses 3)=true:=by kernel_rfl
theorem fa4:(Rows.hsaChecksUptoRow.named == Tryz.checked.prog.varsNamed 3)=true:=by kernel_rfl
end Go.Proofs.YtbhkkpfccfoioaaGreat
