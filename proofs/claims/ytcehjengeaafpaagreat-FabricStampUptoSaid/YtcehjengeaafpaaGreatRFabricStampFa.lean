/-
  Closed facts of the row of FabricStamp, by computation.
-/
import Derived.Test.YtcehjengeaafpaaGreatRows
import Derived.KernelRfl
import Derived.ClosedOfChecked
set_option linter.all false
namespace Go.Proofs.YtcehjengeaafpaaGreat
set_option maxRecDepth 100000
theorem closed2:laidOutB Tryz.checked.prog=true/\mapsRowed Tryz.checked.prog=true:=
  have H:=Go.ClosedOfChecked.allSpec_of Tryz.checked.wellFormed (show Tryz.checked.prog.types=Tryz.checked.src.types by kernel_rfl)
  ⟨Go.ClosedOfChecked.laidOutB_of H (by kernel_rfl),Go.ClosedOfChecked.mapsRowed_of H⟩
theorem fa1:(Rows.fabricStampUptoRow.inPlace == Tryz.checked.prog.inPlace 10)=true:=by kernel_rfl
theorem fa2:(Rows.fabricStampUptoRow.unfollowed == Tryz.checked.prog.unfollowed 10)=true:=by kernel_rfl
theorem fa3:(Rows.fabricStampUptoRow.recurses == Tryz.checked.prog.recurses 10)=true:=by kernel_rfl
theorem fa4:(Rows.fabricStampUptoRow.named == Tryz.checked.prog.varsNamed 10)=true:=by kernel_rfl
end Go.Proofs.YtcehjengeaafpaaGreat
