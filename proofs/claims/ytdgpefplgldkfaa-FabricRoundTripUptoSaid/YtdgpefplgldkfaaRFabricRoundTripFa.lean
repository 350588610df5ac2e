/-
  Closed facts of the row of FabricRoundTrip, by computation.
-/
import Derived.Test.YtdgpefplgldkfaaRows
import Derived.KernelRfl
import Derived.ClosedOfChecked
set_option linter.unusedVariables false
set_option linter.unusedSimpArgs false
set_option linter.constructorNameAsVariable false
namespace Go.Proofs.Ytdgpefplgldkfaa
set_option maxRecDepth 100000
theorem closed2 : laidOutB Try.checked.prog = true ∧ mapsRowed Try.checked.prog = true :=
  have H := Go.ClosedOfChecked.allSpec_of Try.checked.wellFormed (show Try.checked.prog.types = Try.checked.src.types by kernel_rfl)
  ⟨Go.ClosedOfChecked.laidOutB_of H (by kernel_rfl), Go.ClosedOfChecked.mapsRowed_of H⟩
theorem fa1 : (Rows.fabricRoundTripUptoRow.inPlace == Try.checked.prog.inPlace 4) = true := by kernel_rfl
theorem fa2 : (Rows.fabricRoundTripUptoRow.unfollowed == Try.checked.prog.unfollowed 4) = true := by kernel_rfl
theorem fa3 : (Rows.fabricRoundTripUptoRow.recurses == Try.checked.prog.recurses 4) = true := by kernel_rfl
theorem fa4 : (Rows.fabricRoundTripUptoRow.named == Try.checked.prog.varsNamed 4) = true := by kernel_rfl
end Go.Proofs.Ytdgpefplgldkfaa
