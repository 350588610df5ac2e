/-
  The printed functions are the compact forms of the program's own.
-/
import Derived.Test.YtjdbnnnakpacjaaGreatFunsAU
import Derived.Test.YtjdbnnnakpacjaaGreatRows
import Derived.KernelRfl
set_option linter.unusedVariables false
set_option linter.unusedSimpArgs false
set_option linter.constructorNameAsVariable false
namespace Go.Av
theorem tab_ok : tabL.map (fun p => cFn Go.Proofs.Tryz.prog ann p.1) = tabL.map (fun p => some p.2) := by kernel_rfl
theorem tabD_ok : tabD.map (fun p => cDFn Go.Proofs.Tryz.prog ann p.1 p.2.clo) = tabD.map (fun p => some p.2) := by kernel_rfl
theorem tabC_ok1 : tabC.map (fun c => cloneOk Go.Proofs.Tryz.prog (annC c.m false) (annC c.m true) c.f) = tabC.map (fun c => some (cloneForm c.z c.bytes c.m)) := by kernel_rfl
theorem tabC_ok2 : tabC.map (fun c => cloneOk Go.Proofs.Tryz.prog (annC .app false) (annC .app true) c.f) = tabC.map (fun c => some (cloneForm c.z c.bytes .app)) := by kernel_rfl
end Go.Av
