/-
  The printed functions are the compact forms of the program's own.
-/
import Derived.Test.YtbhkkpfccfoioaaGreatFunsAH
import Derived.Test.YtbhkkpfccfoioaaGreatRows
import Derived.KernelRfl
set_option linter.unusedVariables false
set_option linter.unusedSimpArgs false
set_option linter.constructorNameAsVariable false
namespace Go.Av
theorem Ly:tabL.map (fun p=>cFn Go.Proofs.Tryz.prog ann p.1)=tabL.map (fun p=>some p.2):=by kernel_rfl
theorem Lj:tabD.map (fun p=>cDFn Go.Proofs.Tryz.prog ann p.1 p.2.clo)=tabD.map (fun p=>some p.2):=by kernel_rfl
theorem Hw:tabC.map (fun c=>CG Go.Proofs.Tryz.prog (annC c.m false) (annC c.m true) c.f)=tabC.map (fun c=>some (mV c.z c.bytes c.m)):=by kernel_rfl
theorem Hx:tabC.map (fun c=>CG Go.Proofs.Tryz.prog (annC .app false) (annC .app true) c.f)=tabC.map (fun c=>some (mV c.z c.bytes .app)):=by kernel_rfl
theorem Lk:tabR.map (fun d=>cRFn Go.Proofs.Tryz.prog ann d.f d.it d.Y)=tabR.map (fun d=>some d.r):=by kernel_rfl
end Go.Av
