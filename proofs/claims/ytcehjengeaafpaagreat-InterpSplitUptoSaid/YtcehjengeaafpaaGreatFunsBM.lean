/-
  The printed functions are the compact forms of the program's own.
-/
import Derived.Test.YtcehjengeaafpaaGreatFunsAM
import Derived.Test.YtcehjengeaafpaaGreatRows
import Derived.KernelRfl
set_option linter.unusedVariables false
set_option linter.unusedSimpArgs false
set_option linter.constructorNameAsVariable false
namespace Go.Av
theorem Ao:tabL.map (fun p=>cFn Go.Proofs.Tryz.prog ann p.1)=tabL.map (fun p=>some p.2):=by kernel_rfl
theorem XT:tabD.map (fun p=>cDFn Go.Proofs.Tryz.prog ann p.1 p.2.clo)=tabD.map (fun p=>some p.2):=by kernel_rfl
theorem SC:tabC.map (fun c=>EC Go.Proofs.Tryz.prog (annC c.m false) (annC c.m true) c.f)=tabC.map (fun c=>some (rU c.z c.bytes c.m)):=by kernel_rfl
theorem SD:tabC.map (fun c=>EC Go.Proofs.Tryz.prog (annC .app false) (annC .app true) c.f)=tabC.map (fun c=>some (rU c.z c.bytes .app)):=by kernel_rfl
theorem VQ {P:Program} {A:Ann} {b:FuncId->Option AFun} {l:List Nat} (h:TableOk P A b) (hb:l.all (fun f=>wF P f)=true):TableOk P A (P1 b P A l):=by
  have hm:∀f,gE f l=true->wF P f=true:=fun f hf=>Qr.1 hb _ (memNat_iff.1 hf)
  have cs:∀f af,P1 b P A l f=some af->b f=some af\/(gE f l=true/\∃fn,cFn P A f=some fn/\af= .code fn):=by
    intro f af hf;unfold P1 at hf;split at hf
    · rename_i x hx
      exact .inl (by rw [hx];exact hf)
    · split at hf
      · rename_i hl
        rw [Qs] at hf;obtain ⟨fn,h1,h2⟩:=hf;exact .inr ⟨hl,fn,h1,h2.symm⟩
      · cases hf
  refine ⟨h.mixed,?_,?_,?_,?_⟩
  · intro f af hf
    rcases cs f af hf with hf | ⟨h1,fn,h2,h3⟩
    · exact h.body f af hf
    · exact KR (hm f h1)
  · intro f fn hf
    rcases cs f _ hf with hf | ⟨h1,fn,h2,h3⟩
    · exact h.code f _ hf
    · cases h3;exact h2
  · intro f d hf
    rcases cs f _ hf with hf | ⟨h1,fn,h2,h3⟩
    · exact h.dfr f _ hf
    · cases h3
  · intro f g hf
    rcases cs f _ hf with hf | ⟨h1,fn,h2,h3⟩
    · exact h.rule f _ hf
    · cases h3
end Go.Av
