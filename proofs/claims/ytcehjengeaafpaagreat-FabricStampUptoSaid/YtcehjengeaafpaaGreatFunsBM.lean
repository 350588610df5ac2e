/-
  The printed functions are the compact forms of the program's own.
-/
import Derived.Test.YtcehjengeaafpaaGreatFunsAM
import Derived.Test.YtcehjengeaafpaaGreatRows
import Derived.KernelRfl
set_option linter.all false
set_option maxHeartbeats 0
open Go.Proofs
namespace Go.Av
theorem GE {f g:Nat×AFn->Option AFn} {l:List (Nat×AFn)} (n:Nat) (h:(l.take n).map f=(l.take n).map g) (k:(l.drop n).map f=(l.drop n).map g):l.map f=l.map g:=by rw [<- DU n l,tN,tN,h,k]
theorem F9:tabL.map (fun p=>cFn Tryz.prog ann p.1)=tabL.map (fun p=>some p.2):=by refine GE 36 ?_ (GE 36 ?_ (GE 36 ?_ (GE 36 ?_ (GE 36 ?_ ?_))))<;>as_aux_lemma=>kernel_rfl
theorem Nu:tabD.map (fun p=>cDFn Tryz.prog ann p.1 p.2.clo)=tabD.map (fun p=>some p.2):=by kernel_rfl
theorem Lh:tabC.map (fun c=>zX Tryz.prog (annC c.m false) (annC c.m true) c.f)=tabC.map (fun c=>some (rC c.z c.bytes c.m)):=by kernel_rfl
theorem Li:tabC.map (fun c=>zX Tryz.prog (annC .app false) (annC .app true) c.f)=tabC.map (fun c=>some (rC c.z c.bytes .app)):=by kernel_rfl
theorem Na {P:Program} {A:Ann} {b:FuncId->Option AFun} {l:List Nat} (h:TableOk P A b) (hb:l.all (fun f=>t7 P f)=true):TableOk P A (JS b P A l):=by
  have hm:∀f,iU f l=true->t7 P f=true:=fun f hf=>Qr.1 hb _ (memNat_iff.1 hf)
  have cs:∀f af,JS b P A l f=some af->b f=some af\/(iU f l=true/\∃fn,cFn P A f=some fn/\af= .code fn):=by
    intro f af hf;unfold JS at hf;split at hf
    · rename_i x hx
      exact .inl (by rw [hx];exact hf)
    · split at hf
      · rename_i hl
        rw [Qs] at hf;obtain ⟨fn,h1,h2⟩:=hf;exact .inr ⟨hl,fn,h1,h2.symm⟩
      · cases hf
  refine ⟨h.mixed,?_,?_,?_,?_⟩
  · intro f af hf
    rcases cs f af hf with hf | ⟨h1,fn,h2,h3⟩
    · exact h.body f af hf
    · exact GG (hm f h1)
  · intro f fn hf
    rcases cs f _ hf with hf | ⟨h1,fn,h2,h3⟩
    · exact h.code f _ hf
    · cases h3;exact h2
  · intro f d hf
    rcases cs f _ hf with hf | ⟨h1,fn,h2,h3⟩
    · exact h.dfr f _ hf
    · cases h3
  · intro f g hf
    rcases cs f _ hf with hf | ⟨h1,fn,h2,h3⟩
    · exact h.rule f _ hf
    · cases h3
end Go.Av
