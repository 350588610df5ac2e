/-
  A store's copy.
-/
import Derived.Test.YtjdbnnnakpacjaaGreatX1
set_option linter.unusedVariables false
set_option linter.unusedSimpArgs false
set_option linter.constructorNameAsVariable false
namespace Go.Av
set_option maxRecDepth 4000
def CLpost (N : Nat) (O : List (Nat × AO)) (p : Prg) (c : Config) (r : Option (Rt × AH)) : Prop :=
  ∃ S O' N', r = some (.val (.ptr S.s 15 0 0), ⟨O', N'⟩) ∧ StoreM O' S p c ∧ (∀ j, S.own j → N ≤ j) ∧ Kp (Rs O) N O O' ∧ Tail O' N' ∧ N ≤ N'
theorem Clone_ok {O : List (Nat × AO)} {N : Nat} {S : SV} {p : Prg} (op : p.Ok bulkMax) {c : Config} (m : StoreM O S p c) (v : CfgV p c) (s : CfgT c) (hT : Tail O N) :
    CLpost N O p c (callI Φ f_store_Store_Clone [.ptr S.s 15 0 0] ⟨O, N⟩) := by
  rw [callI_go (fn := c_store_Store_Clone) rfl rfl]
  obtain ⟨S', O', N', e, h1, h2, h3, h4, h5⟩ := load_ok p op c (v.u s) v.incs hT m.cm.re
  have hs := m.s
  simp only [Prg.e] at e
  simp [c_store_Store_Clone, SV.cells, Prg.e, hs, e]
  exact ⟨S', O', N', rfl, h1, h2, h3, h4, h5⟩
end Go.Av
