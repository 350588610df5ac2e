/-
  The law StoreChecks returns true for every program and every configuration.
-/
import Derived.Test.YtjdbnnnakpacjaaGreatH11
import Derived.Test.YtjdbnnnakpacjaaGreatW25K
set_option linter.unusedVariables false
set_option linter.unusedSimpArgs false
set_option linter.constructorNameAsVariable false
namespace Go.Av
set_option maxRecDepth 4000
theorem CfgT.s {c : Config} (t : CfgT c) : CfgS c :=
  ⟨t.rl, fun l hl => ⟨(t.rs l hl).1, fun r hr => ⟨((t.rs l hl).2 r hr).kl, ((t.rs l hl).2 r hr).al⟩⟩, t.nl, t.dl, fun d hd => (t.ds d hd).1, t.gl, fun l hl => (t.gs l hl).1⟩
theorem prgHv {p : Prg} (op : p.Ok bulkMax) : ∀ t ∈ p.tables, ∀ v ∈ t.dflt.args, ok32 0 v := by
  intro t ht v hv
  have := op.2.2.2.2.2.1.2 t ht
  simp only [Tbl.Ok, ActionCall.Ok] at this
  exact this.2.2.2.1.2.2 v hv
end Go.Av
