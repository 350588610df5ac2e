/-
  program.Clone copies a program.
-/
import Derived.Test.YtjdbnnnakpacjaaGreatQ17
set_option linter.unusedVariables false
set_option linter.unusedSimpArgs false
set_option linter.constructorNameAsVariable false
namespace Go.Av
set_option maxRecDepth 4000
theorem pclone_ok (p : Prg) (op : p.Ok bulkMax) : pureI Φ f_program_Clone [.agg (Prg.c p)] = some (.val (.agg (Prg.c p))) := by
  have f := PrgS_of op
  obtain ⟨_, o1, o2, o3, o4, o5, o6, o7, o8⟩ := op
  have e := bulkMax_eq
  have k1 := eachHeader_ok p.headers (by have := o1.1; omega) fun x hx => cHeader_ok x (f.hl x hx)
  have k2 := clF_ok p.metadata f.m
  have k3 := clG_ok p.registers f.r
  have k4 := eachAction_ok p.actions (by have := o4.1; omega) fun x hx => cAction_ok x (f.ap x hx) (by
    have h := o4.2 x hx
    simp only [Action.Ok] at h
    have := h.2.2.1
    omega) fun s hs => ⟨f.ai x hx s hs, f.av x hx s hs⟩
  have k5 := eachTable_ok p.tables (by have := o5.1; omega) fun x hx => cTable_ok x (f.tk x hx) (f.ta x hx) (f.tg x hx)
  have k6 := eachParserState_ok p.states (by have := o6.1; omega) fun x hx => cState_ok x (f.se x hx) (f.sc x hx)
  have k7 := eachControlNode_ok p.control (by have := o7.1; omega) fun x hx => cNode_ok _ x (Nat.le_refl _) (o7.2 x hx)
  have k8 := clI_ok p.deparser f.d
  rw [pureI_go (fn := c_program_Clone) rfl rfl]
  simp [c_program_Clone, Prg.e, k1, k2, k3, k4, k5, k6, k7, k8]
end Go.Av
