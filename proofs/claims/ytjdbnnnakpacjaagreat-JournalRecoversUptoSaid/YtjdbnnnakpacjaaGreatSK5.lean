/-
  The bounds of the laws of the store: they answer for every program and configuration.
-/
import Derived.Test.YtjdbnnnakpacjaaGreatSK4
set_option linter.unusedVariables false
set_option linter.unusedSimpArgs false
set_option linter.constructorNameAsVariable false
namespace Go.Av
set_option maxRecDepth 4000
def hp0 (p : Prg) : AH := ⟨[(0, .row 9 [[.str p.name, .slice 2 (p.headers.map Header.c), .slice 2 (p.metadata.map Fld.c), .slice 3 (p.registers.map Register.c), .slice 3 (p.actions.map Action.c), .slice 6 (p.tables.map Tbl.c), .slice 7 (p.states.map ParserState.c), .slice 5 (p.control.map ControlNode.c), .slice 1 (p.deparser.map cI)]])], 1⟩
structure PrgB (p : Prg) : Prop where
  h : p.headers.length < 2 ^ 40
  r : p.registers.length < 2 ^ 40
  a : p.actions.length < 2 ^ 40
  b : ∀ x ∈ p.actions, x.body.length < 2 ^ 40
  t : p.tables.length < 2 ^ 40
  s : p.states.length < 2 ^ 40
  c : p.control.length < 2 ^ 40
  co : ∀ x ∈ p.control, ControlNode.Ok bulkMax x
theorem PrgB_of {p : Prg} (o : p.Ok bulkMax) : PrgB p := by
  obtain ⟨_, o1, o2, o3, o4, o5, o6, o7, o8⟩ := o
  have e := bulkMax_eq
  refine ⟨by have := o1.1; omega, by have := o3.1; omega, by have := o4.1; omega, ?_, by have := o5.1; omega, by have := o6.1; omega, by have := o7.1; omega, o7.2⟩
  intro x hx
  have h := o4.2 x hx
  simp only [Action.Ok] at h
  have := h.2.2.1
  omega
def hp1 (p : Prg) (c : Config) : AH := ⟨[(0, .row 9 [[.str p.name, .slice 2 (p.headers.map Header.c), .slice 2 (p.metadata.map Fld.c), .slice 3 (p.registers.map Register.c), .slice 3 (p.actions.map Action.c), .slice 6 (p.tables.map Tbl.c), .slice 7 (p.states.map ParserState.c), .slice 5 (p.control.map ControlNode.c), .slice 1 (p.deparser.map cI)]]), (1, .row 4 [[.slice 1 (c.rows.map (cS 5 Rw.c)), .slice 1 (c.nextID.map cI), .slice 2 (c.defaults.map ActionCall.c), .slice 1 (c.registers.map (cS 1 c32))]])], 2⟩
end Go.Av
