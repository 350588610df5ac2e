/-
  The bound of layer 22 on the number of control nodes.
-/
import Derived.Test.YtjdbnnnakpacjaaGreatSK3
set_option linter.unusedVariables false
set_option linter.unusedSimpArgs false
set_option linter.constructorNameAsVariable false
namespace Go.Av
set_option maxRecDepth 4000
theorem Action.ce (x : Action) : Action.c x = [.str x.name, .slice 2 (x.params.map Fld.c), .slice 7 (x.body.map Statement.c)] := by simp [Action.c]
theorem Header.ce (x : Header) : Header.c x = [.str x.name, .slice 2 (x.fields.map Fld.c)] := by simp [Header.c]
theorem Register.ce (x : Register) : Register.c x = [.str x.name, .int .i64 x.width, .int .i64 x.size] := by simp [Register.c]
theorem Statement.ce (x : Statement) : Statement.c x = [.int .i64 x.kind, .int .i64 x.dst.header, .int .i64 x.dst.field, .int .i64 x.register, .int .i64 x.header, .slice 3 (x.index.map ExprNode.c), .slice 3 (x.value.map ExprNode.c)] := by simp [Statement.c]
theorem Tbl.ce (x : Tbl) : Tbl.c x = [.str x.name, .slice 3 (x.keys.map TableKey.c), .slice 1 (x.actions.map cI), .int .i64 x.dflt.action, .slice 1 (x.dflt.args.map c32), .int .i64 x.size] := by simp [Tbl.c]
theorem ParserState.ce (x : ParserState) : ParserState.c x = [.str x.name, .slice 1 (x.extract.map cI), .bool x.select, .int .i64 x.on.header, .int .i64 x.on.field, .slice 3 (x.cases.map SelectCase.c), .int .i64 x.dflt] := by simp [ParserState.c]
theorem ControlNode.ce (k t : Int) (c : List ExprNode) (a b : List ControlNode) : ControlNode.c (.mk k t c a b) = [.int .i64 k, .int .i64 t, .slice 3 (c.map ExprNode.c), .slice 5 (a.map ControlNode.c), .slice 5 (b.map ControlNode.c)] := by simp [ControlNode.c, ControlNode.cs_eq]
theorem Prg.ce (x : Prg) : Prg.c x = [.str x.name, .slice 2 (x.headers.map Header.c), .slice 2 (x.metadata.map Fld.c), .slice 3 (x.registers.map Register.c), .slice 3 (x.actions.map Action.c), .slice 6 (x.tables.map Tbl.c), .slice 7 (x.states.map ParserState.c), .slice 5 (x.control.map ControlNode.c), .slice 1 (x.deparser.map cI)] := by simp [Prg.c]
def BlkQ (l : List ControlNode) (k : Nat) (x : Option Rt) : Prop := ∃ r : Int, x = some (.val (.int .i64 r)) ∧ 0 ≤ r ∧ r ≤ (2 ^ (k + 1) - 1) * 274877906944 ∧ (r ≤ 60 → ((pre l).length : Int) ≤ r)
theorem p2_pos (k : Nat) : (1 : Int) ≤ 2 ^ k := by
  have h : 0 < 2 ^ k := Nat.two_pow_pos k
  rw [show (2 : Int) ^ k = ((2 ^ k : Nat) : Int) from by rw [Int.natCast_pow]; rfl]
  omega
theorem p2_le (k : Nat) (hk : k ≤ 22) : (2 : Int) ^ k ≤ 4194304 := by
  have := Nat.pow_le_pow_right (n := 2) (by omega) hk
  have e : (2 : Nat) ^ 22 = 4194304 := by decide
  rw [e] at this
  rw [show (2 : Int) ^ k = ((2 ^ k : Nat) : Int) from by rw [Int.natCast_pow]; rfl]
  omega
end Go.Av
