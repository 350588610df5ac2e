/-
  Statements and actions: the program's answers.
-/
import Derived.Test.YtjdbnnnakpacjaaGreatK8
set_option linter.unusedVariables false
set_option linter.unusedSimpArgs false
set_option linter.constructorNameAsVariable false
namespace Go.Av
set_option maxRecDepth 4000
theorem FieldRef.e (x : FieldRef) : FieldRef.c x = [.int .i64 x.header, .int .i64 x.field] := by simp [FieldRef.c]
theorem width_ok (p : Prg) (h i : Int) : pureI Φ f_action_width [.agg (Prg.c p), .agg [.int .i64 h, .int .i64 i]] = some (.val (match decl p h i with
    | some w => .tup [.int .i64 w, .bool true]
    | none => .tup [.int .i64 0, .bool false])) := by
  rw [pureI_go (fn := c_action_width) rfl rfl, decl_eq]
  by_cases hm : h = -1
  · subst hm
    by_cases i0 : i < 0
    · rw [show fieldO p (-1) i = none by simp [fieldO, at_neg i0]]
      simp [c_action_width, Prg.e, i0]
    by_cases i1 : (p.metadata.length : Int) ≤ i
    · rw [show fieldO p (-1) i = none by simp [fieldO, at_big i1]]
      simp [c_action_width, Prg.e, i0, i1]
    obtain ⟨k, rfl⟩ : ∃ k : Nat, i = k := ⟨i.toNat, by omega⟩
    have hk : k < p.metadata.length := by omega
    rw [show fieldO p (-1) k = some p.metadata[k] by simp [fieldO, hk]]
    simp [c_action_width, Prg.e, i0, i1, hk, Fld.e]
  by_cases h0 : h < 0
  · rw [show fieldO p h i = none by simp [fieldO, hm, at_neg h0]]
    simp [c_action_width, Prg.e, hm, h0]
  by_cases h1 : (p.headers.length : Int) ≤ h
  · rw [show fieldO p h i = none by simp [fieldO, hm, at_big h1]]
    simp [c_action_width, Prg.e, hm, h0, h1]
  obtain ⟨m, rfl⟩ : ∃ k : Nat, h = k := ⟨h.toNat, by omega⟩
  have hk : m < p.headers.length := by omega
  by_cases i0 : i < 0
  · rw [show fieldO p m i = none by simp [fieldO, hm, hk, at_neg i0]]
    simp [c_action_width, Prg.e, hm, hk, Nat.not_le.2 hk, i0, Header.e]
  by_cases i1 : (p.headers[m].fields.length : Int) ≤ i
  · rw [show fieldO p m i = none by simp [fieldO, hm, hk, at_big i1]]
    simp [c_action_width, Prg.e, hm, hk, Nat.not_le.2 hk, i0, i1, Header.e]
  obtain ⟨k, rfl⟩ : ∃ k : Nat, i = k := ⟨i.toNat, by omega⟩
  have hk2 : k < p.headers[m].fields.length := by omega
  rw [show fieldO p m k = some p.headers[m].fields[k] by simp [fieldO, hm, hk, hk2]]
  simp [c_action_width, Prg.e, hm, hk, Nat.not_le.2 hk, hk2, Nat.not_le.2 hk2, Header.e, Fld.e]
theorem valE_ok (p : Prg) (ps : List Fld) (l : List ExprNode) (w : Int) : pureI Φ f_action_checker_value [.agg (scC p ps), .slice 3 (l.map ExprNode.c), .int .i64 w] = some (.val (.int .i64 (valE p ps l w))) := by
  rw [pureI_go (fn := c_action_checker_value) rfl rfl]
  have h := exE_ok p ps l
  simp only [scC_e] at h
  by_cases z : (exE p ps l).2 = 0
  · rw [z] at h
    by_cases y : (exE p ps l).1 = w
    · simp [c_action_checker_value, scC_e, h, valE, z, y]
    · simp [c_action_checker_value, scC_e, h, valE, z, y]
  · simp [c_action_checker_value, scC_e, h, valE, z]
theorem at_isSome {α : Type} {l : List α} {i : Int} : (at? l i).isSome = (!(decide (i < 0) || decide ((l.length : Int) ≤ i))) := by
  by_cases h0 : i < 0
  · simp [at_neg h0, h0]
  by_cases h1 : (l.length : Int) ≤ i
  · simp [at_big h1, h1]
  obtain ⟨k, rfl⟩ : ∃ k : Nat, i = k := ⟨i.toNat, by omega⟩
  have : k < l.length := by omega
  simp [this, h0]
theorem stmE_ok (p : Prg) (ps : List Fld) (s : Statement) : pureI Φ f_action_checker_statement [.agg (scC p ps), .agg (Statement.c s)] = some (.val (.int .i64 (stmE p ps s))) := by
  rw [pureI_go (fn := c_action_checker_statement) rfl rfl]
  have hd := width_ok p s.dst.header s.dst.field
  have hi := exE_ok p ps s.index
  simp only [Prg.e] at hd
  simp only [scC_e] at hi
  -- the register
  have hr : (s.register < 0 ∧ at? p.registers s.register = none) ∨ (¬ s.register < 0 ∧ (p.registers.length : Int) ≤ s.register ∧ at? p.registers s.register = none) ∨ ∃ k : Nat, ∃ h : k < p.registers.length, s.register = k ∧ at? p.registers s.register = some p.registers[k] := by
    by_cases h0 : s.register < 0
    · exact .inl ⟨h0, at_neg h0⟩
    by_cases h1 : (p.registers.length : Int) ≤ s.register
    · exact .inr (.inl ⟨h0, h1, at_big h1⟩)
    obtain ⟨k, hk⟩ : ∃ k : Nat, s.register = k := ⟨s.register.toNat, by omega⟩
    exact .inr (.inr ⟨k, by omega, hk, by rw [hk]; simp⟩)
  have hx : ∀ w, pureI Φ f_action_checker_value [.agg (scC p ps), .slice 3 (s.value.map ExprNode.c), .int .i64 w] = some (.val (.int .i64 (valE p ps s.value w))) := valE_ok p ps s.value
  simp only [scC_e] at hx
  have hd' : pureI Φ f_action_width [.agg [.str p.name, .slice 2 (p.headers.map Header.c), .slice 2 (p.metadata.map Fld.c), .slice 3 (p.registers.map Register.c), .slice 3 (p.actions.map Action.c), .slice 6 (p.tables.map Tbl.c), .slice 7 (p.states.map ParserState.c), .slice 5 (p.control.map ControlNode.c), .slice 1 (p.deparser.map cI)], .agg [.int .i64 s.dst.header, .int .i64 s.dst.field]] =
      some (.val (.tup [.int .i64 ((decl p s.dst.header s.dst.field).getD 0), .bool (decl p s.dst.header s.dst.field).isSome])) := by
    rw [hd]
    cases decl p s.dst.header s.dst.field <;> rfl
  clear hd
  by_cases k1 : s.kind = 1
  · rcases hr with ⟨r0, rn⟩ | ⟨r0, r1, rn⟩ | ⟨m, hm, rk, rn⟩ <;> cases qd : decl p s.dst.header s.dst.field <;> rw [qd] at hd'
    · simp [c_action_checker_statement, scC_e, Statement.e, hd', stmE, qd, k1, Int.not_le.2 r0]
    · simp [c_action_checker_statement, scC_e, Statement.e, hd', stmE, qd, k1, Int.not_le.2 r0, hx]
    · simp [c_action_checker_statement, scC_e, Statement.e, hd', stmE, qd, k1, Int.not_lt.1 r0, Int.not_lt.2 r1]
    · simp [c_action_checker_statement, scC_e, Statement.e, hd', stmE, qd, k1, Int.not_lt.1 r0, Int.not_lt.2 r1, hx]
    · simp [c_action_checker_statement, scC_e, Statement.e, hd', stmE, qd, k1, rk, hm]
    · simp [c_action_checker_statement, scC_e, Statement.e, hd', stmE, qd, k1, rk, hm, hx]
  by_cases k2 : s.kind = 2
  · have e : stmE p ps s = if (at? p.headers s.header).isSome then 0 else 8 := by simp [stmE, k2]
    rw [e, at_isSome]
    by_cases h0 : s.header < 0 <;> by_cases h1 : (p.headers.length : Int) ≤ s.header <;> rcases hr with ⟨r0, rn⟩ | ⟨r0, r1, rn⟩ | ⟨m, hm, rk, rn⟩
    all_goals first
      | simp [c_action_checker_statement, scC_e, Statement.e, hd', k2, Int.not_le.2 r0, h0, h1]
      | simp [c_action_checker_statement, scC_e, Statement.e, hd', k2, Int.not_lt.1 r0, Int.not_lt.2 r1, h0, h1]
      | simp [c_action_checker_statement, scC_e, Statement.e, hd', k2, rk, hm, h0, h1]
  by_cases k3 : s.kind = 3
  · have e : stmE p ps s = if (at? p.headers s.header).isSome then 0 else 8 := by simp [stmE, k3]
    rw [e, at_isSome]
    by_cases h0 : s.header < 0 <;> by_cases h1 : (p.headers.length : Int) ≤ s.header <;> rcases hr with ⟨r0, rn⟩ | ⟨r0, r1, rn⟩ | ⟨m, hm, rk, rn⟩
    all_goals first
      | simp [c_action_checker_statement, scC_e, Statement.e, hd', k3, Int.not_le.2 r0, h0, h1]
      | simp [c_action_checker_statement, scC_e, Statement.e, hd', k3, Int.not_lt.1 r0, Int.not_lt.2 r1, h0, h1]
      | simp [c_action_checker_statement, scC_e, Statement.e, hd', k3, rk, hm, h0, h1]
  by_cases k4 : s.kind = 4
  · rcases hr with ⟨r0, rn⟩ | ⟨r0, r1, rn⟩ | ⟨m, hm, rk, rn⟩
    · simp [c_action_checker_statement, scC_e, Statement.e, hd', stmE, k4, Int.not_le.2 r0, rn]
    · simp [c_action_checker_statement, scC_e, Statement.e, hd', stmE, k4, Int.not_lt.1 r0, Int.not_lt.2 r1, rn]
    · rw [rk] at rn
      cases qd : decl p s.dst.header s.dst.field with
      | none => rw [qd] at hd'; simp [c_action_checker_statement, scC_e, Statement.e, hd', stmE, k4, rk, hm, rn, qd]
      | some w =>
        rw [qd] at hd'
        by_cases z : (exE p ps s.index).2 = 0
        · rw [z] at hi
          by_cases y : w = p.registers[m].width
          · simp [c_action_checker_statement, scC_e, Statement.e, Register.e, hd', stmE, k4, rk, hm, rn, qd, hi, z, y]
          · simp [c_action_checker_statement, scC_e, Statement.e, Register.e, hd', stmE, k4, rk, hm, rn, qd, hi, z, y]
        · simp [c_action_checker_statement, scC_e, Statement.e, hd', stmE, k4, rk, hm, rn, qd, hi, z]
  by_cases k5 : s.kind = 5
  · rcases hr with ⟨r0, rn⟩ | ⟨r0, r1, rn⟩ | ⟨m, hm, rk, rn⟩
    · simp [c_action_checker_statement, scC_e, Statement.e, hd', stmE, k5, Int.not_le.2 r0, rn]
    · simp [c_action_checker_statement, scC_e, Statement.e, hd', stmE, k5, Int.not_lt.1 r0, Int.not_lt.2 r1, rn]
    · rw [rk] at rn
      by_cases z : (exE p ps s.index).2 = 0
      · rw [z] at hi
        simp [c_action_checker_statement, scC_e, Statement.e, Register.e, hd', stmE, k5, rk, hm, rn, hi, z, hx]
      · simp [c_action_checker_statement, scC_e, Statement.e, hd', stmE, k5, rk, hm, rn, hi, z]
  rcases hr with ⟨r0, rn⟩ | ⟨r0, r1, rn⟩ | ⟨m, hm, rk, rn⟩
  · simp [c_action_checker_statement, scC_e, Statement.e, hd', stmE, k1, k2, k3, k4, k5, Int.not_le.2 r0]
  · simp [c_action_checker_statement, scC_e, Statement.e, hd', stmE, k1, k2, k3, k4, k5, Int.not_lt.1 r0, Int.not_lt.2 r1]
  · simp [c_action_checker_statement, scC_e, Statement.e, hd', stmE, k1, k2, k3, k4, k5, rk, hm]
end Go.Av
