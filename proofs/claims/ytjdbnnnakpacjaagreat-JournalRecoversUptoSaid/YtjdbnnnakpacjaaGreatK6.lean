/-
  Expressions: fields, leaves, operators; the program's answers.
-/
import Derived.Test.YtjdbnnnakpacjaaGreatK5
set_option linter.unusedVariables false
set_option linter.unusedSimpArgs false
set_option linter.constructorNameAsVariable false
namespace Go.Av
set_option maxRecDepth 4000
def scC (p : Prg) (ps : List Fld) : List AV := [.str p.name, .slice 2 (p.headers.map Header.c), .slice 2 (p.metadata.map Fld.c), .slice 3 (p.registers.map Register.c), .slice 3 (p.actions.map Action.c), .slice 6 (p.tables.map Tbl.c), .slice 7 (p.states.map ParserState.c), .slice 5 (p.control.map ControlNode.c), .slice 1 (p.deparser.map cI), .slice 2 (ps.map Fld.c)]
theorem scC_e (p : Prg) (ps : List Fld) : scC p ps = [.str p.name, .slice 2 (p.headers.map Header.c), .slice 2 (p.metadata.map Fld.c), .slice 3 (p.registers.map Register.c), .slice 3 (p.actions.map Action.c), .slice 6 (p.tables.map Tbl.c), .slice 7 (p.states.map ParserState.c), .slice 5 (p.control.map ControlNode.c), .slice 1 (p.deparser.map cI), .slice 2 (ps.map Fld.c)] := by simp [scC]
theorem arity_ok (op : Int) : pureI Φ f_expr_arity [.int .i64 op] = some (.val (.int .i64 (ari op))) := by
  rw [pureI_go (fn := c_expr_arity) rfl rfl]
  rcases (show op = 1 ∨ op = 2 ∨ op = 3 ∨ op = 4 ∨ op = 5 ∨ op = 6 ∨ op = 7 ∨ op = 8 ∨ op = 9 ∨ op = 10 ∨ op = 11 ∨ op = 12 ∨ op = 13 ∨ op = 14 ∨ op = 15 ∨ op = 16 ∨ op = 17 ∨ (op < 1 ∨ 17 < op) by omega) with rfl | rfl | rfl | rfl | rfl | rfl | rfl | rfl | rfl | rfl | rfl | rfl | rfl | rfl | rfl | rfl | rfl | h
  rotate_right
  · have e : ari op = -1 := by
      unfold ari
      rw [if_neg (by omega), if_neg (by omega), if_neg (by omega), if_neg (by omega)]
    rw [e]
    have h1 : ¬ op = 1 := by omega
    have h2 : ¬ op = 2 := by omega
    have h3 : ¬ op = 3 := by omega
    have h4 : ¬ op = 4 := by omega
    have h5 : ¬ op = 5 := by omega
    have h6 : ¬ op = 6 := by omega
    have h7 : ¬ op = 7 := by omega
    have h8 : ¬ op = 8 := by omega
    have h9 : ¬ op = 9 := by omega
    have h10 : ¬ op = 10 := by omega
    have h11 : ¬ op = 11 := by omega
    have h12 : ¬ op = 12 := by omega
    have h13 : ¬ op = 13 := by omega
    have h14 : ¬ op = 14 := by omega
    have h15 : ¬ op = 15 := by omega
    have h16 : ¬ op = 16 := by omega
    have h17 : ¬ op = 17 := by omega
    simp [c_expr_arity, h1, h2, h3, h4, h5, h6, h7, h8, h9, h10, h11, h12, h13, h14, h15, h16, h17]
  all_goals simp [c_expr_arity, ari]
theorem wide_ok (w : Int) : pureI Φ f_expr_wide [.int .i64 w] = some (.val (.tup [.int .i64 (wide w).1, .int .i64 (wide w).2])) := by
  rw [pureI_go (fn := c_expr_wide) rfl rfl]
  by_cases h1 : w < 1
  · simp [c_expr_wide, wide, wBad, h1]
  by_cases h2 : 32 < w
  · simp [c_expr_wide, wide, wBad, h1, h2]
  simp [c_expr_wide, wide, wBad, h1, h2]
def fieldO (p : Prg) (h f : Int) : Option Fld := (if h = -1 then some p.metadata else (at? p.headers h).map (·.fields)).bind fun l => at? l f
theorem decl_eq (p : Prg) (h f : Int) : decl p h f = (fieldO p h f).map (·.width) := by
  unfold decl fieldO
  cases (if h = -1 then some p.metadata else (at? p.headers h).map (·.fields)) <;> rfl
theorem field_ok (p : Prg) (ps : List Fld) (h i : Int) : pureI Φ f_expr_Scope_field [.agg (scC p ps), .int .i64 h, .int .i64 i] = some (.val (match fieldO p h i with
    | some f => .tup [.agg (Fld.c f), .bool true]
    | none => .tup [.agg [.str [], .int .i64 0], .bool false])) := by
  rw [pureI_go (fn := c_expr_Scope_field) rfl rfl]
  by_cases hm : h = -1
  · subst hm
    by_cases i0 : i < 0
    · rw [show fieldO p (-1) i = none by simp [fieldO, at_neg i0]]
      simp [c_expr_Scope_field, scC_e, i0]
    by_cases i1 : (p.metadata.length : Int) ≤ i
    · rw [show fieldO p (-1) i = none by simp [fieldO, at_big i1]]
      simp [c_expr_Scope_field, scC_e, i0, i1]
    obtain ⟨k, rfl⟩ : ∃ k : Nat, i = k := ⟨i.toNat, by omega⟩
    have hk : k < p.metadata.length := by omega
    rw [show fieldO p (-1) k = some p.metadata[k] by simp [fieldO, hk]]
    simp [c_expr_Scope_field, scC_e, i0, i1, hk, Fld.e]
  by_cases h0 : h < 0
  · rw [show fieldO p h i = none by simp [fieldO, hm, at_neg h0]]
    simp [c_expr_Scope_field, scC_e, hm, h0]
  by_cases h1 : (p.headers.length : Int) ≤ h
  · rw [show fieldO p h i = none by simp [fieldO, hm, at_big h1]]
    simp [c_expr_Scope_field, scC_e, hm, h0, h1]
  obtain ⟨m, rfl⟩ : ∃ k : Nat, h = k := ⟨h.toNat, by omega⟩
  have hk : m < p.headers.length := by omega
  by_cases i0 : i < 0
  · rw [show fieldO p m i = none by simp [fieldO, hm, hk, at_neg i0]]
    simp [c_expr_Scope_field, scC_e, hm, hk, Nat.not_le.2 hk, i0, Header.e]
  by_cases i1 : (p.headers[m].fields.length : Int) ≤ i
  · rw [show fieldO p m i = none by simp [fieldO, hm, hk, at_big i1]]
    simp [c_expr_Scope_field, scC_e, hm, hk, Nat.not_le.2 hk, i0, i1, Header.e]
  obtain ⟨k, rfl⟩ : ∃ k : Nat, i = k := ⟨i.toNat, by omega⟩
  have hk2 : k < p.headers[m].fields.length := by omega
  rw [show fieldO p m k = some p.headers[m].fields[k] by simp [fieldO, hm, hk, hk2]]
  simp [c_expr_Scope_field, scC_e, hm, hk, Nat.not_le.2 hk, hk2, Nat.not_le.2 hk2, Header.e, Fld.e]
end Go.Av
