/-
  Registers, actions, tables, the flow: the program's answers.
-/
import Derived.Test.YtjdbnnnakpacjaaGreatK20
set_option linter.unusedVariables false
set_option linter.unusedSimpArgs false
set_option linter.constructorNameAsVariable false
namespace Go.Av
set_option maxRecDepth 4000
def regG (p : Prg) (i : Nat) : Option Dg := (p.registers[i]?).bind fun r => if regD1 p i r = 0 then none else some (regD1 p i r, 3, (i : Int), 0)
def acG (p : Prg) (i : Nat) : Option Dg := (p.actions[i]?).bind fun a => if (actE p i).2 ≠ 0 then some ((actE p i).2, (4 : Int), (i : Int), (actE p i).1) else if dupN Action.name p.actions i a then some (7, 4, (i : Int), 0) else none
def tbG (p : Prg) (i : Nat) : Option Dg := (p.tables[i]?).bind fun a => if (tblE p i).2 ≠ 0 then some ((tblE p i).2, (5 : Int), (i : Int), (tblE p i).1) else if dupN Tbl.name p.tables i a then some (7, 5, (i : Int), 0) else none
theorem obj2_ok (p : Prg) (f : PrgS p) (e : Env) (n : Nat) (h1 : look 1 e = some (.iptr 9 [Prg.c p] 0 0)) : go Φ (finP []) [.c c_program_checkObjects_k3] .normal ⟨e, ⟨[], n⟩⟩ = some (rtD (tblD p)) := by
  rw [show tblD p = fe (tbG p) p.tables.length 0 from rfl]
  have e1 := namesTbl_ok p.tables f.t
  rw [Prg.e] at h1
  simp [c_program_checkObjects_k3, h1, e1]
  refine loop_nx p.tables.length (fun _ => []) 0 (fun i e => look 1 e = some (.iptr 9 [Prg.c p] 0 0) ∧ look 2 e = some (.slice 1 (p.tables.map fun x => [.str x.name])) ∧ look 64 e = some (.int .i64 p.tables.length) ∧ look 65 e = some (.int .i64 i))
    (fun i => some (rtD (fe (tbG p) p.tables.length i))) ?_ ?_ 0 _ _ (Nat.zero_le _) (Nat.zero_le _) ?_
  · rintro i e n L hi hL _ ⟨h1, h2, h64, h65⟩ ih
    have hlen := f.t
    have hw : IntKind.wrap .i64 ((i : Int) + 1) = ((i + 1 : Nat) : Int) := wrap64 (by omega) (by omega)
    have et := tblE_ok p f i
    have er := repeated_ok Tbl.name p.tables i hi f.t
    simp only [Prg.e] at et
    rw [Prg.e] at h1
    by_cases y : (tblE p i).2 = 0
    rotate_left
    · rw [fe_hit (x := ((tblE p i).2, 5, (i : Int), (tblE p i).1)) hi (by simp [tbG, hi, y])]
      simp [c_program_checkObjects_l2, h1, h64, h65, hi, et, require_pan, y, rtD]
    rw [y] at et
    cases q : dupN Tbl.name p.tables i p.tables[i] with
    | true =>
      rw [q] at er
      rw [fe_hit (x := (7, 5, (i : Int), 0)) hi (by simp [tbG, hi, y, q])]
      simp [c_program_checkObjects_l2, h1, h2, h64, h65, hi, et, er, when_ok, require_pan, require_zero, rtD]
    | false =>
      rw [q] at er
      rw [fe_miss hi (by simp [tbG, hi, y, q])]
      simp [c_program_checkObjects_l2, h1, h2, h64, h65, hi, et, er, when_ok, require_zero, hw]
      exact ih _ _ (Nat.zero_le _) ⟨by simp [h1, Prg.e], by simp [h2], by simp [h64], by simp⟩
  · rintro e n L hL _ ⟨h1, h2, h64, h65⟩
    rw [fe_end]
    simp [c_program_checkObjects_l2, h64, h65, hL, rtD]
  · simp [h1, Prg.e]
theorem obj1_ok (p : Prg) (f : PrgS p) (e : Env) (n : Nat) (h1 : look 1 e = some (.iptr 9 [Prg.c p] 0 0)) : go Φ (finP []) [.c c_program_checkObjects_k4] .normal ⟨e, ⟨[], n⟩⟩ = some (rtD ((actD1 p).or (tblD p))) := by
  rw [show actD1 p = fe (acG p) p.actions.length 0 from rfl]
  have e1 := namesAction_ok p.actions f.a
  rw [Prg.e] at h1
  simp [c_program_checkObjects_k4, h1, e1]
  refine loop_nx p.actions.length (fun _ => []) 0 (fun i e => look 1 e = some (.iptr 9 [Prg.c p] 0 0) ∧ look 2 e = some (.slice 1 (p.actions.map fun x => [.str x.name])) ∧ look 38 e = some (.int .i64 p.actions.length) ∧ look 39 e = some (.int .i64 i))
    (fun i => some (rtD ((fe (acG p) p.actions.length i).or (tblD p)))) ?_ ?_ 0 _ _ (Nat.zero_le _) (Nat.zero_le _) ?_
  · rintro i e n L hi hL _ ⟨h1, h2, h38, h39⟩ ih
    have hlen := f.a
    have hw : IntKind.wrap .i64 ((i : Int) + 1) = ((i + 1 : Nat) : Int) := wrap64 (by omega) (by omega)
    have et := actE_ok p f i
    have er := repeated_ok Action.name p.actions i hi f.a
    simp only [Prg.e] at et
    rw [Prg.e] at h1
    by_cases y : (actE p i).2 = 0
    rotate_left
    · rw [fe_hit (x := ((actE p i).2, 4, (i : Int), (actE p i).1)) hi (by simp [acG, hi, y])]
      simp [c_program_checkObjects_l1, h1, h38, h39, hi, et, require_pan, y, rtD]
    rw [y] at et
    cases q : dupN Action.name p.actions i p.actions[i] with
    | true =>
      rw [q] at er
      rw [fe_hit (x := (7, 4, (i : Int), 0)) hi (by simp [acG, hi, y, q])]
      simp [c_program_checkObjects_l1, h1, h2, h38, h39, hi, et, er, when_ok, require_pan, require_zero, rtD]
    | false =>
      rw [q] at er
      rw [fe_miss hi (by simp [acG, hi, y, q])]
      simp [c_program_checkObjects_l1, h1, h2, h38, h39, hi, et, er, when_ok, require_zero, hw]
      exact ih _ _ (Nat.zero_le _) ⟨by simp [h1, Prg.e], by simp [h2], by simp [h38], by simp⟩
  · rintro e n L hL _ ⟨h1, h2, h38, h39⟩
    rw [fe_end]
    simp [c_program_checkObjects_l1, h38, h39, hL]
    exact obj2_ok p f _ _ (by simp [h1])
  · simp [h1, Prg.e]
theorem obj_ok (p : Prg) (f : PrgS p) : pureI Φ f_program_checkObjects [.agg (Prg.c p)] = some (rtD ((regD p).or ((actD1 p).or (tblD p)))) := by
  rw [pureI_go (fn := c_program_checkObjects) rfl rfl, show regD p = fe (regG p) p.registers.length 0 from rfl]
  have e1 := namesRegister_ok p.registers f.r
  generalize hX : (actD1 p).or (tblD p) = X
  simp [c_program_checkObjects, Prg.e, e1]
  refine loop_nx p.registers.length (fun _ => []) 0 (fun i e => look 1 e = some (.iptr 9 [Prg.c p] 0 0) ∧ look 2 e = some (.slice 1 (p.registers.map fun x => [.str x.name])) ∧ look 15 e = some (.slice 3 (p.registers.map Register.c)) ∧ look 16 e = some (.int .i64 p.registers.length) ∧ look 17 e = some (.int .i64 i))
    (fun i => some (rtD ((fe (regG p) p.registers.length i).or X))) ?_ ?_ 0 _ _ (Nat.zero_le _) (Nat.zero_le _) ?_
  · rintro i e n L hi hL _ ⟨h1, h2, h15, h16, h17⟩ ih
    have hlen := f.r
    have hw : IntKind.wrap .i64 ((i : Int) + 1) = ((i + 1 : Nat) : Int) := wrap64 (by omega) (by omega)
    have et := regE_ok p.registers[i] (f.rn _ (List.getElem_mem hi))
    have er := repeated_ok Register.name p.registers i hi f.r
    simp only [Register.e] at et
    by_cases y : regE p.registers[i] = 0
    rotate_left
    · rw [fe_hit (x := (regE p.registers[i], 3, (i : Int), 0)) hi (by simp [regG, hi, regD1, y])]
      simp [c_program_checkObjects_l0, Register.e, h15, h16, h17, hi, et, require_pan, y, rtD]
    rw [y] at et
    cases q : dupN Register.name p.registers i p.registers[i] with
    | true =>
      rw [q] at er
      rw [fe_hit (x := (7, 3, (i : Int), 0)) hi (by simp [regG, hi, regD1, y, q])]
      simp [c_program_checkObjects_l0, Register.e, h2, h15, h16, h17, hi, et, er, when_ok, require_pan, require_zero, rtD]
    | false =>
      rw [q] at er
      rw [fe_miss hi (by simp [regG, hi, regD1, y, q])]
      simp [c_program_checkObjects_l0, Register.e, h2, h15, h16, h17, hi, et, er, when_ok, require_zero, hw]
      exact ih _ _ (Nat.zero_le _) ⟨by simp [h1], by simp [h2], by simp [h15], by simp [h16], by simp⟩
  · rintro e n L hL _ ⟨h1, h2, h15, h16, h17⟩
    rw [fe_end]
    simp [c_program_checkObjects_l0, h16, h17, hL]
    rw [← hX]
    exact obj1_ok p f _ _ (by simp [h1])
  · simp [Prg.e]
theorem flo_ok (p : Prg) (f : PrgS p) (hc : (pre p.control).length < 2 ^ 40 - 1) : pureI Φ f_program_checkFlow [.agg (Prg.c p)] = some (rtD (floD p)) := by
  rw [pureI_go (fn := c_program_checkFlow) rfl rfl]
  have e1 := parE_ok p f
  have e2 := ctlE_ok p hc
  have e3 := depE_ok p f
  simp only [Prg.e, tup3] at e1 e2 e3
  by_cases y1 : (parE p).2.2 = 0
  rotate_left
  · simp [c_program_checkFlow, Prg.e, e1, y1, require_pan, floD, rtD]
  rw [y1] at e1
  by_cases y2 : (ctlE p).2 = 0
  rotate_left
  · simp [c_program_checkFlow, Prg.e, e1, y1, e2, y2, require_pan, require_zero, floD, rtD]
  rw [y2] at e2
  by_cases y3 : (depE p).2 = 0
  rotate_left
  · simp [c_program_checkFlow, Prg.e, e1, y1, e2, y2, e3, y3, require_pan, require_zero, floD, rtD]
  rw [y3] at e3
  simp [c_program_checkFlow, Prg.e, e1, y1, e2, y2, e3, y3, require_zero, floD, rtD]
end Go.Av
