/-
  The check of a program: the program's answer.
-/
import Derived.Test.YtjdbnnnakpacjaaGreatK21
set_option linter.unusedVariables false
set_option linter.unusedSimpArgs false
set_option linter.constructorNameAsVariable false
namespace Go.Av
set_option maxRecDepth 4000
theorem codeI_go {Φ : FuncId → Option AFun} (c : ACode) (s : St) : codeI Φ c s = go Φ (fun o => o) [.c c] .normal s := by
  rw [go_c]
  cases codeI Φ c s with
  | none => rfl
  | some p => rfl
def dgC (d : Dg) : List AV := [.int .i64 d.1, .int .i64 d.2.1, .int .i64 d.2.2.1, .int .i64 d.2.2.2]
def chkE (p : Prg) : Env := [(3, .func (.func f_program_Check_1) [] [.ptr 1 4 0 0]), (2, .ptr 1 4 0 0), (1, .ptr 0 9 0 0), (0, .agg (Prg.c p))]
def chkHp (p : Prg) (d : List AV) : AH := ⟨[(0, .row 9 [Prg.c p]), (1, .row 4 [d])], 2⟩
theorem checkBody (p : Prg) (f : PrgS p) (hc : (pre p.control).length < 2 ^ 40 - 1) : ∃ e', look 2 e' = some (.ptr 1 4 0 0) ∧ go Φ (fun o => o) [.c (match c_program_Check.code with | .seq _ (.dfr _ _ b) => b | _ => .skip)] .normal ⟨chkE p, chkHp p [.int .i64 0, .int .i64 0, .int .i64 0, .int .i64 0]⟩ =
    match (limD p).or ((hdrD p).or ((metD p).or (((regD p).or ((actD1 p).or (tblD p))).or (floD p)))) with
    | none => some (.ret, ⟨e', chkHp p [.int .i64 0, .int .i64 0, .int .i64 0, .int .i64 0]⟩)
    | some d => some (.pan (failV d.1 d.2.1 d.2.2.1 d.2.2.2), ⟨e', chkHp p [.int .i64 0, .int .i64 0, .int .i64 0, .int .i64 0]⟩) := by
  have h1 := limits_ok p f
  have h2 := checkHeaders_ok p f
  have h3 := metD_ok p f
  have h4 := obj_ok p f
  have h5 := flo_ok p f hc
  simp only [Prg.e] at h1 h2 h3 h4 h5
  cases q1 : limD p with
  | some d => rw [q1] at h1; simp [c_program_Check, chkE, chkHp, Prg.e, h1, rtD]
  | none =>
  cases q2 : hdrD p with
  | some d => rw [q1] at h1; rw [q2] at h2; simp [c_program_Check, chkE, chkHp, Prg.e, h1, h2, rtD]
  | none =>
  cases q3 : metD p with
  | some d => rw [q1] at h1; rw [q2] at h2; rw [q3] at h3; simp [c_program_Check, chkE, chkHp, Prg.e, h1, h2, h3, rtD]
  | none =>
  cases q4 : (regD p).or ((actD1 p).or (tblD p)) with
  | some d => rw [q1] at h1; rw [q2] at h2; rw [q3] at h3; rw [q4] at h4; simp [c_program_Check, chkE, chkHp, Prg.e, h1, h2, h3, h4, rtD]
  | none =>
  cases q5 : floD p with
  | some d => rw [q1] at h1; rw [q2] at h2; rw [q3] at h3; rw [q4] at h4; rw [q5] at h5; simp [c_program_Check, chkE, chkHp, Prg.e, h1, h2, h3, h4, h5, rtD]
  | none => rw [q1] at h1; rw [q2] at h2; rw [q3] at h3; rw [q4] at h4; rw [q5] at h5; simp [c_program_Check, chkE, chkHp, Prg.e, h1, h2, h3, h4, h5, rtD]
def kA : ACode := match c_program_Check.code with | .seq a _ => a | _ => .skip
def kB : ACode := match c_program_Check.code with | .seq _ (.dfr _ _ b) => b | _ => .skip
theorem prgD_eq (p : Prg) : prgD p = ((limD p).or ((hdrD p).or ((metD p).or (((regD p).or ((actD1 p).or (tblD p))).or (floD p))))).getD (0, 0, 0, 0) := by
  unfold prgD
  cases limD p <;> cases hdrD p <;> cases metD p <;> cases regD p <;> cases actD1 p <;> cases tblD p <;> rfl
theorem clo_nil (p : Prg) (d : List AV) (hd : d.length = 4) : cloI Φ c_program_Check .niliface [.ptr 1 4 0 0] (chkHp p d) = some (chkHp p d) := by
  unfold cloI
  rw [codeI_go]
  simp [c_program_Check, recE]
theorem clo_pan (p : Prg) (d : Dg) : ∃ h, cloI Φ c_program_Check (failV d.1 d.2.1 d.2.2.1 d.2.2.2) [.ptr 1 4 0 0] (chkHp p [.int .i64 0, .int .i64 0, .int .i64 0, .int .i64 0]) = some h ∧ look 1 h.objs = some (.row 4 [dgC d]) := by
  unfold cloI
  rw [codeI_go]
  simp [c_program_Check, recE, failV, tF, chkHp, dgC]
theorem progCheck_ok (p : Prg) (f : PrgS p) (hc : (pre p.control).length < 2 ^ 40 - 1) : pureI Φ f_program_Check [.agg (Prg.c p)] = some (.val (.agg (dgC (prgD p)))) := by
  unfold pureI
  rw [callI_dfr Φ (d := c_program_Check) rfl rfl, show c_program_Check.code = .seq kA (.dfr [⟨some 3, none, .mkfunc (.func f_program_Check_1) [] [.t 2]⟩] 3 kB) from rfl]
  have a1 : codeI Φ kA ⟨bindE 0 [.agg (Prg.c p)], H0⟩ = some (.normal, ⟨[(2, .ptr 1 4 0 0), (1, .ptr 0 9 0 0), (0, .agg (Prg.c p))], chkHp p [.int .i64 0, .int .i64 0, .int .i64 0, .int .i64 0]⟩) := by
    rw [codeI_go]
    simp [kA, c_program_Check, chkHp]
  obtain ⟨e', he', hb⟩ := checkBody p f hc
  have hb2 : codeI Φ kB ⟨chkE p, chkHp p [.int .i64 0, .int .i64 0, .int .i64 0, .int .i64 0]⟩ = _ := (codeI_go _ _).trans hb
  have a2 : evOps (callI Φ) none [⟨some 3, none, .mkfunc (.func f_program_Check_1) [] [.t 2]⟩] ⟨[(2, .ptr 1 4 0 0), (1, .ptr 0 9 0 0), (0, .agg (Prg.c p))], chkHp p [.int .i64 0, .int .i64 0, .int .i64 0, .int .i64 0]⟩ =
      some (.normal, ⟨chkE p, chkHp p [.int .i64 0, .int .i64 0, .int .i64 0, .int .i64 0]⟩) := by
    simp [evOps, guardOn, chkE]
  simp only [dcodeI, a1, a2]
  have a3 : (look 3 (chkE p)).bind tgt = some (f_program_Check_1, [.ptr 1 4 0 0]) := by simp [chkE]
  rw [a3]
  simp only [show c_program_Check.clo = f_program_Check_1 from rfl, show c_program_Check.ncaps = 1 from rfl, List.length_singleton, and_self, if_true]
  rw [hb2, prgD_eq]
  cases (limD p).or ((hdrD p).or ((metD p).or (((regD p).or ((actD1 p).or (tblD p))).or (floD p)))) with
  | none =>
    simp only [dEndI]
    rw [clo_nil p _ rfl]
    simp [evRet, c_program_Check, he', chkHp, dgC]
  | some d =>
    obtain ⟨h, k1, k2⟩ := clo_pan p d
    simp only [dEndI]
    rw [k1]
    obtain ⟨O, n⟩ := h
    simp only [dgC] at k2
    simp [evRet, c_program_Check, show Option.isSome (some ((4 : Nat), (1 : Nat))) = true from rfl, he', k2, dgC]
end Go.Av
