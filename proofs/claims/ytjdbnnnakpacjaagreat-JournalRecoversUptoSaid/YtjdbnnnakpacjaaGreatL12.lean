/-
  The check of a program: the reference's answer.
-/
import Derived.Test.YtjdbnnnakpacjaaGreatL11
set_option linter.unusedVariables false
set_option linter.unusedSimpArgs false
set_option linter.constructorNameAsVariable false
namespace Go.Av
set_option maxRecDepth 4000
theorem fe_some {α : Type} {f : Nat → Option α} {N : Nat} {x : α} : ∀ {i}, fe f N i = some x → ∃ k, k < N ∧ f k = some x := by
  have key : ∀ n i, feF f n i = some x → ∃ k, k < i + n ∧ f k = some x := by
    intro n
    induction n with
    | zero => intro i h; simp [feF] at h
    | succ n ih =>
      intro i h
      simp only [feF] at h
      cases q : f i with
      | some y => rw [q] at h; cases h; exact ⟨i, by omega, q⟩
      | none =>
        rw [q] at h
        obtain ⟨k, h1, h2⟩ := ih _ h
        exact ⟨k, by omega, h2⟩
  intro i h
  unfold fe at h
  obtain ⟨k, h1, h2⟩ := key _ _ h
  by_cases hi : i ≤ N
  · exact ⟨k, by omega, h2⟩
  · rw [show N - i = 0 by omega] at h
    simp [feF] at h
theorem limD_nz {p : Prg} {d : Dg} (h : limD p = some d) : d.1 ≠ 0 := by
  unfold limD at h
  repeat' split at h
  all_goals first
    | (cases h; decide)
    | (cases h)
theorem hdrD_nz {p : Prg} {d : Dg} (h : hdrD p = some d) : d.1 ≠ 0 := by
  obtain ⟨k, hk, h⟩ := fe_some (f := hdrG p) h
  rw [hdrG, List.getElem?_eq_getElem hk, Option.bind_some] at h
  split at h
  · cases h
  · rename_i z; cases h; exact z
theorem metD_nz {p : Prg} {d : Dg} (h : metD p = some d) : d.1 ≠ 0 := by
  rw [metD_eq] at h
  split at h
  · cases h; decide
  · cases q : fe (metG p) p.metadata.length 0 with
    | some x =>
      rw [q] at h
      cases h
      obtain ⟨k, hk, h⟩ := fe_some q
      rw [metG, List.getElem?_eq_getElem hk, Option.bind_some] at h
      split at h
      · cases h
      · rename_i z; cases h; exact z
    | none =>
      rw [q, Option.none_or] at h
      obtain ⟨k, hk, h⟩ := fe_some h
      unfold metH at h
      split at h
      · cases h
      · cases h; simp
theorem regD_nz {p : Prg} {d : Dg} (h : regD p = some d) : d.1 ≠ 0 := by
  obtain ⟨k, hk, h⟩ := fe_some (f := regG p) h
  rw [regG, List.getElem?_eq_getElem hk, Option.bind_some] at h
  split at h
  · cases h
  · rename_i z; cases h; exact z
theorem actD1_nz {p : Prg} {d : Dg} (h : actD1 p = some d) : d.1 ≠ 0 := by
  obtain ⟨k, hk, h⟩ := fe_some (f := acG p) h
  rw [acG, List.getElem?_eq_getElem hk, Option.bind_some] at h
  split at h
  · rename_i z; cases h; exact z
  · split at h
    · cases h; simp
    · cases h
theorem tblD_nz {p : Prg} {d : Dg} (h : tblD p = some d) : d.1 ≠ 0 := by
  obtain ⟨k, hk, h⟩ := fe_some (f := tbG p) h
  rw [tbG, List.getElem?_eq_getElem hk, Option.bind_some] at h
  split at h
  · rename_i z; cases h; exact z
  · split at h
    · cases h; simp
    · cases h
theorem floD_nz {p : Prg} {d : Dg} (h : floD p = some d) : d.1 ≠ 0 := by
  unfold floD at h
  repeat' split at h
  all_goals first
    | (rename_i z; cases h; exact z)
    | (cases h)
theorem rprogCheck_ok (p : Prg) (f : PrgS p) (hv : ∀ t ∈ p.tables, ∀ v ∈ t.dflt.args, ok32 0 v) (hc : (pre p.control).length < 2 ^ 40 - 1) : pureI Φ f_ref21_Check [.agg (Prg.c p)] = some (.val (.agg (dgC (prgD p)))) := by
  rw [pureI_go (fn := c_ref21_Check) rfl rfl]
  have h1 := rlim_ok p f
  have h2 := rhdrD_ok p f
  have h3 := rmetD_ok p f
  have h4 := rregD_ok p f
  have h5 := ractD1_ok p f
  have h6 := rtblD_ok p f hv
  have h7 := rflo_ok p f hc
  simp only [Prg.e] at h1 h2 h3 h4 h5 h6 h7
  unfold prgD
  cases q1 : limD p with
  | some d => have n := limD_nz q1; rw [q1] at h1; simp [c_ref21_Check, Prg.e, h1, dgR, dgC, n]
  | none =>
  rw [q1] at h1
  cases q2 : hdrD p with
  | some d => have n := hdrD_nz q2; rw [q2] at h2; simp [c_ref21_Check, Prg.e, h1, h2, dgR, dgC, n]
  | none =>
  rw [q2] at h2
  cases q3 : metD p with
  | some d => have n := metD_nz q3; rw [q3] at h3; simp [c_ref21_Check, Prg.e, h1, h2, h3, dgR, dgC, n]
  | none =>
  rw [q3] at h3
  cases q4 : regD p with
  | some d => have n := regD_nz q4; rw [q4] at h4; simp [c_ref21_Check, Prg.e, h1, h2, h3, h4, dgR, dgC, n]
  | none =>
  rw [q4] at h4
  cases q5 : actD1 p with
  | some d => have n := actD1_nz q5; rw [q5] at h5; simp [c_ref21_Check, Prg.e, h1, h2, h3, h4, h5, dgR, dgC, n]
  | none =>
  rw [q5] at h5
  cases q6 : tblD p with
  | some d => have n := tblD_nz q6; rw [q6] at h6; simp [c_ref21_Check, Prg.e, h1, h2, h3, h4, h5, h6, dgR, dgC, n]
  | none =>
  rw [q6] at h6
  cases q7 : floD p with
  | some d => rw [q7] at h7; simp [c_ref21_Check, Prg.e, h1, h2, h3, h4, h5, h6, h7, dgR, dgC]
  | none => rw [q7] at h7; simp [c_ref21_Check, Prg.e, h1, h2, h3, h4, h5, h6, h7, dgR, dgC]
end Go.Av
