/-
  Metadata, registers, actions, tables: the program's answers.
-/
import Derived.Test.YtjdbnnnakpacjaaGreatK19
set_option linter.unusedVariables false
set_option linter.unusedSimpArgs false
set_option linter.constructorNameAsVariable false
namespace Go.Av
set_option maxRecDepth 4000
def metG (p : Prg) (i : Nat) : Option Dg := (p.metadata[i]?).bind fun f => if fldE p.metadata i f = 0 then none else some (fldE p.metadata i f, (2 : Int), (i : Int), (0 : Int))
def metH (p : Prg) (i : Nat) : Option Dg := if p.metadata[i]? = some (metaW i) then none else some (5, 2, (i : Int), 0)
theorem metD_eq (p : Prg) : metD p = if 12 < p.metadata.length then some (12, 2, 0, 0) else (fe (metG p) p.metadata.length 0).or (fe (metH p) 3 0) := by
  unfold metD
  show (if _ then _ else (match fe (metG p) p.metadata.length 0 with | some d => some d | none => fe (metH p) 3 0)) = _
  cases fe (metG p) p.metadata.length 0 <;> rfl
theorem Fld.eq_iff (a b : Fld) : a = b ↔ a.name = b.name ∧ a.width = b.width := Fld.ext_iff
theorem metH_ok (p : Prg) (e : Env) (n : Nat) (h1 : look 1 e = some (.iptr 9 [Prg.c p] 0 0)) : go Φ (finP []) [.c c_program_checkMetadata_k2] .normal ⟨e, ⟨[], n⟩⟩ = some (rtD (fe (metH p) 3 0)) := by
  rw [Prg.e] at h1
  simp [c_program_checkMetadata_k2]
  -- field 0
  rw [go_loop]
  by_cases l0 : p.metadata.length ≤ 0
  · rw [fe_hit (x := (5, 2, 0, 0)) (by omega) (by unfold metH; rw [List.getElem?_eq_none l0]; rfl)]
    have hnil : p.metadata = [] := List.eq_nil_of_length_eq_zero (by omega)
    simp [c_program_checkMetadata_l1, h1, hnil, when_ok, require_pan, rtD]
  have k0 : 0 < p.metadata.length := by omega
  have hne : ¬ p.metadata = [] := by intro h; rw [h] at k0; simp at k0
  by_cases a0 : p.metadata[0].name = [105, 110]
  rotate_left
  · rw [fe_hit (x := (5, 2, 0, 0)) (by omega) (by unfold metH; rw [List.getElem?_eq_getElem k0, if_neg (by simp [metaW, Fld.eq_iff, a0])]; rfl)]
    simp [c_program_checkMetadata_l1, Fld.e, h1, hne, k0, a0, when_ok, require_pan, rtD]
  by_cases b0 : p.metadata[0].width = 8
  rotate_left
  · rw [fe_hit (x := (5, 2, 0, 0)) (by omega) (by unfold metH; rw [List.getElem?_eq_getElem k0, if_neg (by simp [metaW, Fld.eq_iff, b0])]; rfl)]
    simp [c_program_checkMetadata_l1, Fld.e, h1, hne, k0, a0, b0, when_ok, require_pan, rtD]
  rw [fe_miss (by omega) (by unfold metH; rw [List.getElem?_eq_getElem k0, if_pos (by simp [metaW, Fld.eq_iff, a0, b0])])]
  simp [c_program_checkMetadata_l1, Fld.e, h1, hne, k0, a0, b0, when_ok, require_zero, wr1]
  -- field 1
  rw [go_loop]
  by_cases l1 : p.metadata.length ≤ 1
  · rw [fe_hit (x := (5, 2, 1, 0)) (by omega) (by unfold metH; rw [List.getElem?_eq_none l1]; rfl)]
    simp [h1, l1, when_ok, require_pan, rtD]
  have k1 : 1 < p.metadata.length := by omega
  by_cases a1 : p.metadata[1].name = [111, 117, 116]
  rotate_left
  · rw [fe_hit (x := (5, 2, 1, 0)) (by omega) (by unfold metH; rw [List.getElem?_eq_getElem k1, if_neg (by simp [metaW, Fld.eq_iff, a1])]; rfl)]
    simp [Fld.e, h1, l1, k1, a1, when_ok, require_pan, rtD]
  by_cases b1 : p.metadata[1].width = 8
  rotate_left
  · rw [fe_hit (x := (5, 2, 1, 0)) (by omega) (by unfold metH; rw [List.getElem?_eq_getElem k1, if_neg (by simp [metaW, Fld.eq_iff, b1])]; rfl)]
    simp [Fld.e, h1, l1, k1, a1, b1, when_ok, require_pan, rtD]
  rw [fe_miss (by omega) (by unfold metH; rw [List.getElem?_eq_getElem k1, if_pos (by simp [metaW, Fld.eq_iff, a1, b1])])]
  simp [Fld.e, h1, l1, k1, a1, b1, when_ok, require_zero, wr2]
  -- field 2
  rw [go_loop]
  by_cases l2 : p.metadata.length ≤ 2
  · rw [fe_hit (x := (5, 2, 2, 0)) (by omega) (by unfold metH; rw [List.getElem?_eq_none l2]; rfl)]
    simp [h1, l2, when_ok, require_pan, rtD]
  have k2 : 2 < p.metadata.length := by omega
  by_cases a2 : p.metadata[2].name = [100, 114, 111, 112]
  rotate_left
  · rw [fe_hit (x := (5, 2, 2, 0)) (by omega) (by unfold metH; rw [List.getElem?_eq_getElem k2, if_neg (by simp [metaW, Fld.eq_iff, a2])]; rfl)]
    simp [Fld.e, h1, l2, k2, a2, when_ok, require_pan, rtD]
  by_cases b2 : p.metadata[2].width = 1
  rotate_left
  · rw [fe_hit (x := (5, 2, 2, 0)) (by omega) (by unfold metH; rw [List.getElem?_eq_getElem k2, if_neg (by simp [metaW, Fld.eq_iff, b2])]; rfl)]
    simp [Fld.e, h1, l2, k2, a2, b2, when_ok, require_pan, rtD]
  rw [fe_miss (by omega) (by unfold metH; rw [List.getElem?_eq_getElem k2, if_pos (by simp [metaW, Fld.eq_iff, a2, b2])])]
  simp [Fld.e, h1, l2, k2, a2, b2, when_ok, require_zero, wr3]
  rw [go_loop, fe_end]
  simp [rtD]
theorem metD_ok (p : Prg) (f : PrgS p) : pureI Φ f_program_checkMetadata [.agg (Prg.c p)] = some (rtD (metD p)) := by
  rw [pureI_go (fn := c_program_checkMetadata) rfl rfl, metD_eq]
  by_cases z : 12 < p.metadata.length
  · simp [c_program_checkMetadata, Prg.e, z, when_ok, require_pan, rtD]
  have e1 := namesFld_ok p.metadata f.m
  rw [if_neg z]
  simp [c_program_checkMetadata, Prg.e, z, when_ok, require_zero, e1]
  refine loop_nx p.metadata.length (fun _ => []) 0 (fun i e => look 1 e = some (.iptr 9 [Prg.c p] 0 0) ∧ look 2 e = some (.slice 1 (p.metadata.map fun x => [.str x.name])) ∧ look 17 e = some (.slice 2 (p.metadata.map Fld.c)) ∧ look 18 e = some (.int .i64 p.metadata.length) ∧ look 19 e = some (.int .i64 i))
    (fun i => some (rtD ((fe (metG p) p.metadata.length i).or (fe (metH p) 3 0)))) ?_ ?_ 0 _ 0 (Nat.zero_le _) (Nat.le_refl _) ?_
  · rintro i e n L hi hL _ ⟨h1, h2, h17, h18, h19⟩ ih
    have hlen := f.m
    have hw : IntKind.wrap .i64 ((i : Int) + 1) = ((i + 1 : Nat) : Int) := wrap64 (by omega) (by omega)
    have ei := identifier_ok p.metadata[i].name (f.mn _ (List.getElem_mem hi))
    have ew := widthInvalid_ok p.metadata[i].width
    have er := repeated_ok Fld.name p.metadata i hi f.m
    cases q1 : idS p.metadata[i].name with
    | false =>
      rw [q1] at ei
      rw [fe_hit (x := (6, 2, (i : Int), 0)) hi (by simp [metG, hi, fldE, q1])]
      simp [c_program_checkMetadata_l0, Fld.e, h17, h18, h19, hi, ei, when_ok, require_pan, rtD]
    | true =>
    rw [q1] at ei
    cases q2 : wBad p.metadata[i].width with
    | true =>
      rw [q2] at ew
      rw [fe_hit (x := (10, 2, (i : Int), 0)) hi (by simp [metG, hi, fldE, q1, q2])]
      simp [c_program_checkMetadata_l0, Fld.e, h17, h18, h19, hi, ei, ew, when_ok, require_pan, require_zero, rtD]
    | false =>
    rw [q2] at ew
    cases q3 : dupN Fld.name p.metadata i p.metadata[i] with
    | true =>
      rw [q3] at er
      rw [fe_hit (x := (7, 2, (i : Int), 0)) hi (by simp [metG, hi, fldE, q1, q2, q3])]
      simp [c_program_checkMetadata_l0, Fld.e, h2, h17, h18, h19, hi, ei, ew, er, when_ok, require_pan, require_zero, rtD]
    | false =>
      rw [q3] at er
      rw [fe_miss hi (by simp [metG, hi, fldE, q1, q2, q3])]
      simp [c_program_checkMetadata_l0, Fld.e, h2, h17, h18, h19, hi, ei, ew, er, when_ok, require_zero, hw]
      exact ih _ _ (Nat.zero_le _) ⟨by simp [h1], by simp [h2], by simp [h17], by simp [h18], by simp⟩
  · rintro e n L hL _ ⟨h1, h2, h17, h18, h19⟩
    rw [fe_end]
    simp [c_program_checkMetadata_l0, h18, h19, hL]
    exact metH_ok p _ _ (by simp [h1])
  · simp [Prg.e]
end Go.Av
