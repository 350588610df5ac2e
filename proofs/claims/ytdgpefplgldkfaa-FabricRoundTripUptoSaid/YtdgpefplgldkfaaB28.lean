/-
  Lemmas for the law.
-/
import Derived.Test.YtdgpefplgldkfaaB27
set_option linter.unusedVariables false
set_option linter.unusedSimpArgs false
set_option linter.constructorNameAsVariable false
namespace Go.Av
set_option maxRecDepth 8000
theorem Parse_of (data : List Int) (a b c d ents : List (List AV)) (e : Int) (h : pureI Φ f_parser_run [.agg pvA, .slice 1 (data.map c8)] = some (.val (.tup [.agg [.slice 1 a, .slice 1 b, .slice 1 c, .slice 1 d], .slice 1 ents, .int .i64 e]))) :
    pureI Φ f_parser_Parse [.agg pvA, .slice 1 (data.map c8)] = some (.val (.tup [.agg [.slice 1 a, .slice 1 b, .slice 1 c, .slice 1 d], .int .i64 e])) := by
  rw [pureI_go (fn := c_parser_Parse) rfl rfl]
  simp only [pvA] at h ⊢
  simp [c_parser_Parse, h]
theorem rParse_of (data : List Int) (a b c d ents : List (List AV)) (e : Int) (h : pureI Φ f_ref18_run [.agg pvA, .slice 1 (data.map c8)] = some (.val (.tup [.agg [.slice 1 a, .slice 1 b, .slice 1 c, .slice 1 d], .slice 1 ents, .int .i64 e]))) :
    pureI Φ f_ref18_Parse [.agg pvA, .slice 1 (data.map c8)] = some (.val (.tup [.agg [.slice 1 a, .slice 1 b, .slice 1 c, .slice 1 d], .int .i64 e])) := by
  rw [pureI_go (fn := c_ref18_Parse) rfl rfl]
  simp only [pvA] at h ⊢
  simp [c_ref18_Parse, h]
-- the result of both parsers
def parR (data : List Int) : List AV × Int := if 512 < data.length then (eZl, 4) else decR data
inductive ParF : List AV × Int → Prop where
  | err (e : Int) (he : e ≠ 0) : ParF (eZl, e)
  | one (x y z : Int) (r : List Int) : ParF (okE [true, false, true] [[1], [0, 0], [x, y, z]] r, 0)
  | two (v l x y z : Int) (r : List Int) : ParF (okE [true, true, true] [[2], [v, l], [x, y, z]] r, 0)
theorem parR_form (data : List Int) : ParF (parR data) := by
  unfold parR
  split
  · exact .err 4 (by simp)
  · match data with
    | [] => exact .err 3 (by simp)
    | v :: t =>
      simp only [decR]
      split
      · split
        · exact .err 3 (by simp)
        · rename_i h
          match t, h with
          | x :: y :: z :: r, _ => exact .one x y z r
          | [], h => simp at h
          | [_], h => simp at h
          | [_, _], h => simp at h
      · split
        · split
          · exact .err 3 (by simp)
          · split
            · exact .err 3 (by simp)
            · rename_i h
              match t, h with
              | v :: l :: x :: y :: z :: r, _ => exact .two v l x y z r
              | [], h => simp at h
              | [_], h => simp at h
              | [_, _], h => simp at h
              | [_, _, _], h => simp at h
              | [_, _, _, _], h => simp at h
        · exact .err 15 (by simp)
theorem form_slices {p : List AV × Int} (h : ParF p) : ∃ a b c d, p.1 = [.slice 1 a, .slice 1 b, .slice 1 c, .slice 1 d] := by
  cases h <;> exact ⟨_, _, _, _, rfl⟩
theorem Parse_ok (data : List Int) (hd : data.length ≤ 1048576) (hb : ∀ x ∈ data, 0 ≤ x ∧ x < 256) : pureI Φ f_parser_Parse [.agg pvA, .slice 1 (data.map c8)] = some (.val (.tup [.agg (parR data).1, .int .i64 (parR data).2])) := by
  obtain ⟨a, b, c, d, hf⟩ := form_slices (parR_form data)
  rw [hf]
  by_cases h : 512 < data.length
  · have := run_long h hd
    have hp : parR data = (eZl, 4) := by simp only [parR, if_pos h]
    rw [hp] at hf ⊢
    rw [eZ_eq] at this
    simp only at hf ⊢
    rw [hf] at this
    exact Parse_of _ _ _ _ _ _ _ this
  · obtain ⟨ents, this⟩ := run_ok data (by omega) hb
    have hp : parR data = decR data := by simp only [parR, if_neg h]
    rw [hp] at hf ⊢
    rw [hf] at this
    exact Parse_of _ _ _ _ _ _ _ this
theorem rParse_ok (data : List Int) (hd : data.length ≤ 1048576) (hb : ∀ x ∈ data, 0 ≤ x ∧ x < 256) : pureI Φ f_ref18_Parse [.agg pvA, .slice 1 (data.map c8)] = some (.val (.tup [.agg (parR data).1, .int .i64 (parR data).2])) := by
  obtain ⟨a, b, c, d, hf⟩ := form_slices (parR_form data)
  rw [hf]
  by_cases h : 512 < data.length
  · have := ref_long h hd
    have hp : parR data = (eZl, 4) := by simp only [parR, if_pos h]
    rw [hp] at hf ⊢
    rw [eZ_eq] at this
    simp only at hf ⊢
    rw [hf] at this
    exact rParse_of _ _ _ _ _ _ _ this
  · obtain ⟨ents, this⟩ := ref_run_ok data (by omega) hb
    have hp : parR data = decR data := by simp only [parR, if_neg h]
    rw [hp] at hf ⊢
    rw [hf] at this
    exact rParse_of _ _ _ _ _ _ _ this
end Go.Av
