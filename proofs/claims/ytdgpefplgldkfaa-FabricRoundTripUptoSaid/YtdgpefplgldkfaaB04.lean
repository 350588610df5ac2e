/-
  Lemmas for the law.
-/
import Derived.Test.YtdgpefplgldkfaaB03
set_option linter.unusedVariables false
set_option linter.unusedSimpArgs false
set_option linter.constructorNameAsVariable false
namespace Go.Av
set_option maxRecDepth 8000
theorem NewReader_ok (objs : List (Nat × AO)) (n : Nat) (data : List Int) (hT : Tail objs n) (hd : data.length ≤ 512) :
    callI Φ f_bitio_NewReader [.slice 1 (data.map c8)] ⟨objs, n⟩ = some (.val (.ptr (n + 1) 3 0 0), ⟨objs ++ [(n, .tok 1 data.length), (n + 1, rdr data n 0)], n + 2⟩) := by
  rw [callI_go (fn := c_bitio_NewReader) rfl rfl]
  have hT' := hT n (Nat.le_refl _)
  have hT2 := hT (n + 1) (by omega)
  have hb : data.length ≤ 70368744177664 := by omega
  have tk : (data.map c8).take data.length = data.map c8 := List.take_of_length_le (by simp)
  simp [c_bitio_NewReader, hT', hT2, hb, rdr, tk]
end Go.Av
