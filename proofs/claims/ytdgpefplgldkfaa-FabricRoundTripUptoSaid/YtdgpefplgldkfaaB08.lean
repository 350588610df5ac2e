/-
  Lemmas for the law.
-/
import Derived.Test.YtdgpefplgldkfaaB07
set_option linter.unusedVariables false
set_option linter.unusedSimpArgs false
set_option linter.constructorNameAsVariable false
namespace Go.Av
set_option maxRecDepth 8000
theorem parser_refuse_ok (data : List Int) (hd : data.length ≤ 1048576) : pureI Φ f_parser_refuse [.agg pvA, .slice 1 (data.map c8)] = some (.val (.int .i64 (if 512 < data.length then 4 else 0))) := by
  rw [pureI_go (fn := c_parser_refuse) rfl rfl]
  have hh0 := header_Check_0
  have hh1 := header_Check_1
  have hh2 := header_Check_2
  obtain ⟨R, hR⟩ : ∃ R, R = some (Rt.val (.int .i64 (if 512 < data.length then 4 else 0))) := ⟨_, rfl⟩
  rw [← hR]
  have pc := parser_Check_ok
  simp only [pvA, pv1_eq] at pc
  simp only [pvA, pv1_eq]
  unfold hV at pc hh0 hh1 hh2
  simp [c_parser_refuse, hV, pc]
  have w1 : IntKind.wrap .i64 1 = 1 := rfl
  have w2 : IntKind.wrap .i64 2 = 2 := rfl
  have w3 : IntKind.wrap .i64 3 = 3 := rfl
  rw [go_loop]
  simp [c_parser_refuse_l0, hh0, w1, w2, w3]
  rw [go_loop]
  simp [hh1, w1, w2, w3]
  rw [go_loop]
  simp [hh2, w1, w2, w3]
  rw [go_loop, hR]
  by_cases hb : 512 < data.length
  · simp [c_parser_refuse_k1, hb]
  · simp [c_parser_refuse_k1, hb]
end Go.Av
