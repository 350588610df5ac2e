/-
  Lemmas for the law.
-/
import Derived.Test.YtdgpefplgldkfaaB12
set_option linter.unusedVariables false
set_option linter.unusedSimpArgs false
set_option linter.constructorNameAsVariable false
namespace Go.Av
set_option maxRecDepth 8000
-- the state after the first
def stL0 : List AV := [.str [115, 116, 97, 114, 116], .slice 1 [[.int .i64 0]], .bool true, .int .i64 0, .int .i64 0, .slice 3 [[.int .u32 1, .int .u32 255, .int .i64 2], [.int .u32 2, .int .u32 255, .int .i64 1]], .int .i64 (-2)]
def stL1 : List AV := [.str [116, 97, 103, 103, 101, 100], .slice 1 [[.int .i64 1]], .bool false, .int .i64 0, .int .i64 0, .slice 3 [], .int .i64 2]
def stL2 : List AV := [.str [102, 108, 111, 119, 115], .slice 1 [[.int .i64 2]], .bool false, .int .i64 0, .int .i64 0, .slice 3 [], .int .i64 (-1)]
theorem pv6_eq : pv6 = .slice 7 [stL0, stL1, stL2] := rfl
def nx0 (v : Int) : Int := if v = 1 then 2 else if v = 2 then 1 else -2
theorem env_Get_00 (v : Int) (b1 b2 f1 f2 : List AV) (m p : List (List AV)) : pureI Φ f_env_Get [.agg [.slice 1 [[.bool true], b1, b2], .slice 1 [[.slice 1 [[.int .u32 v]]], f1, f2], .slice 1 m, .slice 1 p], .agg [.int .i64 0, .int .i64 0]] = some (.val (.int .u32 v)) := by
  have h1 : pureI Φ f_env_at_uint32 [.slice 1 [[.slice 1 [[.int .u32 v]]], f1, f2], .int .i64 0] = some (.val (.slice 1 [[.int .u32 v]])) := by
    rw [pureI_go (fn := c_env_at_uint32) rfl rfl]; simp [c_env_at_uint32]
  have h2 : pureI Φ f_env_at_bool [.slice 1 [[.bool true], b1, b2], .int .i64 0] = some (.val (.bool true)) := by
    rw [pureI_go (fn := c_env_at_bool) rfl rfl]; simp [c_env_at_bool]
  have h3 : pureI Φ f_env_in_uint32 [.slice 1 [[.int .u32 v]], .int .i64 0] = some (.val (.bool true)) := by
    rw [pureI_go (fn := c_env_in_uint32) rfl rfl]; simp [c_env_in_uint32]
  have h4 : pureI Φ f_env_element [.agg [.slice 1 [[.bool true], b1, b2], .slice 1 [[.slice 1 [[.int .u32 v]]], f1, f2], .slice 1 m, .slice 1 p], .agg [.int .i64 0, .int .i64 0]] = some (.val (.tup [.slice 1 [[.int .u32 v]], .bool true])) := by
    rw [pureI_go (fn := c_env_element) rfl rfl]; simp [c_env_element, h1, h2, h3]
  rw [pureI_go (fn := c_env_Get) rfl rfl]
  simp [c_env_Get, h4]
theorem xorm : ∀ v : Fin 256, (iand .u32 (ixor .u32 ((v.1 : Nat) : Int) 1) 255 = 0 ↔ v.1 = 1) ∧ (iand .u32 (ixor .u32 ((v.1 : Nat) : Int) 2) 255 = 0 ↔ v.1 = 2) := by decide +kernel
theorem next_0 (v : Nat) (hv : v < 256) (b1 b2 f1 f2 : List AV) (m p : List (List AV)) : pureI Φ f_parser_next [.agg stL0, .agg [.slice 1 [[.bool true], b1, b2], .slice 1 [[.slice 1 [[.int .u32 (v : Int)]]], f1, f2], .slice 1 m, .slice 1 p]] = some (.val (.int .i64 (nx0 v))) := by
  rw [pureI_go (fn := c_parser_next) rfl rfl]
  obtain ⟨x1, x2⟩ := xorm ⟨v, hv⟩
  simp only at x1 x2
  have w1 : IntKind.wrap .i64 1 = 1 := rfl
  have w2 : IntKind.wrap .i64 2 = 2 := rfl
  obtain ⟨R, hR⟩ : ∃ R, R = some (Rt.val (.int .i64 (nx0 v))) := ⟨_, rfl⟩
  rw [← hR]
  simp [c_parser_next, stL0, env_Get_00]
  have a1 : iand .u32 (ixor .u32 1 1) 255 = 0 := by decide +kernel
  have a2 : ¬ (iand .u32 (ixor .u32 2 1) 255 = 0) := by decide +kernel
  have a3 : iand .u32 (ixor .u32 2 2) 255 = 0 := by decide +kernel
  by_cases h1 : v = 1
  · subst h1
    rw [go_loop]
    simp [c_parser_next_l0, a1, w1, w2]
    rw [hR]; simp [nx0]
  · by_cases h2 : v = 2
    · subst h2
      rw [go_loop]
      simp [c_parser_next_l0, a2, w1, w2]
      rw [go_loop]
      simp [c_parser_next_l0, a3, w1, w2]
      rw [hR]; simp [nx0]
    · have e1 : ¬ ((v : Int) = 1) := by omega
      have e2 : ¬ ((v : Int) = 2) := by omega
      rw [go_loop]
      simp [c_parser_next_l0, x1, x2, h1, h2, w1, w2]
      rw [go_loop]
      simp [c_parser_next_l0, x1, x2, h1, h2, w1, w2]
      rw [go_loop]
      simp [c_parser_next_k1, w1, w2]
      rw [hR]; simp [nx0, e1, e2]
theorem next_1 (e : AV) (he : ∃ cs, e = .agg cs ∧ cs.length = 4) : pureI Φ f_parser_next [.agg stL1, e] = some (.val (.int .i64 2)) := by
  obtain ⟨cs, rfl, hl⟩ := he
  rw [pureI_go (fn := c_parser_next) rfl rfl]; simp [c_parser_next, c_parser_next_k1, stL1]
theorem next_2 (e : AV) (he : ∃ cs, e = .agg cs ∧ cs.length = 4) : pureI Φ f_parser_next [.agg stL2, e] = some (.val (.int .i64 (-1))) := by
  obtain ⟨cs, rfl, hl⟩ := he
  rw [pureI_go (fn := c_parser_next) rfl rfl]; simp [c_parser_next, c_parser_next_k1, stL2]
end Go.Av
