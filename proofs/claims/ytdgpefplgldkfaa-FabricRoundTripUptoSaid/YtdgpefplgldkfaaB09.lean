/-
  Lemmas for the law.
-/
import Derived.Test.YtdgpefplgldkfaaB08
set_option linter.unusedVariables false
set_option linter.unusedSimpArgs false
set_option linter.constructorNameAsVariable false
namespace Go.Av
set_option maxRecDepth 8000
theorem hF_len (l : List (List UInt8)) : (hF l).length = l.length := by simp [hF]
theorem pv2_eq : pv2 = .slice 2 [[.str [105, 110], .int .i64 8], [.str [111, 117, 116], .int .i64 8], [.str [100, 114, 111, 112], .int .i64 1], [.str [99, 111, 117, 110, 116], .int .i64 16]] := rfl
theorem beq_add1 (n k : Nat) : (n == n + k) = (k == 0) := by
  rw [Bool.eq_iff_iff]; simp
theorem beq_add2 (n k : Nat) : (n + k == n) = (k == 0) := by
  rw [Bool.eq_iff_iff]; simp
theorem sweepL_app : ∀ (a b : List (Nat × AO)), sweepL (a ++ b) = sweepL a ++ sweepL b
  | [], _ => rfl
  | (_, .res) :: r, b => by simp [sweepL_app r b]
  | (_, .row _ _) :: r, b => by simp [sweepL_app r b]
  | (_, .tok _ _) :: r, b => by simp [sweepL_app r b]
  | (_, .map _) :: r, b => by simp [sweepL_app r b]
theorem ns0_len : nsBase.length = 1 := rfl
theorem ns1_len : nsTag.length = 2 := rfl
theorem ns2_len : nsFlow.length = 3 := rfl
-- what env.New leaves: its result and its cells
def eV (n : Nat) : List AV := [.row (n + 10) 1 0 3, .row (n + 14) 1 0 3, .row (n + 18) 1 0 4, .fslice 1 []]
def eO (n : Nat) : List (Nat × AO) :=
  [(n, .row 9 [pvA]), (n + 1, .row 4 [eV n]), (n + 10, .row 1 [[.bool false], [.bool false], [.bool false]]), (n + 14, .row 1 [[.row (n + 53) 1 0 1], [.row (n + 88) 1 0 2], [.row (n + 123) 1 0 3]]),
   (n + 18, .row 1 [[.int .u32 0], [.int .u32 0], [.int .u32 0], [.int .u32 0]]), (n + 5, .row 4 [eV n]), (n + 53, .row 1 [[.int .u32 0]]), (n + 88, .row 1 [[.int .u32 0], [.int .u32 0]]), (n + 123, .row 1 [[.int .u32 0], [.int .u32 0], [.int .u32 0]])]
theorem env_New_ok (objs : List (Nat × AO)) (n : Nat) (hT : Tail objs n) (hS : sweepL objs = objs) : callI Φ f_env_New [.agg pvA] ⟨objs, n⟩ = some (.val (.agg (eV n)), ⟨objs ++ eO n, n + 124⟩) := by
  rw [callI_go (fn := c_env_New) rfl rfl]
  have t : ∀ k, look (n + k) objs = none := fun k => hT _ (by omega)
  have t0 : look n objs = none := hT n (Nat.le_refl _)
  have w1 : IntKind.wrap .i64 1 = 1 := rfl
  have w2 : IntKind.wrap .i64 2 = 2 := rfl
  have w3 : IntKind.wrap .i64 3 = 3 := rfl
  obtain ⟨R, hR⟩ : ∃ R, R = some (Rt.val (.agg (eV n)), (⟨objs ++ eO n, n + 124⟩ : AH)) := ⟨_, rfl⟩
  rw [← hR]
  simp only [eO, pvA, pv1_eq, pv2_eq] at hR
  simp only [pvA, pv1_eq, pv2_eq]
  simp [c_env_New, hV, t, t0, Nat.add_assoc, beq_add1, beq_add2, sweepL_app, hS]
  rw [go_loop]
  simp [c_env_New_l0, hF_len, ns0_len, t, t0, Nat.add_assoc, beq_add1, beq_add2, w1, w2, w3, sweepL_app, hS]
  rw [go_loop]
  simp [hF_len, ns1_len, t, t0, Nat.add_assoc, beq_add1, beq_add2, w1, w2, w3, sweepL_app, hS]
  rw [go_loop]
  simp [hF_len, ns2_len, t, t0, Nat.add_assoc, beq_add1, beq_add2, w1, w2, w3, sweepL_app, hS]
  rw [go_loop]
  simp [c_env_New_k1, hF_len, t, t0, Nat.add_assoc, beq_add1, beq_add2, w1, w2, w3, sweepL_app, hS]
  rw [hR]; simp [eV, hV]
end Go.Av
