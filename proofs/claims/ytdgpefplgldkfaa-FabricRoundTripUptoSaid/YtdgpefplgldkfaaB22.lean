/-
  Lemmas for the law.
-/
import Derived.Test.YtdgpefplgldkfaaB21
set_option linter.unusedVariables false
set_option linter.unusedSimpArgs false
set_option linter.constructorNameAsVariable false
namespace Go.Av
set_option maxRecDepth 8000
theorem ref12_New_ok : pureI Φ f_ref12_New [.agg pvA] = some (.val eZ) := pureI_of_ev2 (n := 100) (by kernel_rfl)
theorem ref18_Check_ok : pureI Φ f_ref18_Check [.agg pvA] = some (.val (.tup [.int .i64 0, .int .i64 0, .int .i64 0])) := pureI_of_ev2 (n := 200) (by kernel_rfl)
theorem ref18_accepted_ok (data : List Int) (hd : data.length ≤ 1048576) : pureI Φ f_ref18_accepted [.agg pvA, .slice 1 (data.map c8)] = some (.val (.int .i64 (if 512 < data.length then 4 else 0))) := by
  rw [pureI_go (fn := c_ref18_accepted) rfl rfl]
  have hh0 := ref11_Check_0
  have hh1 := ref11_Check_1
  have hh2 := ref11_Check_2
  obtain ⟨R, hR⟩ : ∃ R, R = some (Rt.val (.int .i64 (if 512 < data.length then 4 else 0))) := ⟨_, rfl⟩
  rw [← hR]
  have pc := ref18_Check_ok
  simp only [pvA, pv1_eq] at pc
  simp only [pvA, pv1_eq]
  unfold hV at pc hh0 hh1 hh2
  simp [c_ref18_accepted, hV, pc]
  have w1 : IntKind.wrap .i64 1 = 1 := rfl
  have w2 : IntKind.wrap .i64 2 = 2 := rfl
  have w3 : IntKind.wrap .i64 3 = 3 := rfl
  rw [go_loop]
  simp [c_ref18_accepted_l0, hh0, w1, w2, w3]
  rw [go_loop]
  simp [hh1, w1, w2, w3]
  rw [go_loop]
  simp [hh2, w1, w2, w3]
  rw [go_loop, hR]
  by_cases hb : 512 < data.length
  · simp [c_ref18_accepted_k1, hb]
  · simp [c_ref18_accepted_k1, hb]
theorem ref12_Get_00 (v : Int) (b1 b2 f1 f2 : List AV) (m p : List (List AV)) : pureI Φ f_ref12_Get [.agg [.slice 1 [[.bool true], b1, b2], .slice 1 [[.slice 1 [[.int .u32 v]]], f1, f2], .slice 1 m, .slice 1 p], .agg [.int .i64 0, .int .i64 0]] = some (.val (.int .u32 v)) := pureI_of_ev2 (n := 100) (by kernel_rfl)
theorem andm : ∀ v : Fin 256, (iand .u32 ((v.1 : Nat) : Int) 255 = ((v.1 : Nat) : Int)) := by decide +kernel
theorem trans_0 (v : Nat) (hv : v < 256) (b1 b2 f1 f2 : List AV) (m p : List (List AV)) : pureI Φ f_ref18_transition [.agg stL0, .agg [.slice 1 [[.bool true], b1, b2], .slice 1 [[.slice 1 [[.int .u32 (v : Int)]]], f1, f2], .slice 1 m, .slice 1 p]] = some (.val (.int .i64 (nx0 v))) := by
  rw [pureI_go (fn := c_ref18_transition) rfl rfl]
  have x1 := andm ⟨v, hv⟩
  simp only at x1
  have w1 : IntKind.wrap .i64 1 = 1 := rfl
  have w2 : IntKind.wrap .i64 2 = 2 := rfl
  obtain ⟨R, hR⟩ : ∃ R, R = some (Rt.val (.int .i64 (nx0 v))) := ⟨_, rfl⟩
  rw [← hR]
  simp [c_ref18_transition, stL0]
  by_cases h1 : v = 1
  · subst h1
    have a1 : iand .u32 1 255 = 1 := by decide +kernel
    rw [go_loop]
    simp [c_ref18_transition_l0, ref12_Get_00, a1, w1, w2]
    rw [hR]; simp [nx0]
  · by_cases h2 : v = 2
    · subst h2
      have a1 : iand .u32 2 255 = 2 := by decide +kernel
      rw [go_loop]
      simp [c_ref18_transition_l0, ref12_Get_00, a1, w1, w2]
      rw [go_loop]
      simp [c_ref18_transition_l0, ref12_Get_00, a1, w1, w2]
      rw [hR]; simp [nx0]
    · have e1 : ¬ ((v : Int) = 1) := by omega
      have e2 : ¬ ((v : Int) = 2) := by omega
      rw [go_loop]
      simp [c_ref18_transition_l0, ref12_Get_00, x1, h1, h2, w1, w2]
      rw [go_loop]
      simp [c_ref18_transition_l0, ref12_Get_00, x1, h1, h2, w1, w2]
      rw [go_loop]
      simp [c_ref18_transition_l0, c_ref18_transition_k1, ref12_Get_00, w1, w2]
      rw [hR]; simp [nx0, e1, e2]
theorem trans_1 (e : List AV) (he : e.length = 4) : pureI Φ f_ref18_transition [.agg stL1, .agg e] = some (.val (.int .i64 2)) := by
  rw [pureI_go (fn := c_ref18_transition) rfl rfl]; simp [c_ref18_transition, stL1]
  rw [go_loop]; simp [c_ref18_transition_l0, c_ref18_transition_k1]
theorem trans_2 (e : List AV) (he : e.length = 4) : pureI Φ f_ref18_transition [.agg stL2, .agg e] = some (.val (.int .i64 (-1))) := by
  rw [pureI_go (fn := c_ref18_transition) rfl rfl]; simp [c_ref18_transition, stL2]
  rw [go_loop]; simp [c_ref18_transition_l0, c_ref18_transition_k1]
end Go.Av
