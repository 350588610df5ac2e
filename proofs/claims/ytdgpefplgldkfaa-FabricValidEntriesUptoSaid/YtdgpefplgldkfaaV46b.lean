/-
  Lemmas for the law.
-/
import Derived.Test.YtdgpefplgldkfaaV46
set_option linter.unusedVariables false
set_option linter.unusedSimpArgs false
set_option linter.constructorNameAsVariable false
namespace Go.Av
set_option maxRecDepth 8000
theorem CheckCall_0 (v : Int) (hv : v ≤ 255) : pureI Φ f_action_CheckCall [.agg pvA, .agg [.int .i64 0, .slice 1 [[.int .u32 v]]]] = some (.val (.int .i64 0)) := by
  rw [pureI_go (fn := c_action_CheckCall) rfl rfl]
  obtain ⟨x, n, y, hp⟩ := pv4_0
  simp [c_action_CheckCall, pvA, pv4, pv4_len, hp]
  refine loop_nat 1 (fun i e h => look 5 e = some (.slice 2 [[n, .int .i64 8]]) ∧ look 33 e = some (.slice 1 [[.int .u32 v]]) ∧ look 34 e = some (.int .i64 1) ∧ look 35 e = some (.int .i64 i)) (fun i => some (Rt.val (.int .i64 0))) ?_ ?_ 0 _ _ (Nat.zero_le _) ?_
  · rintro i e h L hi hL ⟨h5, h33, h34, h35⟩ ih
    obtain rfl : i = 0 := by omega
    simp [c_action_CheckCall_l0, h5, h33, h34, h35, hL, bitvec_Fits_8, hv]
    exact ih _ _ ⟨by simp [h5], by simp [h33], by simp [h34], by simp; rfl⟩
  · rintro e h L hL ⟨h5, h33, h34, h35⟩
    simp [c_action_CheckCall_l0, c_action_CheckCall_k1, h5, h33, h34, h35, hL]
  · simp
theorem CheckCall_1 : pureI Φ f_action_CheckCall [.agg pvA, .agg [.int .i64 1, .slice 1 []]] = some (.val (.int .i64 0)) := pureI_of_ev2 (n := 100) (by kernel_rfl)
theorem CheckCall_2 (v w : Int) (hv : v ≤ 255) (hw : w ≤ 255) : pureI Φ f_action_CheckCall [.agg pvA, .agg [.int .i64 2, .slice 1 [[.int .u32 v], [.int .u32 w]]]] = some (.val (.int .i64 0)) := by
  rw [pureI_go (fn := c_action_CheckCall) rfl rfl]
  obtain ⟨x, n, m, y, hp⟩ := pv4_2
  simp [c_action_CheckCall, pvA, pv4, pv4_len, hp]
  refine loop_nat 2 (fun i e h => look 5 e = some (.slice 2 [[n, .int .i64 8], [m, .int .i64 8]]) ∧ look 33 e = some (.slice 1 [[.int .u32 v], [.int .u32 w]]) ∧ look 34 e = some (.int .i64 2) ∧ look 35 e = some (.int .i64 i)) (fun i => some (Rt.val (.int .i64 0))) ?_ ?_ 0 _ _ (Nat.zero_le _) ?_
  · rintro i e h L hi hL ⟨h5, h33, h34, h35⟩ ih
    have hc : i = 0 ∨ i = 1 := by omega
    rcases hc with rfl | rfl
    · simp [c_action_CheckCall_l0, h5, h33, h34, h35, hL, bitvec_Fits_8, hv]
      exact ih _ _ ⟨by simp [h5], by simp [h33], by simp [h34], by simp; rfl⟩
    · simp [c_action_CheckCall_l0, h5, h33, h34, h35, hL, bitvec_Fits_8, hw]
      exact ih _ _ ⟨by simp [h5], by simp [h33], by simp [h34], by simp; rfl⟩
  · rintro e h L hL ⟨h5, h33, h34, h35⟩
    simp [c_action_CheckCall_l0, c_action_CheckCall_k1, h5, h33, h34, h35, hL]
  · simp
-- an entry of the first two tables
theorem entry_Check_0 (v x : Int) (hv : v ≤ 255) (hz : iandNot .u32 v 255 = 0) (hx : x ≤ 255) : pureI Φ f_entry_Check [.agg pvA, .int .i64 0, .agg [.slice 2 [[.int .u32 v, .int .u32 255]], .int .i64 0, .int .i64 0, .slice 1 [[.int .u32 x]]]] = some (.val (.int .i64 0)) := by
  rw [pureI_go (fn := c_entry_Check) rfl rfl]
  obtain ⟨n, a, b, c, d, f, hp⟩ := pv5_0
  have t1 := table_Check_0
  have t2 := table_Widths_0
  have t3 := table_Allows_00
  have t4 := CheckCall_0 x hx
  simp only [pvA, pv5] at t1 t2 t3 t4
  simp [c_entry_Check, pvA, t1, t2, pv5, pv5_len, hp]
  refine loop_nat 1 (fun i e h => look 1 e = some (.int .i64 0) ∧ look 3 e = some (.ptr 0 9 0 0) ∧ look 5 e = some (.ptr 1 4 0 0) ∧ look 9 e = some (.slice 3 [[a, b, .int .i64 1]]) ∧ look 10 e = some (.slice 1 [[.int .i64 8]]) ∧ look 39 e = some (.slice 2 [[.int .u32 v, .int .u32 255]]) ∧ look 40 e = some (.int .i64 1) ∧ look 41 e = some (.int .i64 i) ∧
    HP [(0, AO.row 9 [[pv0, pv1, pv2, pv3, pv4, AV.slice 6 pv5L, pv6, pv7, pv8]]), (1, AO.row 4 [[.slice 2 [[.int .u32 v, .int .u32 255]], .int .i64 0, .int .i64 0, .slice 1 [[.int .u32 x]]]])] 2 h) (fun i => some (Rt.val (.int .i64 0))) ?_ ?_ 0 _ _ (Nat.zero_le _) ?_
  · rintro i e _ L hi hL ⟨h1, h3, h5, h9, h10, h39, h40, h41, T, n, hT, rfl⟩ ih
    obtain rfl : i = 0 := by omega
    have hT' := hT (n + 2) (Nat.le_refl _)
    simp [c_entry_Check_l0, h1, h3, h5, h9, h10, h39, h40, h41, hL, hT', checkKey_1 v hv hz]
    exact ih _ _ ⟨by simp [h1], by simp [h3], by simp [h5], by simp [h9], by simp [h10], by simp [h39], by simp [h40], by simp; rfl, HP.next hT⟩
  · rintro e _ L hL ⟨h1, h3, h5, h9, h10, h39, h40, h41, T, n, hT, rfl⟩
    simp [c_entry_Check_l0, c_entry_Check_k1, h1, h3, h5, h9, h10, h39, h40, h41, hL, t3, t4]
  · simp [HP.mk]
theorem entry_Check_1 (v : Int) (hv : v ≤ 255) (hz : iandNot .u32 v 255 = 0) : pureI Φ f_entry_Check [.agg pvA, .int .i64 1, .agg [.slice 2 [[.int .u32 v, .int .u32 255]], .int .i64 0, .int .i64 1, .slice 1 []]] = some (.val (.int .i64 0)) := by
  rw [pureI_go (fn := c_entry_Check) rfl rfl]
  obtain ⟨n, a, b, c, d, f, hp⟩ := pv5_1
  have t1 := table_Check_1
  have t2 := table_Widths_1
  have t3 := table_Allows_11
  have t4 := CheckCall_1
  simp only [pvA, pv5] at t1 t2 t3 t4
  simp [c_entry_Check, pvA, t1, t2, pv5, pv5_len, hp]
  refine loop_nat 1 (fun i e h => look 1 e = some (.int .i64 1) ∧ look 3 e = some (.ptr 0 9 0 0) ∧ look 5 e = some (.ptr 1 4 0 0) ∧ look 9 e = some (.slice 3 [[a, b, .int .i64 1]]) ∧ look 10 e = some (.slice 1 [[.int .i64 8]]) ∧ look 39 e = some (.slice 2 [[.int .u32 v, .int .u32 255]]) ∧ look 40 e = some (.int .i64 1) ∧ look 41 e = some (.int .i64 i) ∧
    HP [(0, AO.row 9 [[pv0, pv1, pv2, pv3, pv4, AV.slice 6 pv5L, pv6, pv7, pv8]]), (1, AO.row 4 [[.slice 2 [[.int .u32 v, .int .u32 255]], .int .i64 0, .int .i64 1, .slice 1 []]])] 2 h) (fun i => some (Rt.val (.int .i64 0))) ?_ ?_ 0 _ _ (Nat.zero_le _) ?_
  · rintro i e _ L hi hL ⟨h1, h3, h5, h9, h10, h39, h40, h41, T, n, hT, rfl⟩ ih
    obtain rfl : i = 0 := by omega
    have hT' := hT (n + 2) (Nat.le_refl _)
    simp [c_entry_Check_l0, h1, h3, h5, h9, h10, h39, h40, h41, hL, hT', checkKey_1 v hv hz]
    exact ih _ _ ⟨by simp [h1], by simp [h3], by simp [h5], by simp [h9], by simp [h10], by simp [h39], by simp [h40], by simp; rfl, HP.next hT⟩
  · rintro e _ L hL ⟨h1, h3, h5, h9, h10, h39, h40, h41, T, n, hT, rfl⟩
    simp [c_entry_Check_l0, c_entry_Check_k1, h1, h3, h5, h9, h10, h39, h40, h41, hL, t3, t4]
  · simp [HP.mk]
end Go.Av
