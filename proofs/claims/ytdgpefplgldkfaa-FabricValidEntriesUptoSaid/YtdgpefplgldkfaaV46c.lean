/-
  Lemmas for the law.
-/
import Derived.Test.YtdgpefplgldkfaaV46b
set_option linter.unusedVariables false
set_option linter.unusedSimpArgs false
set_option linter.constructorNameAsVariable false
namespace Go.Av
set_option maxRecDepth 8000
def goodK (v m : Int) : Prop := v ≤ 255 ∧ m ≤ 255 ∧ iandNot .u32 v m = 0
theorem entry_Check_2 (v1 m1 v2 m2 v3 m3 v4 m4 v5 m5 v6 m6 pr a b : Int) (g1 : goodK v1 m1) (g2 : goodK v2 m2) (g3 : goodK v3 m3) (g4 : goodK v4 m4) (g5 : goodK v5 m5) (g6 : goodK v6 m6) (hp0 : 0 ≤ pr) (hp1 : pr ≤ 255) (ha : a ≤ 255) (hb : b ≤ 255) :
    pureI Φ f_entry_Check [.agg pvA, .int .i64 2, .agg [.slice 2 [[.int .u32 v1, .int .u32 m1], [.int .u32 v2, .int .u32 m2], [.int .u32 v3, .int .u32 m3], [.int .u32 v4, .int .u32 m4], [.int .u32 v5, .int .u32 m5], [.int .u32 v6, .int .u32 m6]], .int .i64 pr, .int .i64 2, .slice 1 [[.int .u32 a], [.int .u32 b]]]] = some (.val (.int .i64 0)) := by
  rw [pureI_go (fn := c_entry_Check) rfl rfl]
  obtain ⟨n, a1, b1, a2, b2, a3, b3, a4, b4, a5, b5, a6, b6, c, d, f, hp⟩ := pv5_2
  have t1 := table_Check_2
  have t2 := table_Widths_2
  have t3 := table_Allows_22
  have t4 := CheckCall_2 a b ha hb
  have t5 := table_Kind_2
  simp only [pvA, pv5] at t1 t2 t3 t4 t5
  simp [c_entry_Check, pvA, t1, t2, pv5, pv5_len, hp]
  refine loop_nat 6 (fun i e h => look 1 e = some (.int .i64 2) ∧ look 3 e = some (.ptr 0 9 0 0) ∧ look 5 e = some (.ptr 1 4 0 0) ∧ look 9 e = some (.slice 3 [[a1, b1, .int .i64 3], [a2, b2, .int .i64 3], [a3, b3, .int .i64 3], [a4, b4, .int .i64 3], [a5, b5, .int .i64 3], [a6, b6, .int .i64 3]]) ∧
    look 10 e = some (.slice 1 [[.int .i64 8], [.int .i64 8], [.int .i64 8], [.int .i64 8], [.int .i64 8], [.int .i64 8]]) ∧ look 39 e = some (.slice 2 [[.int .u32 v1, .int .u32 m1], [.int .u32 v2, .int .u32 m2], [.int .u32 v3, .int .u32 m3], [.int .u32 v4, .int .u32 m4], [.int .u32 v5, .int .u32 m5], [.int .u32 v6, .int .u32 m6]]) ∧ look 40 e = some (.int .i64 6) ∧ look 41 e = some (.int .i64 i) ∧
    HP [(0, AO.row 9 [[pv0, pv1, pv2, pv3, pv4, AV.slice 6 pv5L, pv6, pv7, pv8]]), (1, AO.row 4 [[.slice 2 [[.int .u32 v1, .int .u32 m1], [.int .u32 v2, .int .u32 m2], [.int .u32 v3, .int .u32 m3], [.int .u32 v4, .int .u32 m4], [.int .u32 v5, .int .u32 m5], [.int .u32 v6, .int .u32 m6]], .int .i64 pr, .int .i64 2, .slice 1 [[.int .u32 a], [.int .u32 b]]]])] 2 h) (fun i => some (Rt.val (.int .i64 0))) ?_ ?_ 0 _ _ (Nat.zero_le _) ?_
  · rintro i e _ L hi hL ⟨h1, h3, h5, h9, h10, h39, h40, h41, T, n, hT, rfl⟩ ih
    have hT' := hT (n + 2) (Nat.le_refl _)
    have hc : i = 0 ∨ i = 1 ∨ i = 2 ∨ i = 3 ∨ i = 4 ∨ i = 5 := by omega
    rcases hc with rfl | rfl | rfl | rfl | rfl | rfl
    · simp [c_entry_Check_l0, h1, h3, h5, h9, h10, h39, h40, h41, hL, hT', checkKey_3 v1 m1 g1.1 g1.2.1 g1.2.2]
      exact ih _ _ ⟨by simp [h1], by simp [h3], by simp [h5], by simp [h9], by simp [h10], by simp [h39], by simp [h40], by simp; rfl, HP.next hT⟩
    · simp [c_entry_Check_l0, h1, h3, h5, h9, h10, h39, h40, h41, hL, hT', checkKey_3 v2 m2 g2.1 g2.2.1 g2.2.2]
      exact ih _ _ ⟨by simp [h1], by simp [h3], by simp [h5], by simp [h9], by simp [h10], by simp [h39], by simp [h40], by simp; rfl, HP.next hT⟩
    · simp [c_entry_Check_l0, h1, h3, h5, h9, h10, h39, h40, h41, hL, hT', checkKey_3 v3 m3 g3.1 g3.2.1 g3.2.2]
      exact ih _ _ ⟨by simp [h1], by simp [h3], by simp [h5], by simp [h9], by simp [h10], by simp [h39], by simp [h40], by simp; rfl, HP.next hT⟩
    · simp [c_entry_Check_l0, h1, h3, h5, h9, h10, h39, h40, h41, hL, hT', checkKey_3 v4 m4 g4.1 g4.2.1 g4.2.2]
      exact ih _ _ ⟨by simp [h1], by simp [h3], by simp [h5], by simp [h9], by simp [h10], by simp [h39], by simp [h40], by simp; rfl, HP.next hT⟩
    · simp [c_entry_Check_l0, h1, h3, h5, h9, h10, h39, h40, h41, hL, hT', checkKey_3 v5 m5 g5.1 g5.2.1 g5.2.2]
      exact ih _ _ ⟨by simp [h1], by simp [h3], by simp [h5], by simp [h9], by simp [h10], by simp [h39], by simp [h40], by simp; rfl, HP.next hT⟩
    · simp [c_entry_Check_l0, h1, h3, h5, h9, h10, h39, h40, h41, hL, hT', checkKey_3 v6 m6 g6.1 g6.2.1 g6.2.2]
      exact ih _ _ ⟨by simp [h1], by simp [h3], by simp [h5], by simp [h9], by simp [h10], by simp [h39], by simp [h40], by simp; rfl, HP.next hT⟩
  · rintro e _ L hL ⟨h1, h3, h5, h9, h10, h39, h40, h41, T, n, hT, rfl⟩
    have hq1 : ¬ pr < 0 := by omega
    have hq2 : ¬ 255 < pr := by omega
    by_cases hq3 : pr = 0
    · simp [c_entry_Check_l0, c_entry_Check_k1, h1, h3, h5, h9, h10, h39, h40, h41, hL, t3, t4, hq3]
    · simp [c_entry_Check_l0, c_entry_Check_k1, h1, h3, h5, h9, h10, h39, h40, h41, hL, t3, t4, t5, hq1, hq2, hq3]
  · simp [HP.mk]
end Go.Av
