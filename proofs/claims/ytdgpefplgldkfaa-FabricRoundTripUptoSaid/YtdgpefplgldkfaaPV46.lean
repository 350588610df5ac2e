/-
  Lemmas for the law.
-/
import Derived.Test.YtdgpefplgldkfaaFunsA
import Derived.Test.YtdgpefplgldkfaaAvD
import Derived.KernelRfl
set_option linter.unusedVariables false
set_option linter.unusedSimpArgs false
set_option linter.constructorNameAsVariable false
namespace Go.Av
def pv0 : AV := .str [102, 97, 98, 114, 105, 99]
def pv1 : AV := .slice 2 [[.str [98, 97, 115, 101], .slice 2 [[.str [107, 105, 110, 100], .int .i64 8]]], [.str [116, 97, 103], .slice 2 [[.str [118, 101, 114, 115, 105, 111, 110], .int .i64 8], [.str [108, 97, 98, 101, 108], .int .i64 8]]], [.str [102, 108, 111, 119], .slice 2 [[.str [115, 114, 99], .int .i64 8], [.str [100, 115, 116], .int .i64 8], [.str [116, 121, 112, 101], .int .i64 8]]]]
def pv2 : AV := .slice 2 [[.str [105, 110], .int .i64 8], [.str [111, 117, 116], .int .i64 8], [.str [100, 114, 111, 112], .int .i64 1], [.str [99, 111, 117, 110, 116], .int .i64 16]]
def pv3 : AV := .slice 3 [[.str [115, 101, 101, 110], .int .i64 16, .int .i64 16]]
def pv4L : List (List AV) := [[.str [115, 116, 97, 109, 112], .slice 2 [[.str [118, 101, 114, 115, 105, 111, 110], .int .i64 8]], .slice 7 [[.int .i64 2, .int .i64 0, .int .i64 0, .int .i64 0, .int .i64 1, .slice 3 [], .slice 3 []], [.int .i64 1, .int .i64 1, .int .i64 0, .int .i64 0, .int .i64 0, .slice 3 [], .slice 3 [[.int .i64 3, .int .i64 0, .int .i64 0]]], [.int .i64 1, .int .i64 0, .int .i64 0, .int .i64 0, .int .i64 0, .slice 3 [], .slice 3 [[.int .i64 1, .int .i64 2, .int .i64 8]]], [.int .i64 4, .int .i64 (-1), .int .i64 3, .int .i64 0, .int .i64 0, .slice 3 [[.int .i64 2, .int .i64 (-1), .int .i64 0]], .slice 3 []], [.int .i64 5, .int .i64 0, .int .i64 0, .int .i64 0, .int .i64 0, .slice 3 [[.int .i64 2, .int .i64 (-1), .int .i64 0]], .slice 3 [[.int .i64 9, .int .i64 0, .int .i64 0], [.int .i64 2, .int .i64 (-1), .int .i64 3], [.int .i64 1, .int .i64 1, .int .i64 16]]]]], [.str [112, 97, 115, 115], .slice 2 [], .slice 7 []], [.str [102, 111, 114, 119, 97, 114, 100], .slice 2 [[.str [112, 111, 114, 116], .int .i64 8], [.str [108, 97, 98, 101, 108], .int .i64 8]], .slice 7 [[.int .i64 1, .int .i64 (-1), .int .i64 1, .int .i64 0, .int .i64 0, .slice 3 [], .slice 3 [[.int .i64 3, .int .i64 0, .int .i64 0]]], [.int .i64 1, .int .i64 1, .int .i64 1, .int .i64 0, .int .i64 0, .slice 3 [], .slice 3 [[.int .i64 3, .int .i64 1, .int .i64 0]]]]], [.str [100, 101, 108, 105, 118, 101, 114], .slice 2 [[.str [112, 111, 114, 116], .int .i64 8]], .slice 7 [[.int .i64 1, .int .i64 (-1), .int .i64 1, .int .i64 0, .int .i64 0, .slice 3 [], .slice 3 [[.int .i64 3, .int .i64 0, .int .i64 0]]], [.int .i64 3, .int .i64 0, .int .i64 0, .int .i64 0, .int .i64 1, .slice 3 [], .slice 3 []], [.int .i64 1, .int .i64 0, .int .i64 0, .int .i64 0, .int .i64 0, .slice 3 [], .slice 3 [[.int .i64 1, .int .i64 1, .int .i64 8]]]]], [.str [100, 114, 111, 112], .slice 2 [], .slice 7 [[.int .i64 1, .int .i64 (-1), .int .i64 2, .int .i64 0, .int .i64 0, .slice 3 [], .slice 3 [[.int .i64 1, .int .i64 1, .int .i64 1]]]]]]
def pv4 : AV := .slice 3 pv4L
def pv5L : List (List AV) := [[.str [105, 110, 103, 114, 101, 115, 115], .slice 3 [[.int .i64 (-1), .int .i64 0, .int .i64 1]], .slice 1 [[.int .i64 0], [.int .i64 4]], .int .i64 4, .slice 1 [], .int .i64 16], [.str [116, 114, 117, 110, 107], .slice 3 [[.int .i64 (-1), .int .i64 0, .int .i64 1]], .slice 1 [[.int .i64 1], [.int .i64 4]], .int .i64 4, .slice 1 [], .int .i64 16], [.str [112, 97, 116, 104], .slice 3 [[.int .i64 (-1), .int .i64 0, .int .i64 3], [.int .i64 1, .int .i64 0, .int .i64 3], [.int .i64 1, .int .i64 1, .int .i64 3], [.int .i64 2, .int .i64 0, .int .i64 3], [.int .i64 2, .int .i64 1, .int .i64 3], [.int .i64 2, .int .i64 2, .int .i64 3]], .slice 1 [[.int .i64 2], [.int .i64 3], [.int .i64 4]], .int .i64 4, .slice 1 [], .int .i64 256]]
def pv5 : AV := .slice 6 pv5L
def pv6 : AV := .slice 7 [[.str [115, 116, 97, 114, 116], .slice 1 [[.int .i64 0]], .bool true, .int .i64 0, .int .i64 0, .slice 3 [[.int .u32 1, .int .u32 255, .int .i64 2], [.int .u32 2, .int .u32 255, .int .i64 1]], .int .i64 (-2)], [.str [116, 97, 103, 103, 101, 100], .slice 1 [[.int .i64 1]], .bool false, .int .i64 0, .int .i64 0, .slice 3 [], .int .i64 2], [.str [102, 108, 111, 119, 115], .slice 1 [[.int .i64 2]], .bool false, .int .i64 0, .int .i64 0, .slice 3 [], .int .i64 (-1)]]
def pv7 : AV := .slice 5 [[.int .i64 2, .int .i64 0, .slice 3 [[.int .i64 4, .int .i64 1, .int .i64 0]], .slice 5 [[.int .i64 1, .int .i64 1, .slice 3 [], .slice 5 [], .slice 5 []]], .slice 5 [[.int .i64 1, .int .i64 0, .slice 3 [], .slice 5 [], .slice 5 []]]], [.int .i64 2, .int .i64 0, .slice 3 [[.int .i64 15, .int .i64 0, .int .i64 0], [.int .i64 2, .int .i64 (-1), .int .i64 2], [.int .i64 1, .int .i64 0, .int .i64 1]], .slice 5 [[.int .i64 1, .int .i64 2, .slice 3 [], .slice 5 [], .slice 5 []]], .slice 5 []]]
def pv8 : AV := .slice 1 [[.int .i64 0], [.int .i64 1], [.int .i64 2]]
@[simp high] theorem snap_pv0 (n : Nat) (H : AH) : snap (n + 1) H pv0 = some pv0 := by rw [pv0]; simp only [snap]
@[simp high] theorem bor_pv0 (n : Nat) : bor (n + 1) pv0 = false := by rw [pv0]; simp only [bor]
@[simp high] theorem snap_pv1 (n : Nat) (H : AH) : snap (n + 1) H pv1 = some pv1 := by rw [pv1]; simp only [snap]
@[simp high] theorem bor_pv1 (n : Nat) : bor (n + 1) pv1 = false := by rw [pv1]; simp only [bor]
@[simp high] theorem snap_pv2 (n : Nat) (H : AH) : snap (n + 1) H pv2 = some pv2 := by rw [pv2]; simp only [snap]
@[simp high] theorem bor_pv2 (n : Nat) : bor (n + 1) pv2 = false := by rw [pv2]; simp only [bor]
@[simp high] theorem snap_pv3 (n : Nat) (H : AH) : snap (n + 1) H pv3 = some pv3 := by rw [pv3]; simp only [snap]
@[simp high] theorem bor_pv3 (n : Nat) : bor (n + 1) pv3 = false := by rw [pv3]; simp only [bor]
@[simp high] theorem snap_pv4 (n : Nat) (H : AH) : snap (n + 1) H pv4 = some pv4 := by rw [pv4]; simp only [snap]
@[simp high] theorem bor_pv4 (n : Nat) : bor (n + 1) pv4 = false := by rw [pv4]; simp only [bor]
@[simp high] theorem snap_pv5 (n : Nat) (H : AH) : snap (n + 1) H pv5 = some pv5 := by rw [pv5]; simp only [snap]
@[simp high] theorem bor_pv5 (n : Nat) : bor (n + 1) pv5 = false := by rw [pv5]; simp only [bor]
@[simp high] theorem snap_pv6 (n : Nat) (H : AH) : snap (n + 1) H pv6 = some pv6 := by rw [pv6]; simp only [snap]
@[simp high] theorem bor_pv6 (n : Nat) : bor (n + 1) pv6 = false := by rw [pv6]; simp only [bor]
@[simp high] theorem snap_pv7 (n : Nat) (H : AH) : snap (n + 1) H pv7 = some pv7 := by rw [pv7]; simp only [snap]
@[simp high] theorem bor_pv7 (n : Nat) : bor (n + 1) pv7 = false := by rw [pv7]; simp only [bor]
@[simp high] theorem snap_pv8 (n : Nat) (H : AH) : snap (n + 1) H pv8 = some pv8 := by rw [pv8]; simp only [snap]
@[simp high] theorem bor_pv8 (n : Nat) : bor (n + 1) pv8 = false := by rw [pv8]; simp only [bor]
theorem pv4_len : pv4L.length = 5 := by rw [pv4L]; simp only [List.length_cons, List.length_nil]
theorem pv5_len : pv5L.length = 3 := by rw [pv5L]; simp only [List.length_cons, List.length_nil]
theorem pv4_0 : ∃ x n y, pv4L[0]'(by rw [pv4_len]; omega) = [x, .slice 2 [[n, .int .i64 8]], y] := ⟨_, _, _, rfl⟩
theorem pv4_2 : ∃ x n m y, pv4L[2]'(by rw [pv4_len]; omega) = [x, .slice 2 [[n, .int .i64 8], [m, .int .i64 8]], y] := ⟨_, _, _, _, rfl⟩
theorem pv5_0 : ∃ x a b c d f, pv5L[0]'(by rw [pv5_len]; omega) = [x, .slice 3 [[a, b, .int .i64 1]], c, d, f, .int .i64 16] := ⟨_, _, _, _, _, _, rfl⟩
theorem pv5_1 : ∃ x a b c d f, pv5L[1]'(by rw [pv5_len]; omega) = [x, .slice 3 [[a, b, .int .i64 1]], c, d, f, .int .i64 16] := ⟨_, _, _, _, _, _, rfl⟩
theorem pv5_2 : ∃ x a1 b1 a2 b2 a3 b3 a4 b4 a5 b5 a6 b6 c d f, pv5L[2]'(by rw [pv5_len]; omega) = [x, .slice 3 [[a1, b1, .int .i64 3], [a2, b2, .int .i64 3], [a3, b3, .int .i64 3], [a4, b4, .int .i64 3], [a5, b5, .int .i64 3], [a6, b6, .int .i64 3]], c, d, f, .int .i64 256] := ⟨_, _, _, _, _, _, _, _, _, _, _, _, _, _, _, _, rfl⟩
theorem pureI_of_ev2 {Φ : FuncId → Option AFun} {f : FuncId} {as : List AV} {n : Nat} {r : Rt} (h : pureRt (evF Φ n f as H0) = some r) : pureI Φ f as = some r := by
  unfold pureI
  cases hc : evF Φ n f as H0 with
  | none => rw [hc] at h; cases h
  | some p => rw [callI_of Φ hc, ← hc]; exact h
abbrev pvA : List AV := [pv0, pv1, pv2, pv3, pv4, pv5, pv6, pv7, pv8]
theorem fabric_Program_ok : pureI Φ f_fabric_Program [] = some (.val (.agg pvA)) := pureI_of_ev2 (n := 100) (by kernel_rfl)
theorem ref46_Program_ok : pureI Φ f_ref46_Program [] = some (.val (.agg pvA)) := pureI_of_ev2 (n := 100) (by kernel_rfl)
theorem table_Check_0 : pureI Φ f_table_Check [.agg pvA, .int .i64 0] = some (.val (.tup [.int .i64 0, .int .i64 0])) := pureI_of_ev2 (n := 100) (by kernel_rfl)
theorem table_Check_1 : pureI Φ f_table_Check [.agg pvA, .int .i64 1] = some (.val (.tup [.int .i64 0, .int .i64 0])) := pureI_of_ev2 (n := 100) (by kernel_rfl)
theorem table_Check_2 : pureI Φ f_table_Check [.agg pvA, .int .i64 2] = some (.val (.tup [.int .i64 0, .int .i64 0])) := pureI_of_ev2 (n := 100) (by kernel_rfl)
theorem table_Widths_0 : pureI Φ f_table_Widths [.agg pvA, .int .i64 0] = some (.val (.slice 1 [[.int .i64 8]])) := pureI_of_ev2 (n := 100) (by kernel_rfl)
theorem table_Widths_1 : pureI Φ f_table_Widths [.agg pvA, .int .i64 1] = some (.val (.slice 1 [[.int .i64 8]])) := pureI_of_ev2 (n := 100) (by kernel_rfl)
theorem table_Widths_2 : pureI Φ f_table_Widths [.agg pvA, .int .i64 2] = some (.val (.slice 1 [[.int .i64 8], [.int .i64 8], [.int .i64 8], [.int .i64 8], [.int .i64 8], [.int .i64 8]])) := pureI_of_ev2 (n := 100) (by kernel_rfl)
theorem table_Kind_2 : pureI Φ f_table_Kind [.agg pvA, .int .i64 2] = some (.val (.int .i64 3)) := pureI_of_ev2 (n := 100) (by kernel_rfl)
theorem table_Allows_00 : pureI Φ f_table_Allows [.agg pvA, .int .i64 0, .int .i64 0] = some (.val (.bool true)) := pureI_of_ev2 (n := 100) (by kernel_rfl)
theorem table_Allows_11 : pureI Φ f_table_Allows [.agg pvA, .int .i64 1, .int .i64 1] = some (.val (.bool true)) := pureI_of_ev2 (n := 100) (by kernel_rfl)
theorem table_Allows_22 : pureI Φ f_table_Allows [.agg pvA, .int .i64 2, .int .i64 2] = some (.val (.bool true)) := pureI_of_ev2 (n := 100) (by kernel_rfl)
theorem bitvec_Mask_8 : pureI Φ f_bitvec_Mask [.int .i64 8] = some (.val (.int .u32 255)) := pureI_of_ev2 (n := 100) (by kernel_rfl)
theorem bitvec_valid_8 : pureI Φ f_bitvec_valid [.slice 1 [[.int .i64 8]]] = some (.val (.bool true)) := pureI_of_ev2 (n := 100) (by kernel_rfl)
theorem bitvec_Fits_8 (v : Int) : pureI Φ f_bitvec_Fits [.int .u32 v, .int .i64 8] = some (.val (.bool (decide (v ≤ 255)))) := by
  rw [pureI_go (fn := c_bitvec_Fits) rfl rfl]
  simp [c_bitvec_Fits, bitvec_valid_8, bitvec_Mask_8]
theorem checkKey_1 (v : Int) (hv : v ≤ 255) (hz : iandNot .u32 v 255 = 0) : pureI Φ f_entry_checkKey [.agg [.int .u32 v, .int .u32 255], .int .i64 1, .int .i64 8] = some (.val (.int .i64 0)) := by
  rw [pureI_go (fn := c_entry_checkKey) rfl rfl]
  simp [c_entry_checkKey, bitvec_Fits_8, bitvec_Mask_8, hv, hz]
theorem checkKey_3 (v m : Int) (hv : v ≤ 255) (hm : m ≤ 255) (hz : iandNot .u32 v m = 0) : pureI Φ f_entry_checkKey [.agg [.int .u32 v, .int .u32 m], .int .i64 3, .int .i64 8] = some (.val (.int .i64 0)) := by
  rw [pureI_go (fn := c_entry_checkKey) rfl rfl]
  simp [c_entry_checkKey, bitvec_Fits_8, hv, hm, hz]
end Go.Av
