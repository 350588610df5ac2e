/-
  The reference's reading of numbers.
-/
import Derived.Test.YtjdbnnnakpacjaaGreatJL
import Derived.Test.YtjdbnnnakpacjaaGreatFunsAU
set_option linter.unusedVariables false
set_option linter.unusedSimpArgs false
set_option linter.constructorNameAsVariable false
namespace Go.Av
set_option maxRecDepth 4000
def cSt (s : Stt) : List AV := [.slice 1 (s.b.map c8), .int .i64 s.e]
theorem cSt_e (s : Stt) : cSt s = [.slice 1 (s.b.map c8), .int .i64 s.e] := by simp [cSt]
theorem c8e (x : Int) : c8 x = [.int .u8 x] := by simp [c8]
theorem wr8 {x : Int} (h : 0 ≤ x ∧ x ≤ 255) : IntKind.wrap .i64 x = x := wrap64 (by omega) (by omega)
theorem num1_get (b : List Int) (h : 0 < b.length) : num 1 b = b[0] := by
  match b, h with
  | a :: l, _ => simp [num]
theorem num2_get (b : List Int) (h : 1 < b.length) : num 2 b = 256 * b[0] + b[1] := by
  match b, h with
  | a :: c :: l, _ => simp [num]
theorem num4_get (b : List Int) (h : 3 < b.length) : num 4 b = 256 * (256 * (256 * b[0] + b[1]) + b[2]) + b[3] := by
  match b, h with
  | a :: c :: d :: e :: l, _ => simp [num]
theorem rread1 (s : Stt) (hb : okB s.b) : pureI Φ f_ref28_read [.agg (cSt s), .int .i64 1] = some (.val (.tup [.agg (cSt (rdN 1 s).1), .int .i64 (rdN 1 s).2])) := by
  rw [pureI_go (fn := c_ref28_read) rfl rfl]
  by_cases q : s.e = 0
  rotate_left
  · simp [c_ref28_read, cSt_e, rdN, q]
  by_cases q1 : s.b.length < 1
  · have q1' : (s.b.length : Int) < 1 := by omega
    simp [c_ref28_read, cSt_e, rdN, q, q1, q1']
  obtain ⟨b, e⟩ := s
  simp only at q q1 hb
  have q2 : ¬ ((b.length : Int) < 1) := by omega
  have q3 : (1 : Int) ≤ b.length := by omega
  have i0 : 0 < b.length := by omega
  have h0 := hb _ (List.getElem_mem i0)
  have w0 := wr8 h0
  have k0 : IntKind.wrap .i64 0 = 0 := by decide
  have k1 : IntKind.wrap .i64 1 = 1 := by decide
  have k2 : IntKind.wrap .i64 2 = 2 := by decide
  have k3 : IntKind.wrap .i64 3 = 3 := by decide
  have k4 : IntKind.wrap .i64 4 = 4 := by decide
  simp [c_ref28_read, cSt_e, rdN, q, q1, q2, num1_get b i0]
  rw [go_loop]
  simp [c_ref28_read_l0, c8e, k0, k1, k2, k3, k4, i0, w0]
  rw [go_loop]
  simp [c_ref28_read_l0, c_ref28_read_k1, q3]
  exact List.take_of_length_le (by simp)
theorem rread2 (s : Stt) (hb : okB s.b) : pureI Φ f_ref28_read [.agg (cSt s), .int .i64 2] = some (.val (.tup [.agg (cSt (rdN 2 s).1), .int .i64 (rdN 2 s).2])) := by
  rw [pureI_go (fn := c_ref28_read) rfl rfl]
  by_cases q : s.e = 0
  rotate_left
  · simp [c_ref28_read, cSt_e, rdN, q]
  by_cases q1 : s.b.length < 2
  · have q1' : (s.b.length : Int) < 2 := by omega
    simp [c_ref28_read, cSt_e, rdN, q, q1, q1']
  obtain ⟨b, e⟩ := s
  simp only at q q1 hb
  have q2 : ¬ ((b.length : Int) < 2) := by omega
  have q3 : (2 : Int) ≤ b.length := by omega
  have i0 : 0 < b.length := by omega
  have h0 := hb _ (List.getElem_mem i0)
  have w0 := wr8 h0
  have i1 : 1 < b.length := by omega
  have h1 := hb _ (List.getElem_mem i1)
  have w1 := wr8 h1
  have k0 : IntKind.wrap .i64 0 = 0 := by decide
  have k1 : IntKind.wrap .i64 1 = 1 := by decide
  have k2 : IntKind.wrap .i64 2 = 2 := by decide
  have k3 : IntKind.wrap .i64 3 = 3 := by decide
  have k4 : IntKind.wrap .i64 4 = 4 := by decide
  have x1 : IntKind.wrap .i64 (256 * b[0]) = 256 * b[0] := wrap64 (by omega) (by omega)
  have y1 : IntKind.wrap .i64 (256 * b[0] + b[1]) = 256 * b[0] + b[1] := wrap64 (by omega) (by omega)
  simp [c_ref28_read, cSt_e, rdN, q, q1, q2, num2_get b i1]
  rw [go_loop]
  simp [c_ref28_read_l0, c8e, k0, k1, k2, k3, k4, i0, w0, i1, w1, x1, y1]
  rw [go_loop]
  simp [c_ref28_read_l0, c8e, k0, k1, k2, k3, k4, i0, w0, i1, w1, x1, y1]
  rw [go_loop]
  simp [c_ref28_read_l0, c_ref28_read_k1, q3]
  have fin : IntKind.wrap .i64 (IntKind.wrap .i64 (256 * b[0]) + b[1]) = 256 * b[0] + b[1] := by rw [x1, y1]
  exact ⟨List.take_of_length_le (by simp), fin⟩
theorem rread4 (s : Stt) (hb : okB s.b) : pureI Φ f_ref28_read [.agg (cSt s), .int .i64 4] = some (.val (.tup [.agg (cSt (rdN 4 s).1), .int .i64 (rdN 4 s).2])) := by
  rw [pureI_go (fn := c_ref28_read) rfl rfl]
  by_cases q : s.e = 0
  rotate_left
  · simp [c_ref28_read, cSt_e, rdN, q]
  by_cases q1 : s.b.length < 4
  · have q1' : (s.b.length : Int) < 4 := by omega
    simp [c_ref28_read, cSt_e, rdN, q, q1, q1']
  obtain ⟨b, e⟩ := s
  simp only at q q1 hb
  have q2 : ¬ ((b.length : Int) < 4) := by omega
  have q3 : (4 : Int) ≤ b.length := by omega
  have i0 : 0 < b.length := by omega
  have h0 := hb _ (List.getElem_mem i0)
  have w0 := wr8 h0
  have i1 : 1 < b.length := by omega
  have h1 := hb _ (List.getElem_mem i1)
  have w1 := wr8 h1
  have i2 : 2 < b.length := by omega
  have h2 := hb _ (List.getElem_mem i2)
  have w2 := wr8 h2
  have i3 : 3 < b.length := by omega
  have h3 := hb _ (List.getElem_mem i3)
  have w3 := wr8 h3
  have k0 : IntKind.wrap .i64 0 = 0 := by decide
  have k1 : IntKind.wrap .i64 1 = 1 := by decide
  have k2 : IntKind.wrap .i64 2 = 2 := by decide
  have k3 : IntKind.wrap .i64 3 = 3 := by decide
  have k4 : IntKind.wrap .i64 4 = 4 := by decide
  have x1 : IntKind.wrap .i64 (256 * b[0]) = 256 * b[0] := wrap64 (by omega) (by omega)
  have y1 : IntKind.wrap .i64 (256 * b[0] + b[1]) = 256 * b[0] + b[1] := wrap64 (by omega) (by omega)
  have x2 : IntKind.wrap .i64 (256 * (256 * b[0] + b[1])) = 256 * (256 * b[0] + b[1]) := wrap64 (by omega) (by omega)
  have y2 : IntKind.wrap .i64 (256 * (256 * b[0] + b[1]) + b[2]) = 256 * (256 * b[0] + b[1]) + b[2] := wrap64 (by omega) (by omega)
  have x3 : IntKind.wrap .i64 (256 * (256 * (256 * b[0] + b[1]) + b[2])) = 256 * (256 * (256 * b[0] + b[1]) + b[2]) := wrap64 (by omega) (by omega)
  have y3 : IntKind.wrap .i64 (256 * (256 * (256 * b[0] + b[1]) + b[2]) + b[3]) = 256 * (256 * (256 * b[0] + b[1]) + b[2]) + b[3] := wrap64 (by omega) (by omega)
  simp [c_ref28_read, cSt_e, rdN, q, q1, q2, num4_get b i3]
  rw [go_loop]
  simp [c_ref28_read_l0, c8e, k0, k1, k2, k3, k4, i0, w0, i1, w1, i2, w2, i3, w3, x1, y1, x2, y2, x3, y3]
  rw [go_loop]
  simp [c_ref28_read_l0, c8e, k0, k1, k2, k3, k4, i0, w0, i1, w1, i2, w2, i3, w3, x1, y1, x2, y2, x3, y3]
  rw [go_loop]
  simp [c_ref28_read_l0, c8e, k0, k1, k2, k3, k4, i0, w0, i1, w1, i2, w2, i3, w3, x1, y1, x2, y2, x3, y3]
  rw [go_loop]
  simp [c_ref28_read_l0, c8e, k0, k1, k2, k3, k4, i0, w0, i1, w1, i2, w2, i3, w3, x1, y1, x2, y2, x3, y3]
  rw [go_loop]
  simp [c_ref28_read_l0, c_ref28_read_k1, q3]
  have fin : IntKind.wrap .i64 (IntKind.wrap .i64 (256 * IntKind.wrap .i64 (IntKind.wrap .i64 (256 * IntKind.wrap .i64 (IntKind.wrap .i64 (256 * b[0]) + b[1])) + b[2])) + b[3]) = 256 * (256 * (256 * b[0] + b[1]) + b[2]) + b[3] := by rw [x1, y1, x2, y2, x3, y3]
  exact ⟨List.take_of_length_le (by simp), fin⟩
end Go.Av
