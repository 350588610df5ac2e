/-
  The decoder's numbers.
-/
import Derived.Test.YtjdbnnnakpacjaaGreatJ6
set_option linter.unusedVariables false
set_option linter.unusedSimpArgs false
set_option linter.constructorNameAsVariable false
namespace Go.Av
set_option maxRecDepth 4000
theorem ior32 {v x : Int} (hv : 0 ≤ v ∧ v < 16777216) (hx : 0 ≤ x ∧ x ≤ 255) : ior .u32 (ishl .u32 v 8) x = 256 * v + x := by
  obtain ⟨n, rfl⟩ : ∃ n : Nat, v = (n : Int) := ⟨v.toNat, by omega⟩
  obtain ⟨b, rfl⟩ : ∃ b : Nat, x = (b : Int) := ⟨x.toNat, by omega⟩
  have e1 : ishl .u32 (n : Int) 8 = ((n * 256 : Nat) : Int) := by
    unfold ishl
    have : ((n : Int) * 2 ^ (min (8 : Int).toNat (IntKind.bits .u32))) = ((n * 256 : Nat) : Int) := by
      have : (2 : Int) ^ (min (8 : Int).toNat (IntKind.bits .u32)) = 256 := by decide
      rw [this]; omega
    rw [this, wrapU32 (by omega)]
  rw [e1]
  unfold ior
  have h2 : (BitVec.ofInt (IntKind.bits .u32) ((n * 256 : Nat) : Int) ||| BitVec.ofInt (IntKind.bits .u32) (b : Int)).toNat = 256 * n + b := by
    rw [BitVec.toNat_or]
    rw [BitVec.ofInt_natCast, BitVec.ofInt_natCast, BitVec.toNat_ofNat, BitVec.toNat_ofNat]
    have hbits : IntKind.bits .u32 = 32 := rfl
    rw [hbits, Nat.mod_eq_of_lt (by omega), Nat.mod_eq_of_lt (by omega)]
    have := Nat.shiftLeft_add_eq_or_of_lt (b := b) (i := 8) (by omega) n
    rw [Nat.shiftLeft_eq] at this
    rw [show n * 256 = n * 2 ^ 8 by rfl, ← this]
    omega
  rw [h2, wrapU32 (by omega)]
  omega
theorem dnum1 (s : Stt) (hb : okB s.b) (T : List (Nat × AO)) (N : Nat) : callI Φ f_journal_decoder_number [.ptr 0 2 0 0, .int .i64 1] ⟨(0, .row 2 [cSt s]) :: T, N⟩ = some (.val (.int .u32 (rdN 1 s).2), ⟨(0, .row 2 [cSt (rdN 1 s).1]) :: T, N⟩) := by
  rw [callI_go (fn := c_journal_decoder_number) rfl rfl]
  by_cases q : s.e = 0
  rotate_left
  · simp [c_journal_decoder_number, cSt_e, rdN, q]
  by_cases q1 : s.b.length < 1
  · have q1' : (s.b.length : Int) < 1 := by omega
    simp [c_journal_decoder_number, cSt_e, rdN, q, q1, q1']
  obtain ⟨b, e⟩ := s
  simp only at q q1 hb
  have q2 : ¬ ((b.length : Int) < 1) := by omega
  have q3 : (1 : Int) ≤ b.length := by omega
  have q4 : 1 ≤ b.length := by omega
  have i0 : 0 < b.length := by omega
  have h0 := hb _ (List.getElem_mem i0)
  have w0 : IntKind.wrap .u32 b[0] = b[0] := wrapU32 (by omega)
  have k0 : IntKind.wrap .i64 0 = 0 := by decide
  have k1 : IntKind.wrap .i64 1 = 1 := by decide
  have k2 : IntKind.wrap .i64 2 = 2 := by decide
  have k3 : IntKind.wrap .i64 3 = 3 := by decide
  have k4 : IntKind.wrap .i64 4 = 4 := by decide
  simp [c_journal_decoder_number, cSt_e, rdN, q, q1, q2, q3, q4, num1_get b i0]
  rw [go_loop]
  simp [c_journal_decoder_number_l0, c8e, k0, k1, k2, k3, k4, i0, w0, q4]
  rw [go_loop]
  simp [c_journal_decoder_number_l0, c_journal_decoder_number_k1, q3, q4]
  have x0 : ior .u32 (ishl .u32 0 8) b[0] = b[0] := by rw [ior32 (by omega) (by omega)]; omega
  have fin : ior .u32 (ishl .u32 0 8) b[0] = b[0] := by rw [x0]
  exact ⟨fin, List.take_of_length_le (by simp)⟩
theorem dnum2 (s : Stt) (hb : okB s.b) (T : List (Nat × AO)) (N : Nat) : callI Φ f_journal_decoder_number [.ptr 0 2 0 0, .int .i64 2] ⟨(0, .row 2 [cSt s]) :: T, N⟩ = some (.val (.int .u32 (rdN 2 s).2), ⟨(0, .row 2 [cSt (rdN 2 s).1]) :: T, N⟩) := by
  rw [callI_go (fn := c_journal_decoder_number) rfl rfl]
  by_cases q : s.e = 0
  rotate_left
  · simp [c_journal_decoder_number, cSt_e, rdN, q]
  by_cases q1 : s.b.length < 2
  · have q1' : (s.b.length : Int) < 2 := by omega
    simp [c_journal_decoder_number, cSt_e, rdN, q, q1, q1']
  obtain ⟨b, e⟩ := s
  simp only at q q1 hb
  have q2 : ¬ ((b.length : Int) < 2) := by omega
  have q3 : (2 : Int) ≤ b.length := by omega
  have q4 : 2 ≤ b.length := by omega
  have i0 : 0 < b.length := by omega
  have h0 := hb _ (List.getElem_mem i0)
  have w0 : IntKind.wrap .u32 b[0] = b[0] := wrapU32 (by omega)
  have i1 : 1 < b.length := by omega
  have h1 := hb _ (List.getElem_mem i1)
  have w1 : IntKind.wrap .u32 b[1] = b[1] := wrapU32 (by omega)
  have k0 : IntKind.wrap .i64 0 = 0 := by decide
  have k1 : IntKind.wrap .i64 1 = 1 := by decide
  have k2 : IntKind.wrap .i64 2 = 2 := by decide
  have k3 : IntKind.wrap .i64 3 = 3 := by decide
  have k4 : IntKind.wrap .i64 4 = 4 := by decide
  simp [c_journal_decoder_number, cSt_e, rdN, q, q1, q2, q3, q4, num2_get b i1]
  rw [go_loop]
  simp [c_journal_decoder_number_l0, c8e, k0, k1, k2, k3, k4, i0, w0, i1, w1, q4]
  rw [go_loop]
  simp [c_journal_decoder_number_l0, c8e, k0, k1, k2, k3, k4, i0, w0, i1, w1, q4]
  rw [go_loop]
  simp [c_journal_decoder_number_l0, c_journal_decoder_number_k1, q3, q4]
  have x0 : ior .u32 (ishl .u32 0 8) b[0] = b[0] := by rw [ior32 (by omega) (by omega)]; omega
  have x1 : ior .u32 (ishl .u32 (b[0]) 8) b[1] = 256 * (b[0]) + b[1] := ior32 (by omega) (by omega)
  have fin : ior .u32 (ishl .u32 (ior .u32 (ishl .u32 0 8) b[0]) 8) b[1] = 256 * (b[0]) + b[1] := by rw [x0, x1]
  exact ⟨fin, List.take_of_length_le (by simp)⟩
theorem dnum4 (s : Stt) (hb : okB s.b) (T : List (Nat × AO)) (N : Nat) : callI Φ f_journal_decoder_number [.ptr 0 2 0 0, .int .i64 4] ⟨(0, .row 2 [cSt s]) :: T, N⟩ = some (.val (.int .u32 (rdN 4 s).2), ⟨(0, .row 2 [cSt (rdN 4 s).1]) :: T, N⟩) := by
  rw [callI_go (fn := c_journal_decoder_number) rfl rfl]
  by_cases q : s.e = 0
  rotate_left
  · simp [c_journal_decoder_number, cSt_e, rdN, q]
  by_cases q1 : s.b.length < 4
  · have q1' : (s.b.length : Int) < 4 := by omega
    simp [c_journal_decoder_number, cSt_e, rdN, q, q1, q1']
  obtain ⟨b, e⟩ := s
  simp only at q q1 hb
  have q2 : ¬ ((b.length : Int) < 4) := by omega
  have q3 : (4 : Int) ≤ b.length := by omega
  have q4 : 4 ≤ b.length := by omega
  have i0 : 0 < b.length := by omega
  have h0 := hb _ (List.getElem_mem i0)
  have w0 : IntKind.wrap .u32 b[0] = b[0] := wrapU32 (by omega)
  have i1 : 1 < b.length := by omega
  have h1 := hb _ (List.getElem_mem i1)
  have w1 : IntKind.wrap .u32 b[1] = b[1] := wrapU32 (by omega)
  have i2 : 2 < b.length := by omega
  have h2 := hb _ (List.getElem_mem i2)
  have w2 : IntKind.wrap .u32 b[2] = b[2] := wrapU32 (by omega)
  have i3 : 3 < b.length := by omega
  have h3 := hb _ (List.getElem_mem i3)
  have w3 : IntKind.wrap .u32 b[3] = b[3] := wrapU32 (by omega)
  have k0 : IntKind.wrap .i64 0 = 0 := by decide
  have k1 : IntKind.wrap .i64 1 = 1 := by decide
  have k2 : IntKind.wrap .i64 2 = 2 := by decide
  have k3 : IntKind.wrap .i64 3 = 3 := by decide
  have k4 : IntKind.wrap .i64 4 = 4 := by decide
  simp [c_journal_decoder_number, cSt_e, rdN, q, q1, q2, q3, q4, num4_get b i3]
  rw [go_loop]
  simp [c_journal_decoder_number_l0, c8e, k0, k1, k2, k3, k4, i0, w0, i1, w1, i2, w2, i3, w3, q4]
  rw [go_loop]
  simp [c_journal_decoder_number_l0, c8e, k0, k1, k2, k3, k4, i0, w0, i1, w1, i2, w2, i3, w3, q4]
  rw [go_loop]
  simp [c_journal_decoder_number_l0, c8e, k0, k1, k2, k3, k4, i0, w0, i1, w1, i2, w2, i3, w3, q4]
  rw [go_loop]
  simp [c_journal_decoder_number_l0, c8e, k0, k1, k2, k3, k4, i0, w0, i1, w1, i2, w2, i3, w3, q4]
  rw [go_loop]
  simp [c_journal_decoder_number_l0, c_journal_decoder_number_k1, q3, q4]
  have x0 : ior .u32 (ishl .u32 0 8) b[0] = b[0] := by rw [ior32 (by omega) (by omega)]; omega
  have x1 : ior .u32 (ishl .u32 (b[0]) 8) b[1] = 256 * (b[0]) + b[1] := ior32 (by omega) (by omega)
  have x2 : ior .u32 (ishl .u32 (256 * (b[0]) + b[1]) 8) b[2] = 256 * (256 * (b[0]) + b[1]) + b[2] := ior32 (by omega) (by omega)
  have x3 : ior .u32 (ishl .u32 (256 * (256 * (b[0]) + b[1]) + b[2]) 8) b[3] = 256 * (256 * (256 * (b[0]) + b[1]) + b[2]) + b[3] := ior32 (by omega) (by omega)
  have fin : ior .u32 (ishl .u32 (ior .u32 (ishl .u32 (ior .u32 (ishl .u32 (ior .u32 (ishl .u32 0 8) b[0]) 8) b[1]) 8) b[2]) 8) b[3] = 256 * (256 * (256 * (b[0]) + b[1]) + b[2]) + b[3] := by rw [x0, x1, x2, x3]
  exact ⟨fin, List.take_of_length_le (by simp)⟩
end Go.Av
