/-
  checksum: frames; the reference's numbers, hash and frames.
-/
import Derived.Test.YtjdbnnnakpacjaaGreatJC1
import Derived.Test.YtjdbnnnakpacjaaGreatJ19
set_option linter.unusedVariables false
set_option linter.unusedSimpArgs false
set_option linter.constructorNameAsVariable false
namespace Go.Av
set_option maxRecDepth 4000
theorem al8 (b : List Int) : allLen 1 (b.map c8) = true := allLen_map 1 c8 b fun x => by simp [c8]
theorem map_c8_app (a b : List Int) : a.map c8 ++ b.map c8 = (a ++ b).map c8 := by simp
theorem kframe (b : List Int) (hb : okB b) (hl : b.length ≤ 1000000) : pureI Φ f_checksum_Frame [.slice 1 (b.map c8)] = some (.val (.slice 1 ((frB b).map c8))) := by
  rw [pureI_go (fn := c_checksum_Frame) rfl rfl]
  have hw : IntKind.wrap .u32 (b.length : Int) = (b.length : Int) := wrapU32 (by omega)
  have k1 := fun O N => kword (b.length : Int) O N
  have ho : okB (be4 b.length ++ b) := okB_app (be4_okB _) hb
  have k2 := kfnv (be4 b.length ++ b) ho (by simp [be4_len]; omega)
  have k3 := fun O N => kword (fnv (be4 b.length ++ b)) O N
  have a1 := al8 b
  have a2 := al8 (be4 (fnv (be4 b.length ++ b)))
  have n4 : ∀ v, (be4 v).length = 4 := be4_len
  have nF := be4_len (fnv (be4 b.length ++ b))
  have z1 : ∀ v, ¬ (be4 v).map c8 = [] := fun v => by simp [be4]
  have hR : (frB b).map c8 = ((be4 b.length).map c8 ++ b.map c8) ++ (be4 (fnv (be4 b.length ++ b))).map c8 := by simp [frB]
  rw [hR]
  rw [← map_c8_app] at k2
  have m1 : (4 + b.length) ≤ 70368744177664 := by omega
  have m2 : (4 + b.length + 4) ≤ 70368744177664 := by omega
  generalize be4 (fnv (be4 b.length ++ b)) = F at *
  generalize fnv (be4 b.length ++ b) = f at *
  simp [c_checksum_Frame, hw, k1, k2, k3, a1, a2, n4, nF, z1, m1, m2]
-- the reference
theorem xorU32 (n m : Nat) (hn : n < 2 ^ 32) (hm : m < 2 ^ 32) : ixor .u32 (n : Int) (m : Int) = ((n ^^^ m : Nat) : Int) := by
  have hx : n ^^^ m < 2 ^ 32 := Nat.xor_lt_two_pow hn hm
  unfold ixor
  rw [BitVec.ofInt_natCast, BitVec.ofInt_natCast, BitVec.toNat_xor, BitVec.toNat_ofNat, BitVec.toNat_ofNat]
  rw [show IntKind.bits .u32 = 32 by rfl, Nat.mod_eq_of_lt hn, Nat.mod_eq_of_lt hm]
  exact wrapU32 (by omega)
theorem wrap64u {x : Int} (h : 0 ≤ x ∧ x < 18446744073709551616) : IntKind.wrap .u64 x = x := by
  simp [IntKind.wrap, IntKind.bits, IntKind.signed]; omega
theorem xorU64 (n m : Nat) (hn : n < 2 ^ 32) (hm : m < 2 ^ 32) : ixor .u64 (n : Int) (m : Int) = ((n ^^^ m : Nat) : Int) := by
  have hx : n ^^^ m < 2 ^ 32 := Nat.xor_lt_two_pow hn hm
  unfold ixor
  rw [BitVec.ofInt_natCast, BitVec.ofInt_natCast, BitVec.toNat_xor, BitVec.toNat_ofNat, BitVec.toNat_ofNat]
  rw [show IntKind.bits .u64 = 64 by rfl, Nat.mod_eq_of_lt (by omega), Nat.mod_eq_of_lt (by omega)]
  exact wrap64u (by omega)
theorem fnv64 {h c : Int} (hh : 0 ≤ h ∧ h ≤ 4294967295) (hc : 0 ≤ c ∧ c ≤ 255) : IntKind.wrap .u64 (ixor .u64 h c * 16777619) = ixor .u32 h c * 16777619 ∧ 0 ≤ ixor .u32 h c * 16777619 := by
  obtain ⟨n, rfl⟩ : ∃ n : Nat, h = n := ⟨h.toNat, by omega⟩
  obtain ⟨m, rfl⟩ : ∃ m : Nat, c = m := ⟨c.toNat, by omega⟩
  have hx : n ^^^ m < 2 ^ 32 := Nat.xor_lt_two_pow (by omega) (by omega)
  rw [xorU64 n m (by omega) (by omega), xorU32 n m (by omega) (by omega)]
  exact ⟨wrap64u (by omega), by omega⟩
theorem rfnv (b : List Int) (hb : okB b) (h40 : b.length < 2 ^ 40) : pureI Φ f_ref04_FNV1a [.slice 1 (b.map c8)] = some (.val (.int .u32 (fnv b))) := by
  rw [pureI_go (fn := c_ref04_FNV1a) rfl rfl]
  simp [c_ref04_FNV1a]
  refine loop_nx b.length (fun _ => []) 0 (fun i e => look 0 e = some (.slice 1 (b.map c8)) ∧ look 3 e = some (.int .u64 (fnv (b.take i))) ∧ look 4 e = some (.int .i64 i))
    (fun _ => some (Rt.val (.int .u32 (fnv b)))) ?_ ?_ 0 _ _ (Nat.zero_le _) (Nat.zero_le _) ?_
  · rintro i e n K hi hK _ ⟨h0, h3, h4⟩ ih
    have hw : IntKind.wrap .i64 ((i : Int) + 1) = ((i + 1 : Nat) : Int) := wrap64 (by omega) (by omega)
    have hx := hb _ (List.getElem_mem hi)
    have w8 : IntKind.wrap .u64 b[i] = b[i] := wrap64u (by omega)
    have hr := fnv_rng (b.take i)
    obtain ⟨e1, e2⟩ := fnv64 hr hx
    have hs : fnv (b.take (i + 1)) = fnv1 (fnv (b.take i)) b[i] := fnvL_succ _ hi
    have e3 : (ixor .u32 (fnv (b.take i)) b[i] * 16777619).tmod 4294967296 = fnv (b.take (i + 1)) := by
      rw [Int.tmod_eq_emod_of_nonneg e2, hs]; rfl
    generalize hX : some (Rt.val (.int .u32 (fnv b))) = X at ih ⊢
    simp [c_ref04_FNV1a_l0, h0, h3, h4, hi, hw, c8e, w8, e1, e3]
    exact ih _ _ (Nat.zero_le _) ⟨by simp [h0], by simp, by simp⟩
  · rintro e n K hK _ ⟨h0, h3, h4⟩
    rw [List.take_of_length_le (Nat.le_refl _)] at h3
    have hr := fnv_rng b
    have hw : IntKind.wrap .u32 (fnv b) = fnv b := wrapU32 hr
    simp [c_ref04_FNV1a_l0, c_ref04_FNV1a_k1, h0, h3, h4, hK, hw]
  · simp [fnv, fnvL]
theorem rbig (v : Int) (hv : 0 ≤ v ∧ v ≤ 4294967295) : pureI Φ f_ref04_big [.int .u32 v] = some (.val (.slice 1 ((be4 v).map c8))) := by
  rw [pureI_go (fn := c_ref04_big) rfl rfl]
  have q1 : IntKind.wrap .u32 (v.tdiv 16777216) = v / 16777216 := by rw [Int.tdiv_eq_ediv_of_nonneg hv.1]; exact wrapU32 (by omega)
  have q2 : IntKind.wrap .u32 (v.tdiv 65536) = v / 65536 := by rw [Int.tdiv_eq_ediv_of_nonneg hv.1]; exact wrapU32 (by omega)
  have q3 : IntKind.wrap .u32 (v.tdiv 256) = v / 256 := by rw [Int.tdiv_eq_ediv_of_nonneg hv.1]; exact wrapU32 (by omega)
  simp [c_ref04_big, q1, q2, q3, wr8u, be4, c8e]
theorem rnumber (b : List Int) (hb : okB b) (hl : 4 ≤ b.length) (h40 : b.length < 2 ^ 40) : pureI Φ f_ref04_number [.slice 1 (b.map c8)] = some (.val (.int .i64 (num 4 b))) := by
  rw [pureI_go (fn := c_ref04_number) rfl rfl]
  have i0 : 0 < b.length := by omega
  have i1 : 1 < b.length := by omega
  have i2 : 2 < b.length := by omega
  have i3 : 3 < b.length := by omega
  have h0 := hb _ (List.getElem_mem i0)
  have h1 := hb _ (List.getElem_mem i1)
  have h2 := hb _ (List.getElem_mem i2)
  have h3 := hb _ (List.getElem_mem i3)
  have w0 : IntKind.wrap .i64 b[0] = b[0] := wrap64 (by omega) (by omega)
  have w1 : IntKind.wrap .i64 b[1] = b[1] := wrap64 (by omega) (by omega)
  have w2 : IntKind.wrap .i64 b[2] = b[2] := wrap64 (by omega) (by omega)
  have w3 : IntKind.wrap .i64 b[3] = b[3] := wrap64 (by omega) (by omega)
  have p0 : IntKind.wrap .i64 ((16777216 : Int) * b[0]) = (16777216 : Int) * b[0] := wrap64 (by omega) (by omega)
  have p1 : IntKind.wrap .i64 ((65536 : Int) * b[1]) = (65536 : Int) * b[1] := wrap64 (by omega) (by omega)
  have p2 : IntKind.wrap .i64 ((256 : Int) * b[2]) = (256 : Int) * b[2] := wrap64 (by omega) (by omega)
  have s1 : IntKind.wrap .i64 ((16777216 : Int) * b[0] + (65536 : Int) * b[1]) = (16777216 : Int) * b[0] + (65536 : Int) * b[1] := wrap64 (by omega) (by omega)
  have s2 : IntKind.wrap .i64 ((16777216 : Int) * b[0] + (65536 : Int) * b[1] + (256 : Int) * b[2]) = (16777216 : Int) * b[0] + (65536 : Int) * b[1] + (256 : Int) * b[2] := wrap64 (by omega) (by omega)
  have s3 : IntKind.wrap .i64 ((16777216 : Int) * b[0] + (65536 : Int) * b[1] + (256 : Int) * b[2] + b[3]) = num 4 b := by
    rw [num4_get b i3]
    refine (wrap64 (by omega) (by omega)).trans ?_
    omega
  have k0 : IntKind.wrap .i64 0 = 0 := by decide
  have k1 : IntKind.wrap .i64 1 = 1 := by decide
  have k2 : IntKind.wrap .i64 2 = 2 := by decide
  have k3 : IntKind.wrap .i64 3 = 3 := by decide
  simp [c_ref04_number, c8e, i0, i1, i2, i3, w0, w1, w2, w3, p0, p1, p2, s1, s2, s3, k0, k1, k2, k3]
theorem rframe (b : List Int) (hb : okB b) (hl : b.length ≤ 1000000) : pureI Φ f_ref04_Frame [.slice 1 (b.map c8)] = some (.val (.slice 1 ((frB b).map c8))) := by
  rw [pureI_go (fn := c_ref04_Frame) rfl rfl]
  have hw : IntKind.wrap .u32 (b.length : Int) = (b.length : Int) := wrapU32 (by omega)
  have k1 := rbig (b.length : Int) (by omega)
  have ho : okB (be4 b.length ++ b) := okB_app (be4_okB _) hb
  have k2 := rfnv (be4 b.length ++ b) ho (by simp [be4_len]; omega)
  have k3 := rbig (fnv (be4 b.length ++ b)) (fnv_rng _)
  have a0 := al8 (be4 b.length)
  have a1 := al8 b
  have a2 := al8 (be4 (fnv (be4 b.length ++ b)))
  have n4 : ∀ v, (be4 v).length = 4 := be4_len
  have nF := be4_len (fnv (be4 b.length ++ b))
  have z1 : ∀ v, ¬ (be4 v).map c8 = [] := fun v => by simp [be4]
  have hR : (frB b).map c8 = ((be4 b.length).map c8 ++ b.map c8) ++ (be4 (fnv (be4 b.length ++ b))).map c8 := by simp [frB]
  rw [hR]
  rw [← map_c8_app] at k2
  have m1 : (4 + b.length) ≤ 70368744177664 := by omega
  have m2 : (4 + b.length + 4) ≤ 70368744177664 := by omega
  generalize be4 (fnv (be4 b.length ++ b)) = F at *
  generalize fnv (be4 b.length ++ b) = f at *
  simp [c_ref04_Frame, hw, k1, k2, k3, a0, a1, a2, n4, nF, z1, m1, m2]
end Go.Av
