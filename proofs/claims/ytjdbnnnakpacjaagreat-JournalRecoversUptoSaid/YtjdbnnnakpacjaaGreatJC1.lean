/-
  checksum: numbers of four bytes, the hash.
-/
import Derived.Test.YtjdbnnnakpacjaaGreatJ13
import Derived.Test.YtjdbnnnakpacjaaGreatJP1
set_option linter.unusedVariables false
set_option linter.unusedSimpArgs false
set_option linter.constructorNameAsVariable false
namespace Go.Av
set_option maxRecDepth 4000
theorem ishrU (v : Int) (k : Nat) (h : k ≤ 32) : ishr .u32 v (k : Int) = v.fdiv (2 ^ k) := by
  unfold ishr
  rw [show min (k : Int).toNat (IntKind.bits .u32) = k by simp [IntKind.bits]; omega]
theorem ishrU8 (v : Int) : ishr .u32 v 8 = v / 256 := by
  rw [show (8 : Int) = ((8 : Nat) : Int) by rfl, ishrU v 8 (by decide)]; rw [Int.fdiv_eq_ediv_of_nonneg _ (by decide)]; rfl
theorem ishrU16 (v : Int) : ishr .u32 v 16 = v / 65536 := by
  rw [show (16 : Int) = ((16 : Nat) : Int) by rfl, ishrU v 16 (by decide)]; rw [Int.fdiv_eq_ediv_of_nonneg _ (by decide)]; rfl
theorem ishrU24 (v : Int) : ishr .u32 v 24 = v / 16777216 := by
  rw [show (24 : Int) = ((24 : Nat) : Int) by rfl, ishrU v 24 (by decide)]; rw [Int.fdiv_eq_ediv_of_nonneg _ (by decide)]; rfl
theorem kword (v : Int) (O : List (Nat × AO)) (N : Nat) : callI Φ f_checksum_word [.int .u32 v] ⟨O, N⟩ = some (.val (.fslice 1 ((be4 v).map c8)), ⟨O, N⟩) := by
  rw [callI_go (fn := c_checksum_word) rfl rfl]
  simp [c_checksum_word, ishrU8, ishrU16, ishrU24, wr8u, be4, c8e]
theorem knumber (b : List Int) (hb : okB b) (hl : 4 ≤ b.length) (h40 : b.length < 2 ^ 40) : pureI Φ f_checksum_number [.slice 1 (b.map c8)] = some (.val (.int .u32 (num 4 b))) := by
  rw [pureI_go (fn := c_checksum_number) rfl rfl]
  have q2 : ¬ ((b.length : Int) < 4) := by omega
  have q3 : (4 : Int) ≤ b.length := by omega
  have i0 : 0 < b.length := by omega
  have h0 := hb _ (List.getElem_mem i0)
  have w0 : IntKind.wrap .u32 b[0] = b[0] := wrapU32 (by omega)
  have i1 : 1 < b.length := by omega
  have h1 := hb _ (List.getElem_mem i1)
  have w1 : IntKind.wrap .u32 b[1] = b[1] := wrapU32 (by omega)
  have i2 : 2 < b.length := by omega
  have h2 := hb _ (List.getElem_mem i2)
  have w2 : IntKind.wrap .u32 b[2] = b[2] := wrapU32 (by omega)
  have i3 : 3 < b.length := by omega
  have h3 := hb _ (List.getElem_mem i3)
  have w3 : IntKind.wrap .u32 b[3] = b[3] := wrapU32 (by omega)
  have k0 : IntKind.wrap .i64 0 = 0 := by decide
  have k1 : IntKind.wrap .i64 1 = 1 := by decide
  have k2 : IntKind.wrap .i64 2 = 2 := by decide
  have k3 : IntKind.wrap .i64 3 = 3 := by decide
  have k4 : IntKind.wrap .i64 4 = 4 := by decide
  simp [c_checksum_number, q2, q3, hl, num4_get b i3]
  rw [go_loop]
  simp [c_checksum_number_l0, c8e, k0, k1, k2, k3, k4, i0, w0, i1, w1, i2, w2, i3, w3, hl]
  rw [go_loop]
  simp [c_checksum_number_l0, c8e, k0, k1, k2, k3, k4, i0, w0, i1, w1, i2, w2, i3, w3, hl]
  rw [go_loop]
  simp [c_checksum_number_l0, c8e, k0, k1, k2, k3, k4, i0, w0, i1, w1, i2, w2, i3, w3, hl]
  rw [go_loop]
  simp [c_checksum_number_l0, c8e, k0, k1, k2, k3, k4, i0, w0, i1, w1, i2, w2, i3, w3, hl]
  rw [go_loop]
  simp [c_checksum_number_l0, c_checksum_number_k1, q3, hl]
  have x0 : ior .u32 (ishl .u32 0 8) b[0] = b[0] := by rw [ior32 (by omega) (by omega)]; omega
  have x1 : ior .u32 (ishl .u32 (b[0]) 8) b[1] = 256 * (b[0]) + b[1] := ior32 (by omega) (by omega)
  have x2 : ior .u32 (ishl .u32 (256 * (b[0]) + b[1]) 8) b[2] = 256 * (256 * (b[0]) + b[1]) + b[2] := ior32 (by omega) (by omega)
  have x3 : ior .u32 (ishl .u32 (256 * (256 * (b[0]) + b[1]) + b[2]) 8) b[3] = 256 * (256 * (256 * (b[0]) + b[1]) + b[2]) + b[3] := ior32 (by omega) (by omega)
  have fin : ior .u32 (ishl .u32 (ior .u32 (ishl .u32 (ior .u32 (ishl .u32 (ior .u32 (ishl .u32 0 8) b[0]) 8) b[1]) 8) b[2]) 8) b[3] = 256 * (256 * (256 * (b[0]) + b[1]) + b[2]) + b[3] := by rw [x0, x1, x2, x3]
  exact fin
theorem setl_same {t : Nat} {y : AO} : ∀ {O : List (Nat × AO)}, look t O = some y → setl t y O = O
  | [], _ => by simp
  | (u, w) :: r, h => by
    by_cases hu : u = t
    · subst hu; simp at h; subst h; simp
    · simp [hu] at h; simp [hu, setl_same h]
theorem kadd (h c k : Int) (O : List (Nat × AO)) (N t : Nat) (hc : 0 ≤ c ∧ c ≤ 255) (ht : look t O = some (.row 2 [[.int .u32 h, .int .i64 k]])) :
    callI Φ f_checksum_hash_add [.ptr t 2 0 0, .int .u8 c] ⟨O, N⟩ = some (.val (.tup []), ⟨setl t (.row 2 [[.int .u32 (fnv1 h c), .int .i64 k]]) O, N⟩) := by
  rw [callI_go (fn := c_checksum_hash_add) rfl rfl]
  have w : IntKind.wrap .u32 c = c := wrapU32 (by omega)
  have e : IntKind.wrap .u32 (ixor .u32 h c * 16777619) = fnv1 h c := by
    simp [IntKind.wrap, IntKind.bits, IntKind.signed, fnv1]
  simp [c_checksum_hash_add, ht, w, e]
theorem fnvL_app (h : Int) (a b : List Int) : fnvL h (a ++ b) = fnvL (fnvL h a) b := by simp [fnvL]
theorem fnvL_succ (h : Int) {b : List Int} {i : Nat} (hi : i < b.length) : fnvL h (b.take (i + 1)) = fnv1 (fnvL h (b.take i)) b[i] := by
  rw [List.take_succ_eq_append_getElem hi, fnvL_app]; rfl
theorem kwrite (b : List Int) (hb : okB b) (h40 : b.length < 2 ^ 40) (h : Int) (O : List (Nat × AO)) (N t : Nat) (ht : look t O = some (.row 2 [[.int .u32 h, .int .i64 0]])) :
    callI Φ f_checksum_digest_write [.ptr t 2 0 0, .slice 1 (b.map c8)] ⟨O, N⟩ = some (.val (.tup []), ⟨setl t (.row 2 [[.int .u32 (fnvL h b), .int .i64 b.length]]) O, N⟩) := by
  rw [callI_go (fn := c_checksum_digest_write) rfl rfl]
  simp [c_checksum_digest_write, ht]
  refine loop_nat b.length (fun i e hh => hh = ⟨setl t (.row 2 [[.int .u32 (fnvL h (b.take i)), .int .i64 0]]) O, N⟩ ∧ look 0 e = some (.ptr t 2 0 0) ∧ look 1 e = some (.slice 1 (b.map c8)) ∧ look 4 e = some (.func (.func f_checksum_hash_add) [.ptr t 2 0 0] []) ∧ look 11 e = some (.slice 1 (b.map c8)) ∧ look 12 e = some (.int .i64 b.length) ∧ look 13 e = some (.int .i64 i))
    (fun _ => some (Rt.val (.tup []), (⟨setl t (.row 2 [[.int .u32 (fnvL h b), .int .i64 b.length]]) O, N⟩ : AH))) ?_ ?_ 0 _ _ (Nat.zero_le _) ?_
  · rintro i e hh L hi hL ⟨rfl, h0, h1, h4, h11, h12, h13⟩ ih
    have hw : IntKind.wrap .i64 ((i : Int) + 1) = ((i + 1 : Nat) : Int) := wrap64 (by omega) (by omega)
    have hx := hb _ (List.getElem_mem hi)
    have ka := kadd (fnvL h (b.take i)) b[i] 0 (setl t (.row 2 [[.int .u32 (fnvL h (b.take i)), .int .i64 0]]) O) N t hx (by rw [look_setl_eq ht])
    rw [setl_setl, ← fnvL_succ h hi] at ka
    simp [c_checksum_digest_write_l0, h4, h11, h12, h13, hi, hw, c8e, ka]
    exact ih _ _ ⟨rfl, by simp [h0], by simp [h1], by simp [h4], by simp [h11], by simp [h12], by simp⟩
  · rintro e hh L hL ⟨rfl, h0, h1, h4, h11, h12, h13⟩
    have hw : IntKind.wrap .i64 (b.length : Int) = (b.length : Int) := wrap64 (by omega) (by omega)
    have hl : look t (setl t (.row 2 [[.int .u32 (fnvL h b), .int .i64 0]]) O) = some (.row 2 [[.int .u32 (fnvL h b), .int .i64 0]]) := look_setl_eq ht
    rw [List.take_of_length_le (Nat.le_refl _)]
    simp [c_checksum_digest_write_l0, c_checksum_digest_write_k1, h0, h1, h12, h13, hL, hl, hw, setl_setl]
  · exact ⟨by simp [fnvL]; exact (setl_same ht).symm, by simp, by simp, by simp, by simp, by simp, by simp⟩
theorem kfnv (b : List Int) (hb : okB b) (h40 : b.length < 2 ^ 40) : pureI Φ f_checksum_FNV1a [.slice 1 (b.map c8)] = some (.val (.int .u32 (fnv b))) := by
  rw [pureI_go (fn := c_checksum_FNV1a) rfl rfl]
  have kw := kwrite b hb h40 2166136261 [(0, .row 2 [[.int .u32 2166136261, .int .i64 0]])] 1 0 (by simp)
  simp [c_checksum_FNV1a, kw, fnv]
end Go.Av
