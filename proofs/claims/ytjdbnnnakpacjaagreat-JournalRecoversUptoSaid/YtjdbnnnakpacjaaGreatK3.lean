/-
  Widths, registers, headers: the program's answers.
-/
import Derived.Test.YtjdbnnnakpacjaaGreatK2
set_option linter.unusedVariables false
set_option linter.unusedSimpArgs false
set_option linter.constructorNameAsVariable false
namespace Go.Av
set_option maxRecDepth 4000
def maskI (w : Int) : Int := if wBad w then 0 else 2 ^ w.toNat - 1
theorem wBad_false {w : Int} : wBad w = false ↔ 1 ≤ w ∧ w ≤ 32 := by
  simp [wBad]
theorem wBad_true {w : Int} : wBad w = true ↔ w < 1 ∨ 32 < w := by
  simp [wBad]
theorem wr1 : IntKind.wrap .i64 1 = 1 := by decide
theorem wr2 : IntKind.wrap .i64 2 = 2 := by decide
theorem wr3 : IntKind.wrap .i64 3 = 3 := by decide
theorem valid1_ok (w : Int) : pureI Φ f_bitvec_valid [.slice 1 [[.int .i64 w]]] = some (.val (.bool (!wBad w))) := by
  rw [pureI_go (fn := c_bitvec_valid) rfl rfl]
  by_cases h1 : w < 1
  · simp [c_bitvec_valid]; rw [go_loop]; simp [c_bitvec_valid_l0, h1, wBad]
  by_cases h2 : 32 < w
  · simp [c_bitvec_valid]; rw [go_loop]; simp [c_bitvec_valid_l0, h1, h2, wBad]
  simp [c_bitvec_valid]; rw [go_loop]; simp [c_bitvec_valid_l0, h1, h2, wr1]; rw [go_loop]; simp [c_bitvec_valid_k1, h1, h2, wBad]
theorem mask_all : ∀ k : Nat, k < 33 → 1 ≤ k → ishr .u32 4294967295 (IntKind.wrap .i64 (32 - (k : Int))) = 2 ^ k - 1 ∧ 0 ≤ IntKind.wrap .i64 (32 - (k : Int)) := by decide
theorem mask_ok (w : Int) : pureI Φ f_bitvec_Mask [.int .i64 w] = some (.val (.int .u32 (maskI w))) := by
  rw [pureI_go (fn := c_bitvec_Mask) rfl rfl]
  have hv := valid1_ok w
  cases h : wBad w with
  | true =>
    rw [h] at hv
    simp [c_bitvec_Mask, hv, maskI, h]
  | false =>
    rw [h] at hv
    obtain ⟨h1, h2⟩ := wBad_false.1 h
    obtain ⟨k, rfl⟩ : ∃ k : Nat, w = k := ⟨w.toNat, by omega⟩
    obtain ⟨e1, e2⟩ := mask_all k (by omega) (by omega)
    simp [c_bitvec_Mask, hv, maskI, h, e2]
    exact e1
theorem fits_ok (v w : Int) : pureI Φ f_bitvec_Fits [.int .u32 v, .int .i64 w] = some (.val (.bool (fits v w))) := by
  rw [pureI_go (fn := c_bitvec_Fits) rfl rfl]
  have hv := valid1_ok w
  have hm := mask_ok w
  cases h : wBad w with
  | true =>
    rw [h] at hv
    simp [c_bitvec_Fits, hv, fits, h]
  | false =>
    rw [h] at hv
    have e : (v ≤ maskI w) ↔ v < 2 ^ w.toNat := by
      simp only [maskI, h]
      simp
      omega
    simp [c_bitvec_Fits, hv, hm, fits, h, e]
theorem when_ok (b : Bool) (c : Int) : pureI Φ f_program_when [.bool b, .int .i64 c] = some (.val (.int .i64 (if b then c else 0))) := by
  rw [pureI_go (fn := c_program_when) rfl rfl]
  cases b <;> simp [c_program_when]
theorem sized_ok (r : Register) : pureI Φ f_register_sized [.agg (Register.c r)] = some (.val (.bool (!(decide (r.size < 1) || decide (64 < r.size))))) := by
  rw [pureI_go (fn := c_register_sized) rfl rfl]
  by_cases h1 : r.size < 1 <;> by_cases h2 : 64 < r.size <;> simp [c_register_sized, Register.e, h1, h2, Int.not_le.2, Int.not_lt.1]
  all_goals omega
theorem regE_ok (r : Register) (hs : r.name.length < 2 ^ 40) : pureI Φ f_register_Check [.agg (Register.c r)] = some (.val (.int .i64 (regE r))) := by
  rw [pureI_go (fn := c_register_Check) rfl rfl]
  have h1 := isIdent_ok r.name hs
  have h2 := mask_ok r.width
  have h3 := sized_ok r
  rw [Register.e] at h3
  cases q1 : idS r.name with
  | false => rw [q1] at h1; simp [c_register_Check, Register.e, h1, regE, q1]
  | true =>
    rw [q1] at h1
    cases q2 : wBad r.width with
    | true => simp [c_register_Check, Register.e, h1, h2, regE, q1, q2, maskI]
    | false =>
      obtain ⟨w1, w2⟩ := wBad_false.1 q2
      have : ¬ (2 : Int) ^ r.width.toNat - 1 = 0 := by
        have : (2 : Int) ^ 1 ≤ 2 ^ r.width.toNat := by
          have := Nat.pow_le_pow_right (n := 2) (by omega) (show 1 ≤ r.width.toNat by omega)
          exact_mod_cast this
        omega
      by_cases z1 : r.size < 1
      · simp [z1] at h3
        simp [c_register_Check, Register.e, h1, h2, h3, regE, q1, q2, maskI, this, z1]
      by_cases z2 : 64 < r.size
      · simp [z1, z2] at h3
        simp [c_register_Check, Register.e, h1, h2, h3, regE, q1, q2, maskI, this, z1, z2]
      simp [z1, z2] at h3
      simp [c_register_Check, Register.e, h1, h2, h3, regE, q1, q2, maskI, this, z1, z2]
-- headers
theorem wSum_take {l : List Fld} {i : Nat} (h : i < l.length) : wSum (l.take (i + 1)) = wSum (l.take i) + l[i].width := by
  unfold wSum
  rw [List.take_succ_eq_append_getElem h, List.map_append, List.sum_append, List.map_singleton, List.sum_singleton]
@[simp] theorem take_map_len {α β : Type} (f : α → β) (l : List α) : (l.map f).take l.length = l.map f := by
  rw [List.take_of_length_le]; simp
theorem widths_ok (h : Header) (hl : h.fields.length < 2 ^ 40) : pureI Φ f_header_widths [.agg (Header.c h)] = some (.val (.slice 1 (h.fields.map fun f => [.int .i64 f.width]))) := by
  rw [pureI_go (fn := c_header_widths) rfl rfl]
  simp [c_header_widths, Header.e]
  refine (loop_nx h.fields.length (fun i => [(0, .tok 1 i)]) 1 (fun i e => look 3 e = some (.app 1 ((h.fields.map fun f => [AV.int .i64 f.width]).take i) 0) ∧ look 7 e = some (.slice 2 (h.fields.map Fld.c)) ∧ look 8 e = some (.int .i64 h.fields.length) ∧ look 9 e = some (.int .i64 i))
    (fun i => some (.val (.slice 1 (h.fields.map fun f => [.int .i64 f.width])))) ?_ ?_ 0 _ 1 (Nat.zero_le _) (Nat.le_refl _) ?_).trans (by simp)
  · rintro i e n L hi hL hn ⟨h3, h7, h8, h9⟩ ih
    have hw : IntKind.wrap .i64 ((i : Int) + 1) = ((i + 1 : Nat) : Int) := wrap64 (by omega) (by omega)
    have hn0 : ¬ (0 = n) := by omega
    have hn1 : ¬ (n = 0) := by omega
    have hm : min i h.fields.length = i := by omega
    have hb : (i + 1) * 8 ≤ 70368744177664 := by omega
    simp [c_header_widths_l0, Fld.e, h3, h7, h8, h9, hi, hw, hn0, hm, hb]
    exact ih _ _ (by omega) ⟨by simp [take_map_succ hi], by simp [h7], by simp [h8], by simp⟩
  · rintro e n L hL hn ⟨h3, h7, h8, h9⟩
    simp [c_header_widths_l0, c_header_widths_k1, h3, h8, h9, hL]
  · simp
theorem sum_ok (l : List Int) (hl : l.length < 2 ^ 40) (hb : ∀ x ∈ l, 1 ≤ x ∧ x ≤ 32) : pureI Φ f_header_sum [.slice 1 (l.map fun x => [.int .i64 x])] = some (.val (.int .i64 l.sum)) := by
  rw [pureI_go (fn := c_header_sum) rfl rfl]
  simp [c_header_sum]
  have key : ∀ i, i ≤ l.length → 0 ≤ (l.take i).sum ∧ (l.take i).sum ≤ 32 * i := by
    intro i
    induction i with
    | zero => intro _; simp
    | succ i ih =>
      intro hi
      have := ih (by omega)
      have hx := hb _ (List.getElem_mem (show i < l.length by omega))
      rw [List.take_succ_eq_append_getElem (by omega), List.sum_append, List.sum_singleton]
      omega
  refine (loop_nat0 l.length (fun i e => look 3 e = some (.int .i64 (l.take i).sum) ∧ look 6 e = some (.slice 1 (l.map fun x => [.int .i64 x])) ∧ look 7 e = some (.int .i64 l.length) ∧ look 8 e = some (.int .i64 i))
    (fun i => some (.val (.int .i64 l.sum))) ?_ ?_ 0 _ (Nat.zero_le _) ?_).trans (by simp)
  · rintro i e L hi hL ⟨h3, h6, h7, h8⟩ ih
    have hw : IntKind.wrap .i64 ((i : Int) + 1) = ((i + 1 : Nat) : Int) := wrap64 (by omega) (by omega)
    have k1 := key (i + 1) (by omega)
    have e1 : (l.take (i + 1)).sum = (l.take i).sum + l[i] := by rw [List.take_succ_eq_append_getElem hi, List.sum_append, List.sum_singleton]
    have hw2 : IntKind.wrap .i64 ((l.take i).sum + l[i]) = (l.take (i + 1)).sum := by rw [← e1]; exact wrap64 (by omega) (by omega)
    simp [c_header_sum_l0, h3, h6, h7, h8, hi, hw, hw2]
    exact ih _ ⟨by simp, by simp [h6], by simp [h7], by simp⟩
  · rintro e L hL ⟨h3, h6, h7, h8⟩
    simp [c_header_sum_l0, c_header_sum_k1, h3, h7, h8, hL]
  · simp
end Go.Av
