/-
  Lemmas for the law.
-/
import Derived.Test.YtdgpefplgldkfaaB20
set_option linter.unusedVariables false
set_option linter.unusedSimpArgs false
set_option linter.constructorNameAsVariable false
namespace Go.Av
set_option maxRecDepth 8000
def rdV (data : List Int) (q : Nat) : List AV := [.slice 1 (data.map c8), .int .i64 q]
theorem ref11_Check_0 : pureI Φ f_ref11_Check [.agg (hV nmBase nsBase)] = some (.val (.int .i64 0)) := pureI_of_ev2 (n := 100) (by kernel_rfl)
theorem ref11_Check_1 : pureI Φ f_ref11_Check [.agg (hV nmTag nsTag)] = some (.val (.int .i64 0)) := pureI_of_ev2 (n := 100) (by kernel_rfl)
theorem ref11_Check_2 : pureI Φ f_ref11_Check [.agg (hV nmFlow nsFlow)] = some (.val (.int .i64 0)) := pureI_of_ev2 (n := 100) (by kernel_rfl)
theorem ref11_Bits_0 : pureI Φ f_ref11_Bits [.agg (hV nmBase nsBase)] = some (.val (.int .i64 8)) := pureI_of_ev2 (n := 100) (by kernel_rfl)
theorem ref11_Bits_1 : pureI Φ f_ref11_Bits [.agg (hV nmTag nsTag)] = some (.val (.int .i64 16)) := pureI_of_ev2 (n := 100) (by kernel_rfl)
theorem ref11_Bits_2 : pureI Φ f_ref11_Bits [.agg (hV nmFlow nsFlow)] = some (.val (.int .i64 24)) := pureI_of_ev2 (n := 100) (by kernel_rfl)
theorem ref11_Read_short (data : List Int) (q pos : Nat) (nm : List UInt8) (names : List (List UInt8)) (hq : q = 8 * pos) (hd : data.length ≤ 512) (hp : pos ≤ data.length) (hl : data.length < pos + names.length)
    (hc : pureI Φ f_ref11_Check [.agg (hV nm names)] = some (.val (.int .i64 0))) (hbits : pureI Φ f_ref11_Bits [.agg (hV nm names)] = some (.val (.int .i64 ((8 * names.length : Nat) : Int)))) :
    pureI Φ f_ref11_Read [.agg (hV nm names), .agg (rdV data q)] = some (.val (.tup [.agg (rdV data q), .slice 1 [], .int .i64 3])) := by
  rw [pureI_go (fn := c_ref11_Read) rfl rfl]
  have hr := ref02_Remaining_ok (data.map c8) q (by simp; omega) (by simp; omega)
  have hle : 8 * data.length - q < 8 * names.length := by omega
  unfold hV at hc hbits
  simp only [List.length_map] at hr
  generalize hA : (8 * data.length - q : Nat) = A at hr hle
  generalize hB : (8 * names.length : Nat) = B at hbits hle
  simp [c_ref11_Read, hV, rdV, hc, hbits, hr, hle]
theorem ref11_Read_ok (data : List Int) (q pos : Nat) (nm : List UInt8) (names : List (List UInt8)) (hq : q = 8 * pos) (hd : data.length ≤ 512) (hl : pos + names.length ≤ data.length) (hb : ∀ x ∈ data, 0 ≤ x ∧ x < 256)
    (hc : pureI Φ f_ref11_Check [.agg (hV nm names)] = some (.val (.int .i64 0))) (hbits : pureI Φ f_ref11_Bits [.agg (hV nm names)] = some (.val (.int .i64 ((8 * names.length : Nat) : Int)))) :
    pureI Φ f_ref11_Read [.agg (hV nm names), .agg (rdV data q)] = some (.val (.tup [.agg (rdV data (q + 8 * names.length)), .slice 1 (((data.drop pos).take names.length).map c32), .int .i64 0])) := by
  rw [pureI_go (fn := c_ref11_Read) rfl rfl]
  have hr := ref02_Remaining_ok (data.map c8) q (by simp; omega) (by simp; omega)
  have hle : ¬ 8 * data.length - q < 8 * names.length := by omega
  obtain ⟨R, hR⟩ : ∃ R, R = some (Rt.val (.tup [.agg (rdV data (q + 8 * names.length)), .slice 1 (((data.drop pos).take names.length).map c32), .int .i64 0])) := ⟨_, rfl⟩
  rw [← hR]
  unfold hV at hc hbits
  simp only [List.length_map] at hr
  generalize hA : (8 * data.length - q : Nat) = A at hr hle
  generalize hB : (8 * names.length : Nat) = B at hbits hle
  simp [c_ref11_Read, hV, rdV, hc, hbits, hr, hle]
  refine (loop_nat names.length (fun i e h => look 2 e = some (.ptr 0 2 0 0) ∧ look 3 e = some (.ptr 1 2 0 0) ∧ look 4 e = some (.ptr 2 2 0 0) ∧ look 8 e = some (.app 1 (((data.drop pos).take i).map c32) 3) ∧ look 9 e = some (.int .i64 i) ∧
      ∃ T n, Tail T n ∧ sweepL T = T ∧ 4 ≤ n ∧ h = ⟨(0, .row 2 [[.str nm, .slice 2 (hF names)]]) :: (1, .row 2 [rdV data (q + 8 * i)]) :: (2, .row 2 [[.fslice 1 [], .int .i64 0]]) :: (3, .tok 1 i) :: T, n⟩)
    (fun _ => R) ?_ ?_ 0 _ _ (Nat.zero_le _) ?_)
  · rintro i e h L hi hL ⟨h2, h3, h4, h8, h9, T, n, hT, hS, hn, rfl⟩ ih
    have hw : IntKind.wrap .i64 ((i : Int) + 1) = ((i + 1 : Nat) : Int) := wrap64 (by omega) (by omega)
    obtain ⟨b, hbx⟩ : ∃ b : Nat, data[pos + i]? = some (b : Int) := by
      have h1 : pos + i < data.length := by omega
      have h2 := hb _ (List.getElem_mem h1)
      exact ⟨(data[pos + i]).toNat, by rw [List.getElem?_eq_getElem h1]; congr 1; omega⟩
    have hb256 : b < 256 := by have := hb (b : Int) (List.mem_of_getElem? hbx); omega
    have hrb := ref02_ReadBits_ok data (q + 8 * i) (pos + i) b (by omega) hbx hb256 (by omega)
    have t : ∀ k, look (n + k) T = none := fun k => hT _ (by omega)
    have t0 : look n T = none := hT n (Nat.le_refl _)
    have n0 : ∀ k, ¬ (0 = n + k) := by intro k; omega
    have n1 : ∀ k, ¬ (1 = n + k) := by intro k; omega
    have n2 : ∀ k, ¬ (2 = n + k) := by intro k; omega
    have n3 : ∀ k, ¬ (3 = n + k) := by intro k; omega
    have hfi : (hF names)[i]? = some [.str (names.getD i []), .int .i64 8] := by simp [hF, hi]
    have hfl : (hF names).length = names.length := by simp [hF]
    have hfi2 : (hF names)[i]'(by rw [hfl]; exact hi) = [.str (names.getD i []), .int .i64 8] := (List.getElem?_eq_some_iff.1 hfi).2
    have htk : ((data.drop pos).take (i + 1)).map c32 = ((data.drop pos).take i).map c32 ++ [[.int .u32 b]] := by
      rw [List.take_add_one, List.getElem?_drop, hbx]; simp [c32]
    have hml : (((data.drop pos).take i).map c32).length = i := by simp; omega
    have hbd : (i + 1) * 4 ≤ 70368744177664 := by omega
    generalize hP : ((data.drop pos).take i).map c32 = Pq at h8 htk hml
    generalize hQ : (q + 8 * i : Nat) = Q at hrb
    simp [c_ref11_Read_l0, rdV, h2, h3, h4, h8, h9, hi, hL, hw, t, t0, n0, n1, n2, n3, hfi, hfi2, hfl, hrb, hml, hbd, sweepL_app, hS, hQ]
    have hQ8 : ((q + 8 * (i + 1) : Nat) : Int) = (Q : Int) + 8 := by rw [← hQ]; omega
    refine ih _ _ ?_
    refine ⟨by simp [h2], by simp [h3], by simp [h4], by rw [htk]; simp, by simp, T ++ [(n + 10, .row 2 [rdV data (Q + 8)])], n + 11, ?_, ?_, by omega, ?_⟩
    · intro j hj
      have h1 : ¬ (n + 10 = j) := by omega
      simp [look_append2, hT j (by omega), h1]
    · rw [sweepL_app, hS]; simp [rdV]
    · simp [rdV, hQ8]
      try omega
  · rintro e h L hL ⟨h2, h3, h4, h8, h9, T, n, hT, hS, hn, rfl⟩
    have hfl : (hF names).length = names.length := by simp [hF]
    simp [c_ref11_Read_l0, c_ref11_Read_k1, rdV, h2, h3, h4, h8, h9, hL, hfl]
    rw [hR]; simp [rdV]
  · simp
    refine ⟨[], ?_⟩
    simp [rdV, Tail.nil]
end Go.Av
