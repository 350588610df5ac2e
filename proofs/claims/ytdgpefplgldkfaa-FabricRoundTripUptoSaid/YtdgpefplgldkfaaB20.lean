/-
  Lemmas for the law.
-/
import Derived.Test.YtdgpefplgldkfaaB19
set_option linter.unusedVariables false
set_option linter.unusedSimpArgs false
set_option linter.constructorNameAsVariable false
namespace Go.Av
set_option maxRecDepth 8000
theorem ref02_Remaining_ok (data : List (List AV)) (pos : Nat) (hd : data.length < 1099511627776) (hp : pos ≤ 8 * data.length) : pureI Φ f_ref02_Remaining [.agg [.slice 1 data, .int .i64 pos]] = some (.val (.int .i64 ((8 * data.length - pos : Nat) : Int))) := by
  rw [pureI_go (fn := c_ref02_Remaining) rfl rfl]
  have e1 : IntKind.wrap .i64 (8 * (data.length : Int)) = 8 * (data.length : Int) := wrap64 (by omega) (by omega)
  have e2 : IntKind.wrap .i64 (8 * (data.length : Int) - pos) = ((8 * data.length - pos : Nat) : Int) := by rw [wrap64 (by omega) (by omega)]; omega
  simp [c_ref02_Remaining, e1, e2]
theorem ref02_valid8 : pureI Φ f_ref02_validWidth [.int .i64 8] = some (.val (.bool true)) := pureI_of_ev (n := 50) (by kernel_rfl)
theorem refBits_step : ∀ b : Fin 256, ∀ k : Fin 8, IntKind.wrap .u32 (IntKind.wrap .u32 (2 * ((bitsF b.1 k.1 : Nat) : Int)) + (ishr .u32 (IntKind.wrap .u32 ((b.1 : Nat) : Int)) (7 - ((k.1 : Nat) : Int))).tmod 2) = ((bitsF b.1 (k.1 + 1) : Nat) : Int) := by decide +kernel
theorem ref02_ReadBits_ok (data : List Int) (q pos b : Nat) (hq : q = 8 * pos) (hp : data[pos]? = some (b : Int)) (hb : b < 256) (hd : data.length < 1099511627776) :
    pureI Φ f_ref02_ReadBits [.agg [.slice 1 (data.map c8), .int .i64 q], .int .i64 8] = some (.val (.tup [.agg [.slice 1 (data.map c8), .int .i64 ((q + 8 : Nat) : Int)], .int .u32 b, .int .i64 0])) := by
  rw [pureI_go (fn := c_ref02_ReadBits) rfl rfl]
  obtain ⟨hp1, hp2⟩ := List.getElem?_eq_some_iff.1 hp
  have hr := ref02_Remaining_ok (data.map c8) q (by simpa using hd) (by simp; omega)
  have hle : ¬ 8 * data.length - q < 8 := by omega
  have hle2 : ¬ (((8 * data.length - q : Nat) : Int) < 8) := by omega
  simp only [List.length_map] at hr
  obtain ⟨R, hR⟩ : ∃ R, R = some (Rt.val (.tup [.agg [.slice 1 (data.map c8), .int .i64 ((q + 8 : Nat) : Int)], .int .u32 b, .int .i64 0])) := ⟨_, rfl⟩
  rw [← hR]
  simp [c_ref02_ReadBits, ref02_valid8, hr, hle, hle2]
  refine (loop_nat 8 (fun i e h => look 1 e = some (.int .i64 8) ∧ look 2 e = some (.ptr 0 2 0 0) ∧ look 4 e = some (.ptr 1 2 0 0) ∧ look 7 e = some (.int .u32 ((bitsF b i : Nat) : Int)) ∧ look 8 e = some (.int .i64 i) ∧
      h = ⟨[(0, .row 2 [[.slice 1 (data.map c8), .int .i64 ((q + i : Nat) : Int)]]), (1, .row 2 [[.fslice 1 [], .int .i64 0]])], 2⟩)
    (fun _ => R) ?_ ?_ 0 _ _ (Nat.zero_le _) ?_)
  · rintro i e h L hi hL ⟨h1, h2, h4, h7, h8, rfl⟩ ih
    have hw : IntKind.wrap .i64 ((i : Int) + 1) = ((i + 1 : Nat) : Int) := wrap64 (by omega) (by omega)
    have hw2 : IntKind.wrap .i64 (((q + i : Nat) : Int) + 1) = ((q + (i + 1) : Nat) : Int) := by rw [wrap64 (by omega) (by omega)]; omega
    have d1 : IntKind.wrap .i64 (((q + i : Nat) : Int) / 8) = (pos : Int) := by
      have : ((q + i : Nat) : Int) / 8 = (((q + i) / 8 : Nat) : Int) := rfl
      rw [this, show (q + i) / 8 = pos by omega, wrap64 (by omega) (by omega)]
    have d2 : ((q + i : Nat) : Int).tmod 8 = (i : Int) := by
      have : ((q + i : Nat) : Int).tmod 8 = (((q + i) % 8 : Nat) : Int) := rfl
      rw [this, show (q + i) % 8 = i by omega]
    have d3 : IntKind.wrap .i64 (7 - (i : Int)) = 7 - (i : Int) := wrap64 (by omega) (by omega)
    have st := refBits_step ⟨b, hb⟩ ⟨i, hi⟩
    simp only at st
    have hge : (0 : Int) ≤ 7 - (i : Int) := by omega
    have hi7 : i ≤ 7 := by omega
    generalize hQ : (q + i : Nat) = Q at d1 d2 hw2 ⊢
    simp [c_ref02_ReadBits_l0, h1, h2, h4, h7, h8, hi, hL, hw, hw2, d1, d2, d3, hp, hp1, hp2, hi7, c8, st]
    refine ih _ _ ?_
    refine ⟨by simp [h1], by simp [h2], by simp [h4], by simp [st], by simp, rfl⟩
  · rintro e h L hL ⟨h1, h2, h4, h7, h8, rfl⟩
    have hb8 : bitsF b 8 = b := by simp [bitsF]
    simp [c_ref02_ReadBits_l0, c_ref02_ReadBits_k1, h1, h2, h4, h7, h8, hL, hb8]
    rw [hR]; simp
  · simp [bitsF]
    omega
end Go.Av
