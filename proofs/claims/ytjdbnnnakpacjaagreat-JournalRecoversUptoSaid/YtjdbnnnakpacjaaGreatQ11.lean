/-
  Contents of registers: the reference's check.
-/
import Derived.Test.YtjdbnnnakpacjaaGreatQ10
set_option linter.unusedVariables false
set_option linter.unusedSimpArgs false
set_option linter.constructorNameAsVariable false
namespace Go.Av
set_option maxRecDepth 4000
def wd (w : Int) : Nat := if wBad w then 0 else w.toNat
theorem wd_le (w : Int) : wd w ≤ 32 := by
  unfold wd
  cases q : wBad w with
  | true => simp
  | false =>
    obtain ⟨w1, w2⟩ := wBad_false.1 q
    simp
    omega
theorem maskI_lt (w v : Int) : maskI w < v ↔ ¬ v < 2 ^ wd w := by
  unfold maskI wd
  cases q : wBad w with
  | true => simp; omega
  | false => simp; omega
theorem rwd_ok (r : Register) : pureI Φ f_ref15_width [.agg (Register.c r)] = some (.val (.int .i64 (wd r.width))) := by
  rw [pureI_go (fn := c_ref15_width) rfl rfl]
  by_cases h1 : r.width < 1
  · simp [c_ref15_width, Register.e, h1, wd, wBad]
  by_cases h2 : 32 < r.width
  · simp [c_ref15_width, Register.e, h1, h2, wd, wBad]
  simp [c_ref15_width, Register.e, h1, h2, wd, wBad]
  omega
theorem rcon_b (p : Prg) (rs : List (List Int)) (hl : rs.length < 2 ^ 40) (hs : ∀ l ∈ rs, l.length < 2 ^ 40 ∧ ∀ v ∈ l, ok32 0 v) (hz : rs.length = p.registers.length) (e : Env) (n : Nat)
    (h1 : look 1 e = some (.slice 1 (rs.map (cS 1 c32)))) (h2 : look 2 e = some (.iptr 9 [Prg.c p] 0 0)) :
    go Φ (finP [.tmp 4]) [.c c_ref15_CheckContents_k5] .normal ⟨e, ⟨[], n⟩⟩ = some (.val (.int .i64 ((fe (vlG p rs) rs.length 0).getD 0))) := by
  simp [c_ref15_CheckContents_k5]
  refine loop_nx rs.length (fun _ => []) 0 (fun i e => look 1 e = some (.slice 1 (rs.map (cS 1 c32))) ∧ look 2 e = some (.iptr 9 [Prg.c p] 0 0) ∧ look 6 e = some (.int .i64 i))
    (fun i => some (Rt.val (.int .i64 ((fe (vlG p rs) rs.length i).getD 0)))) ?_ ?_ 0 _ n (Nat.zero_le _) (Nat.zero_le _) ?_
  · rintro i e n L hi hL _ ⟨h1, h2, h6⟩ ih
    have hw : IntKind.wrap .i64 ((i : Int) + 1) = ((i + 1 : Nat) : Int) := wrap64 (by omega) (by omega)
    have hi2 : i < p.registers.length := by omega
    have hm := hs _ (List.getElem_mem hi)
    have hwd := rwd_ok p.registers[i]
    simp only [Register.e] at hwd
    have hV : fe (vlG p rs) rs.length i = if rs[i].any (fun v => decide (maskI p.registers[i].width < v)) = true then some 9 else fe (vlG p rs) rs.length (i + 1) := by
      by_cases y : rs[i].any (fun v => decide (maskI p.registers[i].width < v)) = true
      · rw [if_pos y]
        exact fe_hit hi (by simp only [vlG, List.getElem?_eq_getElem hi, List.getElem?_eq_getElem hi2]; rw [if_pos y])
      · rw [if_neg y]
        exact fe_miss hi (by simp only [vlG, List.getElem?_eq_getElem hi, List.getElem?_eq_getElem hi2]; rw [if_neg y])
    generalize hX : some (Rt.val (AV.int .i64 ((fe (vlG p rs) rs.length (i + 1)).getD 0))) = X at ih
    generalize hY : some (Rt.val (AV.int .i64 ((fe (vlG p rs) rs.length i).getD 0))) = Y
    have hYX : Y = if rs[i].any (fun v => decide (maskI p.registers[i].width < v)) = true then some (Rt.val (AV.int .i64 9)) else X := by
      rw [← hY, ← hX, hV]
      split <;> rfl
    simp [c_ref15_CheckContents_l3, h1, h6, hi]
    refine (loop_nx rs[i].length (fun _ => []) 0 (fun j e => look 1 e = some (.slice 1 (rs.map (cS 1 c32))) ∧ look 2 e = some (.iptr 9 [Prg.c p] 0 0) ∧ look 6 e = some (.int .i64 i) ∧ look 7 e = some (.int .i64 j))
      (fun j => if (rs[i].drop j).any (fun v => decide (maskI p.registers[i].width < v)) = true then some (Rt.val (AV.int .i64 9)) else X) ?_ ?_ 0 _ n (Nat.zero_le _) (Nat.zero_le _) ?_).trans (by rw [hYX, List.drop_zero])
    · rintro j e n L' hj hL' _ ⟨h1, h2, h6, h7⟩ ih'
      have hw' : IntKind.wrap .i64 ((j : Int) + 1) = ((j + 1 : Nat) : Int) := wrap64 (by omega) (by omega)
      have hf := rFits12_ok rs[i][j] (hm.2 _ (List.getElem_mem hj)) (wd p.registers[i].width) (wd_le _)
      rw [Prg.e] at h2
      rw [List.drop_eq_getElem_cons hj, List.any_cons] 
      by_cases v : rs[i][j] < 2 ^ wd p.registers[i].width
      · rw [decide_eq_true v] at hf
        rw [show decide (maskI p.registers[i].width < rs[i][j]) = false from decide_eq_false fun h => (maskI_lt _ _).1 h v, Bool.false_or]
        generalize hZ : (if (rs[i].drop (j + 1)).any (fun v => decide (maskI p.registers[i].width < v)) = true then some (Rt.val (AV.int .i64 9)) else X) = Z
        simp [c_ref15_CheckContents_l1, cSe, c32, Register.e, h1, h2, h6, h7, hi, hi2, hj, hwd, hf, hw']
        rw [← hZ]
        exact ih' _ _ (Nat.zero_le _) ⟨by simp [h1], by simp [h2, Prg.e], by simp [h6], by simp⟩
      · rw [decide_eq_false v] at hf
        rw [show decide (maskI p.registers[i].width < rs[i][j]) = true from decide_eq_true ((maskI_lt _ _).2 v), Bool.true_or, if_pos rfl]
        simp [c_ref15_CheckContents_l1, cSe, c32, Register.e, h1, h2, h6, h7, hi, hi2, hj, hwd, hf]
    · rintro e n L' hL' _ ⟨h1, h2, h6, h7⟩
      rw [List.drop_length, List.any_nil, if_neg (by decide)]
      simp [c_ref15_CheckContents_l1, cSe, h1, h6, h7, hi, hL', c_ref15_CheckContents_k2, hw]
      exact ih _ _ (Nat.zero_le _) ⟨by simp [h1], by simp [h2], by simp⟩
    · simp [h1, h2, h6]
  · rintro e n L hL _ ⟨h1, h2, h6⟩
    rw [fe_end]
    simp [c_ref15_CheckContents_l3, c_ref15_CheckContents_k4, h1, h6, hL]
  · simp [h1, h2]
theorem rconE_ok (p : Prg) (rs : List (List Int)) (hl : rs.length < 2 ^ 40) (hs : ∀ l ∈ rs, l.length < 2 ^ 40 ∧ ∀ v ∈ l, ok32 0 v) : pureI Φ f_ref15_CheckContents [.agg (Prg.c p), .slice 1 (rs.map (cS 1 c32))] = some (.val (.int .i64 (conE p rs))) := by
  rw [pureI_go (fn := c_ref15_CheckContents) rfl rfl]
  unfold conE
  by_cases z : rs.length = p.registers.length
  rotate_left
  · simp [c_ref15_CheckContents, Prg.e, z]
  rw [if_neg (by simpa using z)]
  generalize hY : some (Rt.val (AV.int .i64 ((fe (szG p rs) rs.length 0).getD ((fe (vlG p rs) rs.length 0).getD 0)))) = Y
  simp [c_ref15_CheckContents, Prg.e, z]
  rw [← hY]
  refine loop_nx rs.length (fun _ => []) 0 (fun i e => look 1 e = some (.slice 1 (rs.map (cS 1 c32))) ∧ look 2 e = some (.iptr 9 [Prg.c p] 0 0) ∧ look 5 e = some (.int .i64 i))
    (fun i => some (Rt.val (.int .i64 ((fe (szG p rs) rs.length i).getD ((fe (vlG p rs) rs.length 0).getD 0))))) ?_ ?_ 0 _ 0 (Nat.zero_le _) (Nat.zero_le _) ?_
  · rintro i e n L hi hL _ ⟨h1, h2, h5⟩ ih
    have hw : IntKind.wrap .i64 ((i : Int) + 1) = ((i + 1 : Nat) : Int) := wrap64 (by omega) (by omega)
    have hi2 : i < p.registers.length := by omega
    rw [Prg.e] at h2
    by_cases v : (rs[i].length : Int) = p.registers[i].size
    · rw [fe_miss hi (by simp [szG, hi, hi2, v])]
      generalize hX : some (Rt.val (AV.int .i64 ((fe (szG p rs) rs.length (i + 1)).getD ((fe (vlG p rs) rs.length 0).getD 0)))) = X
      simp [c_ref15_CheckContents_l0, cSe, Register.e, h1, h2, h5, hi, hi2, v, hw]
      rw [← hX]
      exact ih _ _ (Nat.zero_le _) ⟨by simp [h1], by simp [h2, Prg.e], by simp⟩
    · rw [fe_hit (x := (2 : Int)) hi (by simp [szG, hi, hi2, v])]
      simp [c_ref15_CheckContents_l0, cSe, Register.e, h1, h2, h5, hi, hi2, v]
  · rintro e n L hL _ ⟨h1, h2, h5⟩
    rw [fe_end]
    generalize hX : some (Rt.val (AV.int .i64 ((none : Option Int).getD ((fe (vlG p rs) rs.length 0).getD 0)))) = X
    simp [c_ref15_CheckContents_l0, h1, h5, hL]
    rw [← hX]
    exact rcon_b p rs hl hs z _ _ (by simp [h1]) (by simp [h2])
  · simp [Prg.e]
end Go.Av
