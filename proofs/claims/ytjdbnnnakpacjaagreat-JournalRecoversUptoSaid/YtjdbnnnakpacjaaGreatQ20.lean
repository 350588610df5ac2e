/-
  register.New: the contents that the reference gives.
-/
import Derived.Test.YtjdbnnnakpacjaaGreatQ19
set_option linter.unusedVariables false
set_option linter.unusedSimpArgs false
set_option linter.constructorNameAsVariable false
namespace Go.Av
set_option maxRecDepth 4000
theorem look_free {T : List (Nat × AO)} {n : Nat} (h : ∀ m, n ≤ m → look m T = none) (o : AO) : ∀ m, n + 1 + 1 ≤ m → look m (T ++ [(n + 1, o)]) = none := by
  intro m hm
  have : ¬ (n + 1 = m) := by omega
  rw [look_append2, h m (by omega)]
  simp [look, this]
theorem new_ok (p : Prg) (f : PrgS p) : pureI Φ f_register_New [.agg (Prg.c p)] = some (.val (.slice 1 ((newR p).map (cS 1 c32)))) := by
  rw [pureI_go (fn := c_register_New) rfl rfl]
  have hr := f.r
  have e0 : (newR p).map (cS 1 c32) = p.registers.map fun r => [AV.slice 1 (List.replicate (regN r) [AV.int .u32 0])] := by
    simp [newR, cSe, c32]
  rw [e0]
  have b0 : (p.registers.length : Int) * 24 ≤ 140737488355328 := by omega
  have b3 : p.registers.length < 4611686018427387904 := by omega
  simp [c_register_New, Prg.e, b0, b3]
  refine loop_nat p.registers.length (fun i e h => ∃ (A : List AV) (T : List (Nat × AO)) (n : Nat), h = ⟨(0, .row 1 (A.map (fun x => [x]) ++ List.replicate (p.registers.length - i) [AV.fslice 1 []])) :: T, n⟩ ∧ 1 ≤ n ∧ (∀ m, n ≤ m → look m T = none) ∧ RegL T A (p.registers.take i) ∧
      look 3 e = some (.row 0 1 0 p.registers.length) ∧ look 11 e = some (.slice 3 (p.registers.map Register.c)) ∧ look 12 e = some (.int .i64 p.registers.length) ∧ look 13 e = some (.int .i64 i))
    (fun _ => some (Rt.val (.slice 1 (p.registers.map fun r => [AV.slice 1 (List.replicate (regN r) [AV.int .u32 0])])))) ?_ ?_ 0 _ _ (Nat.zero_le _) ?_
  · rintro i e _ L hi hL ⟨A, T, n, rfl, hn, hT, hR, h3, h11, h12, h13⟩ ih
    have hw : IntKind.wrap .i64 ((i : Int) + 1) = ((i + 1 : Nat) : Int) := wrap64 (by omega) (by omega)
    have hA : A.length = i := by rw [hR.len]; simp; omega
    have hs := sized_ok p.registers[i]
    have hN : p.registers.length - i = (p.registers.length - (i + 1)) + 1 := by omega
    rw [hN, List.replicate_succ]
    have hn0 : ¬ (0 = n) := by omega
    have hn1 : ¬ (n = 0) := by omega
    have hTn := hT n (Nat.le_refl _)
    have hTn1 := hT (n + 1) (by omega)
    have hsn : ∀ {U : List (Nat × AO)} {x : AV}, RegL U A (p.registers.take i) → RegV U x p.registers[i] → RegL U (A ++ [x]) (p.registers.take (i + 1)) := by
      intro U x h1 h2
      rw [List.take_succ_eq_append_getElem hi]
      exact .snoc h1 h2
    simp only [Register.e] at hs
    by_cases z : p.registers[i].size < 1 ∨ 64 < p.registers[i].size
    · have hz : regN p.registers[i] = 0 := by simp [regN, z]
      rw [show (!(decide (p.registers[i].size < 1) || decide (64 < p.registers[i].size))) = false by rcases z with z | z <;> simp [z]] at hs
      simp [c_register_New_l0, Register.e, h11, h12, h13, hi, hs, hw, hn0, hTn]
      exact ih _ _ ⟨A ++ [.fslice 1 []], T, _, by simp; rfl, by omega, fun m hm => hT m (by omega), hsn hR (.inl ⟨rfl, hz⟩), by simp [h3], by simp [h11], by simp [h12], by simp⟩
    · obtain ⟨k, hk⟩ : ∃ k : Nat, p.registers[i].size = k := ⟨p.registers[i].size.toNat, by omega⟩
      have hz : regN p.registers[i] = k := by simp [regN, z]; omega
      rw [show (!(decide (p.registers[i].size < 1) || decide (64 < p.registers[i].size))) = true by simp; omega] at hs
      have b1 : (k : Int) * 4 ≤ 140737488355328 := by omega
      have b2 : k < 4611686018427387904 := by omega
      rw [hk] at hs
      simp [c_register_New_l0, Register.e, h3, h11, h12, h13, hi, hs, hk, hw, hn0, hn1, hTn, hTn1, b1, b2, hA]
      refine ih _ _ ⟨A ++ [.row (n + 1) 1 0 k], T ++ [(n + 1, .row 1 (List.replicate k [.int .u32 0]))], n + 1 + 1, by simp, by omega, look_free hT _, hsn (hR.app _) (.inr ⟨n + 1, by omega, by rw [hz], by rw [look_append2, hTn1, hz]; simp⟩), by simp [h3], by simp [h11], by simp [h12], by simp⟩
  · rintro e _ L hL ⟨A, T, n, rfl, hn, hT, hR, h3, h11, h12, h13⟩
    have hS := hR.snp (.row 1 (A.map (fun x => [x]) ++ List.replicate (p.registers.length - p.registers.length) [AV.fslice 1 []])) n
    have hA : A.length = p.registers.length := by rw [hR.len]; simp
    simp at hS
    have hTk : (A.map fun x => [x]).take p.registers.length = A.map fun x => [x] := by
      rw [List.take_of_length_le]
      simp [hA]
    simp [c_register_New_l0, c_register_New_k1, h3, h12, h13, hL, hA, hTk, hS]
  · exact ⟨[], [], 1, by simp, by omega, fun _ _ => rfl, by simpa using RegL.nil, by simp, by simp, by simp, by simp⟩
end Go.Av
