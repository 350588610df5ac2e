/-
  Contents of registers: checks, on both sides.
-/
import Derived.Test.YtjdbnnnakpacjaaGreatQ9
set_option linter.unusedVariables false
set_option linter.unusedSimpArgs false
set_option linter.constructorNameAsVariable false
namespace Go.Av
set_option maxRecDepth 4000
def mxF : List Int → Int → Int
  | [], a => a
  | x :: r, a => mxF r (max a x)
theorem mxF_lt (M : Int) : ∀ (l : List Int) (a : Int), M < mxF l a ↔ M < a ∨ ∃ x ∈ l, M < x
  | [], a => by simp [mxF]
  | x :: r, a => by
    have ih := mxF_lt M r (max a x)
    simp only [mxF, ih, List.mem_cons, exists_eq_or_imp]
    constructor
    · rintro (h | h)
      · by_cases q : M < a
        · exact .inl q
        · exact .inr (.inl (by omega))
      · exact .inr (.inr h)
    · rintro (h | h | h)
      · exact .inl (by omega)
      · exact .inl (by omega)
      · exact .inr h
theorem max_ok (l : List Int) (h0 : 0 < l.length) (hl : l.length < 2 ^ 40) : pureI Φ f_slices_Max_uint32_uint32 [.slice 1 (l.map c32)] = some (.val (.int .u32 (mxF l.tail l[0]))) := by
  rw [pureI_go (fn := c_slices_Max_uint32_uint32) rfl rfl]
  have h1 : ¬ (l.length : Int) < 1 := by omega
  simp [c_slices_Max_uint32_uint32, h0, h1, c32]
  refine loop_nx l.length (fun _ => []) 0 (fun i e => look 0 e = some (.slice 1 (l.map c32)) ∧ look 4 e = some (.int .i64 i) ∧ ∃ a : Int, look 3 e = some (.int .u32 a) ∧ mxF (l.drop i) a = mxF l.tail l[0])
    (fun _ => some (Rt.val (.int .u32 (mxF l.tail l[0])))) ?_ ?_ 1 _ 0 (by omega) (Nat.zero_le _) ?_
  · rintro i e n L hi hL _ ⟨h0, h4, a, h3, hm⟩ ih
    have hw : IntKind.wrap .i64 ((i : Int) + 1) = ((i + 1 : Nat) : Int) := wrap64 (by omega) (by omega)
    rw [List.drop_eq_getElem_cons hi] at hm
    simp only [mxF] at hm
    generalize hX : some (Rt.val (AV.int .u32 (mxF l.tail l[0]))) = X
    simp [c_slices_Max_uint32_uint32_l0, c32, h0, h4, h3, hi, hw]
    rw [← hX]
    exact ih _ _ (Nat.zero_le _) ⟨by simp [h0], by simp, max a l[i], by simp; split <;> omega, hm⟩
  · rintro e n L hL _ ⟨h0, h4, a, h3, hm⟩
    rw [List.drop_length] at hm
    simp only [mxF] at hm
    rw [← hm]
    simp [c_slices_Max_uint32_uint32_l0, c_slices_Max_uint32_uint32_k1, h0, h4, h3, hL]
  · simp
def szG (p : Prg) (rs : List (List Int)) (i : Nat) : Option Int := match rs[i]?, p.registers[i]? with
  | some l, some r => if (l.length : Int) = r.size then none else some 2
  | _, _ => none
def vlG (p : Prg) (rs : List (List Int)) (i : Nat) : Option Int := match rs[i]?, p.registers[i]? with
  | some l, some r => if l.any (fun v => decide (maskI r.width < v)) = true then some 9 else none
  | _, _ => none
def conE (p : Prg) (rs : List (List Int)) : Int := if rs.length ≠ p.registers.length then 2 else (fe (szG p rs) rs.length 0).getD ((fe (vlG p rs) rs.length 0).getD 0)
theorem con_b (p : Prg) (f : PrgS p) (rs : List (List Int)) (hl : rs.length < 2 ^ 40) (hs : ∀ l ∈ rs, l.length < 2 ^ 40) (hz : rs.length = p.registers.length) (e : Env) (n : Nat)
    (h1 : look 1 e = some (.slice 1 (rs.map (cS 1 c32)))) (h2 : look 2 e = some (.iptr 9 [Prg.c p] 0 0)) :
    go Φ (finP [.tmp 4]) [.c c_register_CheckContents_k3] .normal ⟨e, ⟨[], n⟩⟩ = some (.val (.int .i64 ((fe (vlG p rs) rs.length 0).getD 0))) := by
  simp [c_register_CheckContents_k3, h1]
  refine loop_nx rs.length (fun _ => []) 0 (fun i e => look 2 e = some (.iptr 9 [Prg.c p] 0 0) ∧ look 32 e = some (.slice 1 (rs.map (cS 1 c32))) ∧ look 33 e = some (.int .i64 rs.length) ∧ look 34 e = some (.int .i64 i))
    (fun i => some (Rt.val (.int .i64 ((fe (vlG p rs) rs.length i).getD 0)))) ?_ ?_ 0 _ n (Nat.zero_le _) (Nat.zero_le _) ?_
  · rintro i e n L hi hL _ ⟨h2, h32, h33, h34⟩ ih
    have hw : IntKind.wrap .i64 ((i : Int) + 1) = ((i + 1 : Nat) : Int) := wrap64 (by omega) (by omega)
    have hi2 : i < p.registers.length := by omega
    have hm := mask_ok p.registers[i].width
    rw [Prg.e] at h2
    by_cases e0 : rs[i].length = 0
    · have e1 : rs[i] = [] := List.eq_nil_of_length_eq_zero e0
      rw [fe_miss hi (by simp [vlG, hi, hi2, e1])]
      generalize hX : some (Rt.val (AV.int .i64 ((fe (vlG p rs) rs.length (i + 1)).getD 0))) = X
      simp [c_register_CheckContents_l1, cSe, h32, h33, h34, hi, hw, e1]
      rw [← hX]
      exact ih _ _ (Nat.zero_le _) ⟨by simp [h2, Prg.e], by simp [h32], by simp [h33], by simp⟩
    have e1 : 0 < rs[i].length := by omega
    have hx := max_ok rs[i] e1 (hs _ (List.getElem_mem hi))
    have hy : rs[i].any (fun v => decide (maskI p.registers[i].width < v)) = decide (maskI p.registers[i].width < mxF rs[i].tail rs[i][0]) := by
      rw [Bool.eq_iff_iff, decide_eq_true_eq, mxF_lt, List.any_eq_true]
      have hd : rs[i] = rs[i][0] :: rs[i].tail := by
        have := List.drop_eq_getElem_cons e1
        simpa using this
      constructor
      · rintro ⟨x, hx, hv⟩
        rw [hd] at hx
        rcases List.mem_cons.1 hx with rfl | hx
        · exact .inl (of_decide_eq_true hv)
        · exact .inr ⟨x, hx, of_decide_eq_true hv⟩
      · rintro (h | ⟨x, hx, hv⟩)
        · exact ⟨_, List.getElem_mem e1, decide_eq_true h⟩
        · exact ⟨x, List.mem_of_mem_tail hx, decide_eq_true hv⟩
    by_cases v : maskI p.registers[i].width < mxF rs[i].tail rs[i][0]
    · rw [fe_hit (x := (9 : Int)) hi (by simp only [vlG, List.getElem?_eq_getElem hi, List.getElem?_eq_getElem hi2]; rw [hy, if_pos (decide_eq_true v)])]
      simp [c_register_CheckContents_l1, cSe, Register.e, h2, h32, h33, h34, hi, hi2, e1, hx, hm, v]
    · rw [fe_miss hi (by simp only [vlG, List.getElem?_eq_getElem hi, List.getElem?_eq_getElem hi2]; rw [hy, if_neg (by simpa using v)])]
      generalize hX : some (Rt.val (AV.int .i64 ((fe (vlG p rs) rs.length (i + 1)).getD 0))) = X
      simp [c_register_CheckContents_l1, cSe, Register.e, h2, h32, h33, h34, hi, hi2, e1, hx, hm, v, hw]
      rw [← hX]
      exact ih _ _ (Nat.zero_le _) ⟨by simp [h2, Prg.e], by simp [h32], by simp [h33], by simp⟩
  · rintro e n L hL _ ⟨h2, h32, h33, h34⟩
    rw [fe_end]
    simp [c_register_CheckContents_l1, c_register_CheckContents_k2, h33, h34, hL]
  · simp [h2]
theorem conE_ok (p : Prg) (f : PrgS p) (rs : List (List Int)) (hl : rs.length < 2 ^ 40) (hs : ∀ l ∈ rs, l.length < 2 ^ 40) : pureI Φ f_register_CheckContents [.agg (Prg.c p), .slice 1 (rs.map (cS 1 c32))] = some (.val (.int .i64 (conE p rs))) := by
  rw [pureI_go (fn := c_register_CheckContents) rfl rfl]
  unfold conE
  by_cases z : rs.length = p.registers.length
  rotate_left
  · simp [c_register_CheckContents, Prg.e, z]
  rw [if_neg (by simpa using z)]
  generalize hY : some (Rt.val (AV.int .i64 ((fe (szG p rs) rs.length 0).getD ((fe (vlG p rs) rs.length 0).getD 0)))) = Y
  simp [c_register_CheckContents, Prg.e, z]
  rw [← hY]
  refine loop_nx rs.length (fun _ => []) 0 (fun i e => look 1 e = some (.slice 1 (rs.map (cS 1 c32))) ∧ look 2 e = some (.iptr 9 [Prg.c p] 0 0) ∧ look 15 e = some (.slice 1 (rs.map (cS 1 c32))) ∧ look 16 e = some (.int .i64 rs.length) ∧ look 17 e = some (.int .i64 i))
    (fun i => some (Rt.val (.int .i64 ((fe (szG p rs) rs.length i).getD ((fe (vlG p rs) rs.length 0).getD 0))))) ?_ ?_ 0 _ 0 (Nat.zero_le _) (Nat.zero_le _) ?_
  · rintro i e n L hi hL _ ⟨h1, h2, h15, h16, h17⟩ ih
    have hw : IntKind.wrap .i64 ((i : Int) + 1) = ((i + 1 : Nat) : Int) := wrap64 (by omega) (by omega)
    have hi2 : i < p.registers.length := by omega
    rw [Prg.e] at h2
    by_cases v : (rs[i].length : Int) = p.registers[i].size
    · rw [fe_miss hi (by simp [szG, hi, hi2, v])]
      generalize hX : some (Rt.val (AV.int .i64 ((fe (szG p rs) rs.length (i + 1)).getD ((fe (vlG p rs) rs.length 0).getD 0)))) = X
      simp [c_register_CheckContents_l0, cSe, Register.e, h2, h15, h16, h17, hi, hi2, v, hw]
      rw [← hX]
      exact ih _ _ (Nat.zero_le _) ⟨by simp [h1], by simp [h2, Prg.e], by simp [h15], by simp [h16], by simp⟩
    · rw [fe_hit (x := (2 : Int)) hi (by simp [szG, hi, hi2, v])]
      simp [c_register_CheckContents_l0, cSe, Register.e, h2, h15, h16, h17, hi, hi2, v]
  · rintro e n L hL _ ⟨h1, h2, h15, h16, h17⟩
    rw [fe_end]
    generalize hX : some (Rt.val (AV.int .i64 ((none : Option Int).getD ((fe (vlG p rs) rs.length 0).getD 0)))) = X
    simp [c_register_CheckContents_l0, h16, h17, hL]
    rw [← hX]
    exact con_b p f rs hl hs z _ _ (by simp [h1]) (by simp [h2])
  · simp [Prg.e, z]
end Go.Av
