/-
  slices.Delete on a row; Delete removes a row.
-/
import Derived.Test.YtjdbnnnakpacjaaGreatH17
set_option linter.unusedVariables false
set_option linter.unusedSimpArgs false
set_option linter.constructorNameAsVariable false
namespace Go.Av
set_option maxRecDepth 4000
theorem setl_setl2 {t : Nat} {y z : AO} : ∀ {O : List (Nat × AO)}, setl t z (setl t y O) = setl t z O
  | [] => by simp
  | (u, w) :: r => by
    by_cases hu : u = t
    · subst hu; simp
    · simp [hu, setl_setl2]
theorem sdel_ok {O : List (Nat × AO)} {N id n i : Nat} {es : List (List AV)} {l : List Rw} (hl : look id O = some (.row 5 es)) (hn : n = l.length) (hle : n ≤ es.length) (ht : es.take n = l.map Rw.c) (hi : i < n) (hb : n < 2 ^ 39) :
    ∃ N' es', callI Φ f_slices_Delete_api_Row_api_Row [.row id 5 0 n, .int .i64 i, .int .i64 ((i : Int) + 1)] ⟨O, N⟩ = some (.val (.row id 5 0 (n - 1)), ⟨setl id (.row 5 es') O, N'⟩) ∧ N ≤ N' ∧ N' ≤ N + 1 ∧ n - 1 ≤ es'.length ∧ es'.take (n - 1) = (l.eraseIdx i).map Rw.c := by
  rw [callI_go (fn := c_slices_Delete_api_Row_api_Row) rfl rfl]
  have hi1 : (i : Int) + 1 = ((i + 1 : Nat) : Int) := by omega
  have a1 : i + 1 ≤ n := by omega
  have a2 : i ≤ i + 1 := by omega
  have a3 : i ≤ n := by omega
  have a4 : i + 1 ≤ es.length := by omega
  have a5 : i ≤ es.length := by omega
  have hne : ¬ i = i + 1 := by omega
  rw [hi1]
  have b1 : (0 : Int) ≤ (i : Int) + 1 := by omega
  have b2 : (i : Int) + 1 ≤ (n : Int) := by omega
  have b3 : (i : Int) + 1 ≤ (es.length : Int) := by omega
  have c1 : i + (n - (i + 1)) = n - 1 := by omega
  have c2 : min (n - (i + 1)) (es.length - (i + 1)) = n - (i + 1) := by omega
  have c3 : i + (n - (i + 1)) ≤ es.length := by omega
  have c4 : i + 1 + (n - (i + 1)) ≤ es.length := by omega
  have c5 : ¬ i = es.length := by omega
  have c6 : (((n - 1 : Nat) : Int)) ≤ (n : Int) := by omega
  have c7 : n - 1 ≤ n := by omega
  have c9 : ¬ (i : Int) = (i : Int) + 1 := by omega
  have c8 : (i : Int) ≤ (i : Int) + 1 := by omega
  have c10 : n ≤ es.length + 1 := by omega
  have hys : (es.drop (i + 1)).take (n - (i + 1)) = (l.drop (i + 1)).map Rw.c := by
    rw [← List.drop_take, ht, List.map_drop]
  have c11 : allLen 5 ((es.drop (i + 1)).take (n - (i + 1))) = true := by rw [hys]; exact allLen_map 5 Rw.c _ fun x => by simp
  have hE1l : (es.take i ++ ((es.drop (i + 1)).take (n - (i + 1)) ++ es.drop (n - 1))).length = es.length := by
    simp only [List.length_append, List.length_take, List.length_drop]; omega
  have hE1t : (es.take i ++ ((es.drop (i + 1)).take (n - (i + 1)) ++ es.drop (n - 1))).take (n - 1) = (l.eraseIdx i).map Rw.c := by
    have hti : es.take i = (l.take i).map Rw.c := by
      have : (es.take n).take i = es.take i := by rw [List.take_take, Nat.min_eq_left (by omega)]
      rw [← this, ht, List.map_take]
    rw [hys, hti, List.eraseIdx_eq_take_drop_succ, List.map_append, ← List.append_assoc, List.take_append_of_le_length (by simp; omega)]
    exact List.take_of_length_le (by simp; omega)
  have d1 : ((n - 1 : Nat) : Int) ≤ (es.length : Int) := by omega
  have d2 : (n : Int) ≤ (es.length : Int) := by omega
  have d3 : n - 1 + (n - (n - 1)) ≤ es.length := by omega
  have d4 : ¬ n - 1 = n := by omega
  have fin : ∀ N', N ≤ N' → N' ≤ N + 1 → ∀ (E1 D : List (List AV)), E1.length = es.length → E1.take (n - 1) = (l.eraseIdx i).map Rw.c →
      ∃ N2 es', (setl id (AO.row 5 (E1.take (n - 1) ++ (List.replicate (n - (n - 1)) [AV.int .i64 0, .fslice 2 [], .int .i64 0, .int .i64 0, .fslice 1 []] ++ D))) O = setl id (AO.row 5 es') O ∧ N' = N2) ∧ N ≤ N2 ∧ N2 ≤ N + 1 ∧ n ≤ es'.length + 1 ∧ es'.take (n - 1) = (l.eraseIdx i).map Rw.c := by
    intro N' h1 h2 E1 D h3 h4
    refine ⟨N', _, ⟨rfl, rfl⟩, h1, h2, ?_, ?_⟩
    · simp only [List.length_append, List.length_take, List.length_replicate]; omega
    · rw [List.take_append_of_le_length (by simp; omega), List.take_take, Nat.min_self, h4]
  by_cases hfull : n = es.length
  · have hf2 := eq_true hfull
    simp [c_slices_Delete_api_Row_api_Row, hl, hle, a1, a3, b1, b2, hf2, c1, c2, c5, c8, c9]
    rw [if_pos ⟨c10, c11⟩]
    generalize es.take i ++ ((es.drop (i + 1)).take (n - (i + 1)) ++ es.drop (n - 1)) = E1 at hE1l hE1t ⊢
    simp [lk_setl, hl, hE1l, c6, c7, d2, setl_setl2, hle]
    exact fin N (Nat.le_refl _) (by omega) E1 _ hE1l hE1t
  · have hf2 := eq_false hfull
    simp [c_slices_Delete_api_Row_api_Row, hl, hle, a1, a3, b1, b2, hf2, c1, c2, c5, c8, c9]
    rw [if_pos ⟨c10, c11⟩]
    generalize es.take i ++ ((es.drop (i + 1)).take (n - (i + 1)) ++ es.drop (n - 1)) = E1 at hE1l hE1t ⊢
    simp [lk_setl, hl, hE1l, c6, c7, d2, setl_setl2, hle]
    exact fin (N + 1) (by omega) (by omega) E1 _ hE1l hE1t
end Go.Av
