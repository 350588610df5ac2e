/-
  The control flow: the reference's answer.
-/
import Derived.Test.YtjdbnnnakpacjaaGreatL7
set_option linter.unusedVariables false
set_option linter.unusedSimpArgs false
set_option linter.constructorNameAsVariable false
namespace Go.Av
set_option maxRecDepth 4000
theorem rcount_ok : ∀ (n : Nat) (l : List ControlNode), SizeOf.sizeOf l ≤ n → (pre l).length < 2 ^ 40 → pureI Φ f_ref20_Count [.slice 5 (l.map ControlNode.c)] = some (.val (.int .i64 ((pre l).length : Nat)))
  | 0, l, h, hb => by cases l <;> simp at h
  | n + 1, l, h, hb => by
    rw [pureI_go (fn := c_ref20_Count) rfl rfl]
    have hll := pre_len l
    generalize hX : some (Rt.val (AV.int .i64 ((pre l).length : Nat))) = X
    simp [c_ref20_Count]
    refine loop_nat0 l.length (fun i e => look 0 e = some (.slice 5 (l.map ControlNode.c)) ∧ look 3 e = some (.int .i64 ((pre (l.take i)).length : Nat)) ∧ look 4 e = some (.int .i64 i)) (fun i => X) ?_ ?_ 0 _ (Nat.zero_le _) ?_
    · rintro i e L hi hL ⟨h0, h3, h4⟩ ih
      have hw : IntKind.wrap .i64 ((i : Int) + 1) = ((i + 1 : Nat) : Int) := wrap64 (by omega) (by omega)
      obtain ⟨k, t, c, a, b, hx⟩ := node_mk l[i]
      have hm : l[i] ∈ l := List.getElem_mem hi
      have hs : SizeOf.sizeOf l[i] < SizeOf.sizeOf l := List.sizeOf_lt_of_mem hm
      have ht := pre_take hi
      have htl : (pre (l.take (i + 1))).length ≤ (pre l).length := by
        have : pre l = pre (l.take (i + 1)) ++ pre (l.drop (i + 1)) := by rw [← pre_append, List.take_append_drop]
        rw [this]; simp
      rw [hx] at hs ht
      rw [pre1_mk] at ht
      simp at hs
      have htl2 := congrArg List.length ht
      simp at htl2
      have i1 := rcount_ok n a (by omega) (by omega)
      have i2 := rcount_ok n b (by omega) (by omega)
      have w1 : IntKind.wrap .i64 (1 + ((pre a).length : Int)) = 1 + ((pre a).length : Int) := wrap64 (by omega) (by omega)
      have w2 : IntKind.wrap .i64 (1 + ((pre a).length : Int) + ((pre b).length : Int)) = 1 + ((pre a).length : Int) + ((pre b).length : Int) := wrap64 (by omega) (by omega)
      have w3 : IntKind.wrap .i64 (((pre (l.take i)).length : Int) + (1 + ((pre a).length : Int) + ((pre b).length : Int))) = ((pre (l.take i)).length : Int) + (1 + ((pre a).length : Int) + ((pre b).length : Int)) := wrap64 (by omega) (by omega)
      simp [c_ref20_Count_l0, h0, h3, h4, hi, hw, hx, ControlNode.e, i1, i2, w1, w2, w3]
      refine ih _ ⟨by simp [h0], ?_, by simp⟩
      rw [htl2]
      simp
      omega
    · rintro e L hL ⟨h0, h3, h4⟩
      rw [List.take_length] at h3
      simp [c_ref20_Count_l0, c_ref20_Count_k1, h0, h3, h4, hL, ← hX]
    · simp [pre]
theorem nest_zero (l : List ControlNode) : nest l = if l.length = 0 then 0 else nestM l + 1 := by
  cases l with
  | nil => simp [nest]
  | cons x r => rw [nest_eq _ (by simp)]; simp
theorem nest_append : ∀ a b : List ControlNode, nest (a ++ b) = max (nest a) (nest b)
  | [], b => by simp [nest]
  | x :: a, b => by rw [List.cons_append, nest, nest_append a b, nest]; omega
theorem rnest_ok : ∀ (n : Nat) (l : List ControlNode), SizeOf.sizeOf l ≤ n → (pre l).length < 2 ^ 40 → pureI Φ f_ref20_Nesting [.slice 5 (l.map ControlNode.c)] = some (.val (.int .i64 (nest l : Nat)))
  | 0, l, h, hb => by cases l <;> simp at h
  | n + 1, l, h, hb => by
    rw [pureI_go (fn := c_ref20_Nesting) rfl rfl]
    have hll := pre_len l
    generalize hX : some (Rt.val (AV.int .i64 (nest l : Nat))) = X
    simp [c_ref20_Nesting]
    refine loop_nat0 l.length (fun i e => look 0 e = some (.slice 5 (l.map ControlNode.c)) ∧ look 3 e = some (.int .i64 (nest (l.take i) : Nat)) ∧ look 4 e = some (.int .i64 i)) (fun i => X) ?_ ?_ 0 _ (Nat.zero_le _) ?_
    · rintro i e L hi hL ⟨h0, h3, h4⟩ ih
      have hw : IntKind.wrap .i64 ((i : Int) + 1) = ((i + 1 : Nat) : Int) := wrap64 (by omega) (by omega)
      obtain ⟨k, t, c, a, b, hx⟩ := node_mk l[i]
      have hm : l[i] ∈ l := List.getElem_mem hi
      have hs : SizeOf.sizeOf l[i] < SizeOf.sizeOf l := List.sizeOf_lt_of_mem hm
      have hp := pre_mem hi
      have hn : nest (l.take (i + 1)) = max (nest (l.take i)) (1 + nest1 l[i]) := by
        rw [List.take_succ_eq_append_getElem hi, nest_append]
        simp [nest]
      rw [hx] at hs hp hn
      rw [pre1_mk] at hp
      rw [nest1_mk] at hn
      simp at hs hp
      have i1 := rnest_ok n a (by omega) (by omega)
      have i2 := rnest_ok n b (by omega) (by omega)
      have l1 := nest_le a
      have l2 := nest_le b
      have w1 : IntKind.wrap .i64 (1 + (nest a : Int)) = 1 + (nest a : Int) := wrap64 (by omega) (by omega)
      have w2 : IntKind.wrap .i64 (1 + (nest b : Int)) = 1 + (nest b : Int) := wrap64 (by omega) (by omega)
      simp [c_ref20_Nesting_l0, h0, h3, h4, hi, hw, hx, ControlNode.e, i1, i2, w1, w2]
      refine ih _ ⟨by simp [h0], ?_, by simp⟩
      simp [hn]
      split <;> split <;> omega
    · rintro e L hL ⟨h0, h3, h4⟩
      rw [List.take_length] at h3
      simp [c_ref20_Nesting_l0, c_ref20_Nesting_k1, h0, h3, h4, hL, ← hX]
    · simp [nest]
theorem preorder_ok : ∀ (n : Nat) (l : List ControlNode), SizeOf.sizeOf l ≤ n → (pre l).length < 2 ^ 30 → pureI Φ f_ref20_Preorder [.slice 5 (l.map ControlNode.c)] = some (.val (.slice 5 ((pre l).map ControlNode.c)))
  | 0, l, h, hb => by cases l <;> simp at h
  | n + 1, l, h, hb => by
    rw [pureI_go (fn := c_ref20_Preorder) rfl rfl]
    have hll := pre_len l
    generalize hX : some (Rt.val (AV.slice 5 ((pre l).map ControlNode.c))) = X
    simp [c_ref20_Preorder]
    refine loop_nat l.length (fun i e H => look 0 e = some (.slice 5 (l.map ControlNode.c)) ∧ look 3 e = some (.app 5 ((pre (l.take i)).map ControlNode.c) 0) ∧ look 4 e = some (.int .i64 i) ∧ H = ⟨[(0, .tok 5 (pre (l.take i)).length)], 1⟩) (fun i => X) ?_ ?_ 0 _ _ (Nat.zero_le _) ?_
    · rintro i e _ L hi hL ⟨h0, h3, h4, rfl⟩ ih
      have hw : IntKind.wrap .i64 ((i : Int) + 1) = ((i + 1 : Nat) : Int) := wrap64 (by omega) (by omega)
      obtain ⟨k, t, c, a, b, hx⟩ := node_mk l[i]
      have hm : l[i] ∈ l := List.getElem_mem hi
      have hs : SizeOf.sizeOf l[i] < SizeOf.sizeOf l := List.sizeOf_lt_of_mem hm
      have ht := pre_take hi
      have htl : (pre (l.take (i + 1))).length ≤ (pre l).length := by
        have : pre l = pre (l.take (i + 1)) ++ pre (l.drop (i + 1)) := by rw [← pre_append, List.take_append_drop]
        rw [this]; simp
      rw [hx] at hs ht
      rw [pre1_mk] at ht
      simp at hs
      have htl2 := congrArg List.length ht
      simp at htl2
      have i1 := preorder_ok n a (by omega) (by omega)
      have i2 := preorder_ok n b (by omega) (by omega)
      have b1 : ((pre (l.take i)).length + 1) * 88 ≤ 70368744177664 := by omega
      have b2 : ((pre (l.take i)).length + 1 + (pre a).length) * 88 ≤ 70368744177664 := by omega
      have b3 : ((pre (l.take i)).length + (1 + (pre a).length) + (pre b).length) * 88 ≤ 70368744177664 := by omega
      have b4 : ((pre (l.take i)).length + 1 + (pre a).length + (pre b).length) * 88 ≤ 70368744177664 := by omega
      have e6 : (pre (l.take i)).length + ((pre a).length + 1) = (pre (l.take i)).length + 1 + (pre a).length := by omega
      have b5 : ((pre (l.take i)).length + (1 + (pre a).length)) * 88 ≤ 70368744177664 := by omega
      simp [c_ref20_Preorder_l0, h0, h3, h4, hi, hw, hx, ControlNode.e, i1, i2, e6, b1, b2, b4]
      refine ih _ _ ⟨by simp [h0], ?_, by simp, ?_⟩
      · simp [ht, ControlNode.e]
      · simp [htl2]
        omega
    · rintro e _ L hL ⟨h0, h3, h4, rfl⟩
      rw [List.take_length] at h3
      simp [c_ref20_Preorder_l0, c_ref20_Preorder_k1, h0, h3, h4, hL, ← hX]
    · simp [pre]
end Go.Av
