/-
  Lemmas for the law.
-/
import Derived.Test.YtgnlablpigoioaaGreatN28
import Derived.KernelRfl
set_option linter.unusedVariables false
set_option linter.unusedSimpArgs false
set_option linter.constructorNameAsVariable false
namespace Go.Av
set_option maxRecDepth 8000
def zop : List AV := [.int .i64 0, .int .i64 0, .int .i64 0, .fslice 2 [], .int .i64 0, .int .i64 0, .fslice 1 [], .int .i64 0, .fslice 1 []]
def fop : List AV := [.int .i64 4, .int .i64 0, .int .i64 0, .fslice 2 [], .int .i64 0, .int .i64 0, .fslice 1 [], .int .i64 0, .fslice 1 []]
def ops27 (m i : Nat) : List (List AV) := List.replicate i fop ++ List.replicate (m - i) zop
theorem ops27_zero (m : Nat) : List.replicate m [.int .i64 0, .int .i64 0, .int .i64 0, .fslice 2 [], .int .i64 0, .int .i64 0, .fslice 1 [], .int .i64 0, .fslice 1 []] = ops27 m 0 := by simp [ops27, zop]
def heap27 (m i : Nat) : AH := ⟨[(0, .row 1 [[.nilptr]]), (1, .row 1 [[.int .i64 1]]), (2, .row 1 [[.nilptr]]), (3, .row 2 [[.int .i64 0, .fslice 1 []]]), (4, .row 15 [zs27]), (5, .row 1 [[.ptr 4 15 0 0]]), (6, .row 1 [[.int .i64 1]]), (7, .row 1 [[.nilptr]]), (8, .row 2 [[.int .i64 0, .fslice 1 []]]), (9, .row 9 [pc27]), (10, .row 9 (ops27 m i))], 11⟩
theorem ops27_length {m i : Nat} (h : i ≤ m) : (ops27 m i).length = m := by simp [ops27]; omega
theorem ops27_set {m i : Nat} (h : i < m) : (ops27 m i).set i [.int .i64 4, .int .i64 0, .int .i64 0, .fslice 2 [], .int .i64 0, .int .i64 0, .fslice 1 [], .int .i64 0, .fslice 1 []] = ops27 m (i + 1) := by
  unfold ops27
  apply List.ext_getElem
  · simp; omega
  · intro k h1 h2
    simp [List.getElem_set, List.getElem_append, fop]
    split <;> split <;> (try split) <;> (first | rfl | omega)
theorem ops27_get {m i : Nat} (h : i < m) (h2 : i < (ops27 m i).length) : (ops27 m i)[i] = [.int .i64 0, .int .i64 0, .int .i64 0, .fslice 2 [], .int .i64 0, .int .i64 0, .fslice 1 [], .int .i64 0, .fslice 1 []] := by
  simp [ops27, List.getElem_append, zop]
theorem snap_pc27 (H : AH) : mapO (snap 39 H) pc27 = some pc27 := by kernel_rfl
theorem bor_pc27 : anyL (bor 39) pc27 = false := by kernel_rfl
theorem snap_cc27 (H : AH) : mapO (snap 39 H) cc27 = some cc27 := by kernel_rfl
theorem bor_cc27 : anyL (bor 39) cc27 = false := by kernel_rfl
theorem ops27_full (m : Nat) : ops27 m m = List.replicate m fop := by simp [ops27]
theorem snap_fop (H : AH) : mapO (snap snapFuel H) fop = some op27 := by kernel_rfl
theorem mapO_replicate {α β : Type} {f : α → Option β} {a : α} {b : β} (h : f a = some b) : ∀ m : Nat, mapO f (List.replicate m a) = some (List.replicate m b)
  | 0 => rfl
  | m + 1 => by rw [List.replicate_succ, List.replicate_succ]; simp only [mapO, h, mapO_replicate h m]
theorem bor_ops (m : Nat) : anyL (bor snapFuel) (List.replicate m fop).flatten = false := by
  induction m with
  | zero => rfl
  | succ m ih =>
    rw [List.replicate_succ, List.flatten_cons]
    have key : ∀ (a b : List AV), anyL (bor snapFuel) a = false → anyL (bor snapFuel) b = false → anyL (bor snapFuel) (a ++ b) = false := by
      intro a b ha hb
      induction a with
      | nil => exact hb
      | cons x r ihr =>
        simp only [anyL, List.cons_append, Bool.or_eq_false_iff] at ha ⊢
        exact ⟨ha.1, ihr ha.2⟩
    exact key _ _ (by kernel_rfl) ih
theorem frz27 (H : AH) (m : Nat) (h : H.get 10 = some (.row 9 (ops27 m m))) : frzRow H 10 9 0 m = some (.slice 9 (List.replicate m op27)) := by
  unfold frzRow
  rw [h, ops27_full]
  simp only
  rw [if_pos ⟨trivial, by simp, bor_ops m⟩]
  rw [List.drop_zero, List.take_of_length_le (by simp), mapO_replicate (snap_fop H)]
  rfl
theorem TxnNil_all {B : Nat} (l : List TableOp) (n : Int) (_ : okL B (TableOp.Ok B) l) (hn : ok8 B n) : pureI Φ f_law27_TxnNil [.slice 9 (l.map TableOp.c), .int .u8 n] = some (.val (.bool true)) := by
  rw [pureI_go (fn := c_law27_TxnNil) rfl rfl]
  have hs := SmallOps_ok l
  cases hq : smallOps l with
  | false =>
    rw [hq] at hs
    simp [c_law27_TxnNil, hs, works27]
  | true =>
  rw [hq] at hs
  have c1 := commit_nil (l.map TableOp.c)
  have c2 := commit_zero (l.map TableOp.c)
  simp only [zs27] at c2
  obtain ⟨n1, n2⟩ := hn
  obtain ⟨r, hr⟩ : ∃ r : Nat, n % 8 = (r : Int) := ⟨(n % 8).toNat, by omega⟩
  have hr8 : r < 8 := by omega
  have ht : n.tmod 8 = (r : Int) := by rw [Int.tmod_eq_emod_of_nonneg n1]; exact hr
  have w1 : IntKind.wrap .u8 (r : Int) = (r : Int) := by have e : r = 0 ∨ r = 1 ∨ r = 2 ∨ r = 3 ∨ r = 4 ∨ r = 5 ∨ r = 6 ∨ r = 7 := by omega
                                                         rcases e with rfl | rfl | rfl | rfl | rfl | rfl | rfl | rfl <;> decide
  have w2 : IntKind.wrap .i64 (r : Int) = (r : Int) := wrap64 (by omega) (by omega)
  obtain ⟨m, hm⟩ : ∃ m : Nat, m = 60 + r := ⟨_, rfl⟩
  have w3 : IntKind.wrap .i64 (60 + (r : Int)) = (m : Int) := by rw [wrap64 (by omega) (by omega)]; omega
  have m1 : (m : Int) < 4611686018427387904 := by omega
  have m2 : (m : Int) * 120 ≤ 140737488355328 := by omega
  simp [c_law27_TxnNil, hs, c1, c2, program27, pc27_length, ht, w1, w2, w3, m1, m2, ops27_zero]
  refine loop_nat m (fun i e h => look 13 e = some (.row 10 9 0 m) ∧ look 14 e = some (.int .i64 i) ∧ look 12 e = some (.ptr 9 9 0 0) ∧ look 6 e = some (.fslice 1 []) ∧ look 7 e = some (.int .i64 (-1)) ∧ look 8 e = some (.int .i64 1) ∧
    look 9 e = some (.fslice 1 []) ∧ look 10 e = some (.int .i64 (-1)) ∧ look 11 e = some (.int .i64 1) ∧ h = heap27 m i) (fun _ => _) ?_ ?_ 0 _ _ (Nat.zero_le _) ?_
  · rintro i e _ L hi hL ⟨h13, h14, h12, h6, h7, h8, h9, h10, h11, rfl⟩ ih
    have hw : IntKind.wrap .i64 ((i : Int) + 1) = ((i + 1 : Nat) : Int) := wrap64 (by omega) (by omega)
    have hl := ops27_length (Nat.le_of_lt hi)
    have hset := ops27_set hi
    have hget := ops27_get hi
    simp [c_law27_TxnNil_l0, heap27, hL, h13, h14, hi, hw, hl, hset, hget]
    refine ih _ _ ⟨by simp [h13], by simp, by simp [h12], by simp [h6], by simp [h7], by simp [h8], by simp [h9], by simp [h10], by simp [h11], rfl⟩
  · rintro e _ L hL ⟨h13, h14, h12, h6, h7, h8, h9, h10, h11, rfl⟩
    simp [c_law27_TxnNil_l0, h13, h14, hL]
    obtain ⟨c, ids, a, er, hA, hA1, hA2⟩ : ApplyOk m := by
      have e : m = 60 ∨ m = 61 ∨ m = 62 ∨ m = 63 ∨ m = 64 ∨ m = 65 ∨ m = 66 ∨ m = 67 := by omega
      rcases e with rfl | rfl | rfl | rfl | rfl | rfl | rfl | rfl
      · exact apply60
      · exact apply61
      · exact apply62
      · exact apply63
      · exact apply64
      · exact apply65
      · exact apply66
      · exact apply67
    have hl := ops27_length (Nat.le_refl m)
    have htk : List.take 9 pc27 = pc27 := List.take_of_length_le (by rw [pc27_length]; exact Nat.le_refl _)
    by_cases hm64 : m ≤ 64
    · rw [if_pos hm64] at hA2
      obtain ⟨a1, rfl, rfl⟩ := hA2
      have g : ¬ (64 < m) := by omega
      simp [c_law27_TxnNil_k1, heap27, h6, h7, h8, h9, h10, h11, h12, h13, hl, empty27, hA, pc27_length, htk, hA1, frzArg, frz27, snap_pc27, bor_pc27, snap_cc27, bor_cc27, g, hm64, a1, works27]
    · rw [if_neg hm64] at hA2
      obtain ⟨a1, rfl, rfl⟩ := hA2
      have g : 64 < m := by omega
      simp [c_law27_TxnNil_k1, heap27, h6, h7, h8, h9, h10, h11, h12, h13, hl, empty27, hA, pc27_length, htk, hA1, frzArg, frz27, snap_pc27, bor_pc27, snap_cc27, bor_cc27, g, hm64, a1, works27]
  · simp [heap27, zs27]
end Go.Av
