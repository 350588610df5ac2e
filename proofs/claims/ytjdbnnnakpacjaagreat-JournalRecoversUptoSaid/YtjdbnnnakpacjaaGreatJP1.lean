/-
  Frames of bytes, as plain functions: what is framed is unframed again, and a frame that is cut is short.
-/
import Derived.Test.YtjdbnnnakpacjaaGreatJL
import Derived.Test.YtjdbnnnakpacjaaGreatAvD
set_option linter.unusedVariables false
set_option linter.unusedSimpArgs false
set_option linter.constructorNameAsVariable false
namespace Go.Av
def fnv1 (h c : Int) : Int := ixor .u32 h c * 16777619 % 4294967296
def fnvL (h : Int) (b : List Int) : Int := b.foldl fnv1 h
def fnv (b : List Int) : Int := fnvL 2166136261 b
def frB (b : List Int) : List Int := be4 b.length ++ (b ++ be4 (fnv (be4 b.length ++ b)))
def unfB (b : List Int) : List Int × Int × Int :=
  if b.length < 8 then ([], 0, 3) else
  if (b.length : Int) - 8 < num 4 b then ([], 0, 3) else
  if fnv (b.take (4 + (num 4 b).toNat)) ≠ num 4 (b.drop (4 + (num 4 b).toNat)) then ([], 0, 24) else ((b.drop 4).take (num 4 b).toNat, num 4 b + 8, 0)
theorem fnv1_rng (h c : Int) : 0 ≤ fnv1 h c ∧ fnv1 h c ≤ 4294967295 := by unfold fnv1; omega
theorem fnvL_rng : ∀ (b : List Int) (h : Int), 0 ≤ h ∧ h ≤ 4294967295 → 0 ≤ fnvL h b ∧ fnvL h b ≤ 4294967295
  | [], _, hh => hh
  | c :: b, h, _ => fnvL_rng b (fnv1 h c) (fnv1_rng h c)
theorem fnv_rng (b : List Int) : 0 ≤ fnv b ∧ fnv b ≤ 4294967295 := fnvL_rng b _ (by omega)
theorem num4_be {v : Int} (h : 0 ≤ v ∧ v ≤ 4294967295) (r : List Int) : num 4 (be4 v ++ r) = v := by
  simp [num, be4]; omega
theorem num4_rng {b : List Int} (hb : okB b) (h : 4 ≤ b.length) : 0 ≤ num 4 b ∧ num 4 b ≤ 4294967295 := by
  match b, h with
  | x :: y :: z :: w :: l, _ =>
    have h1 := hb x (by simp)
    have h2 := hb y (by simp)
    have h3 := hb z (by simp)
    have h4 := hb w (by simp)
    simp [num]; omega
theorem be4_len (v : Int) : (be4 v).length = 4 := rfl
theorem frB_len (b : List Int) : (frB b).length = b.length + 8 := by simp [frB, be4_len]; omega
theorem unf_fr (b r : List Int) (h : (b.length : Int) ≤ 4294967295) : unfB (frB b ++ r) = (b, (b.length : Int) + 8, 0) := by
  have hl : (frB b ++ r).length = b.length + 8 + r.length := by rw [List.length_append, frB_len]
  have hn : num 4 (frB b ++ r) = b.length := by
    rw [frB, List.append_assoc, num4_be (by omega)]
  have ht : (frB b ++ r).take (4 + b.length) = be4 b.length ++ b := by
    rw [frB, ← List.append_assoc, List.append_assoc, List.take_append_of_le_length (by simp [be4_len])]
    exact List.take_of_length_le (by simp [be4_len] <;> omega)
  have hd : (frB b ++ r).drop (4 + b.length) = be4 (fnv (be4 b.length ++ b)) ++ r := by
    rw [frB, ← List.append_assoc, List.append_assoc, List.drop_append_of_le_length (by simp [be4_len])]
    rw [List.drop_of_length_le (by simp [be4_len] <;> omega)]; rfl
  have hb : ((frB b ++ r).drop 4).take b.length = b := by
    rw [frB, List.append_assoc, List.drop_append_of_le_length (by simp [be4_len]), List.drop_of_length_le (by simp [be4_len]), List.nil_append, List.append_assoc, List.take_append_of_le_length (Nat.le_refl _)]
    exact List.take_of_length_le (Nat.le_refl _)
  unfold unfB
  rw [if_neg (by omega), hn, if_neg (by omega), Int.toNat_natCast, ht, hd, num4_be (fnv_rng _), if_neg (by simp), hb]
theorem unf_cut (b : List Int) (h : (b.length : Int) ≤ 4294967295) {n : Nat} (hn : n < b.length + 8) : unfB ((frB b).take n) = ([], 0, 3) := by
  have hl : ((frB b).take n).length = n := by rw [List.length_take, frB_len]; omega
  unfold unfB
  by_cases q : n < 8
  · rw [if_pos (by omega)]
  · rw [if_neg (by omega)]
    have hm : num 4 ((frB b).take n) = b.length := by
      rw [frB, List.take_append, List.take_of_length_le (by rw [be4_len]; omega), num4_be (by omega)]
    rw [hm, if_pos (by omega)]
theorem unf_in {b body : List Int} {n : Int} (hb : okB b) (h : unfB b = (body, n, 0)) : 8 ≤ n ∧ n ≤ b.length ∧ (body.length : Int) + 8 = n ∧ okB body := by
  unfold unfB at h
  by_cases q : b.length < 8
  · rw [if_pos q] at h; simp at h
  rw [if_neg q] at h
  have hr := num4_rng hb (by omega)
  by_cases q2 : (b.length : Int) - 8 < num 4 b
  · rw [if_pos q2] at h; simp at h
  rw [if_neg q2] at h
  by_cases q3 : fnv (b.take (4 + (num 4 b).toNat)) ≠ num 4 (b.drop (4 + (num 4 b).toNat))
  · rw [if_pos q3] at h; simp at h
  rw [if_neg q3] at h
  simp only [Prod.mk.injEq, and_true] at h
  obtain ⟨rfl, rfl⟩ := h
  refine ⟨by omega, by omega, ?_, ?_⟩
  · rw [List.length_take, List.length_drop]; omega
  · intro x hx
    exact hb x (List.mem_of_mem_drop (List.mem_of_mem_take hx))
theorem unf_e (b : List Int) : (unfB b).2.2 = 0 ∨ (unfB b).2.2 = 3 ∨ (unfB b).2.2 = 24 := by
  unfold unfB
  split
  · simp
  split
  · simp
  split
  · simp
  · simp
end Go.Av
