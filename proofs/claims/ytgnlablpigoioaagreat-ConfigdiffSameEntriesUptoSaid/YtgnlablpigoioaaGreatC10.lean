/-
  Lemmas for the law.
-/
import Derived.Test.YtgnlablpigoioaaGreatC9
import Derived.Test.YtgnlablpigoioaaGreatC3
set_option linter.unusedVariables false
set_option linter.unusedSimpArgs false
set_option linter.constructorNameAsVariable false
namespace Go.Av
set_option maxRecDepth 4000
def rotF (l : List Rw) (t k : Nat) : Rw := ⟨k, (l[(k + t) % l.length]!).entry⟩
def rot (l : List Rw) (t : Nat) : List Rw := (List.range l.length).map (rotF l t)
theorem rot_perm (l : List Rw) (t : Nat) : ((rot l t).map Rw.entry).Perm (l.map Rw.entry) := by
  by_cases h0 : l.length = 0
  · rw [List.length_eq_zero_iff.1 h0]; simp [rot]
  have : (rot l t).map Rw.entry = (l.drop (t % l.length) ++ l.take (t % l.length)).map Rw.entry := by
    have hm := Nat.mod_lt t (Nat.pos_of_ne_zero h0)
    refine List.ext_getElem (by simp [rot]; omega) ?_
    intro k h1 h2
    simp only [rot, List.length_map, List.length_range] at h1
    simp only [rot, List.getElem_map, List.getElem_range, rotF]
    have hk : (k + t) % l.length < l.length := Nat.mod_lt _ (Nat.pos_of_ne_zero h0)
    rw [getElem!_pos l _ hk]
    congr 1
    rw [List.getElem_append]
    have hmod : (k + t) % l.length = (k + t % l.length) % l.length := by rw [Nat.add_mod_mod]
    split
    · rename_i h3
      simp only [List.length_drop] at h3
      rw [List.getElem_drop]
      congr 1
      rw [hmod, Nat.mod_eq_of_lt (by omega)]
      omega
    · rename_i h3
      simp only [List.length_drop] at h3
      rw [List.getElem_take]
      congr 1
      rw [hmod, List.length_drop, Nat.mod_eq_sub_mod (by omega), Nat.mod_eq_of_lt (by omega)]
      omega
  rw [this]
  refine List.Perm.map _ ?_
  refine List.perm_append_comm.trans ?_
  rw [List.take_append_drop]
theorem same_rot (a : List (List Rw)) (t : Nat) : same a (a.map fun l => rot l t) = true := by
  unfold same
  simp only [List.length_map, decide_true, Bool.true_and, Bool.not_eq_true', anyFrom, List.drop_zero]
  refine List.any_eq_false.2 ?_
  intro p hp
  obtain ⟨i, hi, rfl⟩ := List.mem_iff_getElem.1 hp
  simp only [List.getElem_zip, List.getElem_map, badPair, perm]
  rw [decide_eq_true (rot_perm _ t).symm]
  simp
theorem perm_symm (a b : List Rw) : perm a b = perm b a := decide_eq_decide.2 ⟨fun h => h.symm, fun h => h.symm⟩
theorem same_symm (a b : List (List Rw)) : same a b = same b a := by
  unfold same
  by_cases q : a.length = b.length
  · simp only [q, decide_true, Bool.true_and, anyFrom, List.drop_zero]
    congr 1
    rw [Bool.eq_iff_iff, List.any_eq_true, List.any_eq_true]
    constructor
    · rintro ⟨p, hp, hb⟩
      obtain ⟨i, hi, rfl⟩ := List.mem_iff_getElem.1 hp
      simp at hi
      refine ⟨(b[i], a[i]), List.mem_iff_getElem.2 ⟨i, by simp; omega, by simp⟩, ?_⟩
      simp only [List.getElem_zip, badPair] at hb ⊢
      rw [perm_symm]; exact hb
    · rintro ⟨p, hp, hb⟩
      obtain ⟨i, hi, rfl⟩ := List.mem_iff_getElem.1 hp
      simp at hi
      refine ⟨(a[i], b[i]), List.mem_iff_getElem.2 ⟨i, by simp; omega, by simp⟩, ?_⟩
      simp only [List.getElem_zip, badPair] at hb ⊢
      rw [perm_symm]; exact hb
  · have q' : ¬ b.length = a.length := fun h => q h.symm
    simp [q, q']
theorem fine_of {c : Config} (h : smallC c = true) : fine c.rows := by
  unfold smallC at h
  simp only [Bool.and_eq_true, decide_eq_true_eq, Bool.not_eq_true'] at h
  obtain ⟨⟨⟨⟨⟨⟨h1, _⟩, _⟩, _⟩, h2⟩, _⟩, _⟩ := h
  refine ⟨h1, fun l hl => ?_⟩
  simp only [anyFrom, List.drop_zero] at h2
  have h3 := List.any_eq_false.1 h2 l hl
  simp only [badRows, Bool.or_eq_true, not_or, decide_eq_true_eq, Bool.not_eq_true] at h3
  refine ⟨by omega, fun r hr => ?_⟩
  have h4 := h3.2
  simp only [anyFrom, List.drop_zero] at h4
  have h5 := List.any_eq_false.1 h4 r hr
  simp [badRow, smallE] at h5
  exact ⟨by omega, by omega⟩
theorem fine_rot {a : List (List Rw)} (t : Nat) (h : fine a) : fine (a.map fun l => rot l t) := by
  obtain ⟨h1, h2⟩ := h
  refine ⟨by simpa using h1, ?_⟩
  intro l hl
  obtain ⟨l', hl', rfl⟩ := List.mem_map.1 hl
  obtain ⟨h3, h4⟩ := h2 _ hl'
  refine ⟨by simpa [rot] using h3, ?_⟩
  intro r hr
  obtain ⟨e, he, he'⟩ := List.mem_map.1 ((rot_perm l' t).subset (List.mem_map_of_mem (f := Rw.entry) hr))
  rw [← he']
  exact h4 e he
end Go.Av
