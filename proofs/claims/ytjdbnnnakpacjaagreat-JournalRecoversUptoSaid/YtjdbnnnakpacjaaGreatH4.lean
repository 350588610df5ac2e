/-
  Facts about heaps after one change; slices.Clone of numbers.
-/
import Derived.Test.YtjdbnnnakpacjaaGreatH3
set_option linter.unusedVariables false
set_option linter.unusedSimpArgs false
set_option linter.constructorNameAsVariable false
namespace Go.Av
set_option maxRecDepth 4000
section
variable {O O' : List (Nat × AO)} {N N' n id : Nat} {X : Nat → Prop} {o y : AO}
theorem Kp.app (h : Kp X N O O') (hn : N ≤ n) : Kp X N O (O' ++ [(n, o)]) := by
  intro j hj hx
  have : ¬ n = j := by omega
  rw [lk_app, h j hj hx]
  simp [this]
theorem Kp.drop (h : Kp X N O O') (hn : N ≤ id ∨ X id) : Kp X N O (dropl id O') := by
  intro j hj hx
  rw [lk_dropl (by rintro rfl; rcases hn with hn | hn; omega; exact hx hn), h j hj hx]
theorem Kp.setl (h : Kp X N O O') (hn : N ≤ id ∨ X id) : Kp X N O (setl id y O') := by
  intro j hj hx
  rw [lk_setl, if_neg (by rintro rfl; rcases hn with hn | hn; omega; exact hx hn), h j hj hx]
theorem Tail.app1 (h : Tail O' N') (hn : N' ≤ n) : Tail (O' ++ [(n, o)]) (n + 1) := by
  rw [Tail_append_iff, Tail_cons_iff]
  exact ⟨h.mono (by omega), by omega, Tail.nil _⟩
theorem Kp.lk (h : Kp X N O O') (hT : Tail O N) {j : Nat} {x : AO} (hl : look j O = some x) (hx : ¬ X j) : look j O' = some x := by
  rw [h j (hT.lt hl) hx, hl]
theorem lk_ne {j : Nat} {x y : AO} (h1 : look id O = some x) (h2 : look j O = some y) (h : x ≠ y) : id ≠ j := by
  rintro rfl
  rw [h1] at h2
  cases h2
  exact h rfl
theorem lk_fresh {j : Nat} {x : AO} (hT : Tail O N) (h1 : look j O = some x) (hn : N ≤ n) : ¬ j = n ∧ ¬ n = j := by
  have := hT.lt h1
  omega
end
theorem Re.src {O : List (Nat × AO)} {z N : Nat} {v : AV} {es : List (List AV)} (h : Re O z v es) : srcOf ⟨O, N⟩ v = some es := by
  cases h with
  | sl => rfl
  | fs => rfl
  | ap => rfl
  | row id _ es0 n hn hl hle ht =>
    subst hn
    simp [hl, hle, ht]
theorem cl_ints {O : List (Nat × AO)} {N : Nat} (hT : Tail O N) {v : AV} {l : List Int} (h : Re O 1 v (l.map cI)) (hl : l.length < 2 ^ 40) :
    ∃ w o, callI Φ f_slices_Clone_int_int [v] ⟨O, N⟩ = some (.val w, ⟨O ++ [(N, o)], N + 1⟩) ∧ Mu (O ++ [(N, o)]) 1 w (l.map cI) ∧ ∀ j, vid w = some j → N ≤ j := by
  have hr : Φ f_slices_Clone_int_int = some (.rule (cloneG 1 8 .row)) := rfl
  rw [callI_rule Φ hr]
  have hN := hT N (Nat.le_refl _)
  have hs := h.src (N := N)
  have hlen := h.len
  cases l with
  | nil =>
    refine ⟨.app 1 [] N, .tok 1 0, ?_, .nilA _, fun j hj => by cases hj⟩
    simp only [cloneG, hlen, List.map_nil, List.length_nil]
    simp only [List.map_nil] at hs
    simp only [hs, evR]
    simp [hN]
  | cons x l =>
    have ha : allLen 1 ((x :: l).map cI) = true := allLen_map 1 cI (x :: l) fun x => by simp
    refine ⟨.row N 1 0 ((x :: l).map cI).length, .row 1 ((x :: l).map cI), ?_, ?_, fun j hj => by cases hj; omega⟩
    · have hb : ((x :: l).map cI).length * 8 ≤ 2 ^ 46 := by rw [List.length_map]; omega
      have hne : (x :: l).map cI ≠ [] := by simp
      simp only [cloneG, hlen, List.length_map, List.length_cons, evR]
      have e0 : evOp [(5, .fslice 1 []), (6, v)] N ⟨O, N⟩ (.append .row 1 8 (.t 5) (.t 6)) = some (.row N 1 0 ((x :: l).map cI).length, (AH.mk O N).put N (.row 1 ((x :: l).map cI))) := by
        simp only [evOp, evX, look]
        simp only [show ¬ (5 : Nat) = 6 by decide, if_true, if_false, hs, ha]
        simp only [List.length_nil, Nat.zero_add, List.nil_append, true_or, true_and]
        rw [if_pos ⟨hne, hb⟩]
      rw [e0]
      simp [hN]
    · exact .row N _ _ _ rfl (by rw [lk_app, hN]; simp) (Nat.le_refl _) (by rw [List.take_length])
end Go.Av
