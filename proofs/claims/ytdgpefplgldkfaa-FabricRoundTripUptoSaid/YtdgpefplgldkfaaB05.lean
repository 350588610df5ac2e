/-
  Lemmas for the law.
-/
import Derived.Test.YtdgpefplgldkfaaB04
set_option linter.unusedVariables false
set_option linter.unusedSimpArgs false
set_option linter.constructorNameAsVariable false
namespace Go.Av
set_option maxRecDepth 8000
-- the heap of header.Read after k fields
def hH (data : List Int) (t q id n : Nat) (fs : Nat → List AV) (O : List (Nat × AO)) : Nat → List (Nat × AO)
  | 0 => O
  | k + 1 => setl (n + 1) (.tok 1 (k + 1)) (setl id (rdr data t (q + 8 * (k + 1))) (hH data t q id n fs O k ++ [(n + 2 + k, .row 2 [fs k])]))
theorem hH_facts {data : List Int} {t q id n : Nat} {fs : Nat → List AV} {O : List (Nat × AO)} (h1 : look id O = some (rdr data t q)) (h2 : look (n + 1) O = some (.tok 1 0)) (h3 : Tail O (n + 2)) (hid : id < n) :
    ∀ k, look id (hH data t q id n fs O k) = some (rdr data t (q + 8 * k)) ∧ look (n + 1) (hH data t q id n fs O k) = some (.tok 1 k) ∧ Tail (hH data t q id n fs O k) (n + 2 + k) ∧ ∀ j, j < n → j ≠ id → look j (hH data t q id n fs O k) = look j O
  | 0 => ⟨h1, h2, h3, fun _ _ _ => rfl⟩
  | k + 1 => by
    obtain ⟨a, b, c, d⟩ := hH_facts (fs := fs) h1 h2 h3 hid k
    have x1 : ¬ (n + 1 = id) := by omega
    have x2 : ¬ (id = n + 1) := by omega
    refine ⟨?_, ?_, ?_, ?_⟩
    · rw [hH, look_setl, if_neg x1, look_setl_same (look_head a)]
    · rw [hH]; apply look_setl_same (x := .tok 1 k); rw [look_setl, if_neg x2]; exact look_head b
    · rw [hH]
      apply Tail_setl; apply Tail_setl
      intro j hj
      have := c j (by omega)
      have hne : ¬ (n + 2 + k = j) := by omega
      simp [look_append2, this, hne]
    · intro j hj hji
      have y1 : ¬ (n + 1 = j) := by omega
      have y2 : ¬ (id = j) := fun h => hji h.symm
      have y3 : ¬ (n + 2 + k = j) := by omega
      rw [hH, look_setl, if_neg y1, look_setl, if_neg y2, look_append2, d j hj hji]
      cases look j O <;> simp [y3]
end Go.Av
