/-
  Arrays of two elements among a law's arguments.
-/
import Derived.Test.YtjdbnnnakpacjaaGreatAvD
set_option linter.unusedVariables false
set_option linter.unusedSimpArgs false
set_option linter.constructorNameAsVariable false
namespace Go.Av
def cA2 {α : Type} (c : α → List AV) (q : α × α) : List AV := c q.1 ++ c q.2
def okA2 {α : Type} (ok : α → Prop) (q : α × α) : Prop := ok q.1 ∧ ok q.2
theorem wt_array {P : Program} {B : Nat} {t e : TypeId} {k : Nat} {xs : List AV} (hu : P.underlying t = some (.array k e)) (h : WT P B t xs) : ∃ xss : List (List AV), xs = xss.flatten ∧ xss.length = k ∧ ∀ x ∈ xss, WT P B e x := by
  cases h with
  | bool b h => rw [hu] at h; cases h
  | int k v h => rw [hu] at h; cases h
  | str s h => rw [hu] at h; cases h
  | slice es h => rw [hu] at h; cases h
  | struct fs xss h => rw [hu] at h; cases h
  | array k' xss h h1 h2 => rw [hu] at h; cases h; exact ⟨xss, rfl, h1, h2⟩
theorem rd_arr2 {α : Type} {P : Program} {B : Nat} {t e : TypeId} {c : α → List AV} {ok : α → Prop} (hu : P.underlying t = some (.array 2 e)) (he : Rd P B e c ok) : Rd P B t (cA2 c) (okA2 ok) := by
  intro xs h
  obtain ⟨xss, rfl, hl, hx⟩ := wt_array hu h
  match xss, hl with
  | [a, b], _ =>
    obtain ⟨x, rfl, hx1⟩ := he a (hx a (by simp))
    obtain ⟨y, rfl, hy1⟩ := he b (hx b (by simp))
    exact ⟨(x, y), by simp [cA2], hx1, hy1⟩
end Go.Av
