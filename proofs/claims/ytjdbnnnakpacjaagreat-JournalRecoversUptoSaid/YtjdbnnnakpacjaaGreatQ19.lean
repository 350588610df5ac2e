/-
  Initial contents of registers: the program's.
-/
import Derived.Test.YtjdbnnnakpacjaaGreatQ18
set_option linter.unusedVariables false
set_option linter.unusedSimpArgs false
set_option linter.constructorNameAsVariable false
namespace Go.Av
set_option maxRecDepth 4000
def RegV (T : List (Nat × AO)) (x : AV) (r : Register) : Prop := (x = .fslice 1 [] ∧ regN r = 0) ∨ ∃ id, 1 ≤ id ∧ x = .row id 1 0 (regN r) ∧ look id T = some (.row 1 (List.replicate (regN r) [.int .u32 0]))
inductive RegL (T : List (Nat × AO)) : List AV → List Register → Prop
  | nil : RegL T [] []
  | snoc {A rs x r} (h : RegL T A rs) (hx : RegV T x r) : RegL T (A ++ [x]) (rs ++ [r])
theorem RegV.app {T : List (Nat × AO)} {x : AV} {r : Register} (h : RegV T x r) (U : List (Nat × AO)) : RegV (T ++ U) x r := by
  rcases h with h | ⟨id, h1, h2, h3⟩
  · exact .inl h
  · exact .inr ⟨id, h1, h2, by rw [look_append2, h3]; simp⟩
theorem RegL.app {T : List (Nat × AO)} {A : List AV} {rs : List Register} (h : RegL T A rs) (U : List (Nat × AO)) : RegL (T ++ U) A rs := by
  induction h with
  | nil => exact .nil
  | snoc h hx ih => exact .snoc ih (hx.app U)
theorem RegL.len {T : List (Nat × AO)} {A : List AV} {rs : List Register} (h : RegL T A rs) : A.length = rs.length := by
  induction h with
  | nil => rfl
  | snoc h hx ih => simp [ih]
theorem mapO_rep (H : AH) (k : Nat) : ∀ m, mapO (mapO (snap 38 H)) (List.replicate m [AV.int .u32 k]) = some (List.replicate m [AV.int .u32 k])
  | 0 => by simp [mapO]
  | m + 1 => by
    have ih := mapO_rep H k m
    simp only [List.replicate_succ, mapO, ih]
    simp
theorem mapO_snoc {α β : Type} (f : α → Option β) : ∀ (l : List α) (x : α) (l' : List β) (y : β), mapO f l = some l' → f x = some y → mapO f (l ++ [x]) = some (l' ++ [y])
  | [], x, l', y, h, hy => by
    simp [mapO] at h
    subst h
    simp [mapO, hy]
  | a :: l, x, l', y, h, hy => by
    simp only [mapO] at h
    cases hb : f a with
    | none => rw [hb] at h; cases h
    | some b =>
      rw [hb] at h
      cases hm : mapO f l with
      | none => rw [hm] at h; cases h
      | some m =>
        rw [hm] at h
        cases h
        have ih := mapO_snoc f l x m y hm hy
        simp only [List.cons_append, mapO, hb, ih]
theorem RegL.snp {T : List (Nat × AO)} {A : List AV} {rs : List Register} (h : RegL T A rs) (o : AO) (n : Nat) :
    mapO (mapO (snap 39 ⟨(0, o) :: T, n⟩)) (A.map fun x => [x]) = some (rs.map fun r => [AV.slice 1 (List.replicate (regN r) [.int .u32 0])]) := by
  induction h with
  | nil => simp [mapO]
  | snoc h hx ih =>
    rw [List.map_append, List.map_append]
    refine mapO_snoc _ _ _ _ _ ih ?_
    rcases hx with ⟨rfl, h0⟩ | ⟨id, h1, rfl, h3⟩
    · simp [mapO, h0]
    · have hi : ¬ (0 = id) := by omega
      have hr := mapO_rep ⟨(0, o) :: T, n⟩ 0
      simp at hr
      simp [mapO, look, hi, h3, hr]
end Go.Av
