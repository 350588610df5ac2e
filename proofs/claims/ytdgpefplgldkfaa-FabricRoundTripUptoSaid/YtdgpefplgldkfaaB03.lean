/-
  Lemmas for the law.
-/
import Derived.Test.YtdgpefplgldkfaaB02
set_option linter.unusedVariables false
set_option linter.unusedSimpArgs false
set_option linter.constructorNameAsVariable false
namespace Go.Av
set_option maxRecDepth 8000
theorem look_head {t : Nat} {x : AO} {a b : List (Nat × AO)} (h : look t a = some x) : look t (a ++ b) = some x := by rw [look_append2, h]; rfl
theorem setl_head {t : Nat} {x y : AO} : ∀ {a b : List (Nat × AO)}, look t a = some x → setl t y (a ++ b) = setl t y a ++ b
  | [], b, h => by cases h
  | (u, z) :: a, b, h => by
    by_cases hu : u = t
    · subst hu; simp
    · simp [hu] at h ⊢; exact setl_head h
theorem Tail_setl {t n : Nat} {y : AO} {a : List (Nat × AO)} (h : Tail a n) : Tail (setl t y a) n := by
  intro j hj
  rw [look_setl]
  split <;> simp [h j hj]
theorem Rest_ok (objs : List (Nat × AO)) (n id t pos q : Nat) (data : List Int) (hT : Tail objs n) (hn : look id objs = some (rdr data t q)) (hq : q = 8 * pos) (hp : pos ≤ data.length) (hd : data.length < 1099511627776) :
    callI Φ f_bitio_Reader_Rest [.ptr id 3 0 0] ⟨objs, n⟩ = some (.val (.tup [.app 1 ((data.map c8).drop pos) n, .int .i64 0]), ⟨objs ++ [(n, .tok 1 (data.length - pos))], n + 1⟩) := by
  rw [callI_go (fn := c_bitio_Reader_Rest) rfl rfl]
  have hn' := hn
  unfold rdr at hn'
  have hT' := hT n (Nat.le_refl _)
  have d1 : IntKind.wrap .i64 ((q : Int) / 8) = (pos : Int) := by
    have : (q : Int) / 8 = ((q / 8 : Nat) : Int) := rfl
    rw [this, show q / 8 = pos by omega, wrap64 (by omega) (by omega)]
  have d2 : (q : Int).tmod 8 = 0 := by
    have : (q : Int).tmod 8 = ((q % 8 : Nat) : Int) := rfl
    rw [this, show q % 8 = 0 by omega]; rfl
  have hb : data.length - pos ≤ 70368744177664 := by omega
  have tk : ((data.drop pos).map c8).take (data.length - pos) = (data.drop pos).map c8 := List.take_of_length_le (by simp)
  simp [c_bitio_Reader_Rest, hn', Reader_valid_ok, d1, d2, hp, hT', hb, ← List.map_drop, tk]
end Go.Av
