/-
  Keys of entries: checks, on both sides.
-/
import Derived.Test.YtjdbnnnakpacjaaGreatQ3
set_option linter.unusedVariables false
set_option linter.unusedSimpArgs false
set_option linter.constructorNameAsVariable false
namespace Go.Av
set_option maxRecDepth 4000
theorem KeyMatch.ce (m : KeyMatch) : KeyMatch.c m = [.int .u32 m.value, .int .u32 m.mask] := by simp [KeyMatch.c]
def keyK (m : KeyMatch) (kind w : Int) : Int :=
  if fits m.value w = false ∨ fits m.mask w = false then 9
  else if m.value.toNat &&& m.mask.toNat ≠ m.value.toNat then 5
  else if kind = 1 ∧ m.mask ≠ maskI w then 11
  else if kind = 2 ∧ (plE m.mask w).isSome = false then 11 else 0
theorem ekey_ok (m : KeyMatch) (kind w : Int) (h1 : ok32 0 m.value) (h2 : ok32 0 m.mask) : pureI Φ f_entry_checkKey [.agg (KeyMatch.c m), .int .i64 kind, .int .i64 w] = some (.val (.int .i64 (keyK m kind w))) := by
  rw [pureI_go (fn := c_entry_checkKey) rfl rfl]
  have f1 := fits_ok m.value w
  have f2 := fits_ok m.mask w
  have hm := mask_ok w
  have hp := plen_ok m.mask w
  have ha := iandNot_zero h1 h2
  unfold keyK
  cases q1 : fits m.value w with
  | false => rw [q1] at f1; simp [c_entry_checkKey, KeyMatch.ce, f1]
  | true =>
  rw [q1] at f1
  cases q2 : fits m.mask w with
  | false => rw [q2] at f2; simp [c_entry_checkKey, KeyMatch.ce, f1, f2]
  | true =>
  rw [q2] at f2
  by_cases z : iandNot .u32 m.value m.mask = 0
  rotate_left
  · have z' : ¬ (m.value.toNat &&& m.mask.toNat = m.value.toNat) := fun h => z (ha.2 h)
    simp [c_entry_checkKey, KeyMatch.ce, f1, f2, z, z']
  have z' := ha.1 z
  by_cases k1 : kind = 1
  · subst k1
    by_cases y : m.mask = maskI w
    · rw [y] at f2 z z'
      simp [c_entry_checkKey, KeyMatch.ce, f1, f2, z, z', hm, y]
    · simp [c_entry_checkKey, KeyMatch.ce, f1, f2, z, z', hm, y]
  by_cases k2 : kind = 2
  · subst k2
    cases y : plE m.mask w with
    | none => rw [y] at hp; simp [plV] at hp; simp [c_entry_checkKey, KeyMatch.ce, f1, f2, z, z', hp]
    | some x => rw [y] at hp; simp [plV] at hp; simp [c_entry_checkKey, KeyMatch.ce, f1, f2, z, z', hp]
  simp [c_entry_checkKey, KeyMatch.ce, f1, f2, z, z', k1, k2]
theorem rkey_ok (m : KeyMatch) (kind w : Int) (h1 : ok32 0 m.value) (h2 : ok32 0 m.mask) : pureI Φ f_ref23_checkKey [.agg (KeyMatch.c m), .int .i64 w, .int .i64 kind] = some (.val (.int .i64 (keyK m kind w))) := by
  rw [pureI_go (fn := c_ref23_checkKey) rfl rfl]
  have f1 := rFits_ok m.value w h1
  have f2 := rFits_ok m.mask w h2
  have hm := rmask_ok w
  have hp := rplen_ok m.mask w
  have ha := iand_self h1 h2
  simp [plV] at hp
  unfold keyK
  cases q1 : fits m.value w with
  | false => rw [q1] at f1; simp [c_ref23_checkKey, KeyMatch.ce, hp, f1]
  | true =>
  rw [q1] at f1
  cases q2 : fits m.mask w with
  | false => rw [q2] at f2; simp [c_ref23_checkKey, KeyMatch.ce, hp, f1, f2]
  | true =>
  rw [q2] at f2
  by_cases z : iand .u32 m.value m.mask = m.value
  rotate_left
  · have z' : ¬ (m.value.toNat &&& m.mask.toNat = m.value.toNat) := fun h => z (ha.2 h)
    simp [c_ref23_checkKey, KeyMatch.ce, hp, f1, f2, z, z']
  have z' := ha.1 z
  by_cases k1 : kind = 1
  · subst k1
    by_cases y : m.mask = maskI w
    · rw [y] at hp f2 z z'
      simp [c_ref23_checkKey, KeyMatch.ce, hp, f1, f2, z, z', hm, y]
    · simp [c_ref23_checkKey, KeyMatch.ce, hp, f1, f2, z, z', hm, y]
  by_cases k2 : kind = 2
  · subst k2
    cases y : plE m.mask w with
    | none => rw [y] at hp; simp [c_ref23_checkKey, KeyMatch.ce, f1, f2, z, z', hp]
    | some x => rw [y] at hp; simp [c_ref23_checkKey, KeyMatch.ce, f1, f2, z, z', hp]
  simp [c_ref23_checkKey, KeyMatch.ce, hp, f1, f2, z, z', k1, k2]
end Go.Av
