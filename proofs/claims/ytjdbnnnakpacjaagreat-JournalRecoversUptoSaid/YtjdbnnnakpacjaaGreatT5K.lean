/-
  Lemmas for the law.
-/
import Derived.Test.YtjdbnnnakpacjaaGreatE1K
set_option linter.unusedVariables false
set_option linter.unusedSimpArgs false
set_option linter.constructorNameAsVariable false
namespace Go.Av
set_option maxRecDepth 4000
theorem eqU32_ok (l m : List Int) (hb : l.length < 2 ^ 40) : pureI Φ f_entry_equal_uint32 [.slice 1 (l.map c32), .slice 1 (m.map c32)] = some (.val (.bool (decide (l = m)))) := by
  rw [pureI_go (fn := c_entry_equal_uint32) rfl rfl]
  by_cases q1 : l.length = m.length
  rotate_left
  · have : l ≠ m := fun h => q1 (by rw [h])
    simp [c_entry_equal_uint32, q1, this]
  simp [c_entry_equal_uint32, q1]
  refine (loop_nat0 l.length (fun i e => look 1 e = some (.slice 1 (m.map c32)) ∧ look 12 e = some (.slice 1 (l.map c32)) ∧ look 13 e = some (.int .i64 m.length) ∧ look 14 e = some (.int .i64 i))
    (fun i => some (Rt.val (AV.bool (eqFrom l m i)))) ?_ ?_ 0 _ (Nat.zero_le _) ?_).trans (by simp [eqFrom])
  · rintro i e L hi hL ⟨h1, h12, h13, h14⟩ ih
    have hi2 : i < m.length := by omega
    have hw : IntKind.wrap .i64 ((i : Int) + 1) = ((i + 1 : Nat) : Int) := wrap64 (by omega) (by omega)
    by_cases c : l[i] = m[i]
    · rw [eqFrom_hit hi hi2 c]
      simp [c_entry_equal_uint32_l0, c32, hi, hi2, h1, h12, h13, h14, hw, c]
      exact ih _ ⟨by simp [h1], by simp [h12], by simp [h13], by simp⟩
    · rw [eqFrom_miss hi hi2 c]
      simp [c_entry_equal_uint32_l0, c32, hi, hi2, h1, h12, h13, h14, c]
  · rintro e L hL ⟨h1, h12, h13, h14⟩
    rw [eqFrom_end q1]
    simp [c_entry_equal_uint32_l0, c_entry_equal_uint32_k1, *]
  · simp
theorem eSameKey_ok (k1 k2 : List KeyMatch) (p1 p2 : Int) (r1 r2 : List AV) (hb : k1.length < 2 ^ 40) :
   pureI Φ f_entry_SameKey [.agg (.slice 2 (k1.map KeyMatch.c) :: .int .i64 p1 :: r1), .agg (.slice 2 (k2.map KeyMatch.c) :: .int .i64 p2 :: r2)] = some (.val (.bool (decide (k1 = k2 ∧ p1 = p2)))) := by
  rw [pureI_go (fn := c_entry_SameKey) rfl rfl]
  by_cases q2 : p1 = p2
  rotate_left
  · simp [c_entry_SameKey, q2]
  by_cases q1 : k1.length = k2.length
  rotate_left
  · have : k1 ≠ k2 := fun h => q1 (by rw [h])
    simp [c_entry_SameKey, q1, this, q2]
  subst q2
  simp [c_entry_SameKey, q1]
  refine (loop_nat k1.length (fun i e h => look 2 e = some (AV.ptr 0 (r1.length + 1 + 1) 0 0) ∧ look 3 e = some (AV.ptr 1 (r2.length + 1 + 1) 0 0) ∧ look 22 e = some (.slice 2 (k1.map KeyMatch.c)) ∧ look 23 e = some (.int .i64 k2.length) ∧ look 24 e = some (.int .i64 i) ∧
      HP [(0, AO.row (r1.length + 1 + 1) [.slice 2 (k1.map KeyMatch.c) :: .int .i64 p1 :: r1]), (1, AO.row (r2.length + 1 + 1) [.slice 2 (k2.map KeyMatch.c) :: .int .i64 p1 :: r2])] 2 h)
    (fun i => some (Rt.val (AV.bool (eqFrom k1 k2 i)))) ?_ ?_ 0 _ _ (Nat.zero_le _) ?_).trans (by simp [eqFrom])
  · rintro i e _ L hi hL ⟨h2, h3, h22, h23, h24, T, n, hT, rfl⟩ ih
    have hi2 : i < k2.length := by omega
    have hw : IntKind.wrap .i64 ((i : Int) + 1) = ((i + 1 : Nat) : Int) := wrap64 (by omega) (by omega)
    have hT' := hT (n + 2) (Nat.le_refl _)
    by_cases c : k1[i] = k2[i]
    · rw [eqFrom_hit hi hi2 c]
      simp [c_entry_SameKey_l0, KeyMatch.c, hi, hi2, h3, h22, h23, h24, hw, c, hT']
      exact ih _ _ ⟨by simp [h2], by simp [h3], by simp [h22], by simp [h23], by simp, HP.next hT⟩
    · rw [eqFrom_miss hi hi2 c]
      have c' : (decide (k1[i].value = k2[i].value) && decide (k1[i].mask = k2[i].mask)) = false := by
        simp [KeyMatch.ext_iff] at c ⊢; exact c
      simp [c_entry_SameKey_l0, KeyMatch.c, hi, hi2, h3, h22, h23, h24, c', hT']
  · rintro e _ L hL ⟨h2, h3, h22, h23, h24, T, n, hT, rfl⟩
    rw [eqFrom_end q1]
    simp [c_entry_SameKey_l0, c_entry_SameKey_k1, *]
  · simp
    exact HP.mk
theorem Entry.eq_iff (x y : Entry) : x = y ↔ x.keys = y.keys ∧ x.priority = y.priority ∧ x.call.action = y.call.action ∧ x.call.args = y.call.args := by
  constructor
  · rintro rfl; simp
  · rintro ⟨a, b, c, d⟩
    obtain ⟨k, p, u, v⟩ := x
    obtain ⟨k', p', u', v'⟩ := y
    simp only at a b c d
    subst a b c d; rfl
def Entry.sm (x : Entry) : Prop := x.keys.length < 2 ^ 40 ∧ x.call.args.length < 2 ^ 40
theorem eEqual_ok (x y : Entry) (hb : x.sm) : pureI Φ f_entry_Equal [.agg (Entry.c x), .agg (Entry.c y)] = some (.val (.bool (decide (x = y)))) := by
  rw [pureI_go (fn := c_entry_Equal) rfl rfl]
  have hk := eSameKey_ok x.keys y.keys x.priority y.priority [.int .i64 x.call.action, .slice 1 (x.call.args.map c32)] [.int .i64 y.call.action, .slice 1 (y.call.args.map c32)] hb.1
  have ha := eqU32_ok x.call.args y.call.args hb.2
  rw [decide_eq_decide.2 (Entry.eq_iff x y)]
  by_cases q1 : x.keys = y.keys ∧ x.priority = y.priority
  · rw [decide_eq_true q1] at hk
    by_cases q3 : x.call.action = y.call.action
    · have e : decide (x.keys = y.keys ∧ x.priority = y.priority ∧ x.call.action = y.call.action ∧ x.call.args = y.call.args) = decide (x.call.args = y.call.args) := by simp [q1, q3]
      simp only [e]
      rw [q3] at hk
      simp [c_entry_Equal, Entry.c, hk, ha, q3]
    · have e : decide (x.keys = y.keys ∧ x.priority = y.priority ∧ x.call.action = y.call.action ∧ x.call.args = y.call.args) = false := by simp [q1, q3]
      simp only [e]
      simp [c_entry_Equal, Entry.c, hk, q3]
  · have q2 : ¬ (x.keys = y.keys ∧ x.priority = y.priority ∧ x.call.action = y.call.action ∧ x.call.args = y.call.args) := fun h => q1 ⟨h.1, h.2.1⟩
    have q1' : decide (x.keys = y.keys ∧ x.priority = y.priority) = false := decide_eq_false q1
    rw [q1'] at hk
    have e : decide (x.keys = y.keys ∧ x.priority = y.priority ∧ x.call.action = y.call.action ∧ x.call.args = y.call.args) = false := decide_eq_false q2
    rw [e]
    simp [c_entry_Equal, Entry.c, hk]
theorem rEqual_ok (x y : Entry) (hb : x.sm) : pureI Φ f_ref23_Equal [.agg (Entry.c x), .agg (Entry.c y)] = some (.val (.bool (decide (x = y)))) := by
  rw [decide_eq_decide.2 (Entry.eq_iff x y)]
  exact Equal_ok x.keys y.keys x.priority y.priority x.call.action y.call.action x.call.args y.call.args hb.1 hb.2
end Go.Av
