/-
  Lemmas for the law.
-/
import Derived.Test.YtjdbnnnakpacjaaGreatM1
import Derived.Test.YtjdbnnnakpacjaaGreatAvD
set_option linter.unusedVariables false
set_option linter.unusedSimpArgs false
set_option linter.constructorNameAsVariable false
namespace Go.Av
set_option maxRecDepth 4000
def eqFrom {α : Type} [DecidableEq α] (l m : List α) (i : Nat) : Bool := decide (l.drop i = m.drop i)
theorem eqFrom_hit {α : Type} [DecidableEq α] {l m : List α} {i : Nat} (h1 : i < l.length) (h2 : i < m.length) (h : l[i] = m[i]) : eqFrom l m i = eqFrom l m (i + 1) := by
  unfold eqFrom
  rw [decide_eq_decide, drop_eq_iff h1 h2]
  simp [h]
theorem eqFrom_miss {α : Type} [DecidableEq α] {l m : List α} {i : Nat} (h1 : i < l.length) (h2 : i < m.length) (h : l[i] ≠ m[i]) : eqFrom l m i = false := by
  unfold eqFrom
  rw [decide_eq_false_iff_not, drop_eq_iff h1 h2]
  simp [h]
theorem eqFrom_end {α : Type} [DecidableEq α] {l m : List α} (h : l.length = m.length) : eqFrom l m l.length = true := by
  simp [eqFrom, h]
theorem eqFrom_zero {α : Type} [DecidableEq α] {l m : List α} : eqFrom l m 0 = decide (l = m) := by simp [eqFrom]

theorem SameKey_ok (k1 k2 : List KeyMatch) (p1 p2 : Int) (r1 r2 : List AV) (hb : k1.length < 2 ^ 40) :
   pureI Φ f_ref23_SameKey [.agg (.slice 2 (k1.map KeyMatch.c) :: .int .i64 p1 :: r1), .agg (.slice 2 (k2.map KeyMatch.c) :: .int .i64 p2 :: r2)] = some (.val (.bool (decide (k1 = k2 ∧ p1 = p2)))) := by
  rw [pureI_go (fn := c_ref23_SameKey) rfl rfl]
  by_cases q1 : k1.length = k2.length
  rotate_left
  · have : k1 ≠ k2 := fun h => q1 (by rw [h])
    simp [c_ref23_SameKey, q1, this]
  by_cases q2 : p1 = p2
  rotate_left
  · simp [c_ref23_SameKey, q1, q2]
  subst q2
  simp [c_ref23_SameKey, q1]
  refine (loop_nat0 k1.length (fun i e => look 2 e = some (AV.ptr 0 (r1.length + 1 + 1) 0 0) ∧ look 3 e = some (AV.ptr 1 (r2.length + 1 + 1) 0 0) ∧ look 5 e = some (.int .i64 i))
    (fun i => some (Rt.val (AV.bool (eqFrom k1 k2 i)))) ?_ ?_ 0 _ (Nat.zero_le _) ?_).trans (by simp [eqFrom])
  · rintro i e L hi hL ⟨h2, h3, h5⟩ ih
    have hi2 : i < k2.length := by omega
    have hw : IntKind.wrap .i64 ((i : Int) + 1) = ((i + 1 : Nat) : Int) := wrap64 (by omega) (by omega)
    by_cases c : k1[i] = k2[i]
    · rw [eqFrom_hit hi hi2 c]
      simp [c_ref23_SameKey_l0, KeyMatch.c, hi, hi2, h2, h3, h5, hw, c]
      exact ih _ ⟨by simp [h2], by simp [h3], by simp⟩
    · rw [eqFrom_miss hi hi2 c]
      have c' : (decide (k1[i].value = k2[i].value) && decide (k1[i].mask = k2[i].mask)) = false := by
        simp [KeyMatch.ext_iff] at c ⊢; exact c
      simp [c_ref23_SameKey_l0, KeyMatch.c, hi, hi2, h2, h3, h5, c']
  · rintro e L hL ⟨h2, h3, h5⟩
    rw [eqFrom_end q1]
    simp [c_ref23_SameKey_l0, c_ref23_SameKey_k1, *]
  · simp
theorem EqualCalls_ok (a1 a2 : Int) (l1 l2 : List Int) (hb : l1.length < 2 ^ 40) :
   pureI Φ f_ref23_EqualCalls [.agg [.int .i64 a1, .slice 1 (l1.map c32)], .agg [.int .i64 a2, .slice 1 (l2.map c32)]] = some (.val (.bool (decide (a1 = a2 ∧ l1 = l2)))) := by
  rw [pureI_go (fn := c_ref23_EqualCalls) rfl rfl]
  by_cases q2 : a1 = a2
  rotate_left
  · simp [c_ref23_EqualCalls, q2]
  subst q2
  by_cases q1 : l1.length = l2.length
  rotate_left
  · have : l1 ≠ l2 := fun h => q1 (by rw [h])
    simp [c_ref23_EqualCalls, q1, this]
  simp [c_ref23_EqualCalls, q1]
  refine (loop_nat0 l1.length (fun i e => look 2 e = some (AV.ptr 0 2 0 0) ∧ look 3 e = some (AV.ptr 1 2 0 0) ∧ look 5 e = some (.int .i64 i))
    (fun i => some (Rt.val (AV.bool (eqFrom l1 l2 i)))) ?_ ?_ 0 _ (Nat.zero_le _) ?_).trans (by simp [eqFrom])
  · rintro i e L hi hL ⟨h2, h3, h5⟩ ih
    have hi2 : i < l2.length := by omega
    have hw : IntKind.wrap .i64 ((i : Int) + 1) = ((i + 1 : Nat) : Int) := wrap64 (by omega) (by omega)
    by_cases c : l1[i] = l2[i]
    · rw [eqFrom_hit hi hi2 c]
      simp [c_ref23_EqualCalls_l0, c32, hi, hi2, h2, h3, h5, hw, c]
      exact ih _ ⟨by simp [h2], by simp [h3], by simp⟩
    · rw [eqFrom_miss hi hi2 c]
      simp [c_ref23_EqualCalls_l0, c32, hi, hi2, h2, h3, h5, c]
  · rintro e L hL ⟨h2, h3, h5⟩
    rw [eqFrom_end q1]
    simp [c_ref23_EqualCalls_l0, c_ref23_EqualCalls_k1, *]
  · simp
theorem Equal_ok (k1 k2 : List KeyMatch) (p1 p2 : Int) (a1 a2 : Int) (l1 l2 : List Int) (hb : k1.length < 2 ^ 40) (hb' : l1.length < 2 ^ 40) :
   pureI Φ f_ref23_Equal [.agg [.slice 2 (k1.map KeyMatch.c), .int .i64 p1, .int .i64 a1, .slice 1 (l1.map c32)], .agg [.slice 2 (k2.map KeyMatch.c), .int .i64 p2, .int .i64 a2, .slice 1 (l2.map c32)]] = some (.val (.bool (decide (k1 = k2 ∧ p1 = p2 ∧ a1 = a2 ∧ l1 = l2)))) := by
  rw [pureI_go (fn := c_ref23_Equal) rfl rfl]
  by_cases q1 : k1 = k2
  · by_cases q2 : p1 = p2
    · subst q1
      simp [c_ref23_Equal, SameKey_ok, EqualCalls_ok, hb, hb', q2]
    · subst q1
      simp [c_ref23_Equal, SameKey_ok, hb, q2]
  · simp [c_ref23_Equal, SameKey_ok, hb, q1]

-- a number modulo 256
def low8 (n : Int) : Int := n % 256
@[simp] theorem low8_and (n : Int) : iand .u32 (IntKind.wrap .u32 n) 255 = low8 n := by
  have e1 : IntKind.wrap .u32 n = n % 4294967296 := by simp [IntKind.wrap, IntKind.bits, IntKind.signed]
  unfold iand
  rw [e1]
  have e2 : BitVec.ofInt 32 (n % 4294967296) = BitVec.ofInt 32 n := by
    apply BitVec.eq_of_toNat_eq; simp
  have e3 : (BitVec.ofInt 32 n &&& BitVec.ofInt 32 255).toNat = (n % 4294967296).toNat % 256 := by
    rw [BitVec.toNat_and]
    have : (BitVec.ofInt 32 255).toNat = 2 ^ 8 - 1 := rfl
    rw [this, Nat.and_two_pow_sub_one_eq_mod, BitVec.toNat_ofInt]
    rfl
  rw [show IntKind.bits .u32 = 32 from rfl, e2, e3]
  simp only [IntKind.wrap, IntKind.bits, IntKind.signed, low8]
  simp
  omega
@[simp] theorem low8_conv (n : Int) : IntKind.wrap .u32 (IntKind.wrap .u8 n) = low8 n := by
  simp [IntKind.wrap, IntKind.bits, IntKind.signed, low8]
  omega

end Go.Av
