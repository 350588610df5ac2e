/-
  Lemmas for the law.
-/
import Derived.Test.YtdgpefplgldkfaaPV46
import Derived.Test.YtdgpefplgldkfaaE7
set_option linter.unusedVariables false
set_option linter.unusedSimpArgs false
set_option linter.constructorNameAsVariable false
namespace Go.Av
set_option maxRecDepth 8000
-- bits
theorem low8_range (n : Int) : 0 ≤ low8 n ∧ low8 n ≤ 255 := by unfold low8; omega
theorem iandNot_255 (n : Int) : iandNot .u32 (low8 n) 255 = 0 := by
  obtain ⟨h1, h2⟩ := low8_range n
  generalize low8 n = v at h1 h2
  obtain ⟨k, rfl⟩ := Int.eq_ofNat_of_zero_le h1
  have hk : k < 256 := by omega
  have : ∀ k : Fin 256, iandNot .u32 ((k.1 : Nat) : Int) 255 = 0 := by decide +kernel
  exact this ⟨k, hk⟩
theorem iandNot_self (v m : Int) (hv : 0 ≤ v ∧ v ≤ 18446744073709551615) (hm : 0 ≤ m ∧ m ≤ 18446744073709551615) (s : Nat) (hs : s < 64) : iandNot .u32 (low8 (ishr .u64 (iand .u64 v m) s)) (low8 (ishr .u64 m s)) = 0 := by
  obtain ⟨a, rfl⟩ := Int.eq_ofNat_of_zero_le hv.1
  obtain ⟨b, rfl⟩ := Int.eq_ofNat_of_zero_le hm.1
  have ha : a < 2 ^ 64 := by omega
  have hb : b < 2 ^ 64 := by omega
  have e1 : iand .u64 (a : Int) (b : Int) = ((a &&& b : Nat) : Int) := by
    unfold iand
    have : (BitVec.ofInt IntKind.u64.bits (a : Int) &&& BitVec.ofInt IntKind.u64.bits (b : Int)).toNat = a &&& b := by
      rw [BitVec.toNat_and]
      simp only [IntKind.bits, BitVec.ofInt_natCast, BitVec.toNat_ofNat]
      rw [Nat.mod_eq_of_lt ha, Nat.mod_eq_of_lt hb]
    rw [this]
    have hlt : a &&& b < 2 ^ 64 := Nat.and_lt_two_pow a hb
    simp only [IntKind.wrap, IntKind.bits, IntKind.signed]
    simp
    omega
  have e2 : ∀ c : Nat, low8 (ishr .u64 (c : Int) (s : Int)) = ((c >>> s % 256 : Nat) : Int) := by
    intro c
    unfold low8 ishr
    have : min (s : Int).toNat IntKind.u64.bits = s := by simp [IntKind.bits]; omega
    rw [this, Nat.shiftRight_eq_div_pow]
    have hp : (0 : Int) ≤ 2 ^ s := Int.pow_nonneg (by omega)
    rw [Int.fdiv_eq_ediv_of_nonneg _ hp]
    simp
  rw [e1, e2, e2]
  have h0 : (BitVec.ofNat 32 ((a &&& b) >>> s % 256) &&& ~~~BitVec.ofNat 32 (b >>> s % 256)) = 0#32 := by
    apply BitVec.eq_of_getLsbD_eq
    intro i hi
    have e256 : (256 : Nat) = 2 ^ 8 := rfl
    simp only [BitVec.getLsbD_and, BitVec.getLsbD_not, BitVec.getLsbD_ofNat, e256, Nat.testBit_mod_two_pow, Nat.testBit_shiftRight, Nat.testBit_and]
    cases b.testBit (s + i) <;> simp [hi] <;> omega
  unfold iandNot
  show IntKind.wrap .u32 (((BitVec.ofInt 32 ((((a &&& b) >>> s % 256 : Nat)) : Int) &&& ~~~BitVec.ofInt 32 ((b >>> s % 256 : Nat) : Int)).toNat : Nat) : Int) = 0
  rw [BitVec.ofInt_natCast, BitVec.ofInt_natCast, h0]
  rfl
end Go.Av
