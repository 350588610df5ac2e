/-
  Lemmas for the law.
-/
import Derived.Test.YtdgpefplgldkfaaB29
set_option linter.unusedVariables false
set_option linter.unusedSimpArgs false
set_option linter.constructorNameAsVariable false
namespace Go.Av
set_option maxRecDepth 8000
theorem wrapu64 {n : Nat} (h : n < 2 ^ 64) : IntKind.wrap .u64 (n : Int) = (n : Int) := by
  have e1 : (2 : Int) ^ 64 = 18446744073709551616 := rfl
  simp only [IntKind.wrap, IntKind.bits, IntKind.signed, Bool.false_and, e1]
  simp
  omega
theorem ior_step {n b : Nat} (hn : n < 2 ^ 48) (hb : b < 256) : ior .u64 (ishl .u64 (n : Int) 8) (IntKind.wrap .u64 (b : Int)) = ((256 * n + b : Nat) : Int) := by
  have e1 : ishl .u64 (n : Int) 8 = ((n * 256 : Nat) : Int) := by
    unfold ishl
    have : ((n : Int) * 2 ^ (min (8 : Int).toNat (IntKind.bits .u64))) = ((n * 256 : Nat) : Int) := by
      have : (2 : Int) ^ (min (8 : Int).toNat (IntKind.bits .u64)) = 256 := by decide
      rw [this]; omega
    rw [this, wrapu64 (by omega)]
  rw [e1, wrapu64 (by omega)]
  unfold ior
  have h2 : (BitVec.ofInt (IntKind.bits .u64) ((n * 256 : Nat) : Int) ||| BitVec.ofInt (IntKind.bits .u64) (b : Int)).toNat = 256 * n + b := by
    rw [BitVec.toNat_or]
    rw [BitVec.ofInt_natCast, BitVec.ofInt_natCast, BitVec.toNat_ofNat, BitVec.toNat_ofNat]
    have hbits : IntKind.bits .u64 = 64 := rfl
    rw [hbits, Nat.mod_eq_of_lt (by omega), Nat.mod_eq_of_lt (by omega)]
    have := Nat.shiftLeft_add_eq_or_of_lt (b := b) (i := 8) (by omega) n
    rw [Nat.shiftLeft_eq] at this
    rw [show n * 256 = n * 2 ^ 8 by rfl, ← this]
    omega
  rw [h2, wrapu64 (by omega)]
theorem mul_step {n b : Nat} (hn : n < 2 ^ 48) (hb : b < 256) : IntKind.wrap .u64 (IntKind.wrap .u64 (256 * (n : Int)) + IntKind.wrap .u64 (b : Int)) = ((256 * n + b : Nat) : Int) := by
  have : (256 * (n : Int)) = ((256 * n : Nat) : Int) := by omega
  rw [this, wrapu64 (by omega), wrapu64 (by omega)]
  have : (((256 * n : Nat) : Int) + (b : Int)) = ((256 * n + b : Nat) : Int) := by omega
  rw [this, wrapu64 (by omega)]
def pbN (t : Bool) (a b c d e : Nat) : Nat := 256 * (256 * (256 * (256 * (256 * (if t then 1 else 0) + a) + b) + c) + d) + e
theorem Bits_ok (t : Bool) (a b c d e : Nat) (ha : a < 256) (hb : b < 256) (hc : c < 256) (hd : d < 256) (he : e < 256) :
    pureI Φ f_fabric_PacketBits [.agg [.bool t, .int .u8 a, .int .u8 b], .agg [.int .u8 c, .int .u8 d, .int .u8 e]] = some (.val (.int .u64 (pbN t a b c d e : Nat))) := by
  rw [pureI_go (fn := c_fabric_PacketBits) rfl rfl]
  have w1 : IntKind.wrap .i64 1 = 1 := rfl
  have w2 : IntKind.wrap .i64 2 = 2 := rfl
  have w3 : IntKind.wrap .i64 3 = 3 := rfl
  have w4 : IntKind.wrap .i64 4 = 4 := rfl
  have w5 : IntKind.wrap .i64 5 = 5 := rfl
  obtain ⟨n0, hn0⟩ : ∃ n0 : Nat, n0 = if t then 1 else 0 := ⟨_, rfl⟩
  have b0 : n0 ≤ 1 := by rw [hn0]; split <;> omega
  have s1 := ior_step (n := n0) (b := a) (by omega) ha
  obtain ⟨n1, hn1⟩ : ∃ n1 : Nat, n1 = 256 * n0 + a := ⟨_, rfl⟩
  rw [← hn1] at s1
  have s2 := ior_step (n := n1) (b := b) (by omega) hb
  obtain ⟨n2, hn2⟩ : ∃ n2 : Nat, n2 = 256 * n1 + b := ⟨_, rfl⟩
  rw [← hn2] at s2
  have s3 := ior_step (n := n2) (b := c) (by omega) hc
  obtain ⟨n3, hn3⟩ : ∃ n3 : Nat, n3 = 256 * n2 + c := ⟨_, rfl⟩
  rw [← hn3] at s3
  have s4 := ior_step (n := n3) (b := d) (by omega) hd
  obtain ⟨n4, hn4⟩ : ∃ n4 : Nat, n4 = 256 * n3 + d := ⟨_, rfl⟩
  rw [← hn4] at s4
  have s5 := ior_step (n := n4) (b := e) (by omega) he
  have hfin : pbN t a b c d e = 256 * n4 + e := by simp only [pbN, hn4, hn3, hn2, hn1, hn0]
  rw [hfin]
  obtain ⟨R, hR⟩ : ∃ R, R = some (Rt.val (.int .u64 ((256 * n4 + e : Nat) : Int))) := ⟨_, rfl⟩
  rw [← hR]
  have start : ∀ (T : Bool), T = t → n0 = (if T then 1 else 0) → True := fun _ _ _ => trivial
  generalize hq5 : (256 * n4 + e : Nat) = n5 at s5 hR
  cases t
  all_goals
    simp at hn0
    subst hn0
    simp only [Int.natCast_zero, Int.natCast_one] at s1
    simp [c_fabric_PacketBits]
    rw [go_loop]; simp [c_fabric_PacketBits_l0, s1, w1]
    rw [go_loop]; simp [s2, w1, w2]
    rw [go_loop]; simp [s3, w2, w3]
    rw [go_loop]; simp [s4, w3, w4]
    rw [go_loop]; simp [s5, w4, w5]
    rw [go_loop]; simp [c_fabric_PacketBits_k1, hR]
end Go.Av
