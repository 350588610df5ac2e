/-
  Lemmas for the law.
-/
import Derived.Test.YtdgpefplgldkfaaB30
set_option linter.unusedVariables false
set_option linter.unusedSimpArgs false
set_option linter.constructorNameAsVariable false
namespace Go.Av
set_option maxRecDepth 8000
theorem rBits_ok (t : Bool) (a b c d e : Nat) (ha : a < 256) (hb : b < 256) (hc : c < 256) (hd : d < 256) (he : e < 256) :
    pureI Φ f_ref46_PacketBits [.agg [.bool t, .int .u8 a, .int .u8 b], .agg [.int .u8 c, .int .u8 d, .int .u8 e]] = some (.val (.int .u64 (pbN t a b c d e : Nat))) := by
  rw [pureI_go (fn := c_ref46_PacketBits) rfl rfl]
  have w1 : IntKind.wrap .i64 1 = 1 := rfl
  have w2 : IntKind.wrap .i64 2 = 2 := rfl
  have w3 : IntKind.wrap .i64 3 = 3 := rfl
  have w4 : IntKind.wrap .i64 4 = 4 := rfl
  have w5 : IntKind.wrap .i64 5 = 5 := rfl
  obtain ⟨n0, hn0⟩ : ∃ n0 : Nat, n0 = if t then 1 else 0 := ⟨_, rfl⟩
  have b0 : n0 ≤ 1 := by rw [hn0]; split <;> omega
  have s1 := mul_step (n := n0) (b := a) (by omega) ha
  obtain ⟨n1, hn1⟩ : ∃ n1 : Nat, n1 = 256 * n0 + a := ⟨_, rfl⟩
  rw [← hn1] at s1
  have s2 := mul_step (n := n1) (b := b) (by omega) hb
  obtain ⟨n2, hn2⟩ : ∃ n2 : Nat, n2 = 256 * n1 + b := ⟨_, rfl⟩
  rw [← hn2] at s2
  have s3 := mul_step (n := n2) (b := c) (by omega) hc
  obtain ⟨n3, hn3⟩ : ∃ n3 : Nat, n3 = 256 * n2 + c := ⟨_, rfl⟩
  rw [← hn3] at s3
  have s4 := mul_step (n := n3) (b := d) (by omega) hd
  obtain ⟨n4, hn4⟩ : ∃ n4 : Nat, n4 = 256 * n3 + d := ⟨_, rfl⟩
  rw [← hn4] at s4
  have s5 := mul_step (n := n4) (b := e) (by omega) he
  have hfin : pbN t a b c d e = 256 * n4 + e := by simp only [pbN, hn4, hn3, hn2, hn1, hn0]
  rw [hfin]
  obtain ⟨R, hR⟩ : ∃ R, R = some (Rt.val (.int .u64 ((256 * n4 + e : Nat) : Int))) := ⟨_, rfl⟩
  rw [← hR]
  have start : ∀ (T : Bool), T = t → n0 = (if T then 1 else 0) → True := fun _ _ _ => trivial
  generalize hq5 : (256 * n4 + e : Nat) = n5 at s5 hR
  cases t
  all_goals
    simp at hn0
    subst hn0
    simp only [Int.natCast_zero, Int.natCast_one, Int.mul_zero, Int.mul_one] at s1
    simp [c_ref46_PacketBits]
    rw [go_loop]; simp [c_ref46_PacketBits_l0, s1, w1]
    rw [go_loop]; simp [s2, w1, w2]
    rw [go_loop]; simp [s3, w2, w3]
    rw [go_loop]; simp [s4, w3, w4]
    rw [go_loop]; simp [s5, w4, w5]
    rw [go_loop]; simp [c_ref46_PacketBits_k1, hR]
end Go.Av
