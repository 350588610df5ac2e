/-
  Prefixes of masks, on both sides.
-/
import Derived.Test.YtjdbnnnakpacjaaGreatQ2
set_option linter.unusedVariables false
set_option linter.unusedSimpArgs false
set_option linter.constructorNameAsVariable false
namespace Go.Av
set_option maxRecDepth 4000
def pmI (n k : Nat) : Int := 2 ^ k - 2 ^ (k - n)
theorem pm_all : ∀ k : Nat, k < 33 → ∀ n : Nat, n < 33 → n ≤ k → iandNot .u32 (2 ^ k - 1) (ishr .u32 (2 ^ k - 1) (n : Int)) = pmI n k := by decide +kernel
theorem pmask_ok (n k : Nat) (h : n ≤ k) (h1 : 1 ≤ k) (h2 : k ≤ 32) : pureI Φ f_bitvec_PrefixMask [.int .i64 n, .int .i64 k] = some (.val (.int .u32 (pmI n k))) := by
  rw [pureI_go (fn := c_bitvec_PrefixMask) rfl rfl]
  have hv := valid1_ok k
  have hm := mask_ok k
  have hw : wBad (k : Int) = false := wBad_false.2 ⟨by omega, by omega⟩
  have hM : maskI (k : Int) = 2 ^ k - 1 := by simp [maskI, hw]
  rw [hw] at hv
  rw [hM] at hm
  have hp := pm_all k (by omega) n (by omega) h
  have n1 : ¬ ((n : Int) < 0) := by omega
  have n2 : ¬ ((k : Int) < n) := by omega
  simp [c_bitvec_PrefixMask, hv, hm, n1, n2]
  exact hp
theorem rp_all : ∀ k : Nat, k < 33 → ∀ n : Nat, n < 33 → n ≤ k → IntKind.wrap .u32 (IntKind.wrap .u64 (2 ^ k - 2 ^ (k - n))) = pmI n k := by decide +kernel
theorem rpmask_ok (n k : Nat) (h : n ≤ k) (h1 : 1 ≤ k) (h2 : k ≤ 32) : pureI Φ f_ref01_PrefixMask [.int .i64 n, .int .i64 k] = some (.val (.int .u32 (pmI n k))) := by
  rw [pureI_go (fn := c_ref01_PrefixMask) rfl rfl]
  have hv := rvalid_ok k
  have hw : wBad (k : Int) = false := wBad_false.2 ⟨by omega, by omega⟩
  rw [hw] at hv
  have p1 := power_ok k (by omega)
  have p2 := power_ok (k - n) (by omega)
  have hs : IntKind.wrap .i64 ((k : Int) - n) = ((k - n : Nat) : Int) := by
    rw [show (k : Int) - n = ((k - n : Nat) : Int) by omega]
    exact wrap64 (by omega) (by omega)
  have n1 : ¬ ((n : Int) < 0) := by omega
  have n2 : ¬ ((k : Int) < n) := by omega
  simp [c_ref01_PrefixMask, hv, p1, p2, n1, n2, hs]
  exact rp_all k (by omega) n (by omega) h
def plG (m : Int) (k : Nat) (n : Nat) : Option Int := if pmI n k = m then some (n : Int) else none
def plE (m w : Int) : Option Int := if wBad w then none else fe (plG m w.toNat) (w.toNat + 1) 0
def plV (o : Option Int) : Rt := .val (.tup [.int .i64 (o.getD 0), .bool o.isSome])
theorem plen_ok (m w : Int) : pureI Φ f_bitvec_PrefixLen [.int .u32 m, .int .i64 w] = some (plV (plE m w)) := by
  rw [pureI_go (fn := c_bitvec_PrefixLen) rfl rfl]
  have hv := valid1_ok w
  cases q : wBad w with
  | true =>
    rw [q] at hv
    simp [c_bitvec_PrefixLen, hv, plE, q, plV]
  | false =>
  rw [q] at hv
  obtain ⟨w1, w2⟩ := wBad_false.1 q
  obtain ⟨k, rfl⟩ : ∃ k : Nat, w = k := ⟨w.toNat, by omega⟩
  have hw1 : IntKind.wrap .i64 ((k : Int) + 1) = ((k + 1 : Nat) : Int) := wrap64 (by omega) (by omega)
  have hE : plE m (k : Int) = fe (plG m k) (k + 1) 0 := by simp [plE, q]
  rw [hE]
  simp [c_bitvec_PrefixLen, hv, hw1]
  refine loop_nx (k + 1) (fun _ => []) 0 (fun i e => look 0 e = some (.int .u32 m) ∧ look 1 e = some (.int .i64 k) ∧ look 12 e = some (.int .i64 ((k : Int) + 1)) ∧ look 13 e = some (.int .i64 i))
    (fun i => some (plV (fe (plG m k) (k + 1) i))) ?_ ?_ 0 _ 0 (Nat.zero_le _) (Nat.le_refl _) ?_
  · rintro i e n L hi hL _ ⟨h0, h1, h12, h13⟩ ih
    have hw : IntKind.wrap .i64 ((i : Int) + 1) = ((i + 1 : Nat) : Int) := wrap64 (by omega) (by omega)
    have hp := pmask_ok i k (by omega) (by omega) (by omega)
    have hlt : (i : Int) < (k : Int) + 1 := by omega
    by_cases z : pmI i k = m
    · rw [fe_hit (x := (i : Int)) hi (by simp [plG, z])]
      subst z
      simp [c_bitvec_PrefixLen_l0, h0, h1, h12, h13, hp, hlt, plV]
    · rw [fe_miss hi (by simp [plG, z])]
      generalize hX : some (plV (fe (plG m k) (k + 1) (i + 1))) = X
      simp [c_bitvec_PrefixLen_l0, h0, h1, h12, h13, hp, hlt, z, hw]
      rw [← hX]
      exact ih _ _ (Nat.zero_le _) ⟨by simp [h0], by simp [h1], by simp [h12], by simp⟩
  · rintro e n L hL _ ⟨h0, h1, h12, h13⟩
    rw [fe_end]
    simp [c_bitvec_PrefixLen_l0, c_bitvec_PrefixLen_k1, h12, h13, hL, plV]
  · simp
theorem rplen_ok (m w : Int) : pureI Φ f_ref01_PrefixLen [.int .u32 m, .int .i64 w] = some (plV (plE m w)) := by
  rw [pureI_go (fn := c_ref01_PrefixLen) rfl rfl]
  have hv := rvalid_ok w
  cases q : wBad w with
  | true =>
    rw [q] at hv
    simp [c_ref01_PrefixLen]
    rw [go_loop]
    by_cases z : 0 ≤ w
    · simp [c_ref01_PrefixLen_l0, c_ref01_PrefixLen_k1, hv, z, plE, q, plV]
    · simp [c_ref01_PrefixLen_l0, c_ref01_PrefixLen_k1, z, plE, q, plV]
  | false =>
  rw [q] at hv
  obtain ⟨w1, w2⟩ := wBad_false.1 q
  obtain ⟨k, rfl⟩ : ∃ k : Nat, w = k := ⟨w.toNat, by omega⟩
  have hE : plE m (k : Int) = fe (plG m k) (k + 1) 0 := by simp [plE, q]
  rw [hE]
  simp [c_ref01_PrefixLen]
  refine loop_nx (k + 1) (fun _ => []) 0 (fun i e => look 0 e = some (.int .u32 m) ∧ look 1 e = some (.int .i64 k) ∧ look 6 e = some (.int .i64 i))
    (fun i => some (plV (fe (plG m k) (k + 1) i))) ?_ ?_ 0 _ 0 (Nat.zero_le _) (Nat.le_refl _) ?_
  · rintro i e n L hi hL _ ⟨h0, h1, h6⟩ ih
    have hw : IntKind.wrap .i64 ((i : Int) + 1) = ((i + 1 : Nat) : Int) := wrap64 (by omega) (by omega)
    have hp := rpmask_ok i k (by omega) (by omega) (by omega)
    have hle : i ≤ k := by omega
    by_cases z : pmI i k = m
    · rw [fe_hit (x := (i : Int)) hi (by simp [plG, z])]
      subst z
      simp [c_ref01_PrefixLen_l0, h0, h1, h6, hv, hp, hle, plV]
    · rw [fe_miss hi (by simp [plG, z])]
      generalize hX : some (plV (fe (plG m k) (k + 1) (i + 1))) = X
      simp [c_ref01_PrefixLen_l0, h0, h1, h6, hv, hp, hle, z, hw]
      rw [← hX]
      exact ih _ _ (Nat.zero_le _) ⟨by simp [h0], by simp [h1], by simp⟩
  · rintro e n L hL _ ⟨h0, h1, h6⟩
    rw [fe_end]
    have hgt : ¬ ((k : Int) + 1 ≤ (k : Int)) := by omega
    simp [c_ref01_PrefixLen_l0, c_ref01_PrefixLen_k1, h1, h6, hL, hgt, plV]
  · simp
end Go.Av
