/-
  Lemmas for the law.
-/
import Derived.Test.YtdgpefplgldkfaaFunsA
import Derived.Test.YtdgpefplgldkfaaAvC
set_option linter.unusedVariables false
set_option linter.unusedSimpArgs false
set_option linter.constructorNameAsVariable false
namespace Go.Av
set_option maxRecDepth 4000

theorem SameKey_ok (k1 k2 : List KeyMatch) (p1 p2 : Int) (r1 r2 : List AV) (hb : k1.length < 2 ^ 40) :
   pureI Φ f_ref23_SameKey [.agg (.slice 2 (k1.map KeyMatch.c) :: .int .i64 p1 :: r1), .agg (.slice 2 (k2.map KeyMatch.c) :: .int .i64 p2 :: r2)] = some (.val (.bool (decide (k1 = k2 ∧ p1 = p2)))) := by
  rw [pureI_go (fn := c_ref23_SameKey) rfl rfl]
  simp [c_ref23_SameKey]
  refine guardG_split (fun h => ?_) (fun h => ?_) <;> simp at h <;> simp [h]
  · refine condG_split (fun h2 => ?_) (fun h2 => ?_) <;> simp at h2 <;> simp [h2]
    refine (loop_nat0 k1.length (fun i e => look 2 e = some (AV.ptr 0 (r1.length + 1 + 1) 0 0) ∧ look 3 e = some (AV.ptr 1 (r2.length + 1 + 1) 0 0) ∧ look 5 e = some (.int .i64 i))
      (fun i => some (Rt.val (AV.bool (decide (k1.drop i = k2.drop i))))) ?_ ?_ 0 _ (Nat.zero_le _) ?_).trans (by simp)
    · rintro i e L hi hL ⟨h2, h3, h5⟩ ih
      have hi2 : i < k2.length := by omega
      have hw : IntKind.wrap .i64 ((i : Int) + 1) = ((i + 1 : Nat) : Int) := wrap64 (by omega) (by omega)
      simp [c_ref23_SameKey_l0, KeyMatch.c, *]
      refine condG_split (fun h4 => ?_) (fun h4 => ?_) <;> simp at h4 <;> simp [*]
      · rw [drop_eq_iff hi hi2]
        rintro ⟨h5, _⟩; rw [h5] at h4; simp at h4
      · rw [drop_eq_iff hi hi2]
        simp [KeyMatch.ext_iff, h4]
    · rintro e L hL ⟨h2, h3, h5⟩
      simp [c_ref23_SameKey_l0, c_ref23_SameKey_k1, *]
    · simp
  · intro h1; rw [h1] at h; exact absurd rfl h
end Go.Av
namespace Go.Av
theorem cI_map (l : List Int) : l.map c32 = l.map fun x => [AV.int .u32 x] := rfl
theorem EqualCalls_ok (a1 a2 : Int) (l1 l2 : List Int) (hb : l1.length < 2 ^ 40) :
   pureI Φ f_ref23_EqualCalls [.agg [.int .i64 a1, .slice 1 (l1.map c32)], .agg [.int .i64 a2, .slice 1 (l2.map c32)]] = some (.val (.bool (decide (a1 = a2 ∧ l1 = l2)))) := by
  rw [pureI_go (fn := c_ref23_EqualCalls) rfl rfl]
  simp [c_ref23_EqualCalls]
  refine guardG_split (fun h => ?_) (fun h => ?_) <;> simp at h <;> simp [h]
  · refine condG_split (fun h2 => ?_) (fun h2 => ?_) <;> simp at h2 <;> simp [h2]
    · intro h3; rw [h3] at h2; exact absurd rfl h2
    refine (loop_nat0 l1.length (fun i e => look 2 e = some (AV.ptr 0 2 0 0) ∧ look 3 e = some (AV.ptr 1 2 0 0) ∧ look 5 e = some (.int .i64 i))
      (fun i => some (Rt.val (AV.bool (decide (l1.drop i = l2.drop i))))) ?_ ?_ 0 _ (Nat.zero_le _) ?_).trans (by simp)
    · rintro i e L hi hL ⟨h2, h3, h5⟩ ih
      have hi2 : i < l2.length := by omega
      have hw : IntKind.wrap .i64 ((i : Int) + 1) = ((i + 1 : Nat) : Int) := wrap64 (by omega) (by omega)
      simp [c_ref23_EqualCalls_l0, c32, *]
      refine condG_split (fun h4 => ?_) (fun h4 => ?_) <;> simp at h4 <;> simp [*]
      · rw [drop_eq_iff hi hi2]
        rintro ⟨h5, _⟩; exact h4 h5
      · rw [drop_eq_iff hi hi2]
        simp [h4]
    · rintro e L hL ⟨h2, h3, h5⟩
      simp [c_ref23_EqualCalls_l0, c_ref23_EqualCalls_k1, *]
    · simp
theorem Equal_ok (k1 k2 : List KeyMatch) (p1 p2 : Int) (a1 a2 : Int) (l1 l2 : List Int) (hb : k1.length < 2 ^ 40) (hb' : l1.length < 2 ^ 40) :
   pureI Φ f_ref23_Equal [.agg [.slice 2 (k1.map KeyMatch.c), .int .i64 p1, .int .i64 a1, .slice 1 (l1.map c32)], .agg [.slice 2 (k2.map KeyMatch.c), .int .i64 p2, .int .i64 a2, .slice 1 (l2.map c32)]] = some (.val (.bool (decide (k1 = k2 ∧ p1 = p2 ∧ a1 = a2 ∧ l1 = l2)))) := by
  rw [pureI_go (fn := c_ref23_Equal) rfl rfl]
  simp [c_ref23_Equal, SameKey_ok, EqualCalls_ok, hb, hb']
  refine guardG_split (fun h => ?_) (fun h => ?_) <;> simp only [h] <;> simp at h <;> simp [*, EqualCalls_ok]
  intro h1 h2; exact absurd h2 (h h1)

-- a number modulo 256
def low8 (n : Int) : Int := n % 256
@[simp] theorem low8_and (n : Int) : iand .u32 (IntKind.wrap .u32 n) 255 = low8 n := by
  have e1 : IntKind.wrap .u32 n = n % 4294967296 := by simp [IntKind.wrap, IntKind.bits, IntKind.signed]
  unfold iand
  rw [e1]
  have e2 : BitVec.ofInt 32 (n % 4294967296) = BitVec.ofInt 32 n := by
    apply BitVec.eq_of_toNat_eq; simp
  have e3 : (BitVec.ofInt 32 n &&& BitVec.ofInt 32 255).toNat = (n % 4294967296).toNat % 256 := by
    rw [BitVec.toNat_and]
    have : (BitVec.ofInt 32 255).toNat = 2 ^ 8 - 1 := rfl
    rw [this, Nat.and_two_pow_sub_one_eq_mod, BitVec.toNat_ofInt]
    rfl
  rw [show IntKind.bits .u32 = 32 from rfl, e2, e3]
  simp only [IntKind.wrap, IntKind.bits, IntKind.signed, low8]
  simp
  omega
@[simp] theorem low8_conv (n : Int) : IntKind.wrap .u32 (IntKind.wrap .u8 n) = low8 n := by
  simp [IntKind.wrap, IntKind.bits, IntKind.signed, low8]
  omega

theorem exact_ok (n : Int) : pureI Φ f_fabric_exact [.int .i64 n] = some (.val (.agg [.int .u32 (low8 n), .int .u32 255])) := by
  rw [pureI_go (fn := c_fabric_exact) rfl rfl]
  simp [c_fabric_exact]
theorem low_ok (n : Int) : pureI Φ f_ref46_low [.int .i64 n] = some (.val (.int .u32 (low8 n))) := by
  rw [pureI_go (fn := c_ref46_low) rfl rfl]
  simp [c_ref46_low]
theorem rexact_ok (n : Int) : pureI Φ f_ref46_exact [.int .i64 n] = some (.val (.agg [.int .u32 (low8 n), .int .u32 255])) := by
  rw [pureI_go (fn := c_ref46_exact) rfl rfl]
  simp [c_ref46_exact, low_ok]
theorem entry_ok (a p : Int) (k l : List (List AV)) : pureI Φ f_fabric_entry [.agg [.int .i64 a, .slice 1 l], .int .i64 p, .slice 2 k] = some (.val (.agg [.slice 2 k, .int .i64 p, .int .i64 a, .slice 1 l])) := by
  rw [pureI_go (fn := c_fabric_entry) rfl rfl]
  simp [c_fabric_entry]
theorem IngressEntry_ok (p v : Int) : pureI Φ f_fabric_IngressEntry [.int .i64 p, .int .i64 v] = some (.val (.agg [.slice 2 [[.int .u32 (low8 p), .int .u32 255]], .int .i64 0, .int .i64 0, .slice 1 [[.int .u32 (low8 v)]]])) := by
  rw [pureI_go (fn := c_fabric_IngressEntry) rfl rfl]
  simp [c_fabric_IngressEntry, exact_ok, entry_ok]
theorem rIngressEntry_ok (p v : Int) : pureI Φ f_ref46_IngressEntry [.int .i64 p, .int .i64 v] = some (.val (.agg [.slice 2 [[.int .u32 (low8 p), .int .u32 255]], .int .i64 0, .int .i64 0, .slice 1 [[.int .u32 (low8 v)]]])) := by
  rw [pureI_go (fn := c_ref46_IngressEntry) rfl rfl]
  simp [c_ref46_IngressEntry, rexact_ok, low_ok]
theorem TrunkEntry_ok (p : Int) : pureI Φ f_fabric_TrunkEntry [.int .i64 p] = some (.val (.agg [.slice 2 [[.int .u32 (low8 p), .int .u32 255]], .int .i64 0, .int .i64 1, .slice 1 []])) := by
  rw [pureI_go (fn := c_fabric_TrunkEntry) rfl rfl]
  simp [c_fabric_TrunkEntry, exact_ok, entry_ok]
theorem rTrunkEntry_ok (p : Int) : pureI Φ f_ref46_TrunkEntry [.int .i64 p] = some (.val (.agg [.slice 2 [[.int .u32 (low8 p), .int .u32 255]], .int .i64 0, .int .i64 1, .slice 1 []])) := by
  rw [pureI_go (fn := c_ref46_TrunkEntry) rfl rfl]
  simp [c_ref46_TrunkEntry, rexact_ok, entry_ok]
end Go.Av
