/-
  Lemmas for the law.
-/
import Derived.Test.YtdgpefplgldkfaaB32
set_option linter.unusedVariables false
set_option linter.unusedSimpArgs false
set_option linter.constructorNameAsVariable false
namespace Go.Av
set_option maxRecDepth 8000
theorem u8w_nat {a : Nat} (h : a < 256) : u8w (a : Int) = a := by
  unfold u8w IntKind.wrap
  have : IntKind.signed .u8 = false := rfl
  have hb : IntKind.bits .u8 = 8 := rfl
  simp [this, hb]
  omega
theorem parR_enc (a b c : Nat) (l : List Int) (h : ¬ 512 < (1 :: (a : Int) :: b :: c :: l).length) : parR ((1 : Int) :: a :: b :: c :: l) = (okE [true, false, true] [[1], [0, 0], [a, b, c]] l, 0) := by
  unfold parR
  rw [if_neg h]
  simp [decR]
theorem pbN_inj {a b c d e f : Nat} (hb : b < 256) (hc : c < 256) (he : e < 256) (hf : f < 256) : (pbN false 0 0 a b c = pbN false 0 0 d e f) ↔ (a = d ∧ b = e ∧ c = f) := by
  unfold pbN; simp; omega
theorem FabricRoundTrip_ok (l : List Int) (a b c d e f : Nat) (hd : l.length ≤ 1048576) (hl8 : ∀ x ∈ l, 0 ≤ x ∧ x < 256) (ha : a < 256) (hb : b < 256) (hc : c < 256) (hdd : d < 256) (he : e < 256) (hf : f < 256) (hw : pureI Φ f_law46_works [] = some (.val (.bool true))) :
    pureI Φ f_law46_FabricRoundTrip [.agg [.int .u8 a, .int .u8 b, .int .u8 c], .agg [.int .u8 d, .int .u8 e, .int .u8 f], .slice 1 (l.map c8)] = some (.val (.bool true)) := by
  rw [pureI_go (fn := c_law46_FabricRoundTrip) rfl rfl]
  by_cases hl : 600 < l.length
  · simp [c_law46_FabricRoundTrip, hl, hw]
  · have e1 := Enc2 a b c l (by omega)
    have hdl : ((1 : Int) :: a :: b :: c :: l).length ≤ 1048576 := by simp; omega
    have hbl : ∀ x ∈ ((1 : Int) :: a :: b :: c :: l), 0 ≤ x ∧ x < 256 := by
      intro x hx
      simp only [List.mem_cons] at hx
      rcases hx with rfl | rfl | rfl | rfl | hx
      · omega
      · omega
      · omega
      · omega
      · exact hl8 x hx
    by_cases h5 : 512 < ((1 : Int) :: a :: b :: c :: l).length
    · have hp : parR ((1 : Int) :: a :: b :: c :: l) = (eZl, 4) := by unfold parR; rw [if_pos h5]
      have h1 := (Dec_err _ hdl hbl 4 (by simp) hp).1
      have hlen : (((1 : Int) :: a :: b :: c :: l).map c8).length = ((1 : Int) :: a :: b :: c :: l).length := List.length_map _
      have h5' : 512 < (((1 : Int) :: a :: b :: c :: l).map c8).length := by rw [hlen]; exact h5
      generalize ((1 : Int) :: a :: b :: c :: l).map c8 = QQ at e1 h1 h5'
      simp only [tagV, floV] at h1
      simp [c_law46_FabricRoundTrip, hl, hw, h1, e1, h5']
    · have hp := parR_enc a b c l h5
      have h1 := (Dec_ok _ hdl hbl false 1 0 0 a b c l hp).1
      have u0 : u8w 0 = 0 := rfl
      simp only [tagV, floV, u8w_nat ha, u8w_nat hb, u8w_nat hc, u0] at h1
      have b1 := Bits_ok false 0 0 a b c (by omega) (by omega) ha hb hc
      have b2 := Bits_ok false 0 0 d e f (by omega) (by omega) hdd he hf
      simp only [Int.natCast_zero] at b1 b2
      have s1 := fun h => b2sV_slice h 1 l
      have hlen : (((1 : Int) :: a :: b :: c :: l).map c8).length = ((1 : Int) :: a :: b :: c :: l).length := List.length_map _
      have h5' : ¬ 512 < (((1 : Int) :: a :: b :: c :: l).map c8).length := by rw [hlen]; exact h5
      have hll : (l.map c8).length = l.length := List.length_map _
      have hl' : ¬ 600 < (l.map c8).length := by rw [hll]; exact hl
      have inj := @pbN_inj a b c d e f hb hc he hf
      generalize pbN false 0 0 a b c = P at b1 inj
      generalize pbN false 0 0 d e f = Q at b2 inj
      generalize ((1 : Int) :: a :: b :: c :: l).map c8 = QQ at e1 h1 h5'
      generalize l.map c8 = RR at h1 s1 e1 hl' ⊢
      generalize strB l = SS at s1
      by_cases hq : a = d ∧ b = e ∧ c = f
      · have hP := inj.2 hq
        obtain ⟨q1, q2, q3⟩ := hq
        subst q1 q2 q3
        simp [c_law46_FabricRoundTrip, hl', hw, h1, e1, h5', b1, b2, s1, evC_b2s, -evCall_b2s, hP]
      · have hP : ¬ P = Q := fun h => hq (inj.1 h)
        simp [c_law46_FabricRoundTrip, hl', hw, h1, e1, h5', b1, b2, s1, evC_b2s, -evCall_b2s, hP]
        have hB : (!decide (a = d) || (!decide (b = e) || !decide (c = f))) = true := by
          by_cases q1 : a = d <;> by_cases q2 : b = e <;> by_cases q3 : c = f <;> simp [q1, q2, q3] <;> exact hq ⟨q1, q2, q3⟩
        simp only [hB]
        simp [hw]
end Go.Av
