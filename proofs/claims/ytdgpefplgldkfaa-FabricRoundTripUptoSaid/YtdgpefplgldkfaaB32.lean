/-
  Lemmas for the law.
-/
import Derived.Test.YtdgpefplgldkfaaB31
set_option linter.unusedVariables false
set_option linter.unusedSimpArgs false
set_option linter.constructorNameAsVariable false
namespace Go.Av
set_option maxRecDepth 8000
def b2sV (h : AH) (o : Option AV) : Option (AV × AH) := match o with
  | some v => evOp [(0, v)] 0 h (.b2s (.t 0))
  | none => none
theorem ev_b2s {e : Env} {nx : Nat} {h : AH} {n : Nat} : evOp e nx h (.b2s (.t n)) = b2sV h (look n e) := by
  cases hl : look n e with
  | none => simp only [evOp, evX, hl, b2sV]
  | some v => simp only [evOp, evX, hl, b2sV, look, if_true]
theorem evC_b2s {call : CallFn} {e : Env} {nx : Nat} {h : AH} {n : Nat} : evCall call e nx h (.b2s (.t n)) = liftV (b2sV h (look n e)) := by rw [evCall_b2s, ev_b2s]
def strB (l : List Int) : List UInt8 := l.map fun n => UInt8.ofNat n.toNat
theorem mapO_c8 (F : List AV → Option UInt8) (hF : ∀ n, F (c8 n) = some (UInt8.ofNat n.toNat)) : ∀ l : List Int, mapO F (l.map c8) = some (strB l)
  | [] => rfl
  | a :: l => by simp only [List.map_cons, mapO, hF, mapO_c8 F hF l, strB]
theorem b2sV_slice (h : AH) (z : Nat) (l : List Int) : b2sV h (some (.slice z (l.map c8))) = some (.str (strB l), h) := by
  simp only [b2sV, evOp, evX, look, if_true, srcOf]
  rw [mapO_c8 _ (fun n => rfl)]
theorem Enc2 (x y z : Int) (l : List Int) (hl : l.length ≤ 1048576) : pureI Φ f_fabric_EncodePacket [.agg [.int .u8 x, .int .u8 y, .int .u8 z], .slice 1 (l.map c8)] = some (.val (.slice 1 ((1 :: x :: y :: z :: l).map c8))) :=
  Enc_ok x y z _ (by simpa using hl) (by simp)
theorem rEnc2 (x y z : Int) (l : List Int) (hl : l.length ≤ 1048576) : pureI Φ f_ref46_EncodePacket [.agg [.int .u8 x, .int .u8 y, .int .u8 z], .slice 1 (l.map c8)] = some (.val (.slice 1 ((1 :: x :: y :: z :: l).map c8))) :=
  rEnc_ok x y z _ (by simpa using hl) (by simp)
theorem Dec_any (data : List Int) (hd : data.length ≤ 1048576) (hb : ∀ x ∈ data, 0 ≤ x ∧ x < 256) : ∃ (t : Bool) (v l x y z : Int) (r : List Int) (e : Int),
    pureI Φ f_fabric_DecodePacket [.slice 1 (data.map c8)] = some (.val (.tup [tagV t v l, floV x y z, .slice 1 (r.map c8), .int .i64 e])) ∧
    pureI Φ f_ref46_DecodePacket [.slice 1 (data.map c8)] = some (.val (.tup [tagV t v l, floV x y z, .slice 1 (r.map c8), .int .i64 e])) := by
  have hf := parR_form data
  generalize hp : parR data = p at hf
  cases hf with
  | err e he => exact ⟨false, 0, 0, 0, 0, 0, [], e, Dec_err data hd hb e he hp⟩
  | one x y z r => exact ⟨_, _, _, _, _, _, _, _, Dec_ok data hd hb false 1 0 0 x y z r hp⟩
  | two v l x y z r => exact ⟨_, _, _, _, _, _, _, _, Dec_ok data hd hb true 2 v l x y z r hp⟩
theorem FabricPackets_ok (data : List Int) (tg : Bool) (a b c d e : Nat) (hd : data.length ≤ 1048576) (hb : ∀ x ∈ data, 0 ≤ x ∧ x < 256) (ha : a < 256) (hbb : b < 256) (hc : c < 256) (hdd : d < 256) (he : e < 256) (hw : pureI Φ f_law46_works [] = some (.val (.bool true))) :
    pureI Φ f_law46_FabricPackets [.slice 1 (data.map c8), .agg [.bool tg, .int .u8 a, .int .u8 b], .agg [.int .u8 c, .int .u8 d, .int .u8 e]] = some (.val (.bool true)) := by
  rw [pureI_go (fn := c_law46_FabricPackets) rfl rfl]
  by_cases hl : 600 < data.length
  · simp [c_law46_FabricPackets, hl, hw]
  · obtain ⟨t, v, l, x, y, z, r, er, h1, h2⟩ := Dec_any data hd hb
    have e1 := Enc2 c d e data hd
    have e2 := rEnc2 c d e data hd
    have b1 := Bits_ok tg a b c d e ha hbb hc hdd he
    have b2 := rBits_ok tg a b c d e ha hbb hc hdd he
    have s1 := fun h => b2sV_slice h 1 r
    have s2 := fun h => b2sV_slice h 1 ((1 : Int) :: c :: d :: e :: data)
    generalize hR : r.map c8 = RR at h1 h2 s1
    generalize hQ : ((1 : Int) :: c :: d :: e :: data).map c8 = QQ at e1 e2 s2
    generalize hS : strB r = SS at s1
    generalize hT : strB ((1 : Int) :: c :: d :: e :: data) = TT at s2
    simp only [tagV, floV] at h1 h2
    simp [c_law46_FabricPackets, hl, hw, h1, h2, e1, e2, b1, b2, s1, s2, evC_b2s, -evCall_b2s]
end Go.Av
