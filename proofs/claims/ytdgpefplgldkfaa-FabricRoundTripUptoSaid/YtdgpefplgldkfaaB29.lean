/-
  Lemmas for the law.
-/
import Derived.Test.YtdgpefplgldkfaaB28
set_option linter.unusedVariables false
set_option linter.unusedSimpArgs false
set_option linter.constructorNameAsVariable false
namespace Go.Av
set_option maxRecDepth 8000
def u8w (x : Int) : Int := IntKind.wrap .u8 x
def tagV (t : Bool) (v l : Int) : AV := .agg [.bool t, .int .u8 (u8w v), .int .u8 (u8w l)]
def floV (x y z : Int) : AV := .agg [.int .u8 (u8w x), .int .u8 (u8w y), .int .u8 (u8w z)]
theorem Dec_err (data : List Int) (hd : data.length ≤ 1048576) (hb : ∀ x ∈ data, 0 ≤ x ∧ x < 256) (e : Int) (he : e ≠ 0) (hp : parR data = (eZl, e)) :
    pureI Φ f_fabric_DecodePacket [.slice 1 (data.map c8)] = some (.val (.tup [tagV false 0 0, floV 0 0 0, .slice 1 [], .int .i64 e])) ∧
    pureI Φ f_ref46_DecodePacket [.slice 1 (data.map c8)] = some (.val (.tup [tagV false 0 0, floV 0 0 0, .slice 1 [], .int .i64 e])) := by
  have h1 := Parse_ok data hd hb
  have h2 := rParse_ok data hd hb
  have p1 := fabric_Program_ok
  have p2 := ref46_Program_ok
  have u0 : u8w 0 = 0 := rfl
  rw [hp] at h1 h2
  simp only [pvA, eZl] at h1 h2 p1 p2
  constructor
  · rw [pureI_go (fn := c_fabric_DecodePacket) rfl rfl]
    simp [c_fabric_DecodePacket, h1, p1, he, tagV, floV, u0]
  · rw [pureI_go (fn := c_ref46_DecodePacket) rfl rfl]
    simp [c_ref46_DecodePacket, h2, p2, he, tagV, floV, u0]
theorem Dec_ok (data : List Int) (hd : data.length ≤ 1048576) (hb : ∀ x ∈ data, 0 ≤ x ∧ x < 256) (t : Bool) (k v l x y z : Int) (r : List Int) (hp : parR data = (okE [true, t, true] [[k], [v, l], [x, y, z]] r, 0)) :
    pureI Φ f_fabric_DecodePacket [.slice 1 (data.map c8)] = some (.val (.tup [tagV t v l, floV x y z, .slice 1 (r.map c8), .int .i64 0])) ∧
    pureI Φ f_ref46_DecodePacket [.slice 1 (data.map c8)] = some (.val (.tup [tagV t v l, floV x y z, .slice 1 (r.map c8), .int .i64 0])) := by
  have h1 := Parse_ok data hd hb
  have h2 := rParse_ok data hd hb
  have p1 := fabric_Program_ok
  have p2 := ref46_Program_ok
  rw [hp] at h1 h2
  simp only [pvA, okE, List.map_cons, List.map_nil, c32] at h1 h2 p1 p2
  generalize r.map c8 = rr at h1 h2 ⊢
  have g10 : pureI Φ f_fabric_DecodePacket_1 [.int .i64 1, .int .i64 0, .iptr 4 [[.slice 1 [[.bool true], [.bool t], [.bool true]], .slice 1 [[.slice 1 [[.int .u32 k]]], [.slice 1 [[.int .u32 v], [.int .u32 l]]], [.slice 1 [[.int .u32 x], [.int .u32 y], [.int .u32 z]]]], .slice 1 meta0, .slice 1 rr]] 0 0] = some (.val (.int .u8 (u8w v))) := by
    rw [pureI_go (fn := c_fabric_DecodePacket_1) rfl rfl]; simp [c_fabric_DecodePacket_1, u8w]
  have g11 : pureI Φ f_fabric_DecodePacket_1 [.int .i64 1, .int .i64 1, .iptr 4 [[.slice 1 [[.bool true], [.bool t], [.bool true]], .slice 1 [[.slice 1 [[.int .u32 k]]], [.slice 1 [[.int .u32 v], [.int .u32 l]]], [.slice 1 [[.int .u32 x], [.int .u32 y], [.int .u32 z]]]], .slice 1 meta0, .slice 1 rr]] 0 0] = some (.val (.int .u8 (u8w l))) := by
    rw [pureI_go (fn := c_fabric_DecodePacket_1) rfl rfl]; simp [c_fabric_DecodePacket_1, u8w]
  have g20 : pureI Φ f_fabric_DecodePacket_1 [.int .i64 2, .int .i64 0, .iptr 4 [[.slice 1 [[.bool true], [.bool t], [.bool true]], .slice 1 [[.slice 1 [[.int .u32 k]]], [.slice 1 [[.int .u32 v], [.int .u32 l]]], [.slice 1 [[.int .u32 x], [.int .u32 y], [.int .u32 z]]]], .slice 1 meta0, .slice 1 rr]] 0 0] = some (.val (.int .u8 (u8w x))) := by
    rw [pureI_go (fn := c_fabric_DecodePacket_1) rfl rfl]; simp [c_fabric_DecodePacket_1, u8w]
  have g21 : pureI Φ f_fabric_DecodePacket_1 [.int .i64 2, .int .i64 1, .iptr 4 [[.slice 1 [[.bool true], [.bool t], [.bool true]], .slice 1 [[.slice 1 [[.int .u32 k]]], [.slice 1 [[.int .u32 v], [.int .u32 l]]], [.slice 1 [[.int .u32 x], [.int .u32 y], [.int .u32 z]]]], .slice 1 meta0, .slice 1 rr]] 0 0] = some (.val (.int .u8 (u8w y))) := by
    rw [pureI_go (fn := c_fabric_DecodePacket_1) rfl rfl]; simp [c_fabric_DecodePacket_1, u8w]
  have g22 : pureI Φ f_fabric_DecodePacket_1 [.int .i64 2, .int .i64 2, .iptr 4 [[.slice 1 [[.bool true], [.bool t], [.bool true]], .slice 1 [[.slice 1 [[.int .u32 k]]], [.slice 1 [[.int .u32 v], [.int .u32 l]]], [.slice 1 [[.int .u32 x], [.int .u32 y], [.int .u32 z]]]], .slice 1 meta0, .slice 1 rr]] 0 0] = some (.val (.int .u8 (u8w z))) := by
    rw [pureI_go (fn := c_fabric_DecodePacket_1) rfl rfl]; simp [c_fabric_DecodePacket_1, u8w]
  constructor
  · rw [pureI_go (fn := c_fabric_DecodePacket) rfl rfl]
    simp [c_fabric_DecodePacket, h1, p1, tagV, floV, g10, g11, g20, g21, g22]
  · rw [pureI_go (fn := c_ref46_DecodePacket) rfl rfl]
    simp [c_ref46_DecodePacket, h2, p2, tagV, floV]
    simp [u8w]
theorem Enc_ok (x y z : Int) (l : List (List AV)) (hl : l.length ≤ 1048576) (ha : allLen 1 l = true) : pureI Φ f_fabric_EncodePacket [.agg [.int .u8 x, .int .u8 y, .int .u8 z], .slice 1 l] = some (.val (.slice 1 ([[.int .u8 1], [.int .u8 x], [.int .u8 y], [.int .u8 z]] ++ l))) := by
  rw [pureI_go (fn := c_fabric_EncodePacket) rfl rfl]
  have hb : 4 + l.length ≤ 70368744177664 := by omega
  simp [c_fabric_EncodePacket, ha, hb]
theorem rEnc_ok (x y z : Int) (l : List (List AV)) (hl : l.length ≤ 1048576) (ha : allLen 1 l = true) : pureI Φ f_ref46_EncodePacket [.agg [.int .u8 x, .int .u8 y, .int .u8 z], .slice 1 l] = some (.val (.slice 1 ([[.int .u8 1], [.int .u8 x], [.int .u8 y], [.int .u8 z]] ++ l))) := by
  rw [pureI_go (fn := c_ref46_EncodePacket) rfl rfl]
  have hb : 4 + l.length ≤ 70368744177664 := by omega
  simp [c_ref46_EncodePacket, ha, hb]
end Go.Av
