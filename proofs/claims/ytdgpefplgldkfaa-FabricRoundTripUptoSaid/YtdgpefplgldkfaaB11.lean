/-
  Lemmas for the law.
-/
import Derived.Test.YtdgpefplgldkfaaB10
set_option linter.unusedVariables false
set_option linter.unusedSimpArgs false
set_option linter.constructorNameAsVariable false
namespace Go.Av
set_option maxRecDepth 8000
theorem header_Read_short (objs : List (Nat × AO)) (n id t pos q : Nat) (data : List Int) (nm : List UInt8) (names : List (List UInt8)) (hT : Tail objs n) (hid : id < n) (hn : look id objs = some (rdr data t q)) (hq : q = 8 * pos)
    (hd : data.length ≤ 512) (hp : pos ≤ data.length) (hl : data.length < pos + names.length)
    (hc : pureI Φ f_header_Check [.agg (hV nm names)] = some (.val (.int .i64 0)))
    (hbits : pureI Φ f_header_Bits [.agg (hV nm names)] = some (.val (.int .i64 ((8 * names.length : Nat) : Int)))) :
    callI Φ f_header_Read [.agg (hV nm names), .ptr id 3 0 0] ⟨objs, n⟩ = some (.val (.tup [.fslice 1 [], .int .i64 3]), ⟨objs ++ [(n, .row 2 [hV nm names]), (n + 1, .tok 1 (data.length - pos))], n + 2⟩) := by
  rw [callI_go (fn := c_header_Read) rfl rfl]
  have hT0 := hT n (Nat.le_refl _)
  have hTb : Tail (objs ++ [(n, AO.row 2 [hV nm names])]) (n + 1) := by
    intro j hj
    have := hT j (by omega)
    have hne : ¬ (n = j) := by omega
    simp [look_append2, this, hne]
  have hR0 := Rest_ok (objs ++ [(n, AO.row 2 [hV nm names])]) (n + 1) id t pos q data hTb (look_head hn) hq (by omega) (by omega)
  have hrem := Reader_Remaining_ok (data.map c8) q (by simp; omega) (by simp; omega)
  simp only [List.length_map] at hrem
  have hb0 : look n (objs ++ [(n, AO.row 2 [hV nm names]), (n + 1, AO.tok 1 (data.length - pos))]) = some (AO.row 2 [hV nm names]) := by
    simp [look_append2, hT0]
  have hn1 : look id (objs ++ [(n, AO.row 2 [hV nm names]), (n + 1, AO.tok 1 (data.length - pos))]) = some (rdr data t q) := look_head hn
  unfold rdr at hn1
  have hle : (((8 * data.length - q : Nat) : Int) < 8 * (names.length : Int)) := by omega
  unfold hV at hc hbits hR0 hb0 hn1
  simp [c_header_Read, hV, hc, hbits, hR0, hn1, hrem, hT0, hb0, hle]
end Go.Av
