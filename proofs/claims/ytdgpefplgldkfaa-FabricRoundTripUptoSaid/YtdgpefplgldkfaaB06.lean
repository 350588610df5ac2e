/-
  Lemmas for the law.
-/
import Derived.Test.YtdgpefplgldkfaaB05
set_option linter.unusedVariables false
set_option linter.unusedSimpArgs false
set_option linter.constructorNameAsVariable false
namespace Go.Av
set_option maxRecDepth 8000
def hF (names : List (List UInt8)) : List (List AV) := names.map (fun s => [.str s, .int .i64 8])
def hV (nm : List UInt8) (names : List (List UInt8)) : List AV := [.str nm, .slice 2 (hF names)]
def hO (data : List Int) (pos n : Nat) (nm : List UInt8) (names : List (List UInt8)) (objs : List (Nat × AO)) : List (Nat × AO) :=
  objs ++ [(n, .row 2 [hV nm names]), (n + 1, .tok 1 (data.length - pos)), (n + 2, .tok 1 0)]
def hRd (data : List Int) (t pos q id n : Nat) (nm : List UInt8) (names : List (List UInt8)) (objs : List (Nat × AO)) : Nat → List (Nat × AO) :=
  hH data t q id (n + 1) (fun k => [.str (names.getD k []), .int .i64 8]) (hO data pos n nm names objs)
theorem header_Read_ok (objs : List (Nat × AO)) (n id t pos q : Nat) (data : List Int) (nm : List UInt8) (names : List (List UInt8)) (hT : Tail objs n) (hid : id < n) (hn : look id objs = some (rdr data t q)) (hq : q = 8 * pos)
    (hd : data.length ≤ 512) (hl : pos + names.length ≤ data.length) (hb : ∀ x ∈ data, 0 ≤ x ∧ x < 256)
    (hc : pureI Φ f_header_Check [.agg (hV nm names)] = some (.val (.int .i64 0)))
    (hbits : pureI Φ f_header_Bits [.agg (hV nm names)] = some (.val (.int .i64 ((8 * names.length : Nat) : Int)))) :
    callI Φ f_header_Read [.agg (hV nm names), .ptr id 3 0 0] ⟨objs, n⟩ = some (.val (.tup [.app 1 (((data.drop pos).take names.length).map c32) (n + 2), .int .i64 0]), ⟨hRd data t pos q id n nm names objs names.length, n + 3 + names.length⟩) := by
  rw [callI_go (fn := c_header_Read) rfl rfl]
  have hT0 := hT n (Nat.le_refl _)
  have hTb : Tail (objs ++ [(n, AO.row 2 [hV nm names])]) (n + 1) := by
    intro j hj
    have := hT j (by omega)
    have hne : ¬ (n = j) := by omega
    simp [look_append2, this, hne]
  have hR0 := Rest_ok (objs ++ [(n, AO.row 2 [hV nm names])]) (n + 1) id t pos q data hTb (look_head hn) hq (by omega) (by omega)
  have hrem := Reader_Remaining_ok (data.map c8) q (by simp; omega) (by simp; omega)
  simp only [List.length_map] at hrem
  have hb0 : look n (objs ++ [(n, AO.row 2 [hV nm names]), (n + 1, AO.tok 1 (data.length - pos))]) = some (AO.row 2 [hV nm names]) := by
    simp [look_append2, hT0]
  have hn1 : look id (objs ++ [(n, AO.row 2 [hV nm names]), (n + 1, AO.tok 1 (data.length - pos))]) = some (rdr data t q) := look_head hn
  have hT1 : look (n + 2) (objs ++ [(n, AO.row 2 [hV nm names]), (n + 1, AO.tok 1 (data.length - pos))]) = none := by
    have := hT (n + 2) (by omega)
    simp [look_append2, this]
  have hT3 : look (n + 1) (objs ++ [(n, AO.row 2 [hV nm names])]) = none := hTb _ (Nat.le_refl _)
  unfold rdr at hn1
  have hle : ¬ (((8 * data.length - q : Nat) : Int) < 8 * (names.length : Int)) := by omega
  obtain ⟨R, hR⟩ : ∃ R, R = some (Rt.val (.tup [.app 1 (((data.drop pos).take names.length).map c32) (n + 2), .int .i64 0]), (⟨hRd data t pos q id n nm names objs names.length, n + 3 + names.length⟩ : AH)) := ⟨_, rfl⟩
  rw [← hR]
  unfold hV at hc hbits hR0 hb0 hn1 hT1
  simp [c_header_Read, hV, hc, hbits, hR0, hn1, hrem, hT0, hT1, hb0, hle]
  have hfa := hH_facts (data := data) (t := t) (q := q) (id := id) (n := n + 1) (fs := fun k => [.str (names.getD k []), .int .i64 8]) (O := hO data pos n nm names objs) (look_head hn)
    (by have := hT (n + 2) (by omega); show look (n + 2) _ = _; simp [hO, look_append2, this])
    (by
      intro j hj
      have h0 := hT j (by omega)
      have h1 : ¬ (n = j) := by omega
      have h2 : ¬ (n + 1 = j) := by omega
      have h3 : ¬ (n + 2 = j) := by omega
      simp [hO, look_append2, h0, h1, h2, h3]) (by omega)
  refine (loop_nat names.length (fun k e h => look 1 e = some (.ptr id 3 0 0) ∧ look 9 e = some (.app 1 (((data.drop pos).take k).map c32) (n + 2)) ∧ look 32 e = some (.slice 2 (hF names)) ∧ look 33 e = some (.int .i64 (names.length : Nat)) ∧ look 34 e = some (.int .i64 (k : Nat)) ∧ h = ⟨hRd data t pos q id n nm names objs k, n + 3 + k⟩)
    (fun k => R) ?_ ?_ 0 _ _ (Nat.zero_le _) ?_)
  · rintro k e _ L hk hL ⟨h1, h9, h32, h33, h34, rfl⟩ ih
    obtain ⟨f1, f2, f3, -⟩ := hfa k
    have hx : data[pos + k]? = some (data[pos + k]'(by omega)) := List.getElem?_eq_getElem (by omega)
    have hm : data[pos + k]'(by omega) ∈ data := List.getElem_mem _
    obtain ⟨b, hbe⟩ : ∃ b : Nat, data[pos + k]'(by omega) = (b : Int) := ⟨(data[pos + k]'(by omega)).toNat, by have := (hb _ hm).1; omega⟩
    rw [hbe] at hx
    have hb2 : b < 256 := by have := (hb _ hm).2; rw [hbe] at this; omega
    change look id (hRd data t pos q id n nm names objs k) = _ at f1
    change look (n + 2) (hRd data t pos q id n nm names objs k) = _ at f2
    change Tail (hRd data t pos q id n nm names objs k) _ at f3
    have f4 : look (n + 3 + k) (hRd data t pos q id n nm names objs k) = none := f3 _ (by omega)
    have hs : hRd data t pos q id n nm names objs (k + 1) = setl (n + 2) (.tok 1 (k + 1)) (setl id (rdr data t (q + 8 * (k + 1))) (hRd data t pos q id n nm names objs k ++ [(n + 3 + k, .row 2 [[.str (names.getD k []), .int .i64 8]])])) := by
      have e3 : n + 1 + 2 + k = n + 3 + k := by omega
      simp [hRd, hH, e3]
    have hw : IntKind.wrap .i64 ((k : Int) + 1) = ((k + 1 : Nat) : Int) := wrap64 (by omega) (by omega)
    have hrb := ReadBits_ok (hRd data t pos q id n nm names objs k ++ [(n + 3 + k, .row 2 [[.str (names.getD k []), .int .i64 8]])]) (n + 3 + k + 1) id t (pos + k) (q + 8 * k) b data (look_head f1) (by omega) hx hb2 (by omega)
    have hfk : (hF names)[k]? = some [.str (names.getD k []), .int .i64 8] := by simp [hF, hk]
    have g2 : look (n + 2) (setl id (rdr data t (q + 8 * k + 8)) (hRd data t pos q id n nm names objs k ++ [(n + 3 + k, .row 2 [[.str (names.getD k []), .int .i64 8]])])) = some (.tok 1 k) := by
      rw [look_setl, if_neg (by omega)]; exact look_head f2
    have htk : (data.drop pos).take (k + 1) = (data.drop pos).take k ++ [(b : Int)] := by
      rw [List.take_add_one, List.getElem?_drop, hx]; rfl
    have hlen : (hF names).length = names.length := by simp [hF]
    have hfk2 : (hF names)[k]'(by rw [hlen]; exact hk) = [.str (names.getD k []), .int .i64 8] := by simp [hF, hk]
    have hmin : min k (data.length - pos) = k := by omega
    have hbd : (k + 1) * 4 ≤ 70368744177664 := by omega
    have htk2 : ((data.map c32).drop pos).take (k + 1) = ((data.map c32).drop pos).take k ++ [[.int .u32 (b : Int)]] := by
      rw [← List.map_drop, ← List.map_take, htk, List.map_append, ← List.map_take]; rfl
    generalize hN : names.getD k [] = nk at hs hrb hfk hfk2 g2
    generalize hO2 : hRd data t pos q id n nm names objs k = O at *
    simp [c_header_Read_l0, h1, h9, h32, h33, h34, hk, hL, hfk, hfk2, hlen, f4, hrb, g2, hmin, hbd, hw]
    refine ih _ _ ⟨by simp [h1], by simp [htk2], by simp [h32], by simp [h33], by simp, ?_⟩
    have e9 : q + 8 * (k + 1) = q + 8 * k + 8 := by omega
    have e10 : n + 3 + (k + 1) = n + 3 + k + 1 := by omega
    rw [hs, e9, e10]
  · rintro e _ L hL ⟨h1, h9, h32, h33, h34, rfl⟩
    rw [hR]
    simp [c_header_Read_l0, c_header_Read_k1, h1, h9, h32, h33, h34, hL]
  · simp [hRd, hH, hO, hF, hV]
end Go.Av
