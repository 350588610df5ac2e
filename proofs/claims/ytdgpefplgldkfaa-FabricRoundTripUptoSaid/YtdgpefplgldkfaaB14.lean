/-
  Lemmas for the law.
-/
import Derived.Test.YtdgpefplgldkfaaB13
set_option linter.unusedVariables false
set_option linter.unusedSimpArgs false
set_option linter.constructorNameAsVariable false
namespace Go.Av
set_option maxRecDepth 8000
theorem extract_short (objs : List (Nat × AO)) (n id t pos q vid fid : Nat) (data : List Int) (h : Nat) (nm : List UInt8) (names : List (List UInt8)) (s0 s2 s3 s4 s5 s6 e2 e3 : AV) (hT : Tail objs n)
    (hid : id < n) (hn : look id objs = some (rdr data t q)) (hq : q = 8 * pos)
    (hd : data.length ≤ 512) (hp : pos ≤ data.length) (hl : data.length < pos + names.length) (hh : h < 3) (hhd : hdrs[h]? = some (hV nm names))
    (hc : pureI Φ f_header_Check [.agg (hV nm names)] = some (.val (.int .i64 0)))
    (hbits : pureI Φ f_header_Bits [.agg (hV nm names)] = some (.val (.int .i64 ((8 * names.length : Nat) : Int)))) :
    ∃ A, callI Φ f_parser_extract [.agg pvA, .agg [s0, .slice 1 [[.int .i64 h]], s2, s3, s4, s5, s6], .agg [.row vid 1 0 3, .row fid 1 0 3, e2, e3], .ptr id 3 0 0] ⟨objs, n⟩ = some (.val (.int .i64 3), ⟨objs ++ A, n + 5⟩) ∧ Tail (objs ++ A) (n + 5) ∧ sweepL A = A := by
  have tt : ∀ k, look (n + k) objs = none := fun k => hT _ (by omega)
  have t0 : look n objs = none := hT n (Nat.le_refl _)
  have hvl : (hV nm names).length = 2 := rfl
  have hvt : (hV nm names).take 2 = hV nm names := rfl
  generalize hO1 : objs ++ [(n, AO.row 9 [[pv0, AV.slice 2 hdrs, pv2, pv3, pv4, pv5, pv6, pv7, pv8]]), (n + 1, AO.row 7 [[s0, AV.slice 1 [[AV.int IntKind.i64 h]], s2, s3, s4, s5, s6]]), (n + 2, AO.row 4 [[AV.row vid 1 0 3, AV.row fid 1 0 3, e2, e3]])] = O1
  have hn1 : look id O1 = some (rdr data t q) := by rw [← hO1]; exact look_head hn
  have hp1 : look n O1 = some (AO.row 9 [[pv0, AV.slice 2 hdrs, pv2, pv3, pv4, pv5, pv6, pv7, pv8]]) := by rw [← hO1]; simp [look_append2, t0]
  have hT1 : Tail O1 (n + 3) := by
    intro j hj
    have h0 := hT j (by omega)
    have h1 : ¬ (n = j) := by omega
    have h2 : ¬ (n + 1 = j) := by omega
    have h3 : ¬ (n + 2 = j) := by omega
    simp [← hO1, look_append2, h0, h1, h2, h3]
  have hcall := header_Read_short O1 (n + 3) id t pos q data nm names hT1 (by omega) hn1 hq hd hp hl hc hbits
  refine ⟨[(n, AO.row 9 [pvA]), (n + 1, AO.row 7 [[s0, AV.slice 1 [[AV.int IntKind.i64 h]], s2, s3, s4, s5, s6]]), (n + 2, AO.row 4 [[AV.row vid 1 0 3, AV.row fid 1 0 3, e2, e3]]), (n + 3, .row 2 [hV nm names]), (n + 3 + 1, .tok 1 (data.length - pos))], ?_, ?_, by simp⟩
  · rw [callI_go (fn := c_parser_extract) rfl rfl]
    simp only [pvA, pv1_hdrs]
    simp [c_parser_extract, t0, tt, Nat.add_assoc]
    rw [go_loop]
    simp only [Nat.add_assoc, Nat.reduceAdd] at hcall
    simp [c_parser_extract_l0, t0, tt, Nat.add_assoc, hh, hhd, hdrs_len, hvl, hvt, hO1, hcall, hp1]
    simp [← hO1]
  · intro j hj
    have h0 := hT j (by omega)
    have h1 : ¬ (n = j) := by omega
    have h2 : ¬ (n + 1 = j) := by omega
    have h3 : ¬ (n + 2 = j) := by omega
    have h4 : ¬ (n + 3 = j) := by omega
    have h5 : ¬ (n + 4 = j) := by omega
    simp [look_append2, h0, h1, h2, h3, h4, h5]
end Go.Av
