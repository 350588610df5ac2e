/-
  Lemmas for the law.
-/
import Derived.Test.YtdgpefplgldkfaaB11
set_option linter.unusedVariables false
set_option linter.unusedSimpArgs false
set_option linter.constructorNameAsVariable false
namespace Go.Av
set_option maxRecDepth 8000
def hdrs : List (List AV) := [hV nmBase nsBase, hV nmTag nsTag, hV nmFlow nsFlow]
theorem pv1_hdrs : pv1 = .slice 2 hdrs := rfl
theorem hdrs_len : hdrs.length = 3 := rfl
theorem extract_ok (objs : List (Nat × AO)) (n id t pos q vid fid : Nat) (data : List Int) (h : Nat) (nm : List UInt8) (names : List (List UInt8)) (s0 s2 s3 s4 s5 s6 e2 e3 : AV) (va fa : List (List AV)) (hT : Tail objs n) (hS : sweepL objs = objs)
    (hid : id < n) (hvid : vid < n) (hfid : fid < n) (hne1 : vid ≠ id) (hne2 : fid ≠ id) (hne3 : vid ≠ fid)
    (hn : look id objs = some (rdr data t q)) (hv : look vid objs = some (.row 1 va)) (hf : look fid objs = some (.row 1 fa)) (hva : va.length = 3) (hfa : fa.length = 3) (hq : q = 8 * pos)
    (hd : data.length ≤ 512) (hl : pos + names.length ≤ data.length) (hb : ∀ x ∈ data, 0 ≤ x ∧ x < 256)
    (v w : AV) (hvx : va[h]? = some [v]) (hfx : fa[h]? = some [w]) (hh : h < 3) (hhd : hdrs[h]? = some (hV nm names))
    (hc : pureI Φ f_header_Check [.agg (hV nm names)] = some (.val (.int .i64 0)))
    (hbits : pureI Φ f_header_Bits [.agg (hV nm names)] = some (.val (.int .i64 ((8 * names.length : Nat) : Int)))) :
    ∃ O N, callI Φ f_parser_extract [.agg pvA, .agg [s0, .slice 1 [[.int .i64 h]], s2, s3, s4, s5, s6], .agg [.row vid 1 0 3, .row fid 1 0 3, e2, e3], .ptr id 3 0 0] ⟨objs, n⟩ = some (.val (.int .i64 0), ⟨setl fid (.row 1 (fa.set h [.app 1 (((data.drop pos).take names.length).map c32) (n + 5)])) (setl vid (.row 1 (va.set h [.bool true])) O), N + 1⟩) ∧
      look id O = some (rdr data t (q + 8 * names.length)) ∧ look (n + 5) O = some (.tok 1 names.length) ∧ Tail O N ∧ sweepL O = O ∧ (∀ j, j < n → j ≠ id → look j O = look j objs) ∧ n + 6 ≤ N := by
  have tt : ∀ k, look (n + k) objs = none := fun k => hT _ (by omega)
  have t0 : look n objs = none := hT n (Nat.le_refl _)
  have w1 : IntKind.wrap .i64 1 = 1 := rfl
  have hvl : (hV nm names).length = 2 := rfl
  have hvt : (hV nm names).take 2 = hV nm names := rfl
  generalize hO1 : objs ++ [(n, AO.row 9 [[pv0, AV.slice 2 hdrs, pv2, pv3, pv4, pv5, pv6, pv7, pv8]]), (n + 1, AO.row 7 [[s0, AV.slice 1 [[AV.int IntKind.i64 h]], s2, s3, s4, s5, s6]]), (n + 2, AO.row 4 [[AV.row vid 1 0 3, AV.row fid 1 0 3, e2, e3]])] = O1
  have hn1 : look id O1 = some (rdr data t q) := by rw [← hO1]; exact look_head hn
  have hv1 : look vid O1 = some (.row 1 va) := by rw [← hO1]; exact look_head hv
  have hf1 : look fid O1 = some (.row 1 fa) := by rw [← hO1]; exact look_head hf
  have he1 : look (n + 2) O1 = some (AO.row 4 [[AV.row vid 1 0 3, AV.row fid 1 0 3, e2, e3]]) := by rw [← hO1]; simp [look_append2, tt]
  have hp1 : look n O1 = some (AO.row 9 [[pv0, AV.slice 2 hdrs, pv2, pv3, pv4, pv5, pv6, pv7, pv8]]) := by rw [← hO1]; simp [look_append2, t0]
  have hT1 : Tail O1 (n + 3) := by
    intro j hj
    have h0 := hT j (by omega)
    have h1 : ¬ (n = j) := by omega
    have h2 : ¬ (n + 1 = j) := by omega
    have h3 : ¬ (n + 2 = j) := by omega
    simp [← hO1, look_append2, h0, h1, h2, h3]
  have hS1 : sweepL O1 = O1 := by rw [← hO1, sweepL_app, hS]; simp
  obtain ⟨O, hcall, f1, f2, f3, f4, f5⟩ := header_Read_ex O1 (n + 3) id t pos q data nm names hT1 hS1 (by omega) hn1 hq hd hl hb hc hbits
  have hv2 : look vid O = some (.row 1 va) := by rw [f5 _ (by omega) hne1, hv1]
  have hf2 : look fid O = some (.row 1 fa) := by rw [f5 _ (by omega) hne2, hf1]
  have he2 : look (n + 2) O = some (AO.row 4 [[AV.row vid 1 0 3, AV.row fid 1 0 3, e2, e3]]) := by rw [f5 _ (by omega) (by omega), he1]
  have hvx2 : va[h]'(by omega) = [v] := (List.getElem?_eq_some_iff.1 hvx).2
  have hfx2 : fa[h]'(by omega) = [w] := (List.getElem?_eq_some_iff.1 hfx).2
  have hbv : ((n + 2 == vid) = false) := by simp; omega
  have hf3 : ∀ y, look fid (setl vid y O) = some (.row 1 fa) := fun y => by rw [look_setl, if_neg hne3, hf2]
  have hsw : ∀ x y, sweepL (setl fid (AO.row 1 x) (setl vid (AO.row 1 y) O)) = setl fid (AO.row 1 x) (setl vid (AO.row 1 y) O) := fun x y => sweepL_setl (by simp) (sweepL_setl (by simp) f4)
  generalize hNx : n + 3 + 3 + names.length = N at hcall f3
  refine ⟨O, N, ?_, f1, f2, f3, f4, ?_, by omega⟩
  rotate_left
  · intro j hj hji
    have h1 : ¬ (n = j) := by omega
    have h2 : ¬ (n + 1 = j) := by omega
    have h3 : ¬ (n + 2 = j) := by omega
    rw [f5 j (by omega) hji, ← hO1, look_append2]
    cases look j objs <;> simp [h1, h2, h3]
  rw [callI_go (fn := c_parser_extract) rfl rfl]
  obtain ⟨R, hR⟩ : ∃ R, R = some (Rt.val (.int .i64 0), (⟨setl fid (.row 1 (fa.set h [.app 1 (((data.drop pos).take names.length).map c32) (n + 5)])) (setl vid (.row 1 (va.set h [.bool true])) O), N + 1⟩ : AH)) := ⟨_, rfl⟩
  rw [← hR]
  simp only [pvA, pv1_hdrs]
  simp [c_parser_extract, t0, tt, Nat.add_assoc]
  rw [go_loop]
  simp [c_parser_extract_l0, t0, tt, Nat.add_assoc, hh, hhd, hdrs_len, hvl, hvt, hO1, hcall, hv2, hf2, he2, hp1, hvx, hfx, hvx2, hfx2, hva, hfa, hf3, hsw, w1, hbv]
  rw [go_loop]
  simp [c_parser_extract_k1]
  rw [hR]; simp
end Go.Av
