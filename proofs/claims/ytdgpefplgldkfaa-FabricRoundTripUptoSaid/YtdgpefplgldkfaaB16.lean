/-
  Lemmas for the law.
-/
import Derived.Test.YtdgpefplgldkfaaB15
set_option linter.unusedVariables false
set_option linter.unusedSimpArgs false
set_option linter.constructorNameAsVariable false
namespace Go.Av
set_option maxRecDepth 8000
def stL : List (List AV) := [stL0, stL1, stL2]
theorem pv6_stL : pv6 = .slice 7 stL := rfl
theorem stL_len : stL.length = 3 := rfl
theorem RunH.tok {O : List (Nat × AO)} {n : Nat} {data : List Int} {pos : Nat} {vs : List Bool} {fs : List AV} {gs : List (List Int)} {k : Nat} (h : RunH O n data pos vs fs gs k) (k' : Nat) : RunH (setl 129 (.tok 1 k') O) n data pos vs fs gs k' := by
  have hb := h.big
  have lk : ∀ j x, look j O = some x → j ≠ 129 → look j (setl 129 (.tok 1 k') O) = some x := by
    intro j x hx h1
    rw [look_setl, if_neg (by omega), hx]
  refine ⟨Tail_setl h.T, sweepL_setl (by simp) h.S, hb, ?_, ?_, ?_, ?_, ?_, ?_, ?_, ?_, ?_, h.lv, h.lf⟩
  · exact lk _ _ h.p (by omega)
  · exact lk _ _ h.rc (by omega)
  · exact lk _ _ h.ec (by omega)
  · exact lk _ _ h.r (by omega)
  · exact look_setl_same h.tk
  · exact lk _ _ h.va (by omega)
  · exact lk _ _ h.fa (by omega)
  · exact lk _ _ h.mt (by omega)
  · exact h.fok.mono (by intro j hj; rw [look_setl, if_neg (by omega)])
section
variable {data : List Int} {pos : Nat} {vs : List Bool} {fs : List AV} {gs : List (List Int)} {ents : List (List AV)} {K : List Fr} {rs : List ARes}
theorem round_ok {s h : Nat} {st : List AV} {nm : List UInt8} {names : List (List UInt8)} {s0 s2 s3 s4 s5 s6 : AV} {s' : Int} (hst : stL[s]? = some st) (hflat : ∀ x ∈ [s0, s2, s3, s4, s5, s6], ∀ k H, snap (k + 1) H x = some x) (hform : st = [s0, .slice 1 [[.int .i64 h]], s2, s3, s4, s5, s6]) (hh : h < 3) (hhd : hdrs[h]? = some (hV nm names))
    (hc : pureI Φ f_header_Check [.agg (hV nm names)] = some (.val (.int .i64 0)))
    (hbits : pureI Φ f_header_Bits [.agg (hV nm names)] = some (.val (.int .i64 ((8 * names.length : Nat) : Int))))
    (hd : data.length ≤ 512) (hl : pos + names.length ≤ data.length) (hb : ∀ x ∈ data, 0 ≤ x ∧ x < 256) (hen : ents.length < 1000)
    (hnx : pureI Φ f_parser_next [.agg st, .agg [.slice 1 ((vs.set h true).map fun b => [AV.bool b]), .slice 1 ((gs.set h ((data.drop pos).take names.length)).map fun g => [AV.slice 1 (g.map c32)]), .slice 1 meta0, .slice 1 []]] = some (.val (.int .i64 s')))
    {e : Env} {O : List (Nat × AO)} {n : Nat} (he : RunE e ents s) (hH : RunH O n data pos vs fs gs ents.length) {R : Option Rt}
    (next : ∀ e' O' n' t, RunE e' (ents ++ [[.int .i64 s]]) s' → RunH O' n' data (pos + names.length) (vs.set h true) (fs.set h (.app 1 (((data.drop pos).take names.length).map c32) t)) (gs.set h ((data.drop pos).take names.length)) (ents.length + 1) → go Φ (finP rs) (.c (.loop c_parser_run_l0) :: K) .normal ⟨e', ⟨O', n'⟩⟩ = R) :
    go Φ (finP rs) (.c (.loop c_parser_run_l0) :: K) .normal ⟨e, ⟨O, n⟩⟩ = R := by
  have hslt : s < 3 := by have := (List.getElem?_eq_some_iff.1 hst).1; rw [stL_len] at this; exact this
  have hH1 := hH.tok (ents.length + 1)
  obtain ⟨h2, h4, h7, h9, h10, h11⟩ := he
  have hvl := hH.lv
  have hfl := hH.lf
  obtain ⟨v, hv⟩ : ∃ v, (vs.map fun b => [AV.bool b])[h]? = some [v] := by
    have : h < (vs.map fun b => [AV.bool b]).length := by simp; omega
    exact ⟨_, by rw [List.getElem?_map, List.getElem?_eq_getElem (by omega)]; rfl⟩
  obtain ⟨w, hw⟩ : ∃ w, (fs.map fun f => [f])[h]? = some [w] := by
    exact ⟨_, by rw [List.getElem?_map, List.getElem?_eq_getElem (by omega)]; rfl⟩
  have hbig := hH.big
  obtain ⟨O', N, hcall, f1, f2, f3, f4, f5, f6⟩ := extract_ok (setl 129 (.tok 1 (ents.length + 1)) O) n 128 127 pos (8 * pos) 12 16 data h nm names s0 s2 s3 s4 s5 s6 (.row 20 1 0 4) (.fslice 1 []) (vs.map fun b => [.bool b]) (fs.map fun f => [f]) hH1.T hH1.S
    (by omega) (by omega) (by omega) (by omega) (by omega) (by omega) hH1.r hH1.va hH1.fa (by simp [hvl]) (by simp [hfl]) rfl hd hl hb v w hv hw hh hhd hc hbits
  have hH2 := hH1.step (hh := h) (g := (data.drop pos).take names.length) (t := n + 5) f1 f3 f4 f5 (by omega)
  have hset1 : (vs.map fun b => [AV.bool b]).set h [AV.bool true] = (vs.set h true).map fun b => [AV.bool b] := by simp [List.map_set]
  have hset2 : (fs.map fun f => [f]).set h [AV.app 1 (((data.drop pos).take names.length).map c32) (n + 5)] = (fs.set h (.app 1 (((data.drop pos).take names.length).map c32) (n + 5))).map fun f => [f] := by simp [List.map_set]
  rw [hset1, hset2] at hcall
  generalize hO2 : setl 16 (AO.row 1 ((fs.set h (.app 1 (((data.drop pos).take names.length).map c32) (n + 5))).map fun f => [f])) (setl 12 (AO.row 1 ((vs.set h true).map fun b => [AV.bool b])) O') = O2 at hcall hH2
  have hT2 : RunH O2 (N + 1) data (pos + names.length) (vs.set h true) (fs.set h (.app 1 (((data.drop pos).take names.length).map c32) (n + 5))) (gs.set h ((data.drop pos).take names.length)) (ents.length + 1) := { hH2 with T := hH2.T.mono (by omega), big := by have := hH2.big; omega }
  have sn1 : ∀ k m, mapO (mapO (snap (k + 1) ⟨O2, m⟩)) ((vs.set h true).map fun b => [AV.bool b]) = some ((vs.set h true).map fun b => [AV.bool b]) := fun k m => snap_bools _
  have sn2 := fun k m => hT2.fok.snap k m
  have tk1 : ((vs.set h true).map fun b => [AV.bool b]).take 3 = (vs.set h true).map fun b => [AV.bool b] := List.take_of_length_le (by simp [hvl])
  have tk2 : ((fs.set h (.app 1 (((data.drop pos).take names.length).map c32) (n + 5))).map fun f => [f]).take 3 = (fs.set h (.app 1 (((data.drop pos).take names.length).map c32) (n + 5))).map fun f => [f] := List.take_of_length_le (by simp [hfl])
  have q1 := hH1.p
  have q2 := hH1.ec
  have q3 := hT2.p
  have q4 := hT2.ec
  have q5 := hT2.va
  have q6 := hT2.fa
  have q7 := hT2.mt
  have q0 := hH.tk
  have hst2 : stL[s]'(by rw [stL_len]; exact hslt) = st := (List.getElem?_eq_some_iff.1 hst).2
  have hstl : st.length = 7 := by rw [hform]; rfl
  have hen' : (ents.length + 1) * 8 ≤ 70368744177664 := by omega
  rw [hform] at hst hst2 hnx
  have e0 := hflat s0 (by simp)
  have e2 := hflat s2 (by simp)
  have e3 := hflat s3 (by simp)
  have e4 := hflat s4 (by simp)
  have e5 := hflat s5 (by simp)
  have e6 := hflat s6 (by simp)
  have lv3 : ((vs.set h true).map fun b => [AV.bool b]).length = 3 := by simp [hvl]
  have lf3 : ((fs.set h (.app 1 (((data.drop pos).take names.length).map c32) (n + 5))).map fun f => [f]).length = 3 := by simp [hfl]
  have m1 : meta0.length = 4 := rfl
  have m2 : meta0.take 4 = meta0 := rfl
  have m3 : ∀ k m, mapO (mapO (snap (k + 1) ⟨O2, m⟩)) meta0 = some meta0 := fun k m => by simp [meta0]
  generalize hVA : ((vs.set h true).map fun b => [AV.bool b]) = VA at q5 sn1 tk1 hnx lv3
  generalize hFA : ((fs.set h (.app 1 (((data.drop pos).take names.length).map c32) (n + 5))).map fun f => [f]) = FA at q6 sn2 tk2 lf3
  generalize hGA : ((gs.set h ((data.drop pos).take names.length)).map fun g => [AV.slice 1 (g.map c32)]) = GA at sn2 hnx
  rw [go_loop]
  generalize hL : (Fr.c (.loop c_parser_run_l0) :: K) = L
  simp only [pvA, pv6_stL] at q1 q3 hcall
  simp only [eV] at q2 q4
  simp [c_parser_run_l0, h2, h4, h7, h9, h10, h11, q0, q1, q2, q3, q4, q5, q6, q7, hst, hst2, hslt, stL_len, hcall, hnx, sn1, sn2, tk1, tk2, lv3, lf3, m1, m2, m3, hen', e0, e2, e3, e4, e5, e6]
  rw [← hL]
  refine next _ _ _ _ ?_ hT2
  simp [RunE, h2, h4, h7, h9]
end
end Go.Av
