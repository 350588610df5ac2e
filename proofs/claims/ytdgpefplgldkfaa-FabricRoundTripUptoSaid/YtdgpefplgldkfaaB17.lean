/-
  Lemmas for the law.
-/
import Derived.Test.YtdgpefplgldkfaaB16
set_option linter.unusedVariables false
set_option linter.unusedSimpArgs false
set_option linter.constructorNameAsVariable false
namespace Go.Av
set_option maxRecDepth 8000
def rsRun : List ARes := [.cell 4 true 4, .tmp 5, .tmp 6]
def eZ : AV := .agg [.slice 1 [[.bool false], [.bool false], [.bool false]], .slice 1 [[.slice 1 [[.int .u32 0]]], [.slice 1 [[.int .u32 0], [.int .u32 0]]], [.slice 1 [[.int .u32 0], [.int .u32 0], [.int .u32 0]]]], .slice 1 meta0, .slice 1 []]
-- what a fresh environment reads as
theorem eV_snap {O : List (Nat × AO)} {n : Nat} (hT : Tail O n) (hn : 130 ≤ n) (c : AO) (k m : Nat) : snap (k + 4) ⟨setl 1 c (O ++ eO n), m⟩ (.agg (eV n)) = some eZ := by
  have t : ∀ k, look (n + k) O = none := fun k => hT _ (by omega)
  have t0 : look n O = none := hT n (Nat.le_refl _)
  have l10 : look (n + 10) (setl 1 c (O ++ eO n)) = some (.row 1 [[.bool false], [.bool false], [.bool false]]) := by rw [look_setl, if_neg (by omega)]; simp [look_append2, eO, t, t0]
  have l14 : look (n + 14) (setl 1 c (O ++ eO n)) = some (.row 1 [[.row (n + 53) 1 0 1], [.row (n + 88) 1 0 2], [.row (n + 123) 1 0 3]]) := by rw [look_setl, if_neg (by omega)]; simp [look_append2, eO, t, t0]
  have l18 : look (n + 18) (setl 1 c (O ++ eO n)) = some (.row 1 [[.int .u32 0], [.int .u32 0], [.int .u32 0], [.int .u32 0]]) := by rw [look_setl, if_neg (by omega)]; simp [look_append2, eO, t, t0]
  have l53 : look (n + 53) (setl 1 c (O ++ eO n)) = some (.row 1 [[.int .u32 0]]) := by rw [look_setl, if_neg (by omega)]; simp [look_append2, eO, t, t0]
  have l88 : look (n + 88) (setl 1 c (O ++ eO n)) = some (.row 1 [[.int .u32 0], [.int .u32 0]]) := by rw [look_setl, if_neg (by omega)]; simp [look_append2, eO, t, t0]
  have l123 : look (n + 123) (setl 1 c (O ++ eO n)) = some (.row 1 [[.int .u32 0], [.int .u32 0], [.int .u32 0]]) := by rw [look_setl, if_neg (by omega)]; simp [look_append2, eO, t, t0]
  simp [eV, l10, l14, l18, l53, l88, l123, eZ, meta0]
section
variable {data : List Int} {pos : Nat} {vs : List Bool} {fs : List AV} {gs : List (List Int)} {ents : List (List AV)}
theorem round_short {s h : Nat} {st : List AV} {nm : List UInt8} {names : List (List UInt8)} {s0 s2 s3 s4 s5 s6 : AV} (hst : stL[s]? = some st) (hform : st = [s0, .slice 1 [[.int .i64 h]], s2, s3, s4, s5, s6]) (hh : h < 3) (hhd : hdrs[h]? = some (hV nm names))
    (hc : pureI Φ f_header_Check [.agg (hV nm names)] = some (.val (.int .i64 0)))
    (hbits : pureI Φ f_header_Bits [.agg (hV nm names)] = some (.val (.int .i64 ((8 * names.length : Nat) : Int))))
    (hd : data.length ≤ 512) (hp : pos ≤ data.length) (hl : data.length < pos + names.length) (hen : ents.length < 1000)
    {e : Env} {O : List (Nat × AO)} {n : Nat} (he : RunE e ents s) (hH : RunH O n data pos vs fs gs ents.length) :
    go Φ (finP rsRun) [.c (.loop c_parser_run_l0), .b 0, .c c_parser_run_k1] .normal ⟨e, ⟨O, n⟩⟩ = some (.val (.tup [eZ, .slice 1 (ents ++ [[.int .i64 s]]), .int .i64 3])) := by
  have hslt : s < 3 := by have := (List.getElem?_eq_some_iff.1 hst).1; rw [stL_len] at this; exact this
  have hH1 := hH.tok (ents.length + 1)
  obtain ⟨h2, h4, h7, h9, h10, h11⟩ := he
  have hbig := hH.big
  obtain ⟨A, hcall, hT2, hS2⟩ := extract_short (setl 129 (.tok 1 (ents.length + 1)) O) n 128 127 pos (8 * pos) 12 16 data h nm names s0 s2 s3 s4 s5 s6 (.row 20 1 0 4) (.fslice 1 []) hH1.T (by omega) hH1.r rfl hd hp hl hh hhd hc hbits
  have hS3 : sweepL (setl 129 (.tok 1 (ents.length + 1)) O ++ A) = setl 129 (.tok 1 (ents.length + 1)) O ++ A := by rw [sweepL_app, hH1.S, hS2]
  have hnew := env_New_ok (setl 129 (.tok 1 (ents.length + 1)) O ++ A) (n + 5) hT2 hS3
  have q1 := hH1.p
  have q2 := hH1.ec
  have q0 := hH.tk
  have q3 : look 0 (setl 129 (AO.tok 1 (ents.length + 1)) O ++ A) = _ := look_head q1
  have q4 : look 1 (setl 129 (AO.tok 1 (ents.length + 1)) O ++ A) = _ := look_head hH1.rc
  generalize hOA : setl 129 (AO.tok 1 (ents.length + 1)) O ++ A = OA at hcall hT2 hS3 hnew q3 q4
  have q5 : look 1 (OA ++ eO (n + 5)) = _ := look_head q4
  have hst2 : stL[s]'(by rw [stL_len]; exact hslt) = st := (List.getElem?_eq_some_iff.1 hst).2
  have hstl : st.length = 7 := by rw [hform]; rfl
  have hen' : (ents.length + 1) * 8 ≤ 70368744177664 := by omega
  rw [hform] at hst hst2
  have sn := fun c k m => eV_snap hT2 (by omega : 130 ≤ n + 5) c k m
  have l4 : (eV (n + 5)).length = 4 := rfl
  have tk : (eV (n + 5)).take 4 = eV (n + 5) := rfl
  have lz : z4.length = 4 := rfl
  have tz : z4.drop 4 = [] := rfl
  have st1 : ∀ y, look 1 (setl 1 y (OA ++ eO (n + 5))) = some y := fun y => look_setl_same q5
  rw [go_loop]
  simp only [pvA, pv6_stL] at q1 q3 hcall hnew
  simp only [eV] at q2
  have hnil : eV (n + 5) = [.row (n + 15) 1 0 3, .row (n + 19) 1 0 3, .row (n + 23) 1 0 4, .fslice 1 []] := by simp [eV]
  generalize eV (n + 5) = EV at hnew sn l4 tk hnil
  generalize hX : OA ++ eO (n + 5) = X at hnew sn q5 st1
  simp [c_parser_run_l0, h2, h4, h7, h9, h10, h11, q0, q1, q2, q3, q4, q5, hst, hst2, hslt, stL_len, hcall, hnew, hen', l4, tk, lz, tz, st1]
  simp [rsRun, h2, h4, h7, h9, st1, l4, tk]
  have sn' : (mapO (snap 38 ⟨setl 1 (.row 4 [EV]) X, n + 5 + 124⟩) EV).map AV.agg = some eZ := by
    have := sn (AO.row 4 [EV]) 35 (n + 5 + 124)
    rw [snap_agg] at this
    exact this
  rw [sn']
  rfl
theorem run_reject (hen : ents.length < 1000) {e : Env} {O : List (Nat × AO)} {n : Nat} (he : RunE e ents (-2)) (hH : RunH O n data pos vs fs gs ents.length) :
    go Φ (finP rsRun) [.c (.loop c_parser_run_l0), .b 0, .c c_parser_run_k1] .normal ⟨e, ⟨O, n⟩⟩ = some (.val (.tup [eZ, .slice 1 ents, .int .i64 15])) := by
  obtain ⟨h2, h4, h7, h9, h10, h11⟩ := he
  have hbig := hH.big
  have hnew := env_New_ok O n hH.T hH.S
  have q1 := hH.p
  have q5 : look 1 (O ++ eO n) = _ := look_head hH.rc
  have sn := fun c k m => eV_snap hH.T hH.big c k m
  have l4 : (eV n).length = 4 := rfl
  have tk : (eV n).take 4 = eV n := rfl
  have lz : z4.length = 4 := rfl
  have tz : z4.drop 4 = [] := rfl
  have st1 : ∀ y, look 1 (setl 1 y (O ++ eO n)) = some y := fun y => look_setl_same q5
  rw [go_loop]
  simp only [pvA, pv6_stL] at q1 hnew
  generalize eV n = EV at hnew sn l4 tk
  generalize hX : O ++ eO n = X at hnew sn q5 st1
  simp [c_parser_run_l0, c_parser_run_k1, h2, h4, h7, h9, h10, h11, q1, q5, hnew, l4, tk, lz, tz, st1]
  simp [rsRun, h2, h4, h7, h9, st1, l4, tk]
  have sn' : (mapO (snap 38 ⟨setl 1 (.row 4 [EV]) X, n + 124⟩) EV).map AV.agg = some eZ := by
    have := sn (AO.row 4 [EV]) 35 (n + 124)
    rw [snap_agg] at this
    exact this
  rw [sn']
  rfl
theorem run_accept (hd : data.length ≤ 512) (hp : pos ≤ data.length) {e : Env} {O : List (Nat × AO)} {n : Nat} (he : RunE e ents (-1)) (hH : RunH O n data pos vs fs gs ents.length) :
    go Φ (finP rsRun) [.c (.loop c_parser_run_l0), .b 0, .c c_parser_run_k1] .normal ⟨e, ⟨O, n⟩⟩ =
      some (.val (.tup [.agg [.slice 1 (vs.map fun b => [.bool b]), .slice 1 (gs.map fun g => [.slice 1 (g.map c32)]), .slice 1 meta0, .slice 1 ((data.drop pos).map c8)], .slice 1 ents, .int .i64 0])) := by
  obtain ⟨h2, h4, h7, h9, h10, h11⟩ := he
  have hbig := hH.big
  have hrest := Rest_ok O n 128 127 pos (8 * pos) data hH.T hH.r rfl hp (by omega)
  have lk : ∀ j x, look j O = some x → look j (O ++ [(n, AO.tok 1 (data.length - pos))]) = some x := fun j x h => look_head h
  have q2 := lk _ _ hH.ec
  have q4 := lk _ _ hH.rc
  have q5 := lk _ _ hH.va
  have q6 := lk _ _ hH.fa
  have q7 := lk _ _ hH.mt
  have fok : FieldsOk (O ++ [(n, AO.tok 1 (data.length - pos))]) fs gs := by
    have hf := hH.fok
    have one : ∀ f g, FieldOk O f g → FieldOk (O ++ [(n, AO.tok 1 (data.length - pos))]) f g := by
      rintro f g (⟨id, h1, h2, h3⟩ | h)
      · exact .inl ⟨id, h1, look_head h2, h3⟩
      · exact .inr h
    generalize fs = fs' at hf
    generalize gs = gs' at hf
    induction hf with
    | nil => exact .nil
    | cons h _ ih => exact .cons (one _ _ h) ih
  simp only [eV] at q2
  generalize O ++ [(n, AO.tok 1 (data.length - pos))] = X at hrest q2 q4 q5 q6 q7 fok
  have lz : z4.length = 4 := rfl
  have tz : z4.drop 4 = [] := rfl
  have p1 : ∀ y, look 126 (setl 126 y X) = some y := fun y => look_setl_same q2
  have p2 : ∀ y z, look 1 (setl 1 z (setl 126 y X)) = some z := fun y z => look_setl_same (x := .row 4 [z4]) (by rw [look_setl, if_neg (by omega), q4])
  have p2' : ∀ y, look 1 (setl 126 y X) = some (.row 4 [z4]) := fun y => by rw [look_setl, if_neg (by omega), q4]
  have p5 : ∀ y z, look 12 (setl 1 z (setl 126 y X)) = some (.row 1 (vs.map fun b => [.bool b])) := fun y z => by rw [look_setl, if_neg (by omega), look_setl, if_neg (by omega), q5]
  have p6 : ∀ y z, look 16 (setl 1 z (setl 126 y X)) = some (.row 1 (fs.map fun f => [f])) := fun y z => by rw [look_setl, if_neg (by omega), look_setl, if_neg (by omega), q6]
  have p7 : ∀ y z, look 20 (setl 1 z (setl 126 y X)) = some (.row 1 meta0) := fun y z => by rw [look_setl, if_neg (by omega), look_setl, if_neg (by omega), q7]
  have fok2 : ∀ y z, FieldsOk (setl 1 z (setl 126 y X)) fs gs := fun y z => fok.mono (by intro j hj; rw [look_setl, if_neg (by omega), look_setl, if_neg (by omega)])
  have sn2 := fun y z k m => (fok2 y z).snap k m
  have sn1 : ∀ H k, mapO (mapO (snap (k + 1) H)) (vs.map fun b => [AV.bool b]) = some (vs.map fun b => [AV.bool b]) := fun H k => snap_bools _
  have m3 : ∀ H k, mapO (mapO (snap (k + 1) H)) meta0 = some meta0 := fun H k => by simp [meta0]
  have lv : (vs.map fun b => [AV.bool b]).length = 3 := by simp [hH.lv]
  have lf : (fs.map fun f => [f]).length = 3 := by simp [hH.lf]
  have tv : (vs.map fun b => [AV.bool b]).take 3 = vs.map fun b => [AV.bool b] := List.take_of_length_le (by simp [hH.lv])
  have tf : (fs.map fun f => [f]).take 3 = fs.map fun f => [f] := List.take_of_length_le (by simp [hH.lf])
  have m1 : meta0.length = 4 := rfl
  have m2 : meta0.take 4 = meta0 := rfl
  generalize (vs.map fun b => [AV.bool b]) = VA at *
  generalize (fs.map fun f => [f]) = FA at *
  generalize (gs.map fun g => [AV.slice 1 (g.map c32)]) = GA at *
  rw [go_loop]
  simp [c_parser_run_l0, c_parser_run_k1, h2, h4, h7, h9, h10, h11, hrest, q2, q4, p1, p2, p2', lz, tz]
  simp [rsRun, h2, h4, h7, h9, p1, p2, p2', p5, p6, p7, sn1, sn2, m1, m2, m3, lv, lf, tv, tf]
end
end Go.Av
