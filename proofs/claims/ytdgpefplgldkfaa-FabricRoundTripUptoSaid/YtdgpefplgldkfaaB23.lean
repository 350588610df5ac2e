/-
  Lemmas for the law.
-/
import Derived.Test.YtdgpefplgldkfaaB22
set_option linter.unusedVariables false
set_option linter.unusedSimpArgs false
set_option linter.constructorNameAsVariable false
namespace Go.Av
set_option maxRecDepth 8000
theorem clone_ok (o0 o1 o2 o3 o4 o5 o19 : AO) (b0 b1 b2 : Bool) (g0 g1 g2 : List Int) (h0 : g0.length ≤ 100) (h1 : g1.length ≤ 100) (h2 : g2.length ≤ 100)
    (k0 : o0 ≠ .res) (k1 : o1 ≠ .res) (k2 : o2 ≠ .res) (k3 : o3 ≠ .res) (k4 : o4 ≠ .res) (k5 : o5 ≠ .res) (k19 : o19 ≠ .res) :
    callI Φ f_ref12_Clone [.agg [.slice 1 [[.bool b0], [.bool b1], [.bool b2]], .slice 1 [[.slice 1 (g0.map c32)], [.slice 1 (g1.map c32)], [.slice 1 (g2.map c32)]], .slice 1 meta0, .slice 1 []]] ⟨[(0, o0), (1, o1), (2, o2), (3, o3), (4, o4), (5, o5), (19, o19)], 20⟩ =
      some (.val (.agg [.row 23 1 0 3, .row 110 1 0 3, .app 1 meta0 111, .app 1 [] 112]), ⟨[(0, o0), (1, o1), (2, o2), (3, o3), (4, o4), (5, o5), (19, o19),
        (20, .row 4 [[.slice 1 [[.bool b0], [.bool b1], [.bool b2]], .slice 1 [[.slice 1 (g0.map c32)], [.slice 1 (g1.map c32)], [.slice 1 (g2.map c32)]], .slice 1 meta0, .slice 1 []]]),
        (21, .row 4 [[.row 23 1 0 3, .row 110 1 0 3, .app 1 meta0 111, .app 1 [] 112]]), (22, .row 4 [[.row 23 1 0 3, .row 110 1 0 3, .app 1 meta0 111, .app 1 [] 112]]),
        (23, .row 1 [[.bool b0], [.bool b1], [.bool b2]]), (50, .tok 1 g0.length), (79, .tok 1 g1.length), (108, .tok 1 g2.length),
        (110, .row 1 [[.slice 1 (g0.map c32)], [.slice 1 (g1.map c32)], [.slice 1 (g2.map c32)]]), (111, .tok 1 4), (112, .tok 1 0)], 113⟩) := by
  rw [callI_go (fn := c_ref12_Clone) rfl rfl]
  have w1 : IntKind.wrap .i64 1 = 1 := rfl
  have w2 : IntKind.wrap .i64 2 = 2 := rfl
  have w3 : IntKind.wrap .i64 3 = 3 := rfl
  have s : ∀ r, sweepL ((0, o0) :: (1, o1) :: (2, o2) :: (3, o3) :: (4, o4) :: (5, o5) :: (19, o19) :: r) = (0, o0) :: (1, o1) :: (2, o2) :: (3, o3) :: (4, o4) :: (5, o5) :: (19, o19) :: sweepL r := by
    intro r; rw [sweepL_ne k0, sweepL_ne k1, sweepL_ne k2, sweepL_ne k3, sweepL_ne k4, sweepL_ne k5, sweepL_ne k19]
  have l0 : g0.length * 4 ≤ 70368744177664 := by omega
  have l1 : g1.length * 4 ≤ 70368744177664 := by omega
  have l2 : g2.length * 4 ≤ 70368744177664 := by omega
  have m1 : meta0.length = 4 := rfl
  have m2 : allLen 1 meta0 = true := rfl
  simp [c_ref12_Clone]
  rw [go_loop]
  simp [c_ref12_Clone_l0, l0, l1, l2, s, w1]
  rw [go_loop]
  simp [l0, l1, l2, s, w1, w2]
  rw [go_loop]
  simp [l0, l1, l2, s, w1, w2, w3]
  rw [go_loop]
  simp [c_ref12_Clone_k1, l0, l1, l2, s, w1, w2, w3, m1, m2]
def envV (vs : List Bool) (gs : List (List Int)) : List AV := [.slice 1 (vs.map fun b => [.bool b]), .slice 1 (gs.map fun g => [.slice 1 (g.map c32)]), .slice 1 meta0, .slice 1 []]
theorem ref18_extract_short (data : List Int) (q pos : Nat) {h : Nat} {st : List AV} {nm : List UInt8} {names : List (List UInt8)} {s0 s2 s3 s4 s5 s6 : AV} (E : List AV) (hE : E.length = 4) (hform : st = [s0, .slice 1 [[.int .i64 h]], s2, s3, s4, s5, s6]) (hh : h < 3) (hhd : hdrs[h]? = some (hV nm names))
    (hq : q = 8 * pos) (hd : data.length ≤ 512) (hp : pos ≤ data.length) (hl : data.length < pos + names.length)
    (hc : pureI Φ f_ref11_Check [.agg (hV nm names)] = some (.val (.int .i64 0))) (hbits : pureI Φ f_ref11_Bits [.agg (hV nm names)] = some (.val (.int .i64 ((8 * names.length : Nat) : Int))))
    (hsn : ∀ k H, mapO (snap (k + 1) H) E = some E) :
    pureI Φ f_ref18_extract [.agg pvA, .agg st, .agg E, .agg (rdV data q)] = some (.val (.tup [.agg E, .agg (rdV data q), .int .i64 3])) := by
  have hr := ref11_Read_short data q pos nm names hq hd hp hl hc hbits
  have hvl : (hV nm names).length = 2 := rfl
  have hvt : (hV nm names).take 2 = hV nm names := rfl
  have hhd2 : hdrs[h]'(by rw [hdrs_len]; exact hh) = hV nm names := (List.getElem?_eq_some_iff.1 hhd).2
  have htE : E.take 4 = E := List.take_of_length_le (by omega)
  have hdE : E.drop 4 = [] := List.drop_of_length_le (by omega)
  subst hform
  rw [pureI_go (fn := c_ref18_extract) rfl rfl]
  simp only [pvA, pv1_hdrs]
  unfold rdV at hr ⊢
  unfold hV at hr hvl hvt hhd hhd2
  simp [c_ref18_extract, hE]
  rw [go_loop]
  simp [c_ref18_extract_l0, hh, hhd, hhd2, hdrs_len, hvl, hvt, hr, hE, htE, hdE, hsn]
end Go.Av
