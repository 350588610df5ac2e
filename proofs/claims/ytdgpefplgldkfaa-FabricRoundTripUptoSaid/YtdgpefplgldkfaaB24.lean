/-
  Lemmas for the law.
-/
import Derived.Test.YtdgpefplgldkfaaB23
set_option linter.unusedVariables false
set_option linter.unusedSimpArgs false
set_option linter.constructorNameAsVariable false
namespace Go.Av
set_option maxRecDepth 8000
theorem ref18_extract_ok (data : List Int) (q pos : Nat) {h : Nat} {st : List AV} {nm : List UInt8} {names : List (List UInt8)} {s0 s2 s3 s4 s5 s6 : AV} (b0 b1 b2 : Bool) (g0 g1 g2 : List Int) (h0 : g0.length ≤ 100) (h1 : g1.length ≤ 100) (h2 : g2.length ≤ 100)
    (hform : st = [s0, .slice 1 [[.int .i64 h]], s2, s3, s4, s5, s6]) (hh : h < 3) (hhd : hdrs[h]? = some (hV nm names))
    (hq : q = 8 * pos) (hd : data.length ≤ 512) (hl : pos + names.length ≤ data.length) (hb : ∀ x ∈ data, 0 ≤ x ∧ x < 256)
    (hc : pureI Φ f_ref11_Check [.agg (hV nm names)] = some (.val (.int .i64 0))) (hbits : pureI Φ f_ref11_Bits [.agg (hV nm names)] = some (.val (.int .i64 ((8 * names.length : Nat) : Int)))) :
    pureI Φ f_ref18_extract [.agg pvA, .agg st, .agg (envV [b0, b1, b2] [g0, g1, g2]), .agg (rdV data q)] =
      some (.val (.tup [.agg (envV ([b0, b1, b2].set h true) ([g0, g1, g2].set h ((data.drop pos).take names.length))), .agg (rdV data (q + 8 * names.length)), .int .i64 0])) := by
  have hr := ref11_Read_ok data q pos nm names hq hd hl hb hc hbits
  have hvl : (hV nm names).length = 2 := rfl
  have hvt : (hV nm names).take 2 = hV nm names := rfl
  have hhd2 : hdrs[h]'(by rw [hdrs_len]; exact hh) = hV nm names := (List.getElem?_eq_some_iff.1 hhd).2
  have w1 : IntKind.wrap .i64 1 = 1 := rfl
  have cl := fun o0 o1 o2 o3 o4 o5 o19 => clone_ok o0 o1 o2 o3 o4 o5 o19 b0 b1 b2 g0 g1 g2 h0 h1 h2
  subst hform
  rw [pureI_go (fn := c_ref18_extract) rfl rfl]
  simp only [pvA, pv1_hdrs]
  obtain ⟨R, hR⟩ : ∃ R, R = some (Rt.val (.tup [.agg (envV ([b0, b1, b2].set h true) ([g0, g1, g2].set h ((data.drop pos).take names.length))), .agg (rdV data (q + 8 * names.length)), .int .i64 0])) := ⟨_, rfl⟩
  rw [← hR]
  generalize hLL : ((data.drop pos).take names.length).map c32 = LL at hr
  generalize hQQ : (q + 8 * names.length : Nat) = QQ at hr
  unfold rdV at hr ⊢
  unfold hV at hr hvl hvt hhd hhd2
  simp only [envV, List.map_cons, List.map_nil]
  have hcs : h = 0 ∨ h = 1 ∨ h = 2 := by omega
  rcases hcs with rfl | rfl | rfl
  all_goals
    simp [c_ref18_extract]
    rw [go_loop]
    generalize hL : (Fr.c (.loop c_ref18_extract_l0) :: [Fr.b 0, Fr.c c_ref18_extract_k1]) = L
    simp [c_ref18_extract_l0, hhd, hhd2, hdrs_len, hvl, hvt, hr, cl, w1]
    rw [← hL, go_loop]
    simp [c_ref18_extract_l0, c_ref18_extract_k1, w1]
    rw [hR]; simp [envV, rdV, meta0, hLL, hQQ]
end Go.Av
