/-
  Lemmas for the law.
-/
import Derived.Test.YtdgpefplgldkfaaB25
set_option linter.unusedVariables false
set_option linter.unusedSimpArgs false
set_option linter.constructorNameAsVariable false
namespace Go.Av
set_option maxRecDepth 8000
section
variable {data : List Int} {ents : List (List AV)}
theorem rshort {s : Nat} {st E r' : List AV} {q : Nat} (hst : stL[s]? = some st) (hsl : st.length = 7) (hE : E.length = 4) (hen : ents.length < 1000)
    (hsnt : ∀ k H, mapO (snap (k + 1) H) st = some st) (hsnE : ∀ k H, mapO (snap (k + 1) H) E = some E)
    (hbt : ∀ k, anyL (bor (k + 1)) st = false) (hbE : ∀ k, anyL (bor (k + 1)) E = false)
    (hx : pureI Φ f_ref18_extract [.agg pvA, .agg st, .agg E, .agg (rdV data q)] = some (.val (.tup [.agg E, .agg (rdV data q), .int .i64 3])))
    {e : Env} (he : RefE e ents s) :
    go Φ (finP rsRun) [.c (.loop c_ref18_run_l0), .b 0, .c c_ref18_run_k1] .normal ⟨e, refH E data q ents.length⟩ = some (.val (.tup [eZ, .slice 1 (ents ++ [[.int .i64 s]]), .int .i64 3])) := by
  have hslt : s < 3 := by have := (List.getElem?_eq_some_iff.1 hst).1; rw [stL_len] at this; exact this
  obtain ⟨h2, h4, h8, h9, h10, h11⟩ := he
  have hst2 : stL[s]'(by rw [stL_len]; exact hslt) = st := (List.getElem?_eq_some_iff.1 hst).2
  have hen' : (ents.length + 1) * 8 ≤ 70368744177664 := by omega
  have tE : E.take 4 = E := List.take_of_length_le (by omega)
  have dE : E.drop 4 = [] := List.drop_of_length_le (by omega)
  have ts : st.take 7 = st := List.take_of_length_le (by omega)
  have hnew := ref12_New_ok
  rw [go_loop]
  unfold rdV at hx
  simp only [pvA, pv6_stL] at hx hnew
  simp only [refH, pvA, pv6_stL, rdV]
  simp [c_ref18_run_l0, h2, h4, h8, h9, h10, h11, hst, hst2, hslt, stL_len, hx, hen', tE, dE, ts, hsl, hE, hsnt, hsnE, hbt, hbE, hnew, eZ_eq, eZl, z4]
  simp [rsRun, h4, meta0]
theorem rreject {E : List AV} {q : Nat} {e : Env} (he : RefE e ents (-2)) :
    go Φ (finP rsRun) [.c (.loop c_ref18_run_l0), .b 0, .c c_ref18_run_k1] .normal ⟨e, refH E data q ents.length⟩ = some (.val (.tup [eZ, .slice 1 ents, .int .i64 15])) := by
  obtain ⟨h2, h4, h8, h9, h10, h11⟩ := he
  have hnew := ref12_New_ok
  rw [go_loop]
  simp only [pvA] at hnew
  simp only [refH, pvA, rdV]
  simp [c_ref18_run_l0, c_ref18_run_k1, h2, h4, h8, h9, h10, h11, hnew, eZ_eq, eZl, z4]
  simp [rsRun, h4, meta0]
theorem raccept {a b c : List (List AV)} {q pos : Nat} {e : Env} (hq : q = 8 * pos) (hp : pos ≤ data.length) (hd : data.length ≤ 512) (he : RefE e ents (-1)) :
    go Φ (finP rsRun) [.c (.loop c_ref18_run_l0), .b 0, .c c_ref18_run_k1] .normal ⟨e, refH [.slice 1 a, .slice 1 b, .slice 1 c, .slice 1 []] data q ents.length⟩ =
      some (.val (.tup [.agg [.slice 1 a, .slice 1 b, .slice 1 c, .slice 1 ((data.drop pos).map c8)], .slice 1 ents, .int .i64 0])) := by
  obtain ⟨h2, h4, h8, h9, h10, h11⟩ := he
  have hrest := ref02_Rest_ok data q pos hq hp (by omega)
  rw [go_loop]
  unfold rdV at hrest
  generalize (data.drop pos).map c8 = RR at hrest ⊢
  simp only [refH, rdV]
  simp [c_ref18_run_l0, c_ref18_run_k1, h2, h4, h8, h9, h10, h11, hrest, z4]
  simp [rsRun, h4]
end
theorem ref_start {data : List Int} (hd : data.length ≤ 512) {R : Option Rt} (h : ∀ e, RefE e [] 0 → go Φ (finP rsRun) [.c (.loop c_ref18_run_l0), .b 0, .c c_ref18_run_k1] .normal ⟨e, refH (envV vs0 gs0) data 0 0⟩ = R) :
    pureI Φ f_ref18_run [.agg pvA, .slice 1 (data.map c8)] = R := by
  rw [pureI_go (fn := c_ref18_run) rfl rfl]
  have hnew := ref12_New_ok
  have hacc := ref18_accepted_ok data (by omega)
  rw [if_neg (by omega)] at hacc
  have hrd := ref02_NewReader_ok data (by omega)
  simp only [pvA] at hnew hacc ⊢
  simp only [refH, pvA, rdV, envV, vs0, gs0] at h
  unfold rdV at hrd
  simp [c_ref18_run, hnew, hacc, hrd, eZ_eq, eZl]
  simp only [List.map_cons, List.map_nil, c32, z4, Int.natCast_zero] at h
  refine h _ ?_
  simp [RefE]
theorem ref_long {data : List Int} (hd : 512 < data.length) (hd2 : data.length ≤ 1048576) : pureI Φ f_ref18_run [.agg pvA, .slice 1 (data.map c8)] = some (.val (.tup [eZ, .slice 1 [], .int .i64 4])) := by
  rw [pureI_go (fn := c_ref18_run) rfl rfl]
  have hnew := ref12_New_ok
  have hacc := ref18_accepted_ok data (by omega)
  rw [if_pos hd] at hacc
  simp only [pvA] at hnew hacc ⊢
  simp [c_ref18_run, hnew, hacc, eZ_eq, eZl, meta0]
end Go.Av
