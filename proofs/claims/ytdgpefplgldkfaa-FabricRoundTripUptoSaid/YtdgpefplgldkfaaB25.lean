/-
  Lemmas for the law.
-/
import Derived.Test.YtdgpefplgldkfaaB24
set_option linter.unusedVariables false
set_option linter.unusedSimpArgs false
set_option linter.constructorNameAsVariable false
namespace Go.Av
set_option maxRecDepth 8000
theorem ref02_NewReader_ok (data : List Int) (hd : data.length ≤ 1048576) : pureI Φ f_ref02_NewReader [.slice 1 (data.map c8)] = some (.val (.agg (rdV data 0))) := by
  rw [pureI_go (fn := c_ref02_NewReader) rfl rfl]
  have hb : data.length ≤ 70368744177664 := by omega
  simp [c_ref02_NewReader, hb, rdV]
theorem ref02_Rest_ok (data : List Int) (q pos : Nat) (hq : q = 8 * pos) (hp : pos ≤ data.length) (hd : data.length ≤ 1048576) : pureI Φ f_ref02_Rest [.agg (rdV data q)] = some (.val (.tup [.slice 1 ((data.drop pos).map c8), .int .i64 0])) := by
  rw [pureI_go (fn := c_ref02_Rest) rfl rfl]
  have d1 : IntKind.wrap .i64 ((q : Int) / 8) = (pos : Int) := by
    have : (q : Int) / 8 = ((q / 8 : Nat) : Int) := rfl
    rw [this, show q / 8 = pos by omega, wrap64 (by omega) (by omega)]
  have d2 : (q : Int).tmod 8 = 0 := by
    have : (q : Int).tmod 8 = ((q % 8 : Nat) : Int) := rfl
    rw [this, show q % 8 = 0 by omega]; rfl
  have hb : data.length - pos ≤ 70368744177664 := by omega
  have tk : ((data.drop pos).map c8).take (data.length - pos) = (data.drop pos).map c8 := List.take_of_length_le (by simp)
  simp [c_ref02_Rest, rdV, d1, d2, hp, hb, ← List.map_drop, tk]
def RefE (e : Env) (ents : List (List AV)) (s : Int) : Prop :=
  look 2 e = some (.ptr 0 9 0 0) ∧ look 4 e = some (.ptr 1 4 0 0) ∧ look 8 e = some (.ptr 2 4 0 0) ∧ look 9 e = some (.ptr 3 2 0 0) ∧ look 10 e = some (.app 1 ents 4) ∧ look 11 e = some (.int .i64 s)
def refH (E : List AV) (data : List Int) (q k : Nat) : AH := ⟨[(0, .row 9 [pvA]), (1, .row 4 [z4]), (2, .row 4 [E]), (3, .row 2 [rdV data q]), (4, .tok 1 k)], 5⟩
section
variable {data : List Int} {ents : List (List AV)} {K : List Fr} {rs : List ARes}
theorem rround {s : Nat} {st E E' r' : List AV} {q : Nat} {q' : Nat} {s' : Int} (hst : stL[s]? = some st) (hsl : st.length = 7) (hE : E.length = 4) (hE' : E'.length = 4) (hen : ents.length < 1000)
    (hsnt : ∀ k H, mapO (snap (k + 1) H) st = some st) (hsnE : ∀ k H, mapO (snap (k + 1) H) E = some E) (hsnE' : ∀ k H, mapO (snap (k + 1) H) E' = some E')
    (hbt : ∀ k, anyL (bor (k + 1)) st = false) (hbE : ∀ k, anyL (bor (k + 1)) E = false) (hbE' : ∀ k, anyL (bor (k + 1)) E' = false)
    (hx : pureI Φ f_ref18_extract [.agg pvA, .agg st, .agg E, .agg (rdV data q)] = some (.val (.tup [.agg E', .agg (rdV data q'), .int .i64 0])))
    (hnx : pureI Φ f_ref18_transition [.agg st, .agg E'] = some (.val (.int .i64 s')))
    {e : Env} (he : RefE e ents s) {R : Option Rt}
    (next : ∀ e', RefE e' (ents ++ [[.int .i64 s]]) s' → go Φ (finP rs) (.c (.loop c_ref18_run_l0) :: K) .normal ⟨e', refH E' data q' (ents.length + 1)⟩ = R) :
    go Φ (finP rs) (.c (.loop c_ref18_run_l0) :: K) .normal ⟨e, refH E data q ents.length⟩ = R := by
  have hslt : s < 3 := by have := (List.getElem?_eq_some_iff.1 hst).1; rw [stL_len] at this; exact this
  obtain ⟨h2, h4, h8, h9, h10, h11⟩ := he
  have hst2 : stL[s]'(by rw [stL_len]; exact hslt) = st := (List.getElem?_eq_some_iff.1 hst).2
  have hen' : (ents.length + 1) * 8 ≤ 70368744177664 := by omega
  have tE : E.take 4 = E := List.take_of_length_le (by omega)
  have tE' : E'.take 4 = E' := List.take_of_length_le (by omega)
  have dE : E.drop 4 = [] := List.drop_of_length_le (by omega)
  have dE' : E'.drop 4 = [] := List.drop_of_length_le (by omega)
  have ts : st.take 7 = st := List.take_of_length_le (by omega)
  rw [go_loop]
  generalize hL : (Fr.c (.loop c_ref18_run_l0) :: K) = L
  unfold rdV at hx
  simp only [pvA, pv6_stL] at hx
  simp only [refH, pvA, pv6_stL, rdV]
  simp [c_ref18_run_l0, h2, h4, h8, h9, h10, h11, hst, hst2, hslt, stL_len, hx, hnx, hen', tE, tE', dE, dE', ts, hsl, hE, hE', hsnt, hsnE, hsnE', hbt, hbE, hbE']
  rw [← hL]
  simp only [refH, pvA, pv6_stL, rdV] at next
  exact next _ (by simp [RefE, h2, h4, h8, h9])
end
end Go.Av
