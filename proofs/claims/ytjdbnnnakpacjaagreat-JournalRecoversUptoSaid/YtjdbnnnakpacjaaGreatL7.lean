/-
  The parser and the deparser: the reference's answers, whole.
-/
import Derived.Test.YtjdbnnnakpacjaaGreatL6
set_option linter.unusedVariables false
set_option linter.unusedSimpArgs false
set_option linter.constructorNameAsVariable false
namespace Go.Av
set_option maxRecDepth 4000
def stA (p : Prg) (s : Nat) (x : ParserState) : Int × Int := if idS x.name = false then (-1, 6) else if dupN ParserState.name p.states s x then (-1, 7) else stE p s x
theorem rstate_ok (p : Prg) (f : PrgS p) (s : Nat) (hs : s < p.states.length) : pureI Φ f_ref18_state [.agg (Prg.c p), .int .i64 s] = some (.val (.tup [.int .i64 (stA p s p.states[s]).1, .int .i64 (stA p s p.states[s]).2])) := by
  rw [pureI_go (fn := c_ref18_state) rfl rfl]
  have hm := List.getElem_mem hs
  have n1 := rIdent_ok p.states[s].name (f.sn _ hm)
  have hsl := f.s
  cases q1 : idS p.states[s].name with
  | false => rw [q1] at n1; simp [c_ref18_state, Prg.e, ParserState.e, hs, n1, stA, q1]
  | true =>
  rw [q1] at n1
  have hE : stA p s p.states[s] = if dupN ParserState.name p.states s p.states[s] = true then (-1, 7) else stE p s p.states[s] := by simp [stA, q1]
  rw [hE]
  unfold dupN
  generalize hX : (if (p.states.take s).any (fun y => decide (y.name = p.states[s].name)) = true then ((-1 : Int), (7 : Int)) else stE p s p.states[s]) = X
  simp [c_ref18_state, Prg.e, ParserState.e, hs, n1]
  refine (loop_any (p.states.take s) (fun y => decide (y.name = p.states[s].name)) (some (Rt.val (.tup [.int .i64 (-1), .int .i64 7]))) (some (Rt.val (.tup [.int .i64 (stE p s p.states[s]).1, .int .i64 (stE p s p.states[s]).2])))
    (fun k e H => look 1 e = some (.int .i64 s) ∧ look 2 e = some (.iptr 9 [Prg.c p] 0 0) ∧ look 6 e = some (.iptr 7 [ParserState.c p.states[s]] 0 0) ∧ look 7 e = some (.int .i64 k) ∧ ∃ n, H = ⟨[], n⟩) ?_ ?_ ?_ _ _ ?_).trans ?_
  · rintro k e _ L hk hL ⟨h1, h2, h6, h7, n, rfl⟩ hb
    simp only [List.length_take] at hk
    have hk1 : k < s := by omega
    have hk2 : k < p.states.length := by omega
    simp only [List.getElem_take, decide_eq_true_eq] at hb
    rw [Prg.e] at h2
    rw [ParserState.e] at h6
    simp [c_ref18_state_l0, ParserState.e, h1, h2, h6, h7, hk1, hk2, hb]
  · rintro k e _ L X hk hL ⟨h1, h2, h6, h7, n, rfl⟩ hb ih
    simp only [List.length_take] at hk
    have hk1 : k < s := by omega
    have hk2 : k < p.states.length := by omega
    simp only [List.getElem_take, decide_eq_false_iff_not] at hb
    have hw : IntKind.wrap .i64 ((k : Int) + 1) = ((k + 1 : Nat) : Int) := wrap64 (by omega) (by omega)
    rw [Prg.e] at h2
    rw [ParserState.e] at h6
    simp [c_ref18_state_l0, ParserState.e, h1, h2, h6, h7, hk1, hk2, hb, hw]
    exact ih _ _ ⟨by simp [h1], by simp [h2, Prg.e], by simp [h6, ParserState.e], by simp, n, rfl⟩
  · rintro e _ L hL ⟨h1, h2, h6, h7, n, rfl⟩
    have hmn : min s p.states.length = s := by omega
    simp [hmn] at h7
    simp [c_ref18_state_l0, h1, h7, hL]
    refine rstE_ok p f s hs _ _ ?_ ?_ ?_
    · simp [h1]
    · simp [h2]
    · simp [h6]
  · simp [Prg.e, ParserState.e]
  · rw [← hX]
    cases (p.states.take s).any (fun y => decide (y.name = p.states[s].name)) <;> rfl
theorem rparE_ok (p : Prg) (f : PrgS p) : pureI Φ f_ref18_Check [.agg (Prg.c p)] = some (tup3 (parE p)) := by
  rw [pureI_go (fn := c_ref18_Check) rfl rfl]
  by_cases z0 : p.states.length = 0
  · simp [c_ref18_Check, Prg.e, z0, parE, tup3]
  by_cases z1 : 12 < p.states.length
  · simp [c_ref18_Check, Prg.e, z0, z1, parE, tup3]
  have hE : parE p = (fe (parG p) p.states.length 0).getD (0, 0, 0) := by unfold parE; rw [if_neg z0, if_neg z1]; rfl
  rw [hE]
  simp [c_ref18_Check, Prg.e, z0, z1]
  refine loop_nat0 p.states.length (fun i e => look 1 e = some (.iptr 9 [Prg.c p] 0 0) ∧ look 5 e = some (.int .i64 i))
    (fun i => some (tup3 ((fe (parG p) p.states.length i).getD (0, 0, 0)))) ?_ ?_ 0 _ (Nat.zero_le _) ?_
  · rintro i e L hi hL ⟨h1, h5⟩ ih
    have hw : IntKind.wrap .i64 ((i : Int) + 1) = ((i + 1 : Nat) : Int) := wrap64 (by omega) (by omega)
    have hs := rstate_ok p f i hi
    simp only [Prg.e] at hs
    rw [Prg.e] at h1
    by_cases y : (stA p i p.states[i]).2 = 0
    · rw [y] at hs
      have e1 : parG p i = none := by
        unfold stA at y
        unfold parG
        rw [List.getElem?_eq_getElem hi, Option.bind_some]
        split at y
        · simp at y
        · rename_i a1
          split at y
          · simp at y
          · rename_i a2
            rw [if_neg a1, if_neg a2, if_pos y]
      rw [fe_miss hi e1]
      simp [c_ref18_Check_l0, h1, h5, hi, hs, hw]
      exact ih _ ⟨by simp [h1, Prg.e], by simp⟩
    · have e1 : parG p i = some ((i : Int), (stA p i p.states[i]).1, (stA p i p.states[i]).2) := by
        unfold stA at y ⊢
        unfold parG
        rw [List.getElem?_eq_getElem hi, Option.bind_some]
        split
        · rfl
        · rename_i a1
          rw [if_neg a1] at y
          split
          · rfl
          · rename_i a2
            rw [if_neg a2] at y
            rw [if_neg y]
      rw [fe_hit hi e1]
      simp [c_ref18_Check_l0, h1, h5, hi, hs, y, tup3]
  · rintro e L hL ⟨h1, h5⟩
    rw [fe_end]
    rw [Prg.e] at h1
    simp [c_ref18_Check_l0, c_ref18_Check_k1, h1, h5, hL, tup3]
  · simp [Prg.e]
theorem rdepE_ok (p : Prg) (f : PrgS p) : pureI Φ f_ref19_Check [.agg (Prg.c p)] = some (.val (.tup [.int .i64 (depE p).1, .int .i64 (depE p).2])) := by
  rw [pureI_go (fn := c_ref19_Check) rfl rfl]
  by_cases z1 : 8 < p.deparser.length
  · simp [c_ref19_Check, Prg.e, z1, depE]
  have hE : depE p = (fe (depG p) p.deparser.length 0).getD (0, 0) := by unfold depE; rw [if_neg z1]; rfl
  rw [hE]
  simp [c_ref19_Check, Prg.e, z1]
  refine loop_nat0 p.deparser.length (fun i e => look 1 e = some (.iptr 9 [Prg.c p] 0 0) ∧ look 4 e = some (.int .i64 i))
    (fun i => some (Rt.val (.tup [.int .i64 ((fe (depG p) p.deparser.length i).getD (0, 0)).1, .int .i64 ((fe (depG p) p.deparser.length i).getD (0, 0)).2]))) ?_ ?_ 0 _ (Nat.zero_le _) ?_
  · rintro i e L hi hL ⟨h1, h4⟩ ih
    have hw : IntKind.wrap .i64 ((i : Int) + 1) = ((i + 1 : Nat) : Int) := wrap64 (by omega) (by omega)
    rw [Prg.e] at h1
    by_cases y0 : p.deparser[i] < 0
    · rw [fe_hit (x := ((i : Int), 8)) hi (by simp [depG, hi, y0])]
      simp [c_ref19_Check_l2, cI, h1, h4, hi, y0]
    by_cases y1 : (p.headers.length : Int) ≤ p.deparser[i]
    · rw [fe_hit (x := ((i : Int), 8)) hi (by simp [depG, hi, y0, y1])]
      simp [c_ref19_Check_l2, cI, h1, h4, hi, y0, y1]
    generalize hX : some (Rt.val (.tup [AV.int .i64 ((fe (depG p) p.deparser.length i).getD (0, 0)).1, .int .i64 ((fe (depG p) p.deparser.length i).getD (0, 0)).2])) = X
    simp [c_ref19_Check_l2, cI, h1, h4, hi, y0, y1]
    refine (loop_any (p.deparser.take i) (fun g => decide (g = p.deparser[i])) (some (Rt.val (.tup [.int .i64 i, .int .i64 7]))) (some (Rt.val (.tup [.int .i64 ((fe (depG p) p.deparser.length (i + 1)).getD (0, 0)).1, .int .i64 ((fe (depG p) p.deparser.length (i + 1)).getD (0, 0)).2])))
      (fun k e H => look 1 e = some (.iptr 9 [Prg.c p] 0 0) ∧ look 4 e = some (.int .i64 i) ∧ look 5 e = some (.int .i64 k) ∧ H = ⟨[], 0⟩) ?_ ?_ ?_ _ _ ?_).trans ?_
    · rintro k e _ L' hk hL' ⟨h1, h4, h5, rfl⟩ hb
      simp only [List.length_take] at hk
      have hk1 : k < i := by omega
      have hk2 : k < p.deparser.length := by omega
      simp only [List.getElem_take, decide_eq_true_eq] at hb
      rw [Prg.e] at h1
      simp [c_ref19_Check_l0, cI, h1, h4, h5, hk1, hk2, hi, hb]
    · rintro k e _ L' X hk hL' ⟨h1, h4, h5, rfl⟩ hb ih'
      simp only [List.length_take] at hk
      have hk1 : k < i := by omega
      have hk2 : k < p.deparser.length := by omega
      simp only [List.getElem_take, decide_eq_false_iff_not] at hb
      have hw' : IntKind.wrap .i64 ((k : Int) + 1) = ((k + 1 : Nat) : Int) := wrap64 (by omega) (by omega)
      rw [Prg.e] at h1
      simp [c_ref19_Check_l0, cI, h1, h4, h5, hk1, hk2, hi, hb, hw']
      exact ih' _ _ ⟨by simp [h1, Prg.e], by simp [h4], by simp, rfl⟩
    · rintro e _ L' hL' ⟨h1, h4, h5, rfl⟩
      have hm : min i p.deparser.length = i := by omega
      simp [hm] at h5
      simp [c_ref19_Check_l0, c_ref19_Check_k1, h4, h5, hL', hw]
      exact ih _ ⟨by simp [h1], by simp⟩
    · simp [h1, h4, Prg.e]
    · rw [← hX]
      cases q : (p.deparser.take i).contains p.deparser[i] with
      | true =>
        rw [fe_hit (x := ((i : Int), 7)) hi (by simp only [depG, List.getElem?_eq_getElem hi, Option.bind_some]; rw [if_neg (by omega), q]; rfl)]
        rw [contains_eq] at q
        rw [q]
        rfl
      | false =>
        rw [fe_miss hi (by simp only [depG, List.getElem?_eq_getElem hi, Option.bind_some]; rw [if_neg (by omega), q]; rfl)]
        rw [contains_eq] at q
        rw [q]
        rfl
  · rintro e L hL ⟨h1, h4⟩
    rw [fe_end]
    rw [Prg.e] at h1
    simp [c_ref19_Check_l2, c_ref19_Check_k3, h1, h4, hL]
  · simp [Prg.e]
end Go.Av
