/-
  The size of a program, as the law bounds it.
-/
import Derived.Test.YtjdbnnnakpacjaaGreatM0
set_option linter.unusedVariables false
set_option linter.unusedSimpArgs false
set_option linter.constructorNameAsVariable false
namespace Go.Av
set_option maxRecDepth 4000
theorem small11_ok (h : Header) (hl : h.fields.length < 2 ^ 40) : IsB (pureI Φ f_ref11_Small [.agg (Header.c h)]) := by
  rw [pureI_go (fn := c_ref11_Small) rfl rfl]
  by_cases z0 : 30 < h.name.length
  · simp [c_ref11_Small, Header.e, z0]
  by_cases z1 : 20 < h.fields.length
  · simp [c_ref11_Small, Header.e, z0, z1]
  simp [c_ref11_Small, Header.e, z0, z1]
  refine loop_ex h.fields.length (fun i e => look 1 e = some (.iptr 2 [Header.c h] 0 0) ∧ look 3 e = some (.int .i64 i)) IsB ?_ ?_ 0 _ (Nat.zero_le _) ?_
  · rintro i e L hi hL ⟨h1, h3⟩ ih
    have hw : IntKind.wrap .i64 ((i : Int) + 1) = ((i + 1 : Nat) : Int) := wrap64 (by omega) (by omega)
    rw [Header.e] at h1
    by_cases z : 30 < h.fields[i].name.length
    · simp [c_ref11_Small_l0, Fld.e, h1, h3, hi, z]
    simp [c_ref11_Small_l0, Fld.e, h1, h3, hi, z, hw]
    exact ih _ ⟨by simp [h1, Header.e], by simp⟩
  · rintro e L hL ⟨h1, h3⟩
    rw [Header.e] at h1
    simp [c_ref11_Small_l0, c_ref11_Small_k1, h1, h3, hL]
  · simp [Header.e]
theorem largeAction_ok (a : Action) (hb : a.body.length < 2 ^ 40) : IsB (pureI Φ f_law21_largeAction [.agg (Action.c a)]) := by
  rw [pureI_go (fn := c_law21_largeAction) rfl rfl]
  by_cases z0 : 8 < a.params.length
  · simp [c_law21_largeAction, Action.e, z0]
  by_cases z1 : 16 < a.body.length
  · simp [c_law21_largeAction, Action.e, z0, z1]
  by_cases z2 : 60 < a.name.length
  · simp [c_law21_largeAction, Action.e, z0, z1, z2]
  simp [c_law21_largeAction, Action.e, z0, z1, z2]
  refine loop_ex a.body.length (fun i e => look 1 e = some (.iptr 3 [Action.c a] 0 0) ∧ look 3 e = some (.int .i64 i)) IsB ?_ ?_ 0 _ (Nat.zero_le _) ?_
  · rintro i e L hi hL ⟨h1, h3⟩ ih
    have hw : IntKind.wrap .i64 ((i : Int) + 1) = ((i + 1 : Nat) : Int) := wrap64 (by omega) (by omega)
    rw [Action.e] at h1
    by_cases y0 : 40 < a.body[i].index.length
    · simp [c_law21_largeAction_l0, Statement.e, h1, h3, hi, y0]
    by_cases y1 : 40 < a.body[i].value.length
    · simp [c_law21_largeAction_l0, Statement.e, h1, h3, hi, y0, y1]
    simp [c_law21_largeAction_l0, Statement.e, h1, h3, hi, y0, y1, hw]
    exact ih _ ⟨by simp [h1, Action.e], by simp⟩
  · rintro e L hL ⟨h1, h3⟩
    rw [Action.e] at h1
    simp [c_law21_largeAction_l0, c_law21_largeAction_k1, h1, h3, hL]
  · simp [Action.e]
theorem largeState_ok (s : ParserState) : IsB (pureI Φ f_law21_largeState [.agg (ParserState.c s)]) := by
  rw [pureI_go (fn := c_law21_largeState) rfl rfl]
  by_cases z0 : 8 < s.extract.length
  · simp [c_law21_largeState, ParserState.e, z0]
  by_cases z1 : 12 < s.cases.length
  · simp [c_law21_largeState, ParserState.e, z0, z1]
  by_cases z2 : 60 < s.name.length
  · simp [c_law21_largeState, ParserState.e, z0, z1, z2]
  simp [c_law21_largeState, ParserState.e, z0, z1, z2]
theorem tl3_ok (p : Prg) (f : PrgS p) (e : Env) (h1 : look 1 e = some (.iptr 9 [Prg.c p] 0 0)) : IsB (go Φ (finP [.tmp 2]) [.c c_law21_TooLarge_k5] .normal ⟨e, ⟨[], 0⟩⟩) := by
  simp [c_law21_TooLarge_k5]
  have hl := f.s
  refine loop_ex p.states.length (fun i e => look 1 e = some (.iptr 9 [Prg.c p] 0 0) ∧ look 6 e = some (.int .i64 i)) IsB ?_ ?_ 0 _ (Nat.zero_le _) ?_
  · rintro i e L hi hL ⟨h1, h6⟩ ih
    have hw : IntKind.wrap .i64 ((i : Int) + 1) = ((i + 1 : Nat) : Int) := wrap64 (by omega) (by omega)
    obtain ⟨b, hb⟩ := largeState_ok p.states[i]
    simp only [ParserState.e] at hb
    rw [Prg.e] at h1
    cases b with
    | true => simp [c_law21_TooLarge_l3, ParserState.e, h1, h6, hi, hb]
    | false =>
      simp [c_law21_TooLarge_l3, ParserState.e, h1, h6, hi, hb, hw]
      exact ih _ ⟨by simp [h1, Prg.e], by simp⟩
  · rintro e L hL ⟨h1, h6⟩
    rw [Prg.e] at h1
    simp [c_law21_TooLarge_l3, c_law21_TooLarge_k4, h1, h6, hL]
  · simp [h1]
theorem tl2_ok (p : Prg) (f : PrgS p) (e : Env) (h1 : look 1 e = some (.iptr 9 [Prg.c p] 0 0)) : IsB (go Φ (finP [.tmp 2]) [.c c_law21_TooLarge_k6] .normal ⟨e, ⟨[], 0⟩⟩) := by
  simp [c_law21_TooLarge_k6]
  have hl := f.t
  refine loop_ex p.tables.length (fun i e => look 1 e = some (.iptr 9 [Prg.c p] 0 0) ∧ look 5 e = some (.int .i64 i)) IsB ?_ ?_ 0 _ (Nat.zero_le _) ?_
  · rintro i e L hi hL ⟨h1, h5⟩ ih
    have hw : IntKind.wrap .i64 ((i : Int) + 1) = ((i + 1 : Nat) : Int) := wrap64 (by omega) (by omega)
    rw [Prg.e] at h1
    by_cases y0 : 10 < p.tables[i].keys.length
    · simp [c_law21_TooLarge_l2, Tbl.e, h1, h5, hi, y0]
    by_cases y1 : 24 < p.tables[i].actions.length
    · simp [c_law21_TooLarge_l2, Tbl.e, h1, h5, hi, y0, y1]
    by_cases y2 : 8 < p.tables[i].dflt.args.length
    · simp [c_law21_TooLarge_l2, Tbl.e, h1, h5, hi, y0, y1, y2]
    by_cases y3 : 60 < p.tables[i].name.length
    · simp [c_law21_TooLarge_l2, Tbl.e, h1, h5, hi, y0, y1, y2, y3]
    simp [c_law21_TooLarge_l2, Tbl.e, h1, h5, hi, y0, y1, y2, y3, hw]
    exact ih _ ⟨by simp [h1, Prg.e], by simp⟩
  · rintro e L hL ⟨h1, h5⟩
    have h1' := h1
    rw [Prg.e] at h1
    simp [c_law21_TooLarge_l2, h1, h5, hL]
    exact tl3_ok p f _ (by simp [h1'])
  · simp [h1]
theorem tl1_ok (p : Prg) (f : PrgS p) (e : Env) (h1 : look 1 e = some (.iptr 9 [Prg.c p] 0 0)) : IsB (go Φ (finP [.tmp 2]) [.c c_law21_TooLarge_k7] .normal ⟨e, ⟨[], 0⟩⟩) := by
  simp [c_law21_TooLarge_k7]
  have hl := f.a
  refine loop_ex p.actions.length (fun i e => look 1 e = some (.iptr 9 [Prg.c p] 0 0) ∧ look 4 e = some (.int .i64 i)) IsB ?_ ?_ 0 _ (Nat.zero_le _) ?_
  · rintro i e L hi hL ⟨h1, h4⟩ ih
    have hw : IntKind.wrap .i64 ((i : Int) + 1) = ((i + 1 : Nat) : Int) := wrap64 (by omega) (by omega)
    obtain ⟨b, hb⟩ := largeAction_ok p.actions[i] (f.ab _ (List.getElem_mem hi))
    simp only [Action.e] at hb
    rw [Prg.e] at h1
    cases b with
    | true => simp [c_law21_TooLarge_l1, Action.e, h1, h4, hi, hb]
    | false =>
      simp [c_law21_TooLarge_l1, Action.e, h1, h4, hi, hb, hw]
      exact ih _ ⟨by simp [h1, Prg.e], by simp⟩
  · rintro e L hL ⟨h1, h4⟩
    have h1' := h1
    rw [Prg.e] at h1
    simp [c_law21_TooLarge_l1, h1, h4, hL]
    exact tl2_ok p f _ (by simp [h1'])
  · simp [h1]
def TlQ (p : Prg) (x : Option Rt) : Prop := ∃ b, x = some (.val (.bool b)) ∧ (b = false → (pre p.control).length ≤ 60)
theorem tooLarge_ok (p : Prg) (f : PrgS p) : TlQ p (pureI Φ f_law21_TooLarge [.agg (Prg.c p)]) := by
  rw [pureI_go (fn := c_law21_TooLarge) rfl rfl]
  have T : ∀ {x : Option Rt}, x = some (.val (.bool true)) → TlQ p x := fun h => ⟨true, h, fun h => by cases h⟩
  obtain ⟨r, hr, r0, r1, r2⟩ := nodes_ok 10 p.control (Nat.le_refl _) f.c f.co
  have hr' : pureI Φ f_law21_nodes [.slice 5 (p.control.map ControlNode.c), .int .i64 10] = some (.val (.int .i64 r)) := hr
  by_cases z0 : 60 < p.name.length
  · exact T (by simp [c_law21_TooLarge, Prg.e, z0])
  by_cases z1 : 16 < p.headers.length
  · exact T (by simp [c_law21_TooLarge, Prg.e, z0, z1])
  by_cases z2 : 20 < p.metadata.length
  · exact T (by simp [c_law21_TooLarge, Prg.e, z0, z1, z2])
  by_cases z3 : 8 < p.registers.length
  · exact T (by simp [c_law21_TooLarge, Prg.e, z0, z1, z2, z3])
  by_cases z4 : 24 < p.actions.length
  · exact T (by simp [c_law21_TooLarge, Prg.e, z0, z1, z2, z3, z4])
  by_cases z5 : 16 < p.tables.length
  · exact T (by simp [c_law21_TooLarge, Prg.e, z0, z1, z2, z3, z4, z5])
  by_cases z6 : 16 < p.states.length
  · exact T (by simp [c_law21_TooLarge, Prg.e, z0, z1, z2, z3, z4, z5, z6])
  by_cases z7 : 16 < p.deparser.length
  · exact T (by simp [c_law21_TooLarge, Prg.e, z0, z1, z2, z3, z4, z5, z6, z7])
  by_cases z8 : 60 < r
  · exact T (by simp [c_law21_TooLarge, Prg.e, z0, z1, z2, z3, z4, z5, z6, z7, hr', z8])
  have hB : IsB (go Φ (finP c_law21_TooLarge.results) [.c c_law21_TooLarge.body] .normal ⟨bindE 0 [.agg (Prg.c p)], H0⟩) := by
    simp [c_law21_TooLarge, Prg.e, z0, z1, z2, z3, z4, z5, z6, z7, hr', z8]
    have hl := f.h
    refine loop_ex p.headers.length (fun i e => look 1 e = some (.iptr 9 [Prg.c p] 0 0) ∧ look 3 e = some (.int .i64 i)) IsB ?_ ?_ 0 _ (Nat.zero_le _) ?_
    · rintro i e L hi hL ⟨h1, h3⟩ ih
      have hw : IntKind.wrap .i64 ((i : Int) + 1) = ((i + 1 : Nat) : Int) := wrap64 (by omega) (by omega)
      obtain ⟨b, hb⟩ := small11_ok p.headers[i] (f.hl _ (List.getElem_mem hi))
      simp only [Header.e] at hb
      rw [Prg.e] at h1
      cases b with
      | false => simp [c_law21_TooLarge_l0, Header.e, h1, h3, hi, hb]
      | true =>
        simp [c_law21_TooLarge_l0, Header.e, h1, h3, hi, hb, hw]
        exact ih _ ⟨by simp [h1, Prg.e], by simp⟩
    · rintro e L hL ⟨h1, h3⟩
      have h1' := h1
      rw [Prg.e] at h1
      simp [c_law21_TooLarge_l0, h1, h3, hL]
      exact tl1_ok p f _ (by simp [h1'])
    · simp [Prg.e]
  obtain ⟨b, hb⟩ := hB
  exact ⟨b, hb, fun _ => by have := r2 (by omega); omega⟩
end Go.Av
