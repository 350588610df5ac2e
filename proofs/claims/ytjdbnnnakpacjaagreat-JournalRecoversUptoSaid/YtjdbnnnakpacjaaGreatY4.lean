/-
  The bounds of layer 17.
-/
import Derived.Test.YtjdbnnnakpacjaaGreatY3
set_option linter.unusedVariables false
set_option linter.unusedSimpArgs false
set_option linter.constructorNameAsVariable false
namespace Go.Av
set_option maxRecDepth 4000
theorem Fld.ce' (x : Fld) : Fld.c x = [.str x.name, .int .i64 x.width] := by simp [Fld.c]
theorem fields17_ok (l : List Fld) : IsB (pureI Φ f_law17_fields [.slice 2 (l.map Fld.c)]) := by
  rw [pureI_go (fn := c_law17_fields) rfl rfl]
  by_cases q : 16 < l.length
  · simp [c_law17_fields, q]
  simp [c_law17_fields, q]
  refine loop_ex l.length (fun i e => look 0 e = some (.slice 2 (l.map Fld.c)) ∧ look 3 e = some (.int .i64 i)) IsB ?_ ?_ 0 _ (Nat.zero_le _) ?_
  · rintro i e L hi hL ⟨h0, h3⟩ ih
    have hw : IntKind.wrap .i64 ((i : Int) + 1) = ((i + 1 : Nat) : Int) := wrap64 (by omega) (by omega)
    by_cases z : 40 < l[i].name.length
    · simp [c_law17_fields_l0, Fld.ce', h0, h3, hi, z]
    simp [c_law17_fields_l0, Fld.ce', h0, h3, hi, z, hw]
    exact ih _ ⟨by simp [h0], by simp⟩
  · rintro e L hL ⟨h0, h3⟩
    simp [c_law17_fields_l0, c_law17_fields_k1, h0, h3, hL]
  · simp
theorem body17_ok (a : Action) : IsB (pureI Φ f_law17_body [.agg (Action.c a)]) := by
  rw [pureI_go (fn := c_law17_body) rfl rfl]
  obtain ⟨b, hb⟩ := fields17_ok a.params
  by_cases z0 : 40 < a.name.length
  · simp [c_law17_body, Action.ce, z0]
  cases b with
  | false => simp [c_law17_body, Action.ce, z0, hb]
  | true =>
  by_cases z1 : 16 < a.body.length
  · simp [c_law17_body, Action.ce, z0, hb, z1]
  simp [c_law17_body, Action.ce, z0, hb, z1]
  refine loop_ex a.body.length (fun i e => look 1 e = some (.iptr 3 [[.str a.name, .slice 2 (a.params.map Fld.c), .slice 7 (a.body.map Statement.c)]] 0 0) ∧ look 3 e = some (.int .i64 i)) IsB ?_ ?_ 0 _ (Nat.zero_le _) ?_
  · rintro i e L hi hL ⟨h1, h3⟩ ih
    have hw : IntKind.wrap .i64 ((i : Int) + 1) = ((i + 1 : Nat) : Int) := wrap64 (by omega) (by omega)
    by_cases z : 40 < a.body[i].index.length
    · simp [c_law17_body_l0, Statement.ce, h1, h3, hi, z]
    by_cases z' : 40 < a.body[i].value.length
    · simp [c_law17_body_l0, Statement.ce, h1, h3, hi, z, z']
    simp [c_law17_body_l0, Statement.ce, h1, h3, hi, z, z', hw]
    exact ih _ ⟨by simp [h1], by simp⟩
  · rintro e L hL ⟨h1, h3⟩
    simp [c_law17_body_l0, c_law17_body_k1, h1, h3, hL]
  · simp
def box17 (p : Prg) : AV := .iptr 9 [Prg.c p] 0 0
theorem s17_d (p : Prg) (hs : p.states.length ≤ 16) (e : Env) (n : Nat) (h1 : look 1 e = some (box17 p)) : IsB (go Φ (finP [.tmp 2]) [.c c_law17_Small_k6] .normal ⟨e, ⟨[], n⟩⟩) := by
  simp [c_law17_Small_k6]
  refine loop_ex p.states.length (fun i e => look 1 e = some (box17 p) ∧ look 8 e = some (.int .i64 i)) IsB ?_ ?_ 0 _ (Nat.zero_le _) ?_
  · rintro i e L hi hL ⟨h1, h8⟩ ih
    simp only [box17, Prg.ce] at h1
    have hw : IntKind.wrap .i64 ((i : Int) + 1) = ((i + 1 : Nat) : Int) := wrap64 (by omega) (by omega)
    by_cases z : 40 < p.states[i].name.length
    · simp [c_law17_Small_l4, ParserState.ce, h1, h8, hi, z]
    by_cases z1 : 8 < p.states[i].extract.length
    · simp [c_law17_Small_l4, ParserState.ce, h1, h8, hi, z, z1]
    by_cases z2 : 16 < p.states[i].cases.length
    · simp [c_law17_Small_l4, ParserState.ce, h1, h8, hi, z, z1, z2]
    simp [c_law17_Small_l4, ParserState.ce, h1, h8, hi, z, z1, z2, hw]
    exact ih _ ⟨by simp [h1, box17, Prg.ce], by simp⟩
  · rintro e L hL ⟨h1, h8⟩
    simp only [box17, Prg.ce] at h1
    simp [c_law17_Small_l4, c_law17_Small_k5, h1, h8, hL]
  · simp [h1]
theorem s17_c (p : Prg) (ht : p.tables.length ≤ 16) (hs : p.states.length ≤ 16) (e : Env) (n : Nat) (h1 : look 1 e = some (box17 p)) : IsB (go Φ (finP [.tmp 2]) [.c c_law17_Small_k7] .normal ⟨e, ⟨[], n⟩⟩) := by
  simp [c_law17_Small_k7]
  refine loop_exH p.tables.length (fun i e h => ∃ n, h = ⟨[], n⟩ ∧ look 1 e = some (box17 p) ∧ look 6 e = some (.int .i64 i)) IsB ?_ ?_ 0 _ _ (Nat.zero_le _) ?_
  · rintro i e _ L hi hL ⟨n, rfl, h1, h8⟩ ih
    simp only [box17, Prg.ce] at h1
    have hw : IntKind.wrap .i64 ((i : Int) + 1) = ((i + 1 : Nat) : Int) := wrap64 (by omega) (by omega)
    by_cases z : 40 < p.tables[i].name.length
    · simp [c_law17_Small_l3, Tbl.ce, h1, h8, hi, z]
    by_cases z1 : 10 < p.tables[i].keys.length
    · simp [c_law17_Small_l3, Tbl.ce, h1, h8, hi, z, z1]
    by_cases z2 : 24 < p.tables[i].actions.length
    · simp [c_law17_Small_l3, Tbl.ce, h1, h8, hi, z, z1, z2]
    by_cases z3 : 10 < p.tables[i].dflt.args.length
    · simp [c_law17_Small_l3, Tbl.ce, h1, h8, hi, z, z1, z2, z3]
    simp [c_law17_Small_l3, Tbl.ce, h1, h8, hi, z, z1, z2, z3, hw]
    exact ih _ _ ⟨_, rfl, by simp [h1, box17, Prg.ce], by simp⟩
  · rintro e _ L hL ⟨n, rfl, h1, h8⟩
    have h1' := h1
    simp only [box17, Prg.ce] at h1
    simp [c_law17_Small_l3, h1, h8, hL]
    exact s17_d p hs _ _ (by simp [h1'])
  · simp [h1]
theorem s17_b (p : Prg) (ha : p.actions.length ≤ 20) (ht : p.tables.length ≤ 16) (hs : p.states.length ≤ 16) (e : Env) (n : Nat) (h1 : look 1 e = some (box17 p)) : IsB (go Φ (finP [.tmp 2]) [.c c_law17_Small_k8] .normal ⟨e, ⟨[], n⟩⟩) := by
  simp [c_law17_Small_k8]
  refine loop_ex p.actions.length (fun i e => look 1 e = some (box17 p) ∧ look 5 e = some (.int .i64 i)) IsB ?_ ?_ 0 _ (Nat.zero_le _) ?_
  · rintro i e L hi hL ⟨h1, h8⟩ ih
    simp only [box17, Prg.ce] at h1
    have hw : IntKind.wrap .i64 ((i : Int) + 1) = ((i + 1 : Nat) : Int) := wrap64 (by omega) (by omega)
    obtain ⟨b, hb⟩ := body17_ok p.actions[i]
    simp only [Action.ce] at hb
    cases b with
    | false => simp [c_law17_Small_l2, Action.ce, h1, h8, hi, hb]
    | true =>
    simp [c_law17_Small_l2, Action.ce, h1, h8, hi, hb, hw]
    exact ih _ ⟨by simp [h1, box17, Prg.ce], by simp⟩
  · rintro e L hL ⟨h1, h8⟩
    have h1' := h1
    simp only [box17, Prg.ce] at h1
    simp [c_law17_Small_l2, h1, h8, hL]
    exact s17_c p ht hs _ _ (by simp [h1'])
  · simp [h1]
theorem s17_a (p : Prg) (hr : p.registers.length ≤ 8) (ha : p.actions.length ≤ 20) (ht : p.tables.length ≤ 16) (hs : p.states.length ≤ 16) (e : Env) (n : Nat) (h1 : look 1 e = some (box17 p)) : IsB (go Φ (finP [.tmp 2]) [.c c_law17_Small_k9] .normal ⟨e, ⟨[], n⟩⟩) := by
  simp [c_law17_Small_k9]
  refine loop_ex p.registers.length (fun i e => look 1 e = some (box17 p) ∧ look 4 e = some (.int .i64 i)) IsB ?_ ?_ 0 _ (Nat.zero_le _) ?_
  · rintro i e L hi hL ⟨h1, h8⟩ ih
    simp only [box17, Prg.ce] at h1
    have hw : IntKind.wrap .i64 ((i : Int) + 1) = ((i + 1 : Nat) : Int) := wrap64 (by omega) (by omega)
    by_cases z : 40 < p.registers[i].name.length
    · simp [c_law17_Small_l1, Register.ce, h1, h8, hi, z]
    simp [c_law17_Small_l1, Register.ce, h1, h8, hi, z, hw]
    exact ih _ ⟨by simp [h1, box17, Prg.ce], by simp⟩
  · rintro e L hL ⟨h1, h8⟩
    have h1' := h1
    simp only [box17, Prg.ce] at h1
    simp [c_law17_Small_l1, h1, h8, hL]
    exact s17_b p ha ht hs _ _ (by simp [h1'])
  · simp [h1]
theorem s17_ok (p : Prg) : IsB (pureI Φ f_law17_Small [.agg (Prg.c p)]) := by
  rw [pureI_go (fn := c_law17_Small) rfl rfl]
  obtain ⟨b, hb⟩ := fields17_ok p.metadata
  by_cases z0 : 40 < p.name.length
  · simp [c_law17_Small, Prg.ce, z0]
  by_cases z1 : 12 < p.headers.length
  · simp [c_law17_Small, Prg.ce, z0, z1]
  cases b with
  | false => simp [c_law17_Small, Prg.ce, z0, z1, hb]
  | true =>
  by_cases z2 : 8 < p.registers.length
  · simp [c_law17_Small, Prg.ce, z0, z1, hb, z2]
  by_cases z3 : 20 < p.actions.length
  · simp [c_law17_Small, Prg.ce, z0, z1, hb, z2, z3]
  by_cases z4 : 16 < p.tables.length
  · simp [c_law17_Small, Prg.ce, z0, z1, hb, z2, z3, z4]
  by_cases z5 : 16 < p.states.length
  · simp [c_law17_Small, Prg.ce, z0, z1, hb, z2, z3, z4, z5]
  by_cases z6 : 16 < p.deparser.length
  · simp [c_law17_Small, Prg.ce, z0, z1, hb, z2, z3, z4, z5, z6]
  simp [c_law17_Small, Prg.ce, z0, z1, hb, z2, z3, z4, z5, z6]
  refine loop_ex p.headers.length (fun i e => look 1 e = some (box17 p) ∧ look 3 e = some (.int .i64 i)) IsB ?_ ?_ 0 _ (Nat.zero_le _) ?_
  · rintro i e L hi hL ⟨h1, h8⟩ ih
    simp only [box17, Prg.ce] at h1
    have hw : IntKind.wrap .i64 ((i : Int) + 1) = ((i + 1 : Nat) : Int) := wrap64 (by omega) (by omega)
    obtain ⟨b, hb⟩ := fields17_ok p.headers[i].fields
    by_cases y : 40 < p.headers[i].name.length
    · simp [c_law17_Small_l0, Header.ce, h1, h8, hi, y]
    cases b with
    | false => simp [c_law17_Small_l0, Header.ce, h1, h8, hi, y, hb]
    | true =>
    simp [c_law17_Small_l0, Header.ce, h1, h8, hi, y, hb, hw]
    exact ih _ ⟨by simp [h1, box17, Prg.ce], by simp⟩
  · rintro e L hL ⟨h1, h8⟩
    have h1' := h1
    simp only [box17, Prg.ce] at h1
    simp [c_law17_Small_l0, h1, h8, hL]
    exact s17_a p (by omega) (by omega) (by omega) (by omega) _ _ (by simp [h1'])
  · simp [box17, Prg.ce]
end Go.Av
