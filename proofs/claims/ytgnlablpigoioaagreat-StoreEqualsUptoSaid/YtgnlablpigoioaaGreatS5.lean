/-
  The bounds of the laws of the store: they answer for every program and configuration.
-/
import Derived.Test.YtgnlablpigoioaaGreatS4
set_option linter.unusedVariables false
set_option linter.unusedSimpArgs false
set_option linter.constructorNameAsVariable false
namespace Go.Av
set_option maxRecDepth 4000
def hp0 (p : Prg) : AH := ⟨[(0, .row 9 [[.str p.name, .slice 2 (p.headers.map Header.c), .slice 2 (p.metadata.map Fld.c), .slice 3 (p.registers.map Register.c), .slice 3 (p.actions.map Action.c), .slice 6 (p.tables.map Tbl.c), .slice 7 (p.states.map ParserState.c), .slice 5 (p.control.map ControlNode.c), .slice 1 (p.deparser.map cI)]])], 1⟩
structure PrgB (p : Prg) : Prop where
  h : p.headers.length < 2 ^ 40
  r : p.registers.length < 2 ^ 40
  a : p.actions.length < 2 ^ 40
  b : ∀ x ∈ p.actions, x.body.length < 2 ^ 40
  t : p.tables.length < 2 ^ 40
  s : p.states.length < 2 ^ 40
  c : p.control.length < 2 ^ 40
  co : ∀ x ∈ p.control, ControlNode.Ok bulkMax x
theorem PrgB_of {p : Prg} (o : p.Ok bulkMax) : PrgB p := by
  obtain ⟨_, o1, o2, o3, o4, o5, o6, o7, o8⟩ := o
  have e := bulkMax_eq
  refine ⟨by have := o1.1; omega, by have := o3.1; omega, by have := o4.1; omega, ?_, by have := o5.1; omega, by have := o6.1; omega, by have := o7.1; omega, o7.2⟩
  intro x hx
  have h := o4.2 x hx
  simp only [Action.Ok] at h
  have := h.2.2.1
  omega
theorem s16_c (p : Prg) (f : PrgB p) (e : Env) (h1 : look 1 e = some (.ptr 0 9 0 0)) : IsB (go Φ (finP [.tmp 2]) [.c c_law16_Small_k6] .normal ⟨e, hp0 p⟩) := by
  simp [c_law16_Small_k6]
  refine loop_ex p.registers.length (fun i e => look 1 e = some (.ptr 0 9 0 0) ∧ look 6 e = some (.int .i64 i)) IsB ?_ ?_ 0 _ (Nat.zero_le _) ?_
  · rintro i e L hi hL ⟨h1, h6⟩ ih
    have hr := f.r
    have hw : IntKind.wrap .i64 ((i : Int) + 1) = ((i + 1 : Nat) : Int) := wrap64 (by omega) (by omega)
    by_cases z : 200 < p.registers[i].size
    · simp [c_law16_Small_l4, hp0, Register.ce, h1, h6, hi, hL, z]
    simp [c_law16_Small_l4, hp0, Register.ce, h1, h6, hi, hL, z, hw]
    exact ih _ ⟨by simp [h1], by simp⟩
  · rintro e L hL ⟨h1, h6⟩
    simp [c_law16_Small_l4, hp0, h1, h6, hL, c_law16_Small_k5]
  · simp [h1]
theorem s16_b (p : Prg) (f : PrgB p) (e : Env) (h1 : look 1 e = some (.ptr 0 9 0 0)) : IsB (go Φ (finP [.tmp 2]) [.c c_law16_Small_k7] .normal ⟨e, hp0 p⟩) := by
  simp [c_law16_Small_k7]
  refine loop_ex p.headers.length (fun i e => look 1 e = some (.ptr 0 9 0 0) ∧ look 5 e = some (.int .i64 i)) IsB ?_ ?_ 0 _ (Nat.zero_le _) ?_
  · rintro i e L hi hL ⟨h1, h5⟩ ih
    have hr := f.h
    have hw : IntKind.wrap .i64 ((i : Int) + 1) = ((i + 1 : Nat) : Int) := wrap64 (by omega) (by omega)
    by_cases z : 40 < p.headers[i].fields.length
    · simp [c_law16_Small_l3, hp0, Header.ce, h1, h5, hi, hL, z]
    simp [c_law16_Small_l3, hp0, Header.ce, h1, h5, hi, hL, z, hw]
    exact ih _ ⟨by simp [h1], by simp⟩
  · rintro e L hL ⟨h1, h5⟩
    simp [c_law16_Small_l3, hp0, h1, h5, hL]
    have := s16_c p f
    simp only [hp0] at this
    apply this
    simp [h1]
  · simp [h1]
theorem s16_ok (p : Prg) (f : PrgB p) : IsB (pureI Φ f_law16_Small [.agg (Prg.c p)]) := by
  rw [pureI_go (fn := c_law16_Small) rfl rfl]
  by_cases z0 : 20 < p.headers.length
  · simp [c_law16_Small, Prg.ce, z0]
  by_cases z1 : 30 < p.metadata.length
  · simp [c_law16_Small, Prg.ce, z0, z1]
  by_cases z2 : 20 < p.registers.length
  · simp [c_law16_Small, Prg.ce, z0, z1, z2]
  by_cases z3 : 40 < p.actions.length
  · simp [c_law16_Small, Prg.ce, z0, z1, z2, z3]
  simp [c_law16_Small, Prg.ce, z0, z1, z2, z3]
  refine loop_ex p.actions.length (fun i e => look 1 e = some (.ptr 0 9 0 0) ∧ look 3 e = some (.int .i64 i)) IsB ?_ ?_ 0 _ (Nat.zero_le _) ?_
  · rintro i e L hi hL ⟨h1, h3⟩ ih
    have hr := f.a
    have hw : IntKind.wrap .i64 ((i : Int) + 1) = ((i + 1 : Nat) : Int) := wrap64 (by omega) (by omega)
    by_cases y0 : 20 < p.actions[i].params.length
    · simp [c_law16_Small_l2, Action.ce, h1, h3, hi, hL, y0]
    by_cases y1 : 30 < p.actions[i].body.length
    · simp [c_law16_Small_l2, Action.ce, h1, h3, hi, hL, y0, y1]
    simp [c_law16_Small_l2, Action.ce, h1, h3, hi, hL, y0, y1]
    refine loop_ex p.actions[i].body.length (fun k e => look 1 e = some (.ptr 0 9 0 0) ∧ look 3 e = some (.int .i64 i) ∧ look 4 e = some (.int .i64 k)) IsB ?_ ?_ 0 _ (Nat.zero_le _) ?_
    · rintro k e L' hk hL' ⟨h1, h3, h4⟩ ih'
      have hw : IntKind.wrap .i64 ((k : Int) + 1) = ((k + 1 : Nat) : Int) := wrap64 (by omega) (by omega)
      by_cases x0 : 60 < p.actions[i].body[k].index.length
      · simp [c_law16_Small_l0, Action.ce, Statement.ce, h1, h3, h4, hi, hk, hL, hL', x0]
      by_cases x1 : 60 < p.actions[i].body[k].value.length
      · simp [c_law16_Small_l0, Action.ce, Statement.ce, h1, h3, h4, hi, hk, hL, hL', x0, x1]
      simp [c_law16_Small_l0, Action.ce, Statement.ce, h1, h3, h4, hi, hk, hL, hL', x0, x1, hw]
      exact ih' _ ⟨by simp [h1], by simp [h3], by simp⟩
    · rintro e L' hL' ⟨h1, h3, h4⟩
      simp [c_law16_Small_l0, Action.ce, h1, h3, h4, hi, hL, hL', c_law16_Small_k1, hw]
      exact ih _ ⟨by simp [h1], by simp⟩
    · simp [h1, h3]
  · rintro e L hL ⟨h1, h3⟩
    simp [c_law16_Small_l2, h1, h3, hL]
    have := s16_b p f
    simp only [hp0] at this
    apply this
    simp [h1]
  · simp
theorem s22_b (p : Prg) (f : PrgB p) (e : Env) (h1 : look 1 e = some (.ptr 0 9 0 0)) : IsB (go Φ (finP [.tmp 2]) [.c c_law22_Small_k3] .normal ⟨e, hp0 p⟩) := by
  simp [c_law22_Small_k3]
  refine loop_ex p.states.length (fun i e => look 1 e = some (.ptr 0 9 0 0) ∧ look 4 e = some (.int .i64 i)) IsB ?_ ?_ 0 _ (Nat.zero_le _) ?_
  · rintro i e L hi hL ⟨h1, h4⟩ ih
    have hr := f.s
    have hw : IntKind.wrap .i64 ((i : Int) + 1) = ((i + 1 : Nat) : Int) := wrap64 (by omega) (by omega)
    by_cases z : 20 < p.states[i].extract.length
    · simp [c_law22_Small_l1, hp0, ParserState.ce, h1, h4, hi, hL, z]
    by_cases z1 : 20 < p.states[i].cases.length
    · simp [c_law22_Small_l1, hp0, ParserState.ce, h1, h4, hi, hL, z, z1]
    simp [c_law22_Small_l1, hp0, ParserState.ce, h1, h4, hi, hL, z, z1, hw]
    exact ih _ ⟨by simp [h1], by simp⟩
  · rintro e L hL ⟨h1, h4⟩
    simp [c_law22_Small_l1, hp0, h1, h4, hL, c_law22_Small_k2]
  · simp [h1]
theorem s22_ok (p : Prg) (f : PrgB p) : IsB (pureI Φ f_law22_Small [.agg (Prg.c p)]) := by
  obtain ⟨b, hb⟩ := s16_ok p f
  obtain ⟨n, hn⟩ := blocks_ok _ p.control 0 60 (Nat.le_refl _) f.c f.co
  simp only [Prg.ce] at hb
  rw [pureI_go (fn := c_law22_Small) rfl rfl]
  cases b with
  | false => simp [c_law22_Small, Prg.ce, hb]
  | true =>
  by_cases z0 : 30 < p.tables.length
  · simp [c_law22_Small, Prg.ce, hb, hn, z0]
  by_cases z1 : 30 < p.states.length
  · simp [c_law22_Small, Prg.ce, hb, hn, z0, z1]
  by_cases z2 : 30 < p.deparser.length
  · simp [c_law22_Small, Prg.ce, hb, hn, z0, z1, z2]
  by_cases z3 : 60 < n
  · simp [c_law22_Small, Prg.ce, hb, hn, z0, z1, z2, z3]
  simp [c_law22_Small, Prg.ce, hb, hn, z0, z1, z2, z3]
  refine loop_ex p.tables.length (fun i e => look 1 e = some (.ptr 0 9 0 0) ∧ look 3 e = some (.int .i64 i)) IsB ?_ ?_ 0 _ (Nat.zero_le _) ?_
  · rintro i e L hi hL ⟨h1, h3⟩ ih
    have hr := f.t
    have hw : IntKind.wrap .i64 ((i : Int) + 1) = ((i + 1 : Nat) : Int) := wrap64 (by omega) (by omega)
    by_cases y0 : 20 < p.tables[i].keys.length
    · simp [c_law22_Small_l0, Tbl.ce, h1, h3, hi, hL, y0]
    by_cases y1 : 40 < p.tables[i].actions.length
    · simp [c_law22_Small_l0, Tbl.ce, h1, h3, hi, hL, y0, y1]
    by_cases y2 : 40 < p.tables[i].dflt.args.length
    · simp [c_law22_Small_l0, Tbl.ce, h1, h3, hi, hL, y0, y1, y2]
    simp [c_law22_Small_l0, Tbl.ce, h1, h3, hi, hL, y0, y1, y2, hw]
    exact ih _ ⟨by simp [h1], by simp⟩
  · rintro e L hL ⟨h1, h3⟩
    simp [c_law22_Small_l0, h1, h3, hL]
    have := s22_b p f
    simp only [hp0] at this
    apply this
    simp [h1]
  · simp
def hp1 (p : Prg) (c : Config) : AH := ⟨[(0, .row 9 [[.str p.name, .slice 2 (p.headers.map Header.c), .slice 2 (p.metadata.map Fld.c), .slice 3 (p.registers.map Register.c), .slice 3 (p.actions.map Action.c), .slice 6 (p.tables.map Tbl.c), .slice 7 (p.states.map ParserState.c), .slice 5 (p.control.map ControlNode.c), .slice 1 (p.deparser.map cI)]]), (1, .row 4 [[.slice 1 (c.rows.map (cS 5 Rw.c)), .slice 1 (c.nextID.map cI), .slice 2 (c.defaults.map ActionCall.c), .slice 1 (c.registers.map (cS 1 c32))]])], 2⟩
theorem s25_b (p : Prg) (c : Config) (f : CfgS c) (q : Int) (e : Env) (h3 : look 3 e = some (.ptr 1 4 0 0)) (h5 : look 5 e = some (.int .i64 q)) : IsB (go Φ (finP [.tmp 4]) [.c c_law25_Small_k5] .normal ⟨e, hp1 p c⟩) := by
  simp [c_law25_Small_k5]
  refine loop_ex c.registers.length (fun i e => look 3 e = some (.ptr 1 4 0 0) ∧ look 5 e = some (.int .i64 q) ∧ look 8 e = some (.int .i64 i)) IsB ?_ ?_ 0 _ (Nat.zero_le _) ?_
  · rintro i e L hi hL ⟨h3, h5, h8⟩ ih
    have hr := f.gl
    have hw : IntKind.wrap .i64 ((i : Int) + 1) = ((i + 1 : Nat) : Int) := wrap64 (by omega) (by omega)
    by_cases z : 300 < c.registers[i].length
    · simp [c_law25_Small_l3, hp1, cSe, h3, h8, hi, hL, z]
    simp [c_law25_Small_l3, hp1, cSe, h3, h8, hi, hL, z, hw]
    exact ih _ ⟨by simp [h3], by simp [h5], by simp⟩
  · rintro e L hL ⟨h3, h5, h8⟩
    simp [c_law25_Small_l3, hp1, h3, h5, h8, hL, c_law25_Small_k4]
  · simp [h3, h5]
theorem s25_ok (p : Prg) (c : Config) (f : PrgB p) (g : CfgS c) : IsB (pureI Φ f_law25_Small [.agg (Prg.c p), .agg (Config.c c)]) := by
  obtain ⟨b, hb⟩ := s22_ok p f
  simp only [Prg.ce] at hb
  rw [pureI_go (fn := c_law25_Small) rfl rfl]
  cases b with
  | false => simp [c_law25_Small, Prg.ce, Config.ce, hb]
  | true =>
  by_cases z0 : 30 < c.rows.length
  · simp [c_law25_Small, Prg.ce, Config.ce, hb, z0]
  by_cases z1 : 30 < c.registers.length
  · simp [c_law25_Small, Prg.ce, Config.ce, hb, z0, z1]
  by_cases z2 : 30 < c.defaults.length
  · simp [c_law25_Small, Prg.ce, Config.ce, hb, z0, z1, z2]
  by_cases z3 : 60 < c.nextID.length
  · simp [c_law25_Small, Prg.ce, Config.ce, hb, z0, z1, z2, z3]
  simp [c_law25_Small, Prg.ce, Config.ce, hb, z0, z1, z2, z3]
  refine loop_ex c.rows.length (fun i e => look 3 e = some (.ptr 1 4 0 0) ∧ look 6 e = some (.int .i64 i) ∧ ∃ q, look 5 e = some (.int .i64 q)) IsB ?_ ?_ 0 _ (Nat.zero_le _) ?_
  · rintro i e L hi hL ⟨h3, h6, q, h5⟩ ih
    have hr := g.rl
    have hw : IntKind.wrap .i64 ((i : Int) + 1) = ((i + 1 : Nat) : Int) := wrap64 (by omega) (by omega)
    have hri := (g.rs _ (List.getElem_mem hi)).1
    simp [c_law25_Small_l2, cSe, h3, h5, h6, hi, hL]
    refine loop_ex c.rows[i].length (fun k e => look 3 e = some (.ptr 1 4 0 0) ∧ look 6 e = some (.int .i64 i) ∧ look 7 e = some (.int .i64 k) ∧ ∃ q, look 5 e = some (.int .i64 q)) IsB ?_ ?_ 0 _ (Nat.zero_le _) ?_
    · rintro k e L' hk hL' ⟨h3, h6, h7, q, h5⟩ ih'
      have hw' : IntKind.wrap .i64 ((k : Int) + 1) = ((k + 1 : Nat) : Int) := wrap64 (by omega) (by omega)
      by_cases x : (k : Int) < 300
      rotate_left
      · simp [c_law25_Small_l0, cSe, h3, h6, h7, hi, hk, hL, hL', x, c_law25_Small_k1, hw]
        exact ih _ ⟨by simp [h3], by simp, q, by simp [h5]⟩
      by_cases x0 : 30 < c.rows[i][k].entry.keys.length
      · simp [c_law25_Small_l0, cSe, Rw.ce, h3, h6, h7, hi, hk, hL, hL', x, x0]
      by_cases x1 : 30 < c.rows[i][k].entry.call.args.length
      · simp [c_law25_Small_l0, cSe, Rw.ce, h3, h6, h7, hi, hk, hL, hL', x, x0, x1]
      simp [c_law25_Small_l0, cSe, Rw.ce, h3, h6, h7, hi, hk, hL, hL', x, x0, x1, hw']
      exact ih' _ ⟨by simp [h3], by simp [h6], by simp, q, by simp [h5]⟩
    · rintro e L' hL' ⟨h3, h6, h7, q, h5⟩
      simp [c_law25_Small_l0, cSe, h3, h6, h7, hi, hL, hL', c_law25_Small_k1, hw]
      exact ih _ ⟨by simp [h3], by simp, q, by simp [h5]⟩
    · simp [h3, h6]
  · rintro e L hL ⟨h3, h6, q, h5⟩
    simp [c_law25_Small_l2, h3, h6, hL]
    have := s25_b p c g q
    simp only [hp1] at this
    apply this
    · simp [h3]
    · simp [h5]
  · simp
end Go.Av
