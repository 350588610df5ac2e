/-
  Statements, actions, calls: the reference's answers.
-/
import Derived.Test.YtjdbnnnakpacjaaGreatL3
set_option linter.unusedVariables false
set_option linter.unusedSimpArgs false
set_option linter.constructorNameAsVariable false
namespace Go.Av
set_option maxRecDepth 4000
theorem rvalE_ok (p : Prg) (ps : List Fld) (l : List ExprNode) (w : Int) : pureI Φ f_ref16_sized [.slice 3 (l.map ExprNode.c), .agg (scC p ps), .int .i64 w] = some (.val (.int .i64 (valE p ps l w))) := by
  rw [pureI_go (fn := c_ref16_sized) rfl rfl]
  have h := rexE_ok p ps l
  simp only [scC_e] at h
  by_cases z : (exE p ps l).2 = 0
  · rw [z] at h
    by_cases y : (exE p ps l).1 = w
    · simp [c_ref16_sized, scC_e, h, valE, z, y]
    · simp [c_ref16_sized, scC_e, h, valE, z, y]
  · simp [c_ref16_sized, scC_e, h, valE, z]
theorem rstmE_ok (p : Prg) (ps : List Fld) (s : Statement) : pureI Φ f_ref16_statement [.agg (Prg.c p), .agg (Statement.c s), .agg (scC p ps)] = some (.val (.int .i64 (stmE p ps s))) := by
  rw [pureI_go (fn := c_ref16_statement) rfl rfl]
  have hd := declared_ok p s.dst.header s.dst.field
  have hi := rexE_ok p ps s.index
  simp only [Prg.e] at hd
  simp only [scC_e] at hi
  -- the register
  have hr : (s.register < 0 ∧ at? p.registers s.register = none) ∨ (¬ s.register < 0 ∧ (p.registers.length : Int) ≤ s.register ∧ at? p.registers s.register = none) ∨ ∃ k : Nat, ∃ h : k < p.registers.length, s.register = k ∧ at? p.registers s.register = some p.registers[k] := by
    by_cases h0 : s.register < 0
    · exact .inl ⟨h0, at_neg h0⟩
    by_cases h1 : (p.registers.length : Int) ≤ s.register
    · exact .inr (.inl ⟨h0, h1, at_big h1⟩)
    obtain ⟨k, hk⟩ : ∃ k : Nat, s.register = k := ⟨s.register.toNat, by omega⟩
    exact .inr (.inr ⟨k, by omega, hk, by rw [hk]; simp⟩)
  have hx : ∀ w, pureI Φ f_ref16_sized [.slice 3 (s.value.map ExprNode.c), .agg (scC p ps), .int .i64 w] = some (.val (.int .i64 (valE p ps s.value w))) := rvalE_ok p ps s.value
  simp only [scC_e] at hx
  have hd' : pureI Φ f_ref13_Declared [.agg [.str p.name, .slice 2 (p.headers.map Header.c), .slice 2 (p.metadata.map Fld.c), .slice 3 (p.registers.map Register.c), .slice 3 (p.actions.map Action.c), .slice 6 (p.tables.map Tbl.c), .slice 7 (p.states.map ParserState.c), .slice 5 (p.control.map ControlNode.c), .slice 1 (p.deparser.map cI)], .agg [.int .i64 s.dst.header, .int .i64 s.dst.field]] =
      some (.val (.tup [.int .i64 ((decl p s.dst.header s.dst.field).getD 0), .bool (decl p s.dst.header s.dst.field).isSome])) := by
    rw [hd]
    cases decl p s.dst.header s.dst.field <;> rfl
  clear hd
  by_cases k1 : s.kind = 1
  · rcases hr with ⟨r0, rn⟩ | ⟨r0, r1, rn⟩ | ⟨m, hm, rk, rn⟩ <;> cases qd : decl p s.dst.header s.dst.field <;> rw [qd] at hd'
    · simp [c_ref16_statement, Prg.e, scC_e, Statement.e, hd', stmE, qd, k1, Int.not_le.2 r0]
    · simp [c_ref16_statement, Prg.e, scC_e, Statement.e, hd', stmE, qd, k1, Int.not_le.2 r0, hx]
    · simp [c_ref16_statement, Prg.e, scC_e, Statement.e, hd', stmE, qd, k1, Int.not_lt.1 r0, Int.not_lt.2 r1]
    · simp [c_ref16_statement, Prg.e, scC_e, Statement.e, hd', stmE, qd, k1, Int.not_lt.1 r0, Int.not_lt.2 r1, hx]
    · simp [c_ref16_statement, Prg.e, scC_e, Statement.e, hd', stmE, qd, k1, rk, hm]
    · simp [c_ref16_statement, Prg.e, scC_e, Statement.e, hd', stmE, qd, k1, rk, hm, hx]
  by_cases k2 : s.kind = 2
  · have e : stmE p ps s = if (at? p.headers s.header).isSome then 0 else 8 := by simp [stmE, k2]
    rw [e, at_isSome]
    by_cases h0 : s.header < 0 <;> by_cases h1 : (p.headers.length : Int) ≤ s.header <;> rcases hr with ⟨r0, rn⟩ | ⟨r0, r1, rn⟩ | ⟨m, hm, rk, rn⟩
    all_goals first
      | simp [c_ref16_statement, Prg.e, scC_e, Statement.e, hd', k2, Int.not_le.2 r0, h0, h1]
      | simp [c_ref16_statement, Prg.e, scC_e, Statement.e, hd', k2, Int.not_lt.1 r0, Int.not_lt.2 r1, h0, h1]
      | simp [c_ref16_statement, Prg.e, scC_e, Statement.e, hd', k2, rk, hm, h0, h1]
  by_cases k3 : s.kind = 3
  · have e : stmE p ps s = if (at? p.headers s.header).isSome then 0 else 8 := by simp [stmE, k3]
    rw [e, at_isSome]
    by_cases h0 : s.header < 0 <;> by_cases h1 : (p.headers.length : Int) ≤ s.header <;> rcases hr with ⟨r0, rn⟩ | ⟨r0, r1, rn⟩ | ⟨m, hm, rk, rn⟩
    all_goals first
      | simp [c_ref16_statement, Prg.e, scC_e, Statement.e, hd', k3, Int.not_le.2 r0, h0, h1]
      | simp [c_ref16_statement, Prg.e, scC_e, Statement.e, hd', k3, Int.not_lt.1 r0, Int.not_lt.2 r1, h0, h1]
      | simp [c_ref16_statement, Prg.e, scC_e, Statement.e, hd', k3, rk, hm, h0, h1]
  by_cases k4 : s.kind = 4
  · cases qd : decl p s.dst.header s.dst.field with
    | none =>
      rw [qd] at hd'
      rcases hr with ⟨r0, rn⟩ | ⟨r0, r1, rn⟩ | ⟨m, hm, rk, rn⟩
      · simp [c_ref16_statement, Prg.e, scC_e, Statement.e, hd', stmE, k4, Int.not_le.2 r0, rn, qd]
      · simp [c_ref16_statement, Prg.e, scC_e, Statement.e, hd', stmE, k4, Int.not_lt.1 r0, Int.not_lt.2 r1, rn, qd]
      · rw [rk] at rn
        simp [c_ref16_statement, Prg.e, scC_e, Statement.e, hd', stmE, k4, rk, hm, rn, qd]
    | some w =>
      rw [qd] at hd'
      rcases hr with ⟨r0, rn⟩ | ⟨r0, r1, rn⟩ | ⟨m, hm, rk, rn⟩
      · simp [c_ref16_statement, Prg.e, scC_e, Statement.e, hd', stmE, k4, Int.not_le.2 r0, rn, qd]
      · simp [c_ref16_statement, Prg.e, scC_e, Statement.e, hd', stmE, k4, Int.not_lt.1 r0, Int.not_lt.2 r1, rn, qd]
      · rw [rk] at rn
        by_cases z : (exE p ps s.index).2 = 0
        · rw [z] at hi
          by_cases y : w = p.registers[m].width
          · simp [c_ref16_statement, Prg.e, scC_e, Statement.e, Register.e, hd', stmE, k4, rk, hm, rn, qd, hi, z, y]
          · simp [c_ref16_statement, Prg.e, scC_e, Statement.e, Register.e, hd', stmE, k4, rk, hm, rn, qd, hi, z, y]
        · simp [c_ref16_statement, Prg.e, scC_e, Statement.e, hd', stmE, k4, rk, hm, rn, qd, hi, z]
  by_cases k5 : s.kind = 5
  · rcases hr with ⟨r0, rn⟩ | ⟨r0, r1, rn⟩ | ⟨m, hm, rk, rn⟩
    · simp [c_ref16_statement, Prg.e, scC_e, Statement.e, hd', stmE, k5, Int.not_le.2 r0, rn]
    · simp [c_ref16_statement, Prg.e, scC_e, Statement.e, hd', stmE, k5, Int.not_lt.1 r0, Int.not_lt.2 r1, rn]
    · rw [rk] at rn
      by_cases z : (exE p ps s.index).2 = 0
      · rw [z] at hi
        simp [c_ref16_statement, Prg.e, scC_e, Statement.e, Register.e, hd', stmE, k5, rk, hm, rn, hi, z, hx]
      · simp [c_ref16_statement, Prg.e, scC_e, Statement.e, hd', stmE, k5, rk, hm, rn, hi, z]
  rcases hr with ⟨r0, rn⟩ | ⟨r0, r1, rn⟩ | ⟨m, hm, rk, rn⟩
  · simp [c_ref16_statement, Prg.e, scC_e, Statement.e, hd', stmE, k1, k2, k3, k4, k5, Int.not_le.2 r0]
  · simp [c_ref16_statement, Prg.e, scC_e, Statement.e, hd', stmE, k1, k2, k3, k4, k5, Int.not_lt.1 r0, Int.not_lt.2 r1]
  · simp [c_ref16_statement, Prg.e, scC_e, Statement.e, hd', stmE, k1, k2, k3, k4, k5, rk, hm]
theorem params_ok (l : List Fld) (hl : l.length < 2 ^ 40) (hf : ∀ f ∈ l, f.name.length < 2 ^ 40) : pureI Φ f_ref16_params [.slice 2 (l.map Fld.c)] = some (.val (.int .i64 (errO (fldsE l)))) := by
  rw [pureI_go (fn := c_ref16_params) rfl rfl, show fldsE l = fe (actG l) l.length 0 from rfl]
  simp [c_ref16_params]
  refine loop_nat0 l.length (fun i e => look 0 e = some (.slice 2 (l.map Fld.c)) ∧ look 3 e = some (.int .i64 i))
    (fun i => some (Rt.val (.int .i64 (errO (fe (actG l) l.length i))))) ?_ ?_ 0 _ (Nat.zero_le _) ?_
  · rintro i e L hi hL ⟨h0, h3⟩ ih
    have hw : IntKind.wrap .i64 ((i : Int) + 1) = ((i + 1 : Nat) : Int) := wrap64 (by omega) (by omega)
    have nf := rIdent_ok l[i].name (hf _ (List.getElem_mem hi))
    cases p1 : idS l[i].name with
    | false =>
      rw [p1] at nf
      rw [fe_hit (x := 6) hi (by simp [actG, hi, fldE, p1, er])]
      simp [c_ref16_params_l2, Fld.e, h0, h3, hi, nf]
    | true =>
    rw [p1] at nf
    by_cases w1 : l[i].width < 1
    · rw [fe_hit (x := 10) hi (by simp [actG, hi, fldE, p1, wBad, w1, er])]
      simp [c_ref16_params_l2, Fld.e, h0, h3, hi, nf, w1]
    by_cases w2 : 32 < l[i].width
    · rw [fe_hit (x := 10) hi (by simp [actG, hi, fldE, p1, wBad, w2, er])]
      simp [c_ref16_params_l2, Fld.e, h0, h3, hi, nf, w1, w2]
    generalize hX : some (Rt.val (AV.int .i64 (errO (fe (actG l) l.length i)))) = X
    simp [c_ref16_params_l2, Fld.e, h0, h3, hi, nf, w1, w2]
    refine (loop_any (l.take i) (fun g => decide (g.name = l[i].name)) (some (Rt.val (.int .i64 7))) (some (Rt.val (.int .i64 (errO (fe (actG l) l.length (i + 1))))))
      (fun k e H => look 0 e = some (.slice 2 (l.map Fld.c)) ∧ look 3 e = some (.int .i64 i) ∧ look 4 e = some (.int .i64 k) ∧ H = ⟨[], 0⟩ ∧ (0 < k → anyFrom (l.take i) (fun g => decide (g.name = l[i].name)) 0 = anyFrom (l.take i) (fun g => decide (g.name = l[i].name)) k)) ?_ ?_ ?_ _ _ ?_).trans ?_
    · rintro k e _ L' hk hL' ⟨h0, h3, h4, rfl, _⟩ hb
      simp only [List.length_take] at hk
      have hk1 : k < i := by omega
      have hk2 : k < l.length := by omega
      simp only [List.getElem_take, decide_eq_true_eq] at hb
      simp [c_ref16_params_l0, Fld.e, h0, h3, h4, hk1, hk2, hi, hb]
    · rintro k e _ L' X hk hL' ⟨h0, h3, h4, rfl, hy⟩ hb ih'
      have hb' := hb
      have hk0 := hk
      simp only [List.length_take] at hk
      have hk1 : k < i := by omega
      have hk2 : k < l.length := by omega
      simp only [List.getElem_take, decide_eq_false_iff_not] at hb
      have hw' : IntKind.wrap .i64 ((k : Int) + 1) = ((k + 1 : Nat) : Int) := wrap64 (by omega) (by omega)
      simp [c_ref16_params_l0, Fld.e, h0, h3, h4, hk1, hk2, hi, hb, hw']
      refine ih' _ _ ⟨by simp [h0], by simp [h3], by simp, rfl, fun _ => ?_⟩
      rcases Nat.eq_zero_or_pos k with rfl | hp
      · exact any_miss hk0 hb'
      · rw [hy hp]; exact any_miss hk0 hb'
    · rintro e _ L' hL' ⟨h0, h3, h4, rfl, hy⟩
      have hm : min i l.length = i := by omega
      simp [hm] at h4
      simp [c_ref16_params_l0, c_ref16_params_k1, h3, h4, hL', hw]
      exact ih _ ⟨by simp [h0], by simp⟩
    · simp [h0, h3]
    · rw [← hX]
      cases p3 : dupN Fld.name l i l[i] with
      | true =>
        rw [fe_hit (x := 7) hi (by simp [actG, hi, fldE, p1, wBad, w1, w2, p3, er])]
        unfold dupN at p3
        rw [p3]
        rfl
      | false =>
        rw [fe_miss hi (by simp [actG, hi, fldE, p1, wBad, w1, w2, p3])]
        unfold dupN at p3
        rw [p3]
        rfl
  · rintro e L hL ⟨h0, h3⟩
    rw [fe_end]
    simp [c_ref16_params_l2, c_ref16_params_k3, h0, h3, hL]
  · simp
theorem scope_ok (p : Prg) (k : Nat) (hk : k < p.actions.length) : pureI Φ f_ref16_scope [.agg (Prg.c p), .int .i64 k] = some (.val (.agg (scC p p.actions[k].params))) := by
  rw [pureI_go (fn := c_ref16_scope) rfl rfl]
  simp [c_ref16_scope, Prg.e, scC_e, Action.e, hk]
theorem ractE_ok (p : Prg) (f : PrgS p) (i : Int) : pureI Φ f_ref16_Check [.agg (Prg.c p), .int .i64 i] = some (.val (.tup [.int .i64 (actE p i).1, .int .i64 (actE p i).2])) := by
  rw [pureI_go (fn := c_ref16_Check) rfl rfl]
  by_cases i0 : i < 0
  · simp [c_ref16_Check, Prg.e, i0, actE, at_neg i0]
  by_cases i1 : (p.actions.length : Int) ≤ i
  · simp [c_ref16_Check, Prg.e, i0, i1, actE, at_big i1]
  obtain ⟨k, rfl⟩ : ∃ k : Nat, i = k := ⟨i.toNat, by omega⟩
  have hk : k < p.actions.length := by omega
  have hm := List.getElem_mem hk
  have n1 := rIdent_ok p.actions[k].name (f.an _ hm)
  have n2 := params_ok p.actions[k].params (f.ap _ hm) (f.apn _ hm)
  cases q1 : idS p.actions[k].name with
  | false => rw [q1] at n1; simp [c_ref16_Check, Prg.e, Action.e, hk, Nat.not_le.2 hk, n1, actE, actD, q1]
  | true =>
  rw [q1] at n1
  by_cases z0 : 4 < p.actions[k].params.length
  · simp [c_ref16_Check, Prg.e, Action.e, hk, Nat.not_le.2 hk, n1, actE, actD, q1, z0]
  by_cases z1 : 12 < p.actions[k].body.length
  · simp [c_ref16_Check, Prg.e, Action.e, hk, Nat.not_le.2 hk, n1, actE, actD, q1, z0, z1]
  by_cases z2 : errO (fldsE p.actions[k].params) = 0
  rotate_left
  · simp [c_ref16_Check, Prg.e, Action.e, hk, Nat.not_le.2 hk, n1, n2, actE, actD, q1, z0, z1, z2]
  rw [z2] at n2
  have hE : actE p k = (fe (bodyG p p.actions[k]) p.actions[k].body.length 0).getD (0, 0) := by simp [actE, actD, hk, q1, z0, z1, z2] <;> rfl
  rw [hE]
  simp [c_ref16_Check, Prg.e, Action.e, hk, Nat.not_le.2 hk, n1, n2, z0, z1]
  have hb := f.ab _ hm
  refine loop_nx p.actions[k].body.length (fun _ => []) 0 (fun i e => look 1 e = some (.int .i64 k) ∧ look 2 e = some (.iptr 9 [Prg.c p] 0 0) ∧ look 6 e = some (.iptr 3 [Action.c p.actions[k]] 0 0) ∧ look 7 e = some (.int .i64 i))
    (fun i => some (Rt.val (.tup [.int .i64 ((fe (bodyG p p.actions[k]) p.actions[k].body.length i).getD (0, 0)).1, .int .i64 ((fe (bodyG p p.actions[k]) p.actions[k].body.length i).getD (0, 0)).2]))) ?_ ?_ 0 _ _ (Nat.zero_le _) (Nat.zero_le _) ?_
  · rintro i e n L hi hL _ ⟨h1, h2, h6, h7⟩ ih
    have hw : IntKind.wrap .i64 ((i : Int) + 1) = ((i + 1 : Nat) : Int) := wrap64 (by omega) (by omega)
    have hs := rstmE_ok p p.actions[k].params p.actions[k].body[i]
    have hsc := scope_ok p k hk
    simp only [Statement.e, scC_e, Prg.e] at hs hsc
    rw [Prg.e] at h2
    rw [Action.e] at h6
    by_cases y : stmE p p.actions[k].params p.actions[k].body[i] = 0
    · rw [y] at hs
      rw [fe_miss hi (by simp [bodyG, hi, y])]
      simp [c_ref16_Check_l0, Statement.e, h1, h2, h6, h7, hi, hs, hsc, hw]
      exact ih _ _ (Nat.zero_le _) ⟨by simp [h1], by simp [h2, Prg.e], by simp [h6, Action.e], by simp⟩
    · rw [fe_hit (x := ((i : Int), stmE p p.actions[k].params p.actions[k].body[i])) hi (by simp [bodyG, hi, y])]
      simp [c_ref16_Check_l0, Statement.e, h1, h2, h6, h7, hi, hs, hsc, y]
  · rintro e n L hL _ ⟨h1, h2, h6, h7⟩
    rw [fe_end]
    rw [Action.e] at h6
    simp [c_ref16_Check_l0, c_ref16_Check_k1, h6, h7, hL]
  · simp [Prg.e, Action.e]
theorem rcallE_ok (p : Prg) (f : PrgS p) (c : ActionCall) (hc : c.args.length < 2 ^ 40) (hv : ∀ v ∈ c.args, ok32 0 v) : pureI Φ f_ref16_CheckCall [.agg (Prg.c p), .agg (ActionCall.c c)] = some (.val (.int .i64 (callE p c))) := by
  rw [pureI_go (fn := c_ref16_CheckCall) rfl rfl]
  by_cases i0 : c.action < 0
  · simp [c_ref16_CheckCall, Prg.e, ActionCall.e, i0, callE, at_neg i0]
  by_cases i1 : (p.actions.length : Int) ≤ c.action
  · simp [c_ref16_CheckCall, Prg.e, ActionCall.e, i0, i1, callE, at_big i1]
  obtain ⟨k, hk0⟩ : ∃ k : Nat, c.action = k := ⟨c.action.toNat, by omega⟩
  have hk : k < p.actions.length := by omega
  by_cases z : c.args.length = p.actions[k].params.length
  rotate_left
  · simp [c_ref16_CheckCall, Prg.e, ActionCall.e, Action.e, hk0, hk, Nat.not_le.2 hk, callE, z]
  have hE : callE p c = errO (fe (callG c.args p.actions[k].params) c.args.length 0) := by simp [callE, hk0, hk, z] <;> rfl
  rw [hE]
  simp [c_ref16_CheckCall, Prg.e, ActionCall.e, Action.e, hk0, hk, Nat.not_le.2 hk, z]
  rw [← z]
  refine loop_nat0 c.args.length (fun i e => look 3 e = some (.iptr 2 [ActionCall.c c] 0 0) ∧ look 5 e = some (.slice 2 (p.actions[k].params.map Fld.c)) ∧ look 6 e = some (.int .i64 i))
    (fun i => some (Rt.val (.int .i64 (errO (fe (callG c.args p.actions[k].params) c.args.length i))))) ?_ ?_ 0 _ (Nat.zero_le _) ?_
  · rintro i e L hi hL ⟨h3, h5, h6⟩ ih
    have hw : IntKind.wrap .i64 ((i : Int) + 1) = ((i + 1 : Nat) : Int) := wrap64 (by omega) (by omega)
    have hi2 : i < p.actions[k].params.length := by omega
    have hf := rFits_ok c.args[i] p.actions[k].params[i].width (hv _ (List.getElem_mem hi))
    rw [ActionCall.e] at h3
    cases y : fits c.args[i] p.actions[k].params[i].width with
    | true =>
      rw [y] at hf
      rw [fe_miss hi (by simp [callG, hi, hi2, y])]
      simp [c_ref16_CheckCall_l0, Fld.e, c32, h3, h5, h6, hi, hi2, hf, hw]
      exact ih _ ⟨by simp [h3, ActionCall.e], by simp [h5], by simp⟩
    | false =>
      rw [y] at hf
      rw [fe_hit (x := 9) hi (by simp [callG, hi, hi2, y])]
      simp [c_ref16_CheckCall_l0, Fld.e, c32, h3, h5, h6, hi, hi2, hf]
  · rintro e L hL ⟨h3, h5, h6⟩
    rw [fe_end]
    simp [c_ref16_CheckCall_l0, c_ref16_CheckCall_k1, h5, h6, hL, ← z]
  · simp [ActionCall.e, hk0]
end Go.Av
