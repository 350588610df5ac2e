/-
  Actions and calls: the program's answers.
-/
import Derived.Test.YtjdbnnnakpacjaaGreatK9
set_option linter.unusedVariables false
set_option linter.unusedSimpArgs false
set_option linter.constructorNameAsVariable false
namespace Go.Av
set_option maxRecDepth 4000
theorem decl1_ok (g : Fld) (s : List UInt8) (w : Int) : pureI Φ f_action_declaration_1 [.agg (Fld.c g), .iptr 2 [[.str s, .int .i64 w]] 0 0] = some (.val (.bool (decide (g.name = s)))) := by
  rw [pureI_go (fn := c_action_declaration_1) rfl rfl]
  simp [c_action_declaration_1, Fld.e]
theorem indexFld_ok (l : List Fld) (s : List UInt8) (w : Int) (hl : l.length < 2 ^ 40) : pureI Φ f_slices_IndexFunc_api_Field_api_Field [.slice 2 (l.map Fld.c), .func (.func f_action_declaration_1) [] [.iptr 2 [[.str s, .int .i64 w]] 0 0]] = some (.val (.int .i64 (ix (fun g => decide (g.name = s)) l 0))) := by
  rw [pureI_go (fn := c_slices_IndexFunc_api_Field_api_Field) rfl rfl]
  simp [c_slices_IndexFunc_api_Field_api_Field]
  refine (loop_nat0 l.length (fun i e => look 0 e = some (.slice 2 (l.map Fld.c)) ∧ look 1 e = some (.func (.func f_action_declaration_1) [] [.iptr 2 [[.str s, .int .i64 w]] 0 0]) ∧ look 7 e = some (.int .i64 l.length) ∧ look 8 e = some (.int .i64 i))
    (fun i => some (.val (.int .i64 (ix (fun g => decide (g.name = s)) l i)))) ?_ ?_ 0 _ (Nat.zero_le _) ?_).trans (by simp)
  · rintro i e L hi hL ⟨h0, h1, h7, h8⟩ ih
    have hw : IntKind.wrap .i64 ((i : Int) + 1) = ((i + 1 : Nat) : Int) := wrap64 (by omega) (by omega)
    have hd := decl1_ok l[i] s w
    simp only [Fld.e] at hd
    by_cases z : l[i].name = s
    · rw [ix_hit hi (by simpa using z)]
      rw [decide_eq_true z] at hd
      simp [c_slices_IndexFunc_api_Field_api_Field_l0, Fld.e, h0, h1, h7, h8, hi, hd]
    · rw [ix_miss hi (by simpa using z)]
      simp [c_slices_IndexFunc_api_Field_api_Field_l0, Fld.e, h0, h1, h7, h8, hi, hd, z, hw]
      exact ih _ ⟨by simp [h0], by simp [h1], by simp [h7], by simp⟩
  · rintro e L hL ⟨h0, h1, h7, h8⟩
    rw [ix_end]
    simp [c_slices_IndexFunc_api_Field_api_Field_l0, c_slices_IndexFunc_api_Field_api_Field_k1, h7, h8, hL]
  · simp
theorem containsFld_ok (l : List Fld) (s : List UInt8) (w : Int) (hl : l.length < 2 ^ 40) : pureI Φ f_slices_ContainsFunc_api_Field_api_Field [.slice 2 (l.map Fld.c), .func (.func f_action_declaration_1) [] [.iptr 2 [[.str s, .int .i64 w]] 0 0]] = some (.val (.bool (l.any fun g => decide (g.name = s)))) := by
  rw [pureI_go (fn := c_slices_ContainsFunc_api_Field_api_Field) rfl rfl]
  have h := indexFld_ok l s w hl
  have e := ix_any (p := fun g : Fld => decide (g.name = s)) (l := l)
  simp [c_slices_ContainsFunc_api_Field_api_Field, h]
  rw [← e]
def actG (l : List Fld) (i : Nat) : Option Int := (l[i]?).bind fun f => er (fldE l i f)
theorem actD_ok (a : Action) (hn : a.name.length < 2 ^ 40) (hl : a.params.length < 2 ^ 40) (hf : ∀ f ∈ a.params, f.name.length < 2 ^ 40) : pureI Φ f_action_declaration [.agg (Action.c a)] = some (.val (.int .i64 (actD a))) := by
  rw [pureI_go (fn := c_action_declaration) rfl rfl]
  have n1 := isIdent_ok a.name hn
  cases q1 : idS a.name with
  | false => rw [q1] at n1; simp [c_action_declaration, Action.e, n1, actD, q1]
  | true =>
  rw [q1] at n1
  by_cases z0 : 4 < a.params.length
  · simp [c_action_declaration, Action.e, n1, actD, q1, z0]
  by_cases z1 : 12 < a.body.length
  · simp [c_action_declaration, Action.e, n1, actD, q1, z0, z1]
  have hE : actD a = errO (fe (actG a.params) a.params.length 0) := by simp [actD, q1, z0, z1] <;> rfl
  rw [hE]
  simp [c_action_declaration, Action.e, n1, z0, z1]
  refine loop_nx a.params.length (fun _ => []) 0 (fun i e => look 1 e = some (.iptr 3 [[.str a.name, .slice 2 (a.params.map Fld.c), .slice 7 (a.body.map Statement.c)]] 0 0) ∧ look 22 e = some (.slice 2 (a.params.map Fld.c)) ∧ look 23 e = some (.int .i64 a.params.length) ∧ look 24 e = some (.int .i64 i))
    (fun i => some (Rt.val (.int .i64 (errO (fe (actG a.params) a.params.length i))))) ?_ ?_ 0 _ 0 (Nat.zero_le _) (Nat.le_refl _) ?_
  · rintro i e n L hi hL _ ⟨h1, h22, h23, h24⟩ ih
    have hw : IntKind.wrap .i64 ((i : Int) + 1) = ((i + 1 : Nat) : Int) := wrap64 (by omega) (by omega)
    have nf := isIdent_ok a.params[i].name (hf _ (List.getElem_mem hi))
    have hi' : i ≤ a.params.length := by omega
    have hc := containsFld_ok (a.params.take i) a.params[i].name a.params[i].width (by simp; omega)
    rw [show (a.params.take i).any (fun g => decide (g.name = a.params[i].name)) = dupN Fld.name a.params i a.params[i] from rfl, List.map_take] at hc
    cases p1 : idS a.params[i].name with
    | false =>
      rw [p1] at nf
      rw [fe_hit (x := 6) hi (by simp [actG, hi, fldE, p1, er])]
      simp [c_action_declaration_l0, Fld.e, h22, h23, h24, hi, nf]
    | true =>
    rw [p1] at nf
    by_cases w1 : a.params[i].width < 1
    · rw [fe_hit (x := 10) hi (by simp [actG, hi, fldE, p1, wBad, w1, er])]
      simp [c_action_declaration_l0, Fld.e, h22, h23, h24, hi, nf, w1]
    by_cases w2 : 32 < a.params[i].width
    · rw [fe_hit (x := 10) hi (by simp [actG, hi, fldE, p1, wBad, w2, er])]
      simp [c_action_declaration_l0, Fld.e, h22, h23, h24, hi, nf, w1, w2]
    cases p3 : dupN Fld.name a.params i a.params[i] with
    | true =>
      rw [p3] at hc
      rw [fe_hit (x := 7) hi (by simp [actG, hi, fldE, p1, wBad, w1, w2, p3, er])]
      simp [c_action_declaration_l0, Fld.e, h1, h22, h23, h24, hi, nf, w1, w2, hi', hc]
    | false =>
      rw [p3] at hc
      rw [fe_miss hi (by simp [actG, hi, fldE, p1, wBad, w1, w2, p3])]
      simp [c_action_declaration_l0, Fld.e, h1, h22, h23, h24, hi, nf, w1, w2, hi', hc, hw]
      exact ih _ _ (Nat.zero_le _) ⟨by simp [h1], by simp [h22], by simp [h23], by simp⟩
  · rintro e n L hL _ ⟨h1, h22, h23, h24⟩
    rw [fe_end]
    simp [c_action_declaration_l0, c_action_declaration_k1, h23, h24, hL]
  · simp
def bodyG (p : Prg) (a : Action) (k : Nat) : Option (Int × Int) := (a.body[k]?).bind fun s => if stmE p a.params s = 0 then none else some ((k : Int), stmE p a.params s)
theorem actE_ok (p : Prg) (f : PrgS p) (i : Int) : pureI Φ f_action_Check [.agg (Prg.c p), .int .i64 i] = some (.val (.tup [.int .i64 (actE p i).1, .int .i64 (actE p i).2])) := by
  rw [pureI_go (fn := c_action_Check) rfl rfl]
  by_cases i0 : i < 0
  · simp [c_action_Check, Prg.e, i0, actE, at_neg i0]
  by_cases i1 : (p.actions.length : Int) ≤ i
  · simp [c_action_Check, Prg.e, i0, i1, actE, at_big i1]
  obtain ⟨k, rfl⟩ : ∃ k : Nat, i = k := ⟨i.toNat, by omega⟩
  have hk : k < p.actions.length := by omega
  have hm := List.getElem_mem hk
  have hd := actD_ok p.actions[k] (f.an _ hm) (f.ap _ hm) (f.apn _ hm)
  simp only [Action.e] at hd
  by_cases z : actD p.actions[k] = 0
  rotate_left
  · simp [c_action_Check, Prg.e, Action.e, hk, Nat.not_le.2 hk, hd, z, actE]
  rw [z] at hd
  have hE : actE p k = (fe (bodyG p p.actions[k]) p.actions[k].body.length 0).getD (0, 0) := by simp [actE, hk, z] <;> rfl
  rw [hE]
  simp [c_action_Check, Prg.e, Action.e, hk, Nat.not_le.2 hk, hd]
  have hb := f.ab _ hm
  refine loop_nx p.actions[k].body.length (fun _ => []) 0 (fun i e => look 7 e = some (.iptr 10 [scC p p.actions[k].params] 0 0) ∧ look 35 e = some (.slice 7 (p.actions[k].body.map Statement.c)) ∧ look 36 e = some (.int .i64 p.actions[k].body.length) ∧ look 37 e = some (.int .i64 i))
    (fun i => some (Rt.val (.tup [.int .i64 ((fe (bodyG p p.actions[k]) p.actions[k].body.length i).getD (0, 0)).1, .int .i64 ((fe (bodyG p p.actions[k]) p.actions[k].body.length i).getD (0, 0)).2]))) ?_ ?_ 0 _ _ (Nat.zero_le _) (Nat.zero_le _) ?_
  · rintro i e n L hi hL _ ⟨h7, h35, h36, h37⟩ ih
    have hw : IntKind.wrap .i64 ((i : Int) + 1) = ((i + 1 : Nat) : Int) := wrap64 (by omega) (by omega)
    have hs := stmE_ok p p.actions[k].params p.actions[k].body[i]
    simp only [Statement.e, scC_e] at hs
    rw [scC_e] at h7
    by_cases y : stmE p p.actions[k].params p.actions[k].body[i] = 0
    · rw [y] at hs
      rw [fe_miss hi (by simp [bodyG, hi, y])]
      simp [c_action_Check_l0, Statement.e, h7, h35, h36, h37, hi, hs, hw]
      exact ih _ _ (Nat.zero_le _) ⟨by simp [h7, scC_e], by simp [h35], by simp [h36], by simp⟩
    · rw [fe_hit (x := ((i : Int), stmE p p.actions[k].params p.actions[k].body[i])) hi (by simp [bodyG, hi, y])]
      simp [c_action_Check_l0, Statement.e, h7, h35, h36, h37, hi, hs, y]
  · rintro e n L hL _ ⟨h7, h35, h36, h37⟩
    rw [fe_end]
    simp [c_action_Check_l0, c_action_Check_k1, h36, h37, hL]
  · simp [scC_e]
def callG (ar : List Int) (ps : List Fld) (i : Nat) : Option Int := match ar[i]?, ps[i]? with
    | some v, some f => if fits v f.width then none else some 9
    | _, _ => none
theorem callE_ok (p : Prg) (f : PrgS p) (c : ActionCall) (hc : c.args.length < 2 ^ 40) : pureI Φ f_action_CheckCall [.agg (Prg.c p), .agg (ActionCall.c c)] = some (.val (.int .i64 (callE p c))) := by
  rw [pureI_go (fn := c_action_CheckCall) rfl rfl]
  by_cases i0 : c.action < 0
  · simp [c_action_CheckCall, Prg.e, ActionCall.e, i0, callE, at_neg i0]
  by_cases i1 : (p.actions.length : Int) ≤ c.action
  · simp [c_action_CheckCall, Prg.e, ActionCall.e, i0, i1, callE, at_big i1]
  obtain ⟨k, hk0⟩ : ∃ k : Nat, c.action = k := ⟨c.action.toNat, by omega⟩
  have hk : k < p.actions.length := by omega
  by_cases z : c.args.length = p.actions[k].params.length
  rotate_left
  · simp [c_action_CheckCall, Prg.e, ActionCall.e, Action.e, hk0, hk, Nat.not_le.2 hk, callE, z]
  have hE : callE p c = errO (fe (callG c.args p.actions[k].params) c.args.length 0) := by simp [callE, hk0, hk, z] <;> rfl
  rw [hE]
  simp [c_action_CheckCall, Prg.e, ActionCall.e, Action.e, hk0, hk, Nat.not_le.2 hk, z]
  rw [← z]
  refine loop_nat0 c.args.length (fun i e => look 5 e = some (.slice 2 (p.actions[k].params.map Fld.c)) ∧ look 33 e = some (.slice 1 (c.args.map c32)) ∧ look 34 e = some (.int .i64 c.args.length) ∧ look 35 e = some (.int .i64 i))
    (fun i => some (Rt.val (.int .i64 (errO (fe (callG c.args p.actions[k].params) c.args.length i))))) ?_ ?_ 0 _ (Nat.zero_le _) ?_
  · rintro i e L hi hL ⟨h5, h33, h34, h35⟩ ih
    have hw : IntKind.wrap .i64 ((i : Int) + 1) = ((i + 1 : Nat) : Int) := wrap64 (by omega) (by omega)
    have hi2 : i < p.actions[k].params.length := by omega
    have hf := fits_ok c.args[i] p.actions[k].params[i].width
    cases y : fits c.args[i] p.actions[k].params[i].width with
    | true =>
      rw [y] at hf
      rw [fe_miss hi (by simp [callG, hi, hi2, y])]
      simp [c_action_CheckCall_l0, Fld.e, c32, h5, h33, h34, h35, hi, hi2, hf, hw]
      exact ih _ ⟨by simp [h5], by simp [h33], by simp [h34], by simp⟩
    | false =>
      rw [y] at hf
      rw [fe_hit (x := 9) hi (by simp [callG, hi, hi2, y])]
      simp [c_action_CheckCall_l0, Fld.e, c32, h5, h33, h34, h35, hi, hi2, hf]
  · rintro e L hL ⟨h5, h33, h34, h35⟩
    rw [fe_end]
    simp [c_action_CheckCall_l0, c_action_CheckCall_k1, h34, h35, hL]
  · simp [z]
end Go.Av
