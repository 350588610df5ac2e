/-
  program.Clone copies.
-/
import Derived.Test.YtjdbnnnakpacjaaGreatQ16
set_option linter.unusedVariables false
set_option linter.unusedSimpArgs false
set_option linter.constructorNameAsVariable false
namespace Go.Av
set_option maxRecDepth 4000
theorem mapO_cI (H : AH) : ∀ l : List Int, mapO (mapO (snap 39 H)) (l.map cI) = some (l.map cI)
  | [] => by simp [mapO]
  | x :: l => by
    have ih := mapO_cI H l
    simp only [List.map_cons, mapO, ih]
    simp [cI, mapO]
theorem clI_ok (l : List Int) (h : l.length < 2 ^ 40) : pureI Φ f_slices_Clone_int_int [.slice 1 (l.map cI)] = some (.val (.slice 1 (l.map cI))) := by
  unfold pureI
  rw [callI_rule Φ (g := cloneG 1 8 .row) rfl]
  cases l with
  | nil => simp [cloneG, lenOf, srcOf, evR, pureRt, H0, AH.put]
  | cons x l =>
    have hb : (l.length + 1) * 8 ≤ 70368744177664 := by simp at h; omega
    have hm := mapO_cI ⟨[(0, .row 1 ((x :: l).map cI))], 1⟩ (x :: l)
    simp [cI] at hm
    simp [cloneG, lenOf, evR, pureRt, H0, AH.put, hb, cI, hm]
theorem clF_ok (l : List Fld) (h : l.length < 2 ^ 40) : pureI Φ f_slices_Clone_api_Field_api_Field [.slice 2 (l.map Fld.c)] = some (.val (.slice 2 (l.map Fld.c))) :=
  clone_app (bytes := 24) rfl _ (allLen_map 2 Fld.c l fun x => by simp [Fld.e]) (by rw [List.length_map]; omega)
theorem clG_ok (l : List Register) (h : l.length < 2 ^ 40) : pureI Φ f_slices_Clone_api_Register_api_Register [.slice 3 (l.map Register.c)] = some (.val (.slice 3 (l.map Register.c))) :=
  clone_app (bytes := 32) rfl _ (allLen_map 3 Register.c l fun x => by simp [Register.e]) (by rw [List.length_map]; omega)
theorem clT_ok (l : List TableKey) (h : l.length < 2 ^ 40) : pureI Φ f_slices_Clone_api_TableKey_api_TableKey [.slice 3 (l.map TableKey.c)] = some (.val (.slice 3 (l.map TableKey.c))) :=
  clone_app (bytes := 24) rfl _ (allLen_map 3 TableKey.c l fun x => by simp [TableKey.e]) (by rw [List.length_map]; omega)
theorem clC_ok (l : List SelectCase) (h : l.length < 2 ^ 40) : pureI Φ f_slices_Clone_api_SelectCase_api_SelectCase [.slice 3 (l.map SelectCase.c)] = some (.val (.slice 3 (l.map SelectCase.c))) :=
  clone_app (bytes := 16) rfl _ (allLen_map 3 SelectCase.c l fun x => by simp [SelectCase.e]) (by rw [List.length_map]; omega)
theorem clE_ok (l : List ExprNode) (h : l.length < 2 ^ 40) : pureI Φ f_slices_Clone_api_ExprNode_api_ExprNode [.slice 3 (l.map ExprNode.c)] = some (.val (.slice 3 (l.map ExprNode.c))) :=
  clone_app (bytes := 24) rfl _ (allLen_map 3 ExprNode.c l fun x => by simp [ExprNode.c]) (by rw [List.length_map]; omega)
theorem cHeader_ok (x : Header) (h : x.fields.length < 2 ^ 40) : pureI Φ f_program_cloneHeader [.agg (Header.c x)] = some (.val (.agg (Header.c x))) := by
  rw [pureI_go (fn := c_program_cloneHeader) rfl rfl]
  have k := clF_ok x.fields h
  simp [c_program_cloneHeader, Header.e, k]
theorem cStatement_ok (x : Statement) (h : x.index.length < 2 ^ 40) (h2 : x.value.length < 2 ^ 40) : pureI Φ f_program_cloneStatement [.agg (Statement.c x)] = some (.val (.agg (Statement.c x))) := by
  rw [pureI_go (fn := c_program_cloneStatement) rfl rfl]
  have k := clE_ok x.index h
  have k2 := clE_ok x.value h2
  simp [c_program_cloneStatement, Statement.e, k, k2]
theorem cTable_ok (x : Tbl) (h : x.keys.length < 2 ^ 40) (h2 : x.actions.length < 2 ^ 40) (h3 : x.dflt.args.length < 2 ^ 40) : pureI Φ f_program_cloneTable [.agg (Tbl.c x)] = some (.val (.agg (Tbl.c x))) := by
  rw [pureI_go (fn := c_program_cloneTable) rfl rfl]
  have k := clT_ok x.keys h
  have k2 := clI_ok x.actions h2
  have k3 := clU_ok x.dflt.args h3
  simp [c_program_cloneTable, Tbl.e, k, k2, k3]
theorem cState_ok (x : ParserState) (h : x.extract.length < 2 ^ 40) (h2 : x.cases.length < 2 ^ 40) : pureI Φ f_program_cloneState [.agg (ParserState.c x)] = some (.val (.agg (ParserState.c x))) := by
  rw [pureI_go (fn := c_program_cloneState) rfl rfl]
  have k := clI_ok x.extract h
  have k2 := clC_ok x.cases h2
  simp [c_program_cloneState, ParserState.e, k, k2]
theorem cAction_ok (x : Action) (h : x.params.length < 2 ^ 40) (h2 : x.body.length < 2 ^ 39) (h3 : ∀ s ∈ x.body, s.index.length < 2 ^ 40 ∧ s.value.length < 2 ^ 40) : pureI Φ f_program_cloneAction [.agg (Action.c x)] = some (.val (.agg (Action.c x))) := by
  rw [pureI_go (fn := c_program_cloneAction) rfl rfl]
  have k := clF_ok x.params h
  have k2 := eachStatement_ok x.body h2 fun s hs => cStatement_ok s (h3 s hs).1 (h3 s hs).2
  simp [c_program_cloneAction, Action.e, k, k2]
theorem cNode_ok : ∀ (n : Nat) (x : ControlNode), SizeOf.sizeOf x ≤ n → ControlNode.Ok bulkMax x → pureI Φ f_program_cloneNode [.agg (ControlNode.c x)] = some (.val (.agg (ControlNode.c x)))
  | 0, x, h, _ => by cases x; simp at h
  | n + 1, x, h, ho => by
    obtain ⟨k, t, c, a, b, rfl⟩ := node_mk x
    simp only [ControlNode.Ok] at ho
    obtain ⟨_, _, hc, ⟨ha1, ha2⟩, hb1, hb2⟩ := ho
    rw [ControlNode.oks_eq] at ha2 hb2
    have e := bulkMax_eq
    simp at h
    have hc1 := hc.1
    have k1 := clE_ok c (by omega)
    have k2 := eachControlNode_ok a (by omega) fun y hy => cNode_ok n y (by have := List.sizeOf_lt_of_mem hy; omega) (ha2 y hy)
    have k3 := eachControlNode_ok b (by omega) fun y hy => cNode_ok n y (by have := List.sizeOf_lt_of_mem hy; omega) (hb2 y hy)
    rw [pureI_go (fn := c_program_cloneNode) rfl rfl]
    simp [c_program_cloneNode, ControlNode.ce, k1, k2, k3]
end Go.Av
