/-
  program.each at its types: it copies.
-/
import Derived.Test.YtjdbnnnakpacjaaGreatQ15
set_option linter.unusedVariables false
set_option linter.unusedSimpArgs false
set_option linter.constructorNameAsVariable false
namespace Go.Av
set_option maxRecDepth 4000
theorem eachHeader_ok (l : List Header) (hl : l.length < 2 ^ 39) (hf : ∀ x ∈ l, pureI Φ f_program_cloneHeader [.agg (Header.c x)] = some (.val (.agg (Header.c x)))) : pureI Φ f_program_each_api_Header [.slice 2 (l.map Header.c), .func (.func f_program_cloneHeader) [] []] = some (.val (.slice 2 (l.map Header.c))) := by
  rw [pureI_go (fn := c_program_each_api_Header) rfl rfl]
  simp [c_program_each_api_Header]
  refine (loop_nx l.length (fun i => [(0, .tok 2 i)]) 1 (fun i e => look 1 e = some (.func (.func f_program_cloneHeader) [] []) ∧ look 5 e = some (.app 2 ((l.map Header.c).take i) 0) ∧ look 8 e = some (.slice 2 (l.map Header.c)) ∧ look 9 e = some (.int .i64 l.length) ∧ look 10 e = some (.int .i64 i))
    (fun _ => some (Rt.val (.slice 2 (l.map Header.c)))) ?_ ?_ 0 _ 1 (Nat.zero_le _) (Nat.le_refl _) ?_).trans (by simp)
  · rintro i e n L hi hL hn ⟨h1, h5, h8, h9, h10⟩ ih
    have hw : IntKind.wrap .i64 ((i : Int) + 1) = ((i + 1 : Nat) : Int) := wrap64 (by omega) (by omega)
    have hn0 : ¬ (0 = n) := by omega
    have hn1 : ¬ (n = 0) := by omega
    have hm : min i l.length = i := by omega
    have hb : ∀ k, k ≤ 128 → (i + 1) * k ≤ 70368744177664 := fun k hk => by
      have : (i + 1) * k ≤ (i + 1) * 128 := Nat.mul_le_mul_left _ hk
      omega
    have hN := hf _ (List.getElem_mem hi)
    simp only [Header.e] at hN
    simp [c_program_each_api_Header_l0, Header.e, h1, h5, h8, h9, h10, hi, hw, hn0, hm, hb, hN]
    exact ih _ _ (by omega) ⟨by simp [h1], by simp [take_map_succ hi, Header.e], by simp [h8], by simp [h9], by simp⟩
  · rintro e n L hL hn ⟨h1, h5, h8, h9, h10⟩
    simp [c_program_each_api_Header_l0, c_program_each_api_Header_k1, h5, h9, h10, hL]
  · simp
theorem eachStatement_ok (l : List Statement) (hl : l.length < 2 ^ 39) (hf : ∀ x ∈ l, pureI Φ f_program_cloneStatement [.agg (Statement.c x)] = some (.val (.agg (Statement.c x)))) : pureI Φ f_program_each_api_Statement [.slice 7 (l.map Statement.c), .func (.func f_program_cloneStatement) [] []] = some (.val (.slice 7 (l.map Statement.c))) := by
  rw [pureI_go (fn := c_program_each_api_Statement) rfl rfl]
  simp [c_program_each_api_Statement]
  refine (loop_nx l.length (fun i => [(0, .tok 7 i)]) 1 (fun i e => look 1 e = some (.func (.func f_program_cloneStatement) [] []) ∧ look 5 e = some (.app 7 ((l.map Statement.c).take i) 0) ∧ look 8 e = some (.slice 7 (l.map Statement.c)) ∧ look 9 e = some (.int .i64 l.length) ∧ look 10 e = some (.int .i64 i))
    (fun _ => some (Rt.val (.slice 7 (l.map Statement.c)))) ?_ ?_ 0 _ 1 (Nat.zero_le _) (Nat.le_refl _) ?_).trans (by simp)
  · rintro i e n L hi hL hn ⟨h1, h5, h8, h9, h10⟩ ih
    have hw : IntKind.wrap .i64 ((i : Int) + 1) = ((i + 1 : Nat) : Int) := wrap64 (by omega) (by omega)
    have hn0 : ¬ (0 = n) := by omega
    have hn1 : ¬ (n = 0) := by omega
    have hm : min i l.length = i := by omega
    have hb : ∀ k, k ≤ 128 → (i + 1) * k ≤ 70368744177664 := fun k hk => by
      have : (i + 1) * k ≤ (i + 1) * 128 := Nat.mul_le_mul_left _ hk
      omega
    have hN := hf _ (List.getElem_mem hi)
    simp only [Statement.e] at hN
    simp [c_program_each_api_Statement_l0, Statement.e, h1, h5, h8, h9, h10, hi, hw, hn0, hm, hb, hN]
    exact ih _ _ (by omega) ⟨by simp [h1], by simp [take_map_succ hi, Statement.e], by simp [h8], by simp [h9], by simp⟩
  · rintro e n L hL hn ⟨h1, h5, h8, h9, h10⟩
    simp [c_program_each_api_Statement_l0, c_program_each_api_Statement_k1, h5, h9, h10, hL]
  · simp
theorem eachAction_ok (l : List Action) (hl : l.length < 2 ^ 39) (hf : ∀ x ∈ l, pureI Φ f_program_cloneAction [.agg (Action.c x)] = some (.val (.agg (Action.c x)))) : pureI Φ f_program_each_api_Action [.slice 3 (l.map Action.c), .func (.func f_program_cloneAction) [] []] = some (.val (.slice 3 (l.map Action.c))) := by
  rw [pureI_go (fn := c_program_each_api_Action) rfl rfl]
  simp [c_program_each_api_Action]
  refine (loop_nx l.length (fun i => [(0, .tok 3 i)]) 1 (fun i e => look 1 e = some (.func (.func f_program_cloneAction) [] []) ∧ look 5 e = some (.app 3 ((l.map Action.c).take i) 0) ∧ look 8 e = some (.slice 3 (l.map Action.c)) ∧ look 9 e = some (.int .i64 l.length) ∧ look 10 e = some (.int .i64 i))
    (fun _ => some (Rt.val (.slice 3 (l.map Action.c)))) ?_ ?_ 0 _ 1 (Nat.zero_le _) (Nat.le_refl _) ?_).trans (by simp)
  · rintro i e n L hi hL hn ⟨h1, h5, h8, h9, h10⟩ ih
    have hw : IntKind.wrap .i64 ((i : Int) + 1) = ((i + 1 : Nat) : Int) := wrap64 (by omega) (by omega)
    have hn0 : ¬ (0 = n) := by omega
    have hn1 : ¬ (n = 0) := by omega
    have hm : min i l.length = i := by omega
    have hb : ∀ k, k ≤ 128 → (i + 1) * k ≤ 70368744177664 := fun k hk => by
      have : (i + 1) * k ≤ (i + 1) * 128 := Nat.mul_le_mul_left _ hk
      omega
    have hN := hf _ (List.getElem_mem hi)
    simp only [Action.e] at hN
    simp [c_program_each_api_Action_l0, Action.e, h1, h5, h8, h9, h10, hi, hw, hn0, hm, hb, hN]
    exact ih _ _ (by omega) ⟨by simp [h1], by simp [take_map_succ hi, Action.e], by simp [h8], by simp [h9], by simp⟩
  · rintro e n L hL hn ⟨h1, h5, h8, h9, h10⟩
    simp [c_program_each_api_Action_l0, c_program_each_api_Action_k1, h5, h9, h10, hL]
  · simp
theorem eachTable_ok (l : List Tbl) (hl : l.length < 2 ^ 39) (hf : ∀ x ∈ l, pureI Φ f_program_cloneTable [.agg (Tbl.c x)] = some (.val (.agg (Tbl.c x)))) : pureI Φ f_program_each_api_Table [.slice 6 (l.map Tbl.c), .func (.func f_program_cloneTable) [] []] = some (.val (.slice 6 (l.map Tbl.c))) := by
  rw [pureI_go (fn := c_program_each_api_Table) rfl rfl]
  simp [c_program_each_api_Table]
  refine (loop_nx l.length (fun i => [(0, .tok 6 i)]) 1 (fun i e => look 1 e = some (.func (.func f_program_cloneTable) [] []) ∧ look 5 e = some (.app 6 ((l.map Tbl.c).take i) 0) ∧ look 8 e = some (.slice 6 (l.map Tbl.c)) ∧ look 9 e = some (.int .i64 l.length) ∧ look 10 e = some (.int .i64 i))
    (fun _ => some (Rt.val (.slice 6 (l.map Tbl.c)))) ?_ ?_ 0 _ 1 (Nat.zero_le _) (Nat.le_refl _) ?_).trans (by simp)
  · rintro i e n L hi hL hn ⟨h1, h5, h8, h9, h10⟩ ih
    have hw : IntKind.wrap .i64 ((i : Int) + 1) = ((i + 1 : Nat) : Int) := wrap64 (by omega) (by omega)
    have hn0 : ¬ (0 = n) := by omega
    have hn1 : ¬ (n = 0) := by omega
    have hm : min i l.length = i := by omega
    have hb : ∀ k, k ≤ 128 → (i + 1) * k ≤ 70368744177664 := fun k hk => by
      have : (i + 1) * k ≤ (i + 1) * 128 := Nat.mul_le_mul_left _ hk
      omega
    have hN := hf _ (List.getElem_mem hi)
    simp only [Tbl.e] at hN
    simp [c_program_each_api_Table_l0, Tbl.e, h1, h5, h8, h9, h10, hi, hw, hn0, hm, hb, hN]
    exact ih _ _ (by omega) ⟨by simp [h1], by simp [take_map_succ hi, Tbl.e], by simp [h8], by simp [h9], by simp⟩
  · rintro e n L hL hn ⟨h1, h5, h8, h9, h10⟩
    simp [c_program_each_api_Table_l0, c_program_each_api_Table_k1, h5, h9, h10, hL]
  · simp
theorem eachParserState_ok (l : List ParserState) (hl : l.length < 2 ^ 39) (hf : ∀ x ∈ l, pureI Φ f_program_cloneState [.agg (ParserState.c x)] = some (.val (.agg (ParserState.c x)))) : pureI Φ f_program_each_api_ParserState [.slice 7 (l.map ParserState.c), .func (.func f_program_cloneState) [] []] = some (.val (.slice 7 (l.map ParserState.c))) := by
  rw [pureI_go (fn := c_program_each_api_ParserState) rfl rfl]
  simp [c_program_each_api_ParserState]
  refine (loop_nx l.length (fun i => [(0, .tok 7 i)]) 1 (fun i e => look 1 e = some (.func (.func f_program_cloneState) [] []) ∧ look 5 e = some (.app 7 ((l.map ParserState.c).take i) 0) ∧ look 8 e = some (.slice 7 (l.map ParserState.c)) ∧ look 9 e = some (.int .i64 l.length) ∧ look 10 e = some (.int .i64 i))
    (fun _ => some (Rt.val (.slice 7 (l.map ParserState.c)))) ?_ ?_ 0 _ 1 (Nat.zero_le _) (Nat.le_refl _) ?_).trans (by simp)
  · rintro i e n L hi hL hn ⟨h1, h5, h8, h9, h10⟩ ih
    have hw : IntKind.wrap .i64 ((i : Int) + 1) = ((i + 1 : Nat) : Int) := wrap64 (by omega) (by omega)
    have hn0 : ¬ (0 = n) := by omega
    have hn1 : ¬ (n = 0) := by omega
    have hm : min i l.length = i := by omega
    have hb : ∀ k, k ≤ 128 → (i + 1) * k ≤ 70368744177664 := fun k hk => by
      have : (i + 1) * k ≤ (i + 1) * 128 := Nat.mul_le_mul_left _ hk
      omega
    have hN := hf _ (List.getElem_mem hi)
    simp only [ParserState.e] at hN
    simp [c_program_each_api_ParserState_l0, ParserState.e, h1, h5, h8, h9, h10, hi, hw, hn0, hm, hb, hN]
    exact ih _ _ (by omega) ⟨by simp [h1], by simp [take_map_succ hi, ParserState.e], by simp [h8], by simp [h9], by simp⟩
  · rintro e n L hL hn ⟨h1, h5, h8, h9, h10⟩
    simp [c_program_each_api_ParserState_l0, c_program_each_api_ParserState_k1, h5, h9, h10, hL]
  · simp
theorem eachControlNode_ok (l : List ControlNode) (hl : l.length < 2 ^ 39) (hf : ∀ x ∈ l, pureI Φ f_program_cloneNode [.agg (ControlNode.c x)] = some (.val (.agg (ControlNode.c x)))) : pureI Φ f_program_each_api_ControlNode [.slice 5 (l.map ControlNode.c), .func (.func f_program_cloneNode) [] []] = some (.val (.slice 5 (l.map ControlNode.c))) := by
  rw [pureI_go (fn := c_program_each_api_ControlNode) rfl rfl]
  simp [c_program_each_api_ControlNode]
  refine (loop_nx l.length (fun i => [(0, .tok 5 i)]) 1 (fun i e => look 1 e = some (.func (.func f_program_cloneNode) [] []) ∧ look 5 e = some (.app 5 ((l.map ControlNode.c).take i) 0) ∧ look 8 e = some (.slice 5 (l.map ControlNode.c)) ∧ look 9 e = some (.int .i64 l.length) ∧ look 10 e = some (.int .i64 i))
    (fun _ => some (Rt.val (.slice 5 (l.map ControlNode.c)))) ?_ ?_ 0 _ 1 (Nat.zero_le _) (Nat.le_refl _) ?_).trans (by simp)
  · rintro i e n L hi hL hn ⟨h1, h5, h8, h9, h10⟩ ih
    have hw : IntKind.wrap .i64 ((i : Int) + 1) = ((i + 1 : Nat) : Int) := wrap64 (by omega) (by omega)
    have hn0 : ¬ (0 = n) := by omega
    have hn1 : ¬ (n = 0) := by omega
    have hm : min i l.length = i := by omega
    have hb : ∀ k, k ≤ 128 → (i + 1) * k ≤ 70368744177664 := fun k hk => by
      have : (i + 1) * k ≤ (i + 1) * 128 := Nat.mul_le_mul_left _ hk
      omega
    have hN := hf _ (List.getElem_mem hi)
    obtain ⟨kk, tt, cc, aa, bb, hx⟩ := node_mk l[i]
    rw [hx, ControlNode.ce] at hN
    simp [c_program_each_api_ControlNode_l0, hx, ControlNode.ce, h1, h5, h8, h9, h10, hi, hw, hn0, hm, hb, hN]
    exact ih _ _ (by omega) ⟨by simp [h1], by simp [take_map_succ hi, hx, ControlNode.ce], by simp [h8], by simp [h9], by simp⟩
  · rintro e n L hL hn ⟨h1, h5, h8, h9, h10⟩
    simp [c_program_each_api_ControlNode_l0, c_program_each_api_ControlNode_k1, h5, h9, h10, hL]
  · simp
end Go.Av
