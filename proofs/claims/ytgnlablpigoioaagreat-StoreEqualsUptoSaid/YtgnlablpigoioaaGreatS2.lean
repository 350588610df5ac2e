/-
  Comparison of configurations: contracts of the functions that it calls.
-/
import Derived.Test.YtgnlablpigoioaaGreatT5S
set_option linter.unusedVariables false
set_option linter.unusedSimpArgs false
set_option linter.constructorNameAsVariable false
namespace Go.Av
set_option maxRecDepth 4000
theorem Rw.ce (x : Rw) : Rw.c x = [.int .i64 x.id, .slice 2 (x.entry.keys.map KeyMatch.c), .int .i64 x.entry.priority, .int .i64 x.entry.call.action, .slice 1 (x.entry.call.args.map c32)] := by simp [Rw.c]
theorem cSe {α : Type} (z : Nat) (f : α → List AV) (l : List α) : cS z f l = [.slice z (l.map f)] := by simp [cS]
theorem ActionCall.ce (x : ActionCall) : ActionCall.c x = [.int .i64 x.action, .slice 1 (x.args.map c32)] := by simp [ActionCall.c]
theorem Entry.ce (x : Entry) : Entry.c x = [.slice 2 (x.keys.map KeyMatch.c), .int .i64 x.priority, .int .i64 x.call.action, .slice 1 (x.call.args.map c32)] := by simp [Entry.c]
theorem Config.ce (x : Config) : Config.c x = [.slice 1 (x.rows.map (cS 5 Rw.c)), .slice 1 (x.nextID.map cI), .slice 2 (x.defaults.map ActionCall.c), .slice 1 (x.registers.map (cS 1 c32))] := by simp [Config.c]
theorem cIe (x : Int) : cI x = [.int .i64 x] := by simp [cI]
theorem c32e (x : Int) : c32 x = [.int .u32 x] := by simp [c32]
theorem Rw.eq_iff (x y : Rw) : x = y ↔ x.id = y.id ∧ x.entry = y.entry := by
  constructor
  · rintro rfl; simp
  · rintro ⟨a, b⟩
    obtain ⟨u, v⟩ := x
    obtain ⟨u', v'⟩ := y
    simp only at a b
    subst a b; rfl
theorem ActionCall.eq_iff (x y : ActionCall) : x = y ↔ x.action = y.action ∧ x.args = y.args := by
  constructor
  · rintro rfl; simp
  · rintro ⟨a, b⟩
    obtain ⟨u, v⟩ := x
    obtain ⟨u', v'⟩ := y
    simp only at a b
    subst a b; rfl
theorem slEqI_ok (l m : List Int) (hb : l.length < 2 ^ 40) : pureI Φ f_slices_Equal_int_int [.slice 1 (l.map cI), .slice 1 (m.map cI)] = some (.val (.bool (decide (l = m)))) := by
  rw [pureI_go (fn := c_slices_Equal_int_int) rfl rfl]
  by_cases q1 : l.length = m.length
  rotate_left
  · have : l ≠ m := fun h => q1 (by rw [h])
    simp [c_slices_Equal_int_int, q1, this]
  simp [c_slices_Equal_int_int, q1]
  refine (loop_nat0 l.length (fun i e => look 0 e = some (.slice 1 (l.map cI)) ∧ look 1 e = some (.slice 1 (m.map cI)) ∧ look 12 e = some (.int .i64 l.length) ∧ look 13 e = some (.int .i64 i))
    (fun i => some (Rt.val (AV.bool (eqFrom l m i)))) ?_ ?_ 0 _ (Nat.zero_le _) ?_).trans (by simp [eqFrom])
  · rintro i e L hi hL ⟨h0, h1, h12, h13⟩ ih
    have hi2 : i < m.length := by omega
    have hw : IntKind.wrap .i64 ((i : Int) + 1) = ((i + 1 : Nat) : Int) := wrap64 (by omega) (by omega)
    by_cases c : l[i] = m[i]
    · rw [eqFrom_hit hi hi2 c]
      simp [c_slices_Equal_int_int_l0, cIe, hi, hi2, hL, h0, h1, h12, h13, hw, c]
      exact ih _ ⟨by simp [h0], by simp [h1], by simp [h12], by simp⟩
    · rw [eqFrom_miss hi hi2 c]
      simp [c_slices_Equal_int_int_l0, cIe, hi, hi2, hL, h0, h1, h12, h13, c]
  · rintro e L hL ⟨h0, h1, h12, h13⟩
    rw [eqFrom_end q1]
    simp [c_slices_Equal_int_int_l0, c_slices_Equal_int_int_k1, *]
  · simp [q1]
theorem slEqU_ok (l m : List Int) (hb : l.length < 2 ^ 40) : pureI Φ f_slices_Equal_uint32_uint32 [.slice 1 (l.map c32), .slice 1 (m.map c32)] = some (.val (.bool (decide (l = m)))) := by
  rw [pureI_go (fn := c_slices_Equal_uint32_uint32) rfl rfl]
  by_cases q1 : l.length = m.length
  rotate_left
  · have : l ≠ m := fun h => q1 (by rw [h])
    simp [c_slices_Equal_uint32_uint32, q1, this]
  simp [c_slices_Equal_uint32_uint32, q1]
  refine (loop_nat0 l.length (fun i e => look 0 e = some (.slice 1 (l.map c32)) ∧ look 1 e = some (.slice 1 (m.map c32)) ∧ look 12 e = some (.int .i64 l.length) ∧ look 13 e = some (.int .i64 i))
    (fun i => some (Rt.val (AV.bool (eqFrom l m i)))) ?_ ?_ 0 _ (Nat.zero_le _) ?_).trans (by simp [eqFrom])
  · rintro i e L hi hL ⟨h0, h1, h12, h13⟩ ih
    have hi2 : i < m.length := by omega
    have hw : IntKind.wrap .i64 ((i : Int) + 1) = ((i + 1 : Nat) : Int) := wrap64 (by omega) (by omega)
    by_cases c : l[i] = m[i]
    · rw [eqFrom_hit hi hi2 c]
      simp [c_slices_Equal_uint32_uint32_l0, c32e, hi, hi2, hL, h0, h1, h12, h13, hw, c]
      exact ih _ ⟨by simp [h0], by simp [h1], by simp [h12], by simp⟩
    · rw [eqFrom_miss hi hi2 c]
      simp [c_slices_Equal_uint32_uint32_l0, c32e, hi, hi2, hL, h0, h1, h12, h13, c]
  · rintro e L hL ⟨h0, h1, h12, h13⟩
    rw [eqFrom_end q1]
    simp [c_slices_Equal_uint32_uint32_l0, c_slices_Equal_uint32_uint32_k1, *]
  · simp [q1]
theorem efU_ok (l m : List (List Int)) (hb : l.length < 2 ^ 40) (hf : ∀ x ∈ l, ∀ y ∈ m, pureI Φ f_store_Equal_1 [.slice 1 (x.map c32), .slice 1 (y.map c32)] = some (.val (.bool (decide (x = y))))) :
   pureI Φ f_slices_EqualFunc_uint32_uint32_uint32_uint32 [.slice 1 (l.map (cS 1 c32)), .slice 1 (m.map (cS 1 c32)), .func (.func f_store_Equal_1) [] []] = some (.val (.bool (decide (l = m)))) := by
  rw [pureI_go (fn := c_slices_EqualFunc_uint32_uint32_uint32_uint32) rfl rfl]
  by_cases q1 : l.length = m.length
  rotate_left
  · have : l ≠ m := fun h => q1 (by rw [h])
    simp [c_slices_EqualFunc_uint32_uint32_uint32_uint32, q1, this]
  simp [c_slices_EqualFunc_uint32_uint32_uint32_uint32, q1]
  refine (loop_nat0 l.length (fun i e => look 1 e = some (.slice 1 (m.map (cS 1 c32))) ∧ look 2 e = some (.func (.func f_store_Equal_1) [] []) ∧ look 15 e = some (.slice 1 (l.map (cS 1 c32))) ∧ look 16 e = some (.int .i64 l.length) ∧ look 17 e = some (.int .i64 i))
    (fun i => some (Rt.val (AV.bool (eqFrom l m i)))) ?_ ?_ 0 _ (Nat.zero_le _) ?_).trans (by simp [eqFrom])
  · rintro i e L hi hL ⟨h1, h2, h15, h16, h17⟩ ih
    have hi2 : i < m.length := by omega
    have hw : IntKind.wrap .i64 ((i : Int) + 1) = ((i + 1 : Nat) : Int) := wrap64 (by omega) (by omega)
    have hee := hf _ (List.getElem_mem hi) _ (List.getElem_mem hi2)
    by_cases c : l[i] = m[i]
    · rw [decide_eq_true c] at hee
      rw [eqFrom_hit hi hi2 c]
      simp [c_slices_EqualFunc_uint32_uint32_uint32_uint32_l0, cSe, hi, hi2, hL, h1, h2, h15, h16, h17, hw, hee]
      refine (ih _ ⟨by simp [h1], by simp [h2], by simp [h15], by simp [h16], by simp⟩).trans (by simp)
    · rw [decide_eq_false c] at hee
      rw [eqFrom_miss hi hi2 c]
      simp [c_slices_EqualFunc_uint32_uint32_uint32_uint32_l0, cSe, hi, hi2, hL, h1, h2, h15, h16, h17, hee]
  · rintro e L hL ⟨h1, h2, h15, h16, h17⟩
    rw [eqFrom_end q1]
    simp [c_slices_EqualFunc_uint32_uint32_uint32_uint32_l0, c_slices_EqualFunc_uint32_uint32_uint32_uint32_k1, *]
  · simp [q1]
theorem efRs_ok (l m : List (List Rw)) (hb : l.length < 2 ^ 40) (hf : ∀ x ∈ l, ∀ y ∈ m, pureI Φ f_store_equalRows [.slice 5 (x.map Rw.c), .slice 5 (y.map Rw.c)] = some (.val (.bool (decide (x = y))))) :
   pureI Φ f_slices_EqualFunc_api_Row_api_Row_api_Row_api_Row [.slice 1 (l.map (cS 5 Rw.c)), .slice 1 (m.map (cS 5 Rw.c)), .func (.func f_store_equalRows) [] []] = some (.val (.bool (decide (l = m)))) := by
  rw [pureI_go (fn := c_slices_EqualFunc_api_Row_api_Row_api_Row_api_Row) rfl rfl]
  by_cases q1 : l.length = m.length
  rotate_left
  · have : l ≠ m := fun h => q1 (by rw [h])
    simp [c_slices_EqualFunc_api_Row_api_Row_api_Row_api_Row, q1, this]
  simp [c_slices_EqualFunc_api_Row_api_Row_api_Row_api_Row, q1]
  refine (loop_nat0 l.length (fun i e => look 1 e = some (.slice 1 (m.map (cS 5 Rw.c))) ∧ look 2 e = some (.func (.func f_store_equalRows) [] []) ∧ look 15 e = some (.slice 1 (l.map (cS 5 Rw.c))) ∧ look 16 e = some (.int .i64 l.length) ∧ look 17 e = some (.int .i64 i))
    (fun i => some (Rt.val (AV.bool (eqFrom l m i)))) ?_ ?_ 0 _ (Nat.zero_le _) ?_).trans (by simp [eqFrom])
  · rintro i e L hi hL ⟨h1, h2, h15, h16, h17⟩ ih
    have hi2 : i < m.length := by omega
    have hw : IntKind.wrap .i64 ((i : Int) + 1) = ((i + 1 : Nat) : Int) := wrap64 (by omega) (by omega)
    have hee := hf _ (List.getElem_mem hi) _ (List.getElem_mem hi2)
    by_cases c : l[i] = m[i]
    · rw [decide_eq_true c] at hee
      rw [eqFrom_hit hi hi2 c]
      simp [c_slices_EqualFunc_api_Row_api_Row_api_Row_api_Row_l0, cSe, hi, hi2, hL, h1, h2, h15, h16, h17, hw, hee]
      refine (ih _ ⟨by simp [h1], by simp [h2], by simp [h15], by simp [h16], by simp⟩).trans (by simp)
    · rw [decide_eq_false c] at hee
      rw [eqFrom_miss hi hi2 c]
      simp [c_slices_EqualFunc_api_Row_api_Row_api_Row_api_Row_l0, cSe, hi, hi2, hL, h1, h2, h15, h16, h17, hee]
  · rintro e L hL ⟨h1, h2, h15, h16, h17⟩
    rw [eqFrom_end q1]
    simp [c_slices_EqualFunc_api_Row_api_Row_api_Row_api_Row_l0, c_slices_EqualFunc_api_Row_api_Row_api_Row_api_Row_k1, *]
  · simp [q1]
theorem efC_ok (l m : List ActionCall) (hb : l.length < 2 ^ 40) (hf : ∀ x ∈ l, ∀ y ∈ m, pureI Φ f_store_equalCalls [.agg (ActionCall.c x), .agg (ActionCall.c y)] = some (.val (.bool (decide (x = y))))) :
   pureI Φ f_slices_EqualFunc_api_ActionCall_api_ActionCall_api_ActionCall_api_ActionCall [.slice 2 (l.map ActionCall.c), .slice 2 (m.map ActionCall.c), .func (.func f_store_equalCalls) [] []] = some (.val (.bool (decide (l = m)))) := by
  rw [pureI_go (fn := c_slices_EqualFunc_api_ActionCall_api_ActionCall_api_ActionCall_api_ActionCall) rfl rfl]
  by_cases q1 : l.length = m.length
  rotate_left
  · have : l ≠ m := fun h => q1 (by rw [h])
    simp [c_slices_EqualFunc_api_ActionCall_api_ActionCall_api_ActionCall_api_ActionCall, q1, this]
  simp [c_slices_EqualFunc_api_ActionCall_api_ActionCall_api_ActionCall_api_ActionCall, q1]
  refine (loop_nat l.length (fun i e h => look 1 e = some (.slice 2 (m.map ActionCall.c)) ∧ look 2 e = some (.func (.func f_store_equalCalls) [] []) ∧ look 15 e = some (.slice 2 (l.map ActionCall.c)) ∧ look 16 e = some (.int .i64 l.length) ∧ look 17 e = some (.int .i64 i) ∧ ∃ objs N, Tail objs N ∧ h = ⟨objs, N⟩)
    (fun i => some (Rt.val (AV.bool (eqFrom l m i)))) ?_ ?_ 0 _ _ (Nat.zero_le _) ?_).trans (by simp [eqFrom])
  · rintro i e _ L hi hL ⟨h1, h2, h15, h16, h17, objs, N, hN, rfl⟩ ih
    have hi2 : i < m.length := by omega
    have hw : IntKind.wrap .i64 ((i : Int) + 1) = ((i + 1 : Nat) : Int) := wrap64 (by omega) (by omega)
    have hNN := hN N (Nat.le_refl _)
    have hN1 := hN (N + 1) (by omega)
    have hee := hf _ (List.getElem_mem hi) _ (List.getElem_mem hi2)
    simp only [ActionCall.ce] at hee
    by_cases c : l[i] = m[i]
    · rw [decide_eq_true c] at hee
      rw [eqFrom_hit hi hi2 c]
      simp [c_slices_EqualFunc_api_ActionCall_api_ActionCall_api_ActionCall_api_ActionCall_l0, ActionCall.ce, hi, hi2, hL, h1, h2, h15, h16, h17, hNN, hN1, hw, hee]
      refine (ih _ _ ⟨by simp [h1], by simp [h2], by simp [h15], by simp [h16], by simp, _, _, (hN.app _).app _, by simp; exact ⟨rfl, rfl⟩⟩).trans (by simp)
    · rw [decide_eq_false c] at hee
      rw [eqFrom_miss hi hi2 c]
      simp [c_slices_EqualFunc_api_ActionCall_api_ActionCall_api_ActionCall_api_ActionCall_l0, ActionCall.ce, hi, hi2, hL, h1, h2, h15, h16, h17, hNN, hN1, hee]
  · rintro e _ L hL ⟨h1, h2, h15, h16, h17, objs, N, hN, rfl⟩
    rw [eqFrom_end q1]
    simp [c_slices_EqualFunc_api_ActionCall_api_ActionCall_api_ActionCall_api_ActionCall_l0, c_slices_EqualFunc_api_ActionCall_api_ActionCall_api_ActionCall_api_ActionCall_k1, *]
  · simp [q1]
    exact Tail.nil 0
theorem efR_ok (l m : List Rw) (hb : l.length < 2 ^ 40) (hf : ∀ x ∈ l, ∀ y ∈ m, pureI Φ f_store_equalRows_1 [.agg (Rw.c x), .agg (Rw.c y)] = some (.val (.bool (decide (x = y))))) :
   pureI Φ f_slices_EqualFunc_api_Row_api_Row_api_Row_api_Row_142 [.slice 5 (l.map Rw.c), .slice 5 (m.map Rw.c), .func (.func f_store_equalRows_1) [] []] = some (.val (.bool (decide (l = m)))) := by
  rw [pureI_go (fn := c_slices_EqualFunc_api_Row_api_Row_api_Row_api_Row_142) rfl rfl]
  by_cases q1 : l.length = m.length
  rotate_left
  · have : l ≠ m := fun h => q1 (by rw [h])
    simp [c_slices_EqualFunc_api_Row_api_Row_api_Row_api_Row_142, q1, this]
  simp [c_slices_EqualFunc_api_Row_api_Row_api_Row_api_Row_142, q1]
  refine (loop_nat l.length (fun i e h => look 1 e = some (.slice 5 (m.map Rw.c)) ∧ look 2 e = some (.func (.func f_store_equalRows_1) [] []) ∧ look 15 e = some (.slice 5 (l.map Rw.c)) ∧ look 16 e = some (.int .i64 l.length) ∧ look 17 e = some (.int .i64 i) ∧ ∃ objs N, Tail objs N ∧ h = ⟨objs, N⟩)
    (fun i => some (Rt.val (AV.bool (eqFrom l m i)))) ?_ ?_ 0 _ _ (Nat.zero_le _) ?_).trans (by simp [eqFrom])
  · rintro i e _ L hi hL ⟨h1, h2, h15, h16, h17, objs, N, hN, rfl⟩ ih
    have hi2 : i < m.length := by omega
    have hw : IntKind.wrap .i64 ((i : Int) + 1) = ((i + 1 : Nat) : Int) := wrap64 (by omega) (by omega)
    have hNN := hN N (Nat.le_refl _)
    have hN1 := hN (N + 1) (by omega)
    have hee := hf _ (List.getElem_mem hi) _ (List.getElem_mem hi2)
    simp only [Rw.ce] at hee
    by_cases c : l[i] = m[i]
    · rw [decide_eq_true c] at hee
      rw [eqFrom_hit hi hi2 c]
      simp [c_slices_EqualFunc_api_Row_api_Row_api_Row_api_Row_142_l0, Rw.ce, hi, hi2, hL, h1, h2, h15, h16, h17, hNN, hN1, hw, hee]
      refine (ih _ _ ⟨by simp [h1], by simp [h2], by simp [h15], by simp [h16], by simp, _, _, (hN.app _).app _, by simp; exact ⟨rfl, rfl⟩⟩).trans (by simp)
    · rw [decide_eq_false c] at hee
      rw [eqFrom_miss hi hi2 c]
      simp [c_slices_EqualFunc_api_Row_api_Row_api_Row_api_Row_142_l0, Rw.ce, hi, hi2, hL, h1, h2, h15, h16, h17, hNN, hN1, hee]
  · rintro e _ L hL ⟨h1, h2, h15, h16, h17, objs, N, hN, rfl⟩
    rw [eqFrom_end q1]
    simp [c_slices_EqualFunc_api_Row_api_Row_api_Row_api_Row_142_l0, c_slices_EqualFunc_api_Row_api_Row_api_Row_api_Row_142_k1, *]
  · simp [q1]
    exact Tail.nil 0
end Go.Av
