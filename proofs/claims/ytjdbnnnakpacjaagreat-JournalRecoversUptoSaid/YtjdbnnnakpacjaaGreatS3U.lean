/-
  store.Equal answers whether two configurations are equal.
-/
import Derived.Test.YtjdbnnnakpacjaaGreatSK3
set_option linter.unusedVariables false
set_option linter.unusedSimpArgs false
set_option linter.constructorNameAsVariable false
namespace Go.Av
set_option maxRecDepth 4000
theorem slEqI_ok (l m : List Int) (hb : l.length < 2 ^ 40) : pureI Φ f_slices_Equal_int_int [.slice 1 (l.map cI), .slice 1 (m.map cI)] = some (.val (.bool (decide (l = m)))) := by
  rw [pureI_go (fn := c_slices_Equal_int_int) rfl rfl]
  by_cases q1 : l.length = m.length
  rotate_left
  · have : l ≠ m := fun h => q1 (by rw [h])
    simp [c_slices_Equal_int_int, q1, this]
  simp [c_slices_Equal_int_int, q1]
  refine (loop_nat0 l.length (fun i e => look 0 e = some (.slice 1 (l.map cI)) ∧ look 1 e = some (.slice 1 (m.map cI)) ∧ look 12 e = some (.int .i64 l.length) ∧ look 13 e = some (.int .i64 i))
    (fun i => some (Rt.val (AV.bool (eqFrom l m i)))) ?_ ?_ 0 _ (Nat.zero_le _) ?_).trans (by simp [eqFrom])
  · rintro i e L hi hL ⟨h0, h1, h12, h13⟩ ih
    have hi2 : i < m.length := by omega
    have hw : IntKind.wrap .i64 ((i : Int) + 1) = ((i + 1 : Nat) : Int) := wrap64 (by omega) (by omega)
    by_cases c : l[i] = m[i]
    · rw [eqFrom_hit hi hi2 c]
      simp [c_slices_Equal_int_int_l0, cIe, hi, hi2, hL, h0, h1, h12, h13, hw, c]
      exact ih _ ⟨by simp [h0], by simp [h1], by simp [h12], by simp⟩
    · rw [eqFrom_miss hi hi2 c]
      simp [c_slices_Equal_int_int_l0, cIe, hi, hi2, hL, h0, h1, h12, h13, c]
  · rintro e L hL ⟨h0, h1, h12, h13⟩
    rw [eqFrom_end q1]
    simp [c_slices_Equal_int_int_l0, c_slices_Equal_int_int_k1, *]
  · simp [q1]
theorem slEqU_ok (l m : List Int) (hb : l.length < 2 ^ 40) : pureI Φ f_slices_Equal_uint32_uint32 [.slice 1 (l.map c32), .slice 1 (m.map c32)] = some (.val (.bool (decide (l = m)))) := by
  rw [pureI_go (fn := c_slices_Equal_uint32_uint32) rfl rfl]
  by_cases q1 : l.length = m.length
  rotate_left
  · have : l ≠ m := fun h => q1 (by rw [h])
    simp [c_slices_Equal_uint32_uint32, q1, this]
  simp [c_slices_Equal_uint32_uint32, q1]
  refine (loop_nat0 l.length (fun i e => look 0 e = some (.slice 1 (l.map c32)) ∧ look 1 e = some (.slice 1 (m.map c32)) ∧ look 12 e = some (.int .i64 l.length) ∧ look 13 e = some (.int .i64 i))
    (fun i => some (Rt.val (AV.bool (eqFrom l m i)))) ?_ ?_ 0 _ (Nat.zero_le _) ?_).trans (by simp [eqFrom])
  · rintro i e L hi hL ⟨h0, h1, h12, h13⟩ ih
    have hi2 : i < m.length := by omega
    have hw : IntKind.wrap .i64 ((i : Int) + 1) = ((i + 1 : Nat) : Int) := wrap64 (by omega) (by omega)
    by_cases c : l[i] = m[i]
    · rw [eqFrom_hit hi hi2 c]
      simp [c_slices_Equal_uint32_uint32_l0, c32e, hi, hi2, hL, h0, h1, h12, h13, hw, c]
      exact ih _ ⟨by simp [h0], by simp [h1], by simp [h12], by simp⟩
    · rw [eqFrom_miss hi hi2 c]
      simp [c_slices_Equal_uint32_uint32_l0, c32e, hi, hi2, hL, h0, h1, h12, h13, c]
  · rintro e L hL ⟨h0, h1, h12, h13⟩
    rw [eqFrom_end q1]
    simp [c_slices_Equal_uint32_uint32_l0, c_slices_Equal_uint32_uint32_k1, *]
  · simp [q1]
theorem efU_ok (l m : List (List Int)) (hb : l.length < 2 ^ 40) (hf : ∀ x ∈ l, ∀ y ∈ m, pureI Φ f_store_Equal_1 [.slice 1 (x.map c32), .slice 1 (y.map c32)] = some (.val (.bool (decide (x = y))))) :
   pureI Φ f_slices_EqualFunc_uint32_uint32_uint32_uint32 [.slice 1 (l.map (cS 1 c32)), .slice 1 (m.map (cS 1 c32)), .func (.func f_store_Equal_1) [] []] = some (.val (.bool (decide (l = m)))) := by
  rw [pureI_go (fn := c_slices_EqualFunc_uint32_uint32_uint32_uint32) rfl rfl]
  by_cases q1 : l.length = m.length
  rotate_left
  · have : l ≠ m := fun h => q1 (by rw [h])
    simp [c_slices_EqualFunc_uint32_uint32_uint32_uint32, q1, this]
  simp [c_slices_EqualFunc_uint32_uint32_uint32_uint32, q1]
  refine (loop_nat0 l.length (fun i e => look 1 e = some (.slice 1 (m.map (cS 1 c32))) ∧ look 2 e = some (.func (.func f_store_Equal_1) [] []) ∧ look 15 e = some (.slice 1 (l.map (cS 1 c32))) ∧ look 16 e = some (.int .i64 l.length) ∧ look 17 e = some (.int .i64 i))
    (fun i => some (Rt.val (AV.bool (eqFrom l m i)))) ?_ ?_ 0 _ (Nat.zero_le _) ?_).trans (by simp [eqFrom])
  · rintro i e L hi hL ⟨h1, h2, h15, h16, h17⟩ ih
    have hi2 : i < m.length := by omega
    have hw : IntKind.wrap .i64 ((i : Int) + 1) = ((i + 1 : Nat) : Int) := wrap64 (by omega) (by omega)
    have hee := hf _ (List.getElem_mem hi) _ (List.getElem_mem hi2)
    by_cases c : l[i] = m[i]
    · rw [decide_eq_true c] at hee
      rw [eqFrom_hit hi hi2 c]
      simp [c_slices_EqualFunc_uint32_uint32_uint32_uint32_l0, cSe, hi, hi2, hL, h1, h2, h15, h16, h17, hw, hee]
      refine (ih _ ⟨by simp [h1], by simp [h2], by simp [h15], by simp [h16], by simp⟩).trans (by simp)
    · rw [decide_eq_false c] at hee
      rw [eqFrom_miss hi hi2 c]
      simp [c_slices_EqualFunc_uint32_uint32_uint32_uint32_l0, cSe, hi, hi2, hL, h1, h2, h15, h16, h17, hee]
  · rintro e L hL ⟨h1, h2, h15, h16, h17⟩
    rw [eqFrom_end q1]
    simp [c_slices_EqualFunc_uint32_uint32_uint32_uint32_l0, c_slices_EqualFunc_uint32_uint32_uint32_uint32_k1, *]
  · simp [q1]
theorem efRs_ok (l m : List (List Rw)) (hb : l.length < 2 ^ 40) (hf : ∀ x ∈ l, ∀ y ∈ m, pureI Φ f_store_equalRows [.slice 5 (x.map Rw.c), .slice 5 (y.map Rw.c)] = some (.val (.bool (decide (x = y))))) :
   pureI Φ f_slices_EqualFunc_api_Row_api_Row_api_Row_api_Row [.slice 1 (l.map (cS 5 Rw.c)), .slice 1 (m.map (cS 5 Rw.c)), .func (.func f_store_equalRows) [] []] = some (.val (.bool (decide (l = m)))) := by
  rw [pureI_go (fn := c_slices_EqualFunc_api_Row_api_Row_api_Row_api_Row) rfl rfl]
  by_cases q1 : l.length = m.length
  rotate_left
  · have : l ≠ m := fun h => q1 (by rw [h])
    simp [c_slices_EqualFunc_api_Row_api_Row_api_Row_api_Row, q1, this]
  simp [c_slices_EqualFunc_api_Row_api_Row_api_Row_api_Row, q1]
  refine (loop_nat0 l.length (fun i e => look 1 e = some (.slice 1 (m.map (cS 5 Rw.c))) ∧ look 2 e = some (.func (.func f_store_equalRows) [] []) ∧ look 15 e = some (.slice 1 (l.map (cS 5 Rw.c))) ∧ look 16 e = some (.int .i64 l.length) ∧ look 17 e = some (.int .i64 i))
    (fun i => some (Rt.val (AV.bool (eqFrom l m i)))) ?_ ?_ 0 _ (Nat.zero_le _) ?_).trans (by simp [eqFrom])
  · rintro i e L hi hL ⟨h1, h2, h15, h16, h17⟩ ih
    have hi2 : i < m.length := by omega
    have hw : IntKind.wrap .i64 ((i : Int) + 1) = ((i + 1 : Nat) : Int) := wrap64 (by omega) (by omega)
    have hee := hf _ (List.getElem_mem hi) _ (List.getElem_mem hi2)
    by_cases c : l[i] = m[i]
    · rw [decide_eq_true c] at hee
      rw [eqFrom_hit hi hi2 c]
      simp [c_slices_EqualFunc_api_Row_api_Row_api_Row_api_Row_l0, cSe, hi, hi2, hL, h1, h2, h15, h16, h17, hw, hee]
      refine (ih _ ⟨by simp [h1], by simp [h2], by simp [h15], by simp [h16], by simp⟩).trans (by simp)
    · rw [decide_eq_false c] at hee
      rw [eqFrom_miss hi hi2 c]
      simp [c_slices_EqualFunc_api_Row_api_Row_api_Row_api_Row_l0, cSe, hi, hi2, hL, h1, h2, h15, h16, h17, hee]
  · rintro e L hL ⟨h1, h2, h15, h16, h17⟩
    rw [eqFrom_end q1]
    simp [c_slices_EqualFunc_api_Row_api_Row_api_Row_api_Row_l0, c_slices_EqualFunc_api_Row_api_Row_api_Row_api_Row_k1, *]
  · simp [q1]
theorem efC_ok (l m : List ActionCall) (hb : l.length < 2 ^ 40) (hf : ∀ x ∈ l, ∀ y ∈ m, pureI Φ f_store_equalCalls [.agg (ActionCall.c x), .agg (ActionCall.c y)] = some (.val (.bool (decide (x = y))))) :
   pureI Φ f_slices_EqualFunc_api_ActionCall_api_ActionCall_api_ActionCall_api_ActionCall [.slice 2 (l.map ActionCall.c), .slice 2 (m.map ActionCall.c), .func (.func f_store_equalCalls) [] []] = some (.val (.bool (decide (l = m)))) := by
  rw [pureI_go (fn := c_slices_EqualFunc_api_ActionCall_api_ActionCall_api_ActionCall_api_ActionCall) rfl rfl]
  by_cases q1 : l.length = m.length
  rotate_left
  · have : l ≠ m := fun h => q1 (by rw [h])
    simp [c_slices_EqualFunc_api_ActionCall_api_ActionCall_api_ActionCall_api_ActionCall, q1, this]
  simp [c_slices_EqualFunc_api_ActionCall_api_ActionCall_api_ActionCall_api_ActionCall, q1]
  refine (loop_nat l.length (fun i e h => look 1 e = some (.slice 2 (m.map ActionCall.c)) ∧ look 2 e = some (.func (.func f_store_equalCalls) [] []) ∧ look 15 e = some (.slice 2 (l.map ActionCall.c)) ∧ look 16 e = some (.int .i64 l.length) ∧ look 17 e = some (.int .i64 i) ∧ ∃ objs N, Tail objs N ∧ h = ⟨objs, N⟩)
    (fun i => some (Rt.val (AV.bool (eqFrom l m i)))) ?_ ?_ 0 _ _ (Nat.zero_le _) ?_).trans (by simp [eqFrom])
  · rintro i e _ L hi hL ⟨h1, h2, h15, h16, h17, objs, N, hN, rfl⟩ ih
    have hi2 : i < m.length := by omega
    have hw : IntKind.wrap .i64 ((i : Int) + 1) = ((i + 1 : Nat) : Int) := wrap64 (by omega) (by omega)
    have hNN := hN N (Nat.le_refl _)
    have hN1 := hN (N + 1) (by omega)
    have hee := hf _ (List.getElem_mem hi) _ (List.getElem_mem hi2)
    simp only [ActionCall.ce] at hee
    by_cases c : l[i] = m[i]
    · rw [decide_eq_true c] at hee
      rw [eqFrom_hit hi hi2 c]
      simp [c_slices_EqualFunc_api_ActionCall_api_ActionCall_api_ActionCall_api_ActionCall_l0, ActionCall.ce, hi, hi2, hL, h1, h2, h15, h16, h17, hNN, hN1, hw, hee]
      refine (ih _ _ ⟨by simp [h1], by simp [h2], by simp [h15], by simp [h16], by simp, _, _, (hN.app _).app _, by simp; exact ⟨rfl, rfl⟩⟩).trans (by simp)
    · rw [decide_eq_false c] at hee
      rw [eqFrom_miss hi hi2 c]
      simp [c_slices_EqualFunc_api_ActionCall_api_ActionCall_api_ActionCall_api_ActionCall_l0, ActionCall.ce, hi, hi2, hL, h1, h2, h15, h16, h17, hNN, hN1, hee]
  · rintro e _ L hL ⟨h1, h2, h15, h16, h17, objs, N, hN, rfl⟩
    rw [eqFrom_end q1]
    simp [c_slices_EqualFunc_api_ActionCall_api_ActionCall_api_ActionCall_api_ActionCall_l0, c_slices_EqualFunc_api_ActionCall_api_ActionCall_api_ActionCall_api_ActionCall_k1, *]
  · simp [q1]
    exact Tail.nil 0
theorem efR_ok (l m : List Rw) (hb : l.length < 2 ^ 40) (hf : ∀ x ∈ l, ∀ y ∈ m, pureI Φ f_store_equalRows_1 [.agg (Rw.c x), .agg (Rw.c y)] = some (.val (.bool (decide (x = y))))) :
   pureI Φ f_slices_EqualFunc_api_Row_api_Row_api_Row_api_Row_147 [.slice 5 (l.map Rw.c), .slice 5 (m.map Rw.c), .func (.func f_store_equalRows_1) [] []] = some (.val (.bool (decide (l = m)))) := by
  rw [pureI_go (fn := c_slices_EqualFunc_api_Row_api_Row_api_Row_api_Row_147) rfl rfl]
  by_cases q1 : l.length = m.length
  rotate_left
  · have : l ≠ m := fun h => q1 (by rw [h])
    simp [c_slices_EqualFunc_api_Row_api_Row_api_Row_api_Row_147, q1, this]
  simp [c_slices_EqualFunc_api_Row_api_Row_api_Row_api_Row_147, q1]
  refine (loop_nat l.length (fun i e h => look 1 e = some (.slice 5 (m.map Rw.c)) ∧ look 2 e = some (.func (.func f_store_equalRows_1) [] []) ∧ look 15 e = some (.slice 5 (l.map Rw.c)) ∧ look 16 e = some (.int .i64 l.length) ∧ look 17 e = some (.int .i64 i) ∧ ∃ objs N, Tail objs N ∧ h = ⟨objs, N⟩)
    (fun i => some (Rt.val (AV.bool (eqFrom l m i)))) ?_ ?_ 0 _ _ (Nat.zero_le _) ?_).trans (by simp [eqFrom])
  · rintro i e _ L hi hL ⟨h1, h2, h15, h16, h17, objs, N, hN, rfl⟩ ih
    have hi2 : i < m.length := by omega
    have hw : IntKind.wrap .i64 ((i : Int) + 1) = ((i + 1 : Nat) : Int) := wrap64 (by omega) (by omega)
    have hNN := hN N (Nat.le_refl _)
    have hN1 := hN (N + 1) (by omega)
    have hee := hf _ (List.getElem_mem hi) _ (List.getElem_mem hi2)
    simp only [Rw.ce] at hee
    by_cases c : l[i] = m[i]
    · rw [decide_eq_true c] at hee
      rw [eqFrom_hit hi hi2 c]
      simp [c_slices_EqualFunc_api_Row_api_Row_api_Row_api_Row_147_l0, Rw.ce, hi, hi2, hL, h1, h2, h15, h16, h17, hNN, hN1, hw, hee]
      refine (ih _ _ ⟨by simp [h1], by simp [h2], by simp [h15], by simp [h16], by simp, _, _, (hN.app _).app _, by simp; exact ⟨rfl, rfl⟩⟩).trans (by simp)
    · rw [decide_eq_false c] at hee
      rw [eqFrom_miss hi hi2 c]
      simp [c_slices_EqualFunc_api_Row_api_Row_api_Row_api_Row_147_l0, Rw.ce, hi, hi2, hL, h1, h2, h15, h16, h17, hNN, hN1, hee]
  · rintro e _ L hL ⟨h1, h2, h15, h16, h17, objs, N, hN, rfl⟩
    rw [eqFrom_end q1]
    simp [c_slices_EqualFunc_api_Row_api_Row_api_Row_api_Row_147_l0, c_slices_EqualFunc_api_Row_api_Row_api_Row_api_Row_147_k1, *]
  · simp [q1]
    exact Tail.nil 0
theorem stCalls_ok (x y : ActionCall) (h : x.args.length < 2 ^ 40) : pureI Φ f_store_equalCalls [.agg (ActionCall.c x), .agg (ActionCall.c y)] = some (.val (.bool (decide (x = y)))) := by
  have ee : decide (x = y) = decide (x.action = y.action ∧ x.args = y.args) := decide_eq_decide.2 (ActionCall.eq_iff x y)
  rw [ee, pureI_go (fn := c_store_equalCalls) rfl rfl]
  have ha := slEqU_ok x.args y.args h
  by_cases q : x.action = y.action
  · simp [c_store_equalCalls, ActionCall.ce, ha, q]
  · simp [c_store_equalCalls, ActionCall.ce, ha, q]
theorem stNum_ok (x y : List Int) (h : x.length < 2 ^ 40) : pureI Φ f_store_Equal_1 [.slice 1 (x.map c32), .slice 1 (y.map c32)] = some (.val (.bool (decide (x = y)))) := by
  rw [pureI_go (fn := c_store_Equal_1) rfl rfl]
  have ha := slEqU_ok x y h
  simp [c_store_Equal_1, ha]
theorem stRow_ok (x y : Rw) (h : x.entry.sm) : pureI Φ f_store_equalRows_1 [.agg (Rw.c x), .agg (Rw.c y)] = some (.val (.bool (decide (x = y)))) := by
  have ee : decide (x = y) = decide (x.id = y.id ∧ x.entry = y.entry) := decide_eq_decide.2 (Rw.eq_iff x y)
  rw [ee, pureI_go (fn := c_store_equalRows_1) rfl rfl]
  have ha := eEqual_ok x.entry y.entry h
  simp only [Entry.ce] at ha
  by_cases q : x.id = y.id
  · simp [c_store_equalRows_1, Rw.ce, ha, q]
  · simp [c_store_equalRows_1, Rw.ce, ha, q]
theorem stRows_ok (x y : List Rw) (h : x.length < 2 ^ 40) (hs : ∀ r ∈ x, r.entry.sm) : pureI Φ f_store_equalRows [.slice 5 (x.map Rw.c), .slice 5 (y.map Rw.c)] = some (.val (.bool (decide (x = y)))) := by
  rw [pureI_go (fn := c_store_equalRows) rfl rfl]
  have ha := efR_ok x y h (fun a h1 b _ => stRow_ok a b (hs a h1))
  simp [c_store_equalRows, ha]
theorem stEqual_ok (a b : Config) (f : CfgS a) : pureI Φ f_store_Equal [.agg (Config.c a), .agg (Config.c b)] = some (.val (.bool (decide (a = b)))) := by
  have ee : decide (a = b) = decide (a.rows = b.rows ∧ a.nextID = b.nextID ∧ a.defaults = b.defaults ∧ a.registers = b.registers) := decide_eq_decide.2 (Config.eq_iff a b)
  rw [ee, pureI_go (fn := c_store_Equal) rfl rfl]
  have h1 := efRs_ok a.rows b.rows f.rl (fun x hx y _ => stRows_ok x y (f.rs x hx).1 (f.rs x hx).2)
  have h2 := slEqI_ok a.nextID b.nextID f.nl
  have h3 := efC_ok a.defaults b.defaults f.dl (fun x hx y _ => stCalls_ok x y (f.ds x hx))
  have h4 := efU_ok a.registers b.registers f.gl (fun x hx y _ => stNum_ok x y (f.gs x hx))
  by_cases q1 : a.rows = b.rows
  rotate_left
  · simp [c_store_Equal, Config.ce, h1, h2, h3, h4, q1]
  rw [q1] at h1
  by_cases q2 : a.nextID = b.nextID
  rotate_left
  · simp [c_store_Equal, Config.ce, h1, h2, h3, h4, q1, q2]
  rw [q2] at h2
  by_cases q3 : a.defaults = b.defaults
  rotate_left
  · simp [c_store_Equal, Config.ce, h1, h2, h3, h4, q1, q2, q3]
  rw [q3] at h3
  simp [c_store_Equal, Config.ce, h1, h2, h3, h4, q1, q2, q3]
end Go.Av
