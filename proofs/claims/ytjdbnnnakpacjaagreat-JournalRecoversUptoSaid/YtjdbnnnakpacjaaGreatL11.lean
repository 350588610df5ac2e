/-
  The check of a program: the reference's answers for the other parts.
-/
import Derived.Test.YtjdbnnnakpacjaaGreatL10
set_option linter.unusedVariables false
set_option linter.unusedSimpArgs false
set_option linter.constructorNameAsVariable false
namespace Go.Av
set_option maxRecDepth 4000
theorem rfield_ok (l : List Fld) (i : Nat) (hi : i < l.length) (hl : l.length < 2 ^ 40) (hf : ∀ f ∈ l, f.name.length < 2 ^ 40) : pureI Φ f_ref21_field [.slice 2 (l.map Fld.c), .int .i64 i] = some (.val (.int .i64 (fldE l i l[i]))) := by
  rw [pureI_go (fn := c_ref21_field) rfl rfl]
  have nf := rIdent_ok l[i].name (hf _ (List.getElem_mem hi))
  cases p1 : idS l[i].name with
  | false =>
    rw [p1] at nf
    simp [c_ref21_field, Fld.e, hi, nf, fldE, p1]
  | true =>
  rw [p1] at nf
  by_cases w1 : l[i].width < 1
  · simp [c_ref21_field, Fld.e, hi, nf, fldE, p1, wBad, w1]
  by_cases w2 : 32 < l[i].width
  · simp [c_ref21_field, Fld.e, hi, nf, fldE, p1, wBad, w1, w2]
  rw [show fldE l i l[i] = if dupN Fld.name l i l[i] = true then 7 else 0 by simp [fldE, p1, wBad, w1, w2]]
  unfold dupN
  generalize hX : some (Rt.val (AV.int .i64 (if (l.take i).any (fun y => decide (y.name = l[i].name)) = true then 7 else 0))) = X
  simp [c_ref21_field, Fld.e, hi, nf, w1, w2]
  refine (loop_any (l.take i) (fun y => decide (y.name = l[i].name)) (some (Rt.val (.int .i64 7))) (some (Rt.val (.int .i64 0)))
    (fun k e H => look 0 e = some (.slice 2 (l.map Fld.c)) ∧ look 1 e = some (.int .i64 i) ∧ look 5 e = some (.int .i64 k) ∧ H = ⟨[], 0⟩) ?_ ?_ ?_ _ _ ?_).trans ?_
  · rintro k e _ L' hk hL' ⟨h0, h1, h5, rfl⟩ hb
    simp only [List.length_take] at hk
    have hk1 : k < i := by omega
    have hk2 : k < l.length := by omega
    simp only [List.getElem_take, decide_eq_true_eq] at hb
    simp [c_ref21_field_l0, Fld.e, h0, h1, h5, hk1, hk2, hi, hb]
  · rintro k e _ L' X hk hL' ⟨h0, h1, h5, rfl⟩ hb ih'
    simp only [List.length_take] at hk
    have hk1 : k < i := by omega
    have hk2 : k < l.length := by omega
    have hw' : IntKind.wrap .i64 ((k : Int) + 1) = ((k + 1 : Nat) : Int) := wrap64 (by omega) (by omega)
    simp only [List.getElem_take, decide_eq_false_iff_not] at hb
    simp [c_ref21_field_l0, Fld.e, h0, h1, h5, hk1, hk2, hi, hb, hw']
    exact ih' _ _ ⟨by simp [h0], by simp [h1], by simp, rfl⟩
  · rintro e _ L' hL' ⟨h0, h1, h5, rfl⟩
    have hm : min i l.length = i := by omega
    simp [hm] at h5
    simp [c_ref21_field_l0, c_ref21_field_k1, h1, h5, hL']
  · simp
  · rw [← hX]
    cases (l.take i).any (fun y => decide (y.name = l[i].name)) <;> rfl
theorem rmetH_ok (p : Prg) (e : Env) (h1 : look 1 e = some (.iptr 9 [Prg.c p] 0 0)) (h2 : look 2 e = some (.ptr 0 4 0 0)) : go Φ (finP [.cell 2 true 4]) [.c c_ref21_metadata_k3] .normal ⟨e, dH⟩ = some (dgR (fe (metH p) 3 0)) := by
  rw [Prg.e] at h1
  simp [c_ref21_metadata_k3, dH]
  -- field 0
  rw [go_loop]
  by_cases l0 : p.metadata.length ≤ 0
  · rw [fe_hit (x := (5, 2, 0, 0)) (by omega) (by unfold metH; rw [List.getElem?_eq_none l0]; rfl)]
    have hnil : p.metadata = [] := List.eq_nil_of_length_eq_zero (by omega)
    simp [c_ref21_metadata_l1, h1, h2, hnil, at_ok, dgR, dgC]
  have k0 : 0 < p.metadata.length := by omega
  have hne : ¬ p.metadata = [] := by intro h; rw [h] at k0; simp at k0
  by_cases a0 : p.metadata[0].name = [105, 110]
  rotate_left
  · rw [fe_hit (x := (5, 2, 0, 0)) (by omega) (by unfold metH; rw [List.getElem?_eq_getElem k0, if_neg (by simp [metaW, Fld.eq_iff, a0])]; rfl)]
    simp [c_ref21_metadata_l1, Fld.e, h1, h2, hne, k0, a0, at_ok, dgR, dgC]
  by_cases b0 : p.metadata[0].width = 8
  rotate_left
  · rw [fe_hit (x := (5, 2, 0, 0)) (by omega) (by unfold metH; rw [List.getElem?_eq_getElem k0, if_neg (by simp [metaW, Fld.eq_iff, b0])]; rfl)]
    simp [c_ref21_metadata_l1, Fld.e, h1, h2, hne, k0, a0, b0, at_ok, dgR, dgC]
  rw [fe_miss (by omega) (by unfold metH; rw [List.getElem?_eq_getElem k0, if_pos (by simp [metaW, Fld.eq_iff, a0, b0])])]
  simp [c_ref21_metadata_l1, Fld.e, h1, hne, k0, a0, b0, wr1]
  -- field 1
  rw [go_loop]
  by_cases l1 : p.metadata.length ≤ 1
  · rw [fe_hit (x := (5, 2, 1, 0)) (by omega) (by unfold metH; rw [List.getElem?_eq_none l1]; rfl)]
    simp [h1, h2, l1, at_ok, dgR, dgC]
  have k1 : 1 < p.metadata.length := by omega
  by_cases a1 : p.metadata[1].name = [111, 117, 116]
  rotate_left
  · rw [fe_hit (x := (5, 2, 1, 0)) (by omega) (by unfold metH; rw [List.getElem?_eq_getElem k1, if_neg (by simp [metaW, Fld.eq_iff, a1])]; rfl)]
    simp [Fld.e, h1, h2, k1, l1, a1, at_ok, dgR, dgC]
  by_cases b1 : p.metadata[1].width = 8
  rotate_left
  · rw [fe_hit (x := (5, 2, 1, 0)) (by omega) (by unfold metH; rw [List.getElem?_eq_getElem k1, if_neg (by simp [metaW, Fld.eq_iff, b1])]; rfl)]
    simp [Fld.e, h1, h2, k1, l1, a1, b1, at_ok, dgR, dgC]
  rw [fe_miss (by omega) (by unfold metH; rw [List.getElem?_eq_getElem k1, if_pos (by simp [metaW, Fld.eq_iff, a1, b1])])]
  simp [Fld.e, h1, k1, l1, a1, b1, wr2]
  -- field 2
  rw [go_loop]
  by_cases l2 : p.metadata.length ≤ 2
  · rw [fe_hit (x := (5, 2, 2, 0)) (by omega) (by unfold metH; rw [List.getElem?_eq_none l2]; rfl)]
    simp [h1, h2, l2, at_ok, dgR, dgC]
  have k2 : 2 < p.metadata.length := by omega
  by_cases a2 : p.metadata[2].name = [100, 114, 111, 112]
  rotate_left
  · rw [fe_hit (x := (5, 2, 2, 0)) (by omega) (by unfold metH; rw [List.getElem?_eq_getElem k2, if_neg (by simp [metaW, Fld.eq_iff, a2])]; rfl)]
    simp [Fld.e, h1, h2, k2, l2, a2, at_ok, dgR, dgC]
  by_cases b2 : p.metadata[2].width = 1
  rotate_left
  · rw [fe_hit (x := (5, 2, 2, 0)) (by omega) (by unfold metH; rw [List.getElem?_eq_getElem k2, if_neg (by simp [metaW, Fld.eq_iff, b2])]; rfl)]
    simp [Fld.e, h1, h2, k2, l2, a2, b2, at_ok, dgR, dgC]
  rw [fe_miss (by omega) (by unfold metH; rw [List.getElem?_eq_getElem k2, if_pos (by simp [metaW, Fld.eq_iff, a2, b2])])]
  simp [Fld.e, h1, k2, l2, a2, b2, wr3]
  rw [go_loop, fe_end]
  simp [c_ref21_metadata_k2, h2, dgR, dgC]
theorem rmetD_ok (p : Prg) (f : PrgS p) : pureI Φ f_ref21_metadata [.agg (Prg.c p)] = some (dgR (metD p)) := by
  rw [pureI_go (fn := c_ref21_metadata) rfl rfl, metD_eq]
  by_cases z : 12 < p.metadata.length
  · simp [c_ref21_metadata, Prg.e, z, at_ok, dgR, dgC]
  rw [if_neg z]
  simp [c_ref21_metadata, Prg.e, z]
  refine loop_nat0 p.metadata.length (fun i e => look 1 e = some (.iptr 9 [Prg.c p] 0 0) ∧ look 2 e = some (.ptr 0 4 0 0) ∧ look 3 e = some (.int .i64 i))
    (fun i => some (dgR ((fe (metG p) p.metadata.length i).or (fe (metH p) 3 0)))) ?_ ?_ 0 _ (Nat.zero_le _) ?_
  · rintro i e L hi hL ⟨h1, h2, h3⟩ ih
    have hlen := f.m
    have hw : IntKind.wrap .i64 ((i : Int) + 1) = ((i + 1 : Nat) : Int) := wrap64 (by omega) (by omega)
    have ef := rfield_ok p.metadata i hi f.m f.mn
    rw [Prg.e] at h1
    by_cases y : fldE p.metadata i p.metadata[i] = 0
    · rw [y] at ef
      rw [fe_miss hi (by simp [metG, hi, y])]
      simp [c_ref21_metadata_l0, h1, h3, hi, ef, hw]
      exact ih _ ⟨by simp [h1, Prg.e], by simp [h2], by simp⟩
    · rw [fe_hit (x := (fldE p.metadata i p.metadata[i], 2, (i : Int), 0)) hi (by simp [metG, hi, y])]
      simp [c_ref21_metadata_l0, h1, h2, h3, hi, ef, y, at_ok, dgR, dgC]
  · rintro e L hL ⟨h1, h2, h3⟩
    rw [fe_end]
    have hh := rmetH_ok p
    simp only [dH] at hh
    rw [Prg.e] at h1
    simp [c_ref21_metadata_l0, h1, h3, hL]
    apply hh
    · simp [h1, Prg.e]
    · simp [h2]
  · simp [Prg.e]
theorem rflo_ok (p : Prg) (f : PrgS p) (hc : (pre p.control).length < 2 ^ 40 - 1) : pureI Φ f_ref21_code [.agg (Prg.c p)] = some (dgR (floD p)) := by
  rw [pureI_go (fn := c_ref21_code) rfl rfl]
  have e1 := rparE_ok p f
  have e2 := rctlE_ok p hc
  have e3 := rdepE_ok p f
  simp only [Prg.e, tup3] at e1 e2 e3
  by_cases y1 : (parE p).2.2 = 0
  rotate_left
  · simp [c_ref21_code, Prg.e, e1, y1, at_ok, floD, dgR, dgC]
  rw [y1] at e1
  by_cases y2 : (ctlE p).2 = 0
  rotate_left
  · simp [c_ref21_code, Prg.e, e1, y1, e2, y2, at_ok, floD, dgR, dgC]
  rw [y2] at e2
  by_cases y3 : (depE p).2 = 0
  rotate_left
  · simp [c_ref21_code, Prg.e, e1, y1, e2, y2, e3, y3, at_ok, floD, dgR, dgC]
  rw [y3] at e3
  simp [c_ref21_code, Prg.e, e1, y1, e2, y2, e3, y3, floD, dgR, dgC]
theorem rregD_ok (p : Prg) (f : PrgS p) : pureI Φ f_ref21_registers [.agg (Prg.c p)] = some (dgR (regD p)) := by
  rw [pureI_go (fn := c_ref21_registers) rfl rfl, show regD p = fe (regG p) p.registers.length 0 from rfl]
  simp [c_ref21_registers, Prg.e]
  refine loop_nat0 p.registers.length (fun i e => look 1 e = some (.iptr 9 [Prg.c p] 0 0) ∧ look 2 e = some (.ptr 0 4 0 0) ∧ look 3 e = some (.int .i64 i))
    (fun i => some (dgR (fe (regG p) p.registers.length i))) ?_ ?_ 0 _ (Nat.zero_le _) ?_
  · rintro i e L hi hL ⟨h1, h2, h3⟩ ih
    have hlen := f.r
    have hw : IntKind.wrap .i64 ((i : Int) + 1) = ((i + 1 : Nat) : Int) := wrap64 (by omega) (by omega)
    have hm := List.getElem_mem hi
    have eh := rregE_ok p.registers[i] (f.rn _ hm)
    simp only [Register.e] at eh
    rw [Prg.e] at h1
    have bad : ∀ c : Int, c ≠ 0 → regD1 p i p.registers[i] = c → fe (regG p) p.registers.length i = some (c, 3, (i : Int), 0) := fun c h0 h => fe_hit hi (by simp [regG, hi, h, h0])
    by_cases z1 : regE p.registers[i] = 0
    rotate_left
    · rw [bad _ z1 (by simp [regD1, z1])]
      simp [c_ref21_registers_l3, Register.e, h1, h3, hi, eh]
      rw [go_loop]
      by_cases hi0 : 0 < i <;> simp [c_ref21_registers_l0, c_ref21_registers_k1, h2, h3, z1, hi0, at_ok, dgR, dgC]
    generalize hX : some (dgR (fe (regG p) p.registers.length i)) = X
    simp [c_ref21_registers_l3, Register.e, h1, h3, hi, eh, z1]
    refine (loop_flag (p.registers.take i) (fun y => decide (y.name = p.registers[i].name)) (some (dgR (some (7, 3, (i : Int), 0)))) (some (dgR (fe (regG p) p.registers.length (i + 1))))
      (fun k b e H => look 1 e = some (.iptr 9 [Prg.c p] 0 0) ∧ look 2 e = some (.ptr 0 4 0 0) ∧ look 3 e = some (.int .i64 i) ∧ look 4 e = some (.int .i64 (if b then 7 else 0)) ∧ look 5 e = some (.int .i64 k) ∧ H = dH) ?_ ?_ ?_ ?_ _ _ ?_).trans ?_
    · rintro k e _ L' Y hk hL' ⟨h1, h2, h3, h4, h5, rfl⟩ hb ih'
      simp only [List.length_take] at hk
      have hk1 : k < i := by omega
      have hk2 : k < p.registers.length := by omega
      have hw' : IntKind.wrap .i64 ((k : Int) + 1) = ((k + 1 : Nat) : Int) := wrap64 (by omega) (by omega)
      simp only [List.getElem_take, decide_eq_true_eq] at hb
      rw [Prg.e] at h1
      simp at h4
      simp [c_ref21_registers_l0, Register.e, h1, h3, h4, h5, hk1, hk2, hi, hb, hw']
      exact ih' _ _ ⟨by simp [h1, Prg.e], by simp [h2], by simp [h3], by simp, by simp, rfl⟩
    · rintro k e _ L' Y hk hL' ⟨h1, h2, h3, h4, h5, rfl⟩ hb ih'
      simp only [List.length_take] at hk
      have hk1 : k < i := by omega
      have hk2 : k < p.registers.length := by omega
      have hw' : IntKind.wrap .i64 ((k : Int) + 1) = ((k + 1 : Nat) : Int) := wrap64 (by omega) (by omega)
      simp only [List.getElem_take, decide_eq_false_iff_not] at hb
      rw [Prg.e] at h1
      simp at h4
      simp [c_ref21_registers_l0, Register.e, h1, h3, h4, h5, hk1, hk2, hi, hb, hw']
      exact ih' _ _ ⟨by simp [h1, Prg.e], by simp [h2], by simp [h3], by simp [h4], by simp, rfl⟩
    · rintro k e _ L' hk hL' ⟨h1, h2, h3, h4, h5, rfl⟩
      simp only [List.length_take] at hk
      simp at h4
      by_cases hk1 : k < i
      · simp [c_ref21_registers_l0, c_ref21_registers_k1, h2, h3, h4, h5, hk1, hL', at_ok, dgR, dgC, dH]
      · simp [c_ref21_registers_l0, c_ref21_registers_k1, h2, h3, h4, h5, hk1, hL', at_ok, dgR, dgC, dH]
    · rintro e _ L' hL' ⟨h1, h2, h3, h4, h5, rfl⟩
      have hmn : min i p.registers.length = i := by omega
      simp [hmn] at h4 h5
      simp [c_ref21_registers_l0, c_ref21_registers_k1, c_ref21_registers_k2, h3, h4, h5, hL', hw]
      exact ih _ ⟨by simp [h1], by simp [h2], by simp⟩
    · simp [h1, h2, h3, Prg.e, dH]
    · rw [← hX]
      cases q : dupN Register.name p.registers i p.registers[i] with
      | true =>
        rw [bad 7 (by decide) (by simp [regD1, z1, q])]
        unfold dupN at q
        rw [q]; rfl
      | false =>
        rw [fe_miss hi (by simp [regG, hi, regD1, z1, q])]
        unfold dupN at q
        rw [q]; rfl
  · rintro e L hL ⟨h1, h2, h3⟩
    rw [fe_end]
    rw [Prg.e] at h1
    simp [c_ref21_registers_l3, c_ref21_registers_k4, h1, h2, h3, hL, dgR, dgC]
  · simp [Prg.e]
theorem ractD1_ok (p : Prg) (f : PrgS p) : pureI Φ f_ref21_actions [.agg (Prg.c p)] = some (dgR (actD1 p)) := by
  rw [pureI_go (fn := c_ref21_actions) rfl rfl, show actD1 p = fe (acG p) p.actions.length 0 from rfl]
  simp [c_ref21_actions, Prg.e]
  refine loop_nat0 p.actions.length (fun i e => look 1 e = some (.iptr 9 [Prg.c p] 0 0) ∧ look 2 e = some (.ptr 0 4 0 0) ∧ look 3 e = some (.int .i64 i))
    (fun i => some (dgR (fe (acG p) p.actions.length i))) ?_ ?_ 0 _ (Nat.zero_le _) ?_
  · rintro i e L hi hL ⟨h1, h2, h3⟩ ih
    have hlen := f.a
    have hw : IntKind.wrap .i64 ((i : Int) + 1) = ((i + 1 : Nat) : Int) := wrap64 (by omega) (by omega)
    have et := ractE_ok p f i
    simp only [Prg.e] at et
    rw [Prg.e] at h1
    by_cases y : (actE p i).2 = 0
    rotate_left
    · rw [fe_hit (x := ((actE p i).2, 4, (i : Int), (actE p i).1)) hi (by simp [acG, hi, y])]
      simp [c_ref21_actions_l2, h1, h2, h3, hi, et, y, at_ok, dgR, dgC]
    rw [y] at et
    generalize hX : some (dgR (fe (acG p) p.actions.length i)) = X
    simp [c_ref21_actions_l2, h1, h3, hi, et]
    refine (loop_any (p.actions.take i) (fun g => decide (g.name = p.actions[i].name)) (some (dgR (some (7, 4, (i : Int), 0)))) (some (dgR (fe (acG p) p.actions.length (i + 1))))
      (fun k e H => look 1 e = some (.iptr 9 [Prg.c p] 0 0) ∧ look 2 e = some (.ptr 0 4 0 0) ∧ look 3 e = some (.int .i64 i) ∧ look 6 e = some (.int .i64 k) ∧ H = dH) ?_ ?_ ?_ _ _ ?_).trans ?_
    · rintro k e _ L' hk hL' ⟨h1, h2, h3, h6, rfl⟩ hb
      simp only [List.length_take] at hk
      have hk1 : k < i := by omega
      have hk2 : k < p.actions.length := by omega
      simp only [List.getElem_take, decide_eq_true_eq] at hb
      rw [Prg.e] at h1
      simp [c_ref21_actions_l0, Action.e, h1, h2, h3, h6, hk1, hk2, hi, hb, at_ok, dgR, dgC, dH]
    · rintro k e _ L' Y hk hL' ⟨h1, h2, h3, h6, rfl⟩ hb ih'
      simp only [List.length_take] at hk
      have hk1 : k < i := by omega
      have hk2 : k < p.actions.length := by omega
      have hw' : IntKind.wrap .i64 ((k : Int) + 1) = ((k + 1 : Nat) : Int) := wrap64 (by omega) (by omega)
      simp only [List.getElem_take, decide_eq_false_iff_not] at hb
      rw [Prg.e] at h1
      simp [c_ref21_actions_l0, Action.e, h1, h3, h6, hk1, hk2, hi, hb, hw']
      exact ih' _ _ ⟨by simp [h1, Prg.e], by simp [h2], by simp [h3], by simp, rfl⟩
    · rintro e _ L' hL' ⟨h1, h2, h3, h6, rfl⟩
      have hm : min i p.actions.length = i := by omega
      simp [hm] at h6
      simp [c_ref21_actions_l0, c_ref21_actions_k1, h3, h6, hL', hw]
      exact ih _ ⟨by simp [h1], by simp [h2], by simp⟩
    · simp [h1, h2, h3, Prg.e, dH]
    · rw [← hX]
      cases q : dupN Action.name p.actions i p.actions[i] with
      | true =>
        rw [fe_hit (x := (7, 4, (i : Int), 0)) hi (by simp [acG, hi, y, q])]
        unfold dupN at q
        rw [q]; rfl
      | false =>
        rw [fe_miss hi (by simp [acG, hi, y, q])]
        unfold dupN at q
        rw [q]; rfl
  · rintro e L hL ⟨h1, h2, h3⟩
    rw [fe_end]
    rw [Prg.e] at h1
    simp [c_ref21_actions_l2, c_ref21_actions_k3, h1, h2, h3, hL, dgR, dgC]
  · simp [Prg.e]
theorem rtblD_ok (p : Prg) (f : PrgS p) (hv : ∀ t ∈ p.tables, ∀ v ∈ t.dflt.args, ok32 0 v) : pureI Φ f_ref21_tables [.agg (Prg.c p)] = some (dgR (tblD p)) := by
  rw [pureI_go (fn := c_ref21_tables) rfl rfl, show tblD p = fe (tbG p) p.tables.length 0 from rfl]
  simp [c_ref21_tables, Prg.e]
  refine loop_nat0 p.tables.length (fun i e => look 1 e = some (.iptr 9 [Prg.c p] 0 0) ∧ look 2 e = some (.ptr 0 4 0 0) ∧ look 3 e = some (.int .i64 i))
    (fun i => some (dgR (fe (tbG p) p.tables.length i))) ?_ ?_ 0 _ (Nat.zero_le _) ?_
  · rintro i e L hi hL ⟨h1, h2, h3⟩ ih
    have hlen := f.t
    have hw : IntKind.wrap .i64 ((i : Int) + 1) = ((i + 1 : Nat) : Int) := wrap64 (by omega) (by omega)
    have et := rtblE_ok p f hv i
    simp only [Prg.e] at et
    rw [Prg.e] at h1
    by_cases y : (tblE p i).2 = 0
    rotate_left
    · rw [fe_hit (x := ((tblE p i).2, 5, (i : Int), (tblE p i).1)) hi (by simp [tbG, hi, y])]
      simp [c_ref21_tables_l2, h1, h2, h3, hi, et, y, at_ok, dgR, dgC]
    rw [y] at et
    generalize hX : some (dgR (fe (tbG p) p.tables.length i)) = X
    simp [c_ref21_tables_l2, h1, h3, hi, et]
    refine (loop_any (p.tables.take i) (fun g => decide (g.name = p.tables[i].name)) (some (dgR (some (7, 5, (i : Int), 0)))) (some (dgR (fe (tbG p) p.tables.length (i + 1))))
      (fun k e H => look 1 e = some (.iptr 9 [Prg.c p] 0 0) ∧ look 2 e = some (.ptr 0 4 0 0) ∧ look 3 e = some (.int .i64 i) ∧ look 6 e = some (.int .i64 k) ∧ H = dH) ?_ ?_ ?_ _ _ ?_).trans ?_
    · rintro k e _ L' hk hL' ⟨h1, h2, h3, h6, rfl⟩ hb
      simp only [List.length_take] at hk
      have hk1 : k < i := by omega
      have hk2 : k < p.tables.length := by omega
      simp only [List.getElem_take, decide_eq_true_eq] at hb
      rw [Prg.e] at h1
      simp [c_ref21_tables_l0, Tbl.e, h1, h2, h3, h6, hk1, hk2, hi, hb, at_ok, dgR, dgC, dH]
    · rintro k e _ L' Y hk hL' ⟨h1, h2, h3, h6, rfl⟩ hb ih'
      simp only [List.length_take] at hk
      have hk1 : k < i := by omega
      have hk2 : k < p.tables.length := by omega
      have hw' : IntKind.wrap .i64 ((k : Int) + 1) = ((k + 1 : Nat) : Int) := wrap64 (by omega) (by omega)
      simp only [List.getElem_take, decide_eq_false_iff_not] at hb
      rw [Prg.e] at h1
      simp [c_ref21_tables_l0, Tbl.e, h1, h3, h6, hk1, hk2, hi, hb, hw']
      exact ih' _ _ ⟨by simp [h1, Prg.e], by simp [h2], by simp [h3], by simp, rfl⟩
    · rintro e _ L' hL' ⟨h1, h2, h3, h6, rfl⟩
      have hm : min i p.tables.length = i := by omega
      simp [hm] at h6
      simp [c_ref21_tables_l0, c_ref21_tables_k1, h3, h6, hL', hw]
      exact ih _ ⟨by simp [h1], by simp [h2], by simp⟩
    · simp [h1, h2, h3, Prg.e, dH]
    · rw [← hX]
      cases q : dupN Tbl.name p.tables i p.tables[i] with
      | true =>
        rw [fe_hit (x := (7, 5, (i : Int), 0)) hi (by simp [tbG, hi, y, q])]
        unfold dupN at q
        rw [q]; rfl
      | false =>
        rw [fe_miss hi (by simp [tbG, hi, y, q])]
        unfold dupN at q
        rw [q]; rfl
  · rintro e L hL ⟨h1, h2, h3⟩
    rw [fe_end]
    rw [Prg.e] at h1
    simp [c_ref21_tables_l2, c_ref21_tables_k3, h1, h2, h3, hL, dgR, dgC]
  · simp [Prg.e]
end Go.Av
