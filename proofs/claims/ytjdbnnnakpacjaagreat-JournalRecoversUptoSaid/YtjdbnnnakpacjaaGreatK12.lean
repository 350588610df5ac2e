/-
  Tables: the program's answers.
-/
import Derived.Test.YtjdbnnnakpacjaaGreatK11
set_option linter.unusedVariables false
set_option linter.unusedSimpArgs false
set_option linter.constructorNameAsVariable false
namespace Go.Av
set_option maxRecDepth 4000
def tactG (p : Prg) (x : Tbl) (i : Nat) : Option Int := (x.actions[i]?).bind fun a => if a < 0 ∨ (p.actions.length : Int) ≤ a then some (8 : Int) else if (x.actions.take i).contains a then some 7 else none
def tactF (p : Prg) (x : Tbl) : Int := if x.actions.contains x.dflt.action then callE p x.dflt else 8
theorem tactE_eq (p : Prg) (x : Tbl) : tactE p x = (fe (tactG p x) x.actions.length 0).getD (tactF p x) := by
  unfold tactE
  show (match fe (tactG p x) x.actions.length 0 with | some e => e | none => tactF p x) = _
  cases fe (tactG p x) x.actions.length 0 <;> rfl
theorem tactE_ok (p : Prg) (f : PrgS p) (x : Tbl) (hl : x.actions.length < 2 ^ 40) (hg : x.dflt.args.length < 2 ^ 40) : pureI Φ f_table_checkActions [.agg (Prg.c p), .agg (Tbl.c x)] = some (.val (.int .i64 (tactE p x))) := by
  rw [pureI_go (fn := c_table_checkActions) rfl rfl, tactE_eq]
  simp [c_table_checkActions, Prg.e, Tbl.e]
  refine loop_nat x.actions.length (fun i e H => look 2 e = some (.iptr 9 [Prg.c p] 0 0) ∧ look 3 e = some (.iptr 6 [Tbl.c x] 0 0) ∧ look 5 e = some (.map 0) ∧ look 10 e = some (.slice 1 (x.actions.map cI)) ∧ look 11 e = some (.int .i64 x.actions.length) ∧ look 12 e = some (.int .i64 i) ∧
      H = ⟨[(0, .map (setM (x.actions.take i)))], 1⟩)
    (fun i => some (Rt.val (.int .i64 ((fe (tactG p x) x.actions.length i).getD (tactF p x))))) ?_ ?_ 0 _ _ (Nat.zero_le _) ?_
  · rintro i e _ L hi hL ⟨h2, h3, h5, h10, h11, h12, rfl⟩ ih
    have hw : IntKind.wrap .i64 ((i : Int) + 1) = ((i + 1 : Nat) : Int) := wrap64 (by omega) (by omega)
    rw [Prg.e] at h2
    by_cases z0 : x.actions[i] < 0
    · rw [fe_hit (x := 8) hi (by simp [tactG, hi, z0])]
      simp [c_table_checkActions_l0, cI, h10, h11, h12, hi, z0]
    by_cases z1 : (p.actions.length : Int) ≤ x.actions[i]
    · rw [fe_hit (x := 8) hi (by simp [tactG, hi, z0, z1])]
      simp [c_table_checkActions_l0, cI, h2, h10, h11, h12, hi, z0, z1]
    have hfnd := setM_find x.actions[i] (x.actions.take i)
    cases q : (x.actions.take i).contains x.actions[i] with
    | true =>
      rw [q] at hfnd
      rw [fe_hit (x := 7) hi (by simp only [tactG, List.getElem?_eq_getElem hi, Option.bind_some]; rw [if_neg (by omega), q]; rfl)]
      simp [c_table_checkActions_l0, cI, h2, h5, h10, h11, h12, hi, z0, z1, hfnd]
    | false =>
      rw [q] at hfnd
      have hput := setM_put x.actions[i] (x.actions.take i) q
      rw [← List.take_succ_eq_append_getElem hi] at hput
      rw [fe_miss hi (by simp only [tactG, List.getElem?_eq_getElem hi, Option.bind_some]; rw [if_neg (by omega), q]; rfl)]
      simp [c_table_checkActions_l0, cI, h2, h5, h10, h11, h12, hi, z0, z1, hfnd, hput, hw]
      exact ih _ _ ⟨by simp [h2, Prg.e], by simp [h3], by simp [h5], by simp [h10], by simp [h11], by simp, rfl⟩
  · rintro e _ L hL ⟨h2, h3, h5, h10, h11, h12, rfl⟩
    rw [fe_end, List.take_length]
    have hfnd := setM_find x.dflt.action x.actions
    have hc := callE_ok p f x.dflt hg
    simp only [Prg.e, ActionCall.e] at hc
    rw [Prg.e] at h2
    rw [Tbl.e] at h3
    cases q : x.actions.contains x.dflt.action with
    | true =>
      rw [q] at hfnd
      rw [show tactF p x = callE p x.dflt by simp only [tactF, q]; rfl]
      simp [c_table_checkActions_l0, c_table_checkActions_k1, h2, h3, h5, h11, h12, hL, hfnd, hc]
    | false =>
      rw [q] at hfnd
      rw [show tactF p x = 8 by simp only [tactF, q]; rfl]
      simp [c_table_checkActions_l0, c_table_checkActions_k1, h3, h5, h11, h12, hL, hfnd]
  · simp [Prg.e, Tbl.e, setM]
theorem tblE_ok (p : Prg) (f : PrgS p) (t : Int) : pureI Φ f_table_Check [.agg (Prg.c p), .int .i64 t] = some (.val (.tup [.int .i64 (tblE p t).1, .int .i64 (tblE p t).2])) := by
  rw [pureI_go (fn := c_table_Check) rfl rfl]
  by_cases i0 : t < 0
  · simp [c_table_Check, Prg.e, i0, tblE, at_neg i0]
  by_cases i1 : (p.tables.length : Int) ≤ t
  · simp [c_table_Check, Prg.e, i0, i1, tblE, at_big i1]
  obtain ⟨k, rfl⟩ : ∃ k : Nat, t = k := ⟨t.toNat, by omega⟩
  have hk : k < p.tables.length := by omega
  have hm := List.getElem_mem hk
  have n1 := isIdent_ok p.tables[k].name (f.tn _ hm)
  have h1 := keysE_ok p p.tables[k] (f.tk _ hm)
  have h2 := tactE_ok p f p.tables[k] (f.ta _ hm) (f.tg _ hm)
  simp only [Prg.e, Tbl.e] at h1 h2
  cases q1 : idS p.tables[k].name with
  | false => rw [q1] at n1; simp [c_table_Check, Prg.e, Tbl.e, hk, Nat.not_le.2 hk, n1, tblE, q1]
  | true =>
  rw [q1] at n1
  by_cases z0 : 6 < p.tables[k].keys.length
  · simp [c_table_Check, Prg.e, Tbl.e, hk, Nat.not_le.2 hk, n1, tblE, q1, z0]
  by_cases z1 : 16 < p.tables[k].actions.length
  · simp [c_table_Check, Prg.e, Tbl.e, hk, Nat.not_le.2 hk, n1, tblE, q1, z0, z1]
  by_cases z2 : p.tables[k].size < 1
  · simp [c_table_Check, Prg.e, Tbl.e, hk, Nat.not_le.2 hk, n1, tblE, q1, z0, z1, z2]
  by_cases z3 : 256 < p.tables[k].size
  · simp [c_table_Check, Prg.e, Tbl.e, hk, Nat.not_le.2 hk, n1, tblE, q1, z0, z1, z2, z3]
  by_cases y1 : (keysE p p.tables[k]).2 = 0
  rotate_left
  · simp [c_table_Check, Prg.e, Tbl.e, hk, Nat.not_le.2 hk, n1, tblE, q1, z0, z1, z2, z3, h1, y1]
  rw [y1] at h1
  by_cases y2 : tactE p p.tables[k] = 0
  · rw [y2] at h2
    simp [c_table_Check, Prg.e, Tbl.e, hk, Nat.not_le.2 hk, n1, tblE, q1, z0, z1, z2, z3, h1, y1, h2, y2]
  · simp [c_table_Check, Prg.e, Tbl.e, hk, Nat.not_le.2 hk, n1, tblE, q1, z0, z1, z2, z3, h1, y1, h2, y2]
end Go.Av
