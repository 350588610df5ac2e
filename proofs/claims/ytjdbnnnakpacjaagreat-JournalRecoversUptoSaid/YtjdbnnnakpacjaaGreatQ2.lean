/-
  Tables: widths and allowed actions, on both sides.
-/
import Derived.Test.YtjdbnnnakpacjaaGreatQ1
set_option linter.unusedVariables false
set_option linter.unusedSimpArgs false
set_option linter.constructorNameAsVariable false
namespace Go.Av
set_option maxRecDepth 4000
theorem twidths_ok (p : Prg) (f : PrgS p) (k : Nat) (hk : k < p.tables.length) (q : tOk p k = true) : pureI Φ f_table_Widths [.agg (Prg.c p), .int .i64 k] = some (.val (.slice 1 ((kWid p p.tables[k]).map cI))) := by
  rw [pureI_go (fn := c_table_Widths) rfl rfl]
  have h := tvalid_ok p f k
  rw [q] at h
  simp only [Prg.e] at h
  obtain ⟨k', hk', e, o⟩ := tOk_at q
  obtain rfl : k = k' := by omega
  have hb := o.keys
  have e0 : (kWid p p.tables[k]).map cI = p.tables[k].keys.map fun y => [AV.int .i64 (wid p y.field.header y.field.field)] := by simp [kWid, cI]
  rw [e0]
  simp [c_table_Widths, Prg.e, h, hk, Tbl.e]
  refine (loop_nx p.tables[k].keys.length (fun i => [(0, .tok 1 i)]) 1 (fun i e => look 2 e = some (.iptr 9 [Prg.c p] 0 0) ∧ look 5 e = some (.app 1 ((p.tables[k].keys.map fun y => [AV.int .i64 (wid p y.field.header y.field.field)]).take i) 0) ∧ look 17 e = some (.slice 3 (p.tables[k].keys.map TableKey.c)) ∧ look 18 e = some (.int .i64 p.tables[k].keys.length) ∧ look 19 e = some (.int .i64 i))
    (fun _ => some (Rt.val (.slice 1 (p.tables[k].keys.map fun y => [AV.int .i64 (wid p y.field.header y.field.field)])))) ?_ ?_ 0 _ 1 (Nat.zero_le _) (Nat.le_refl _) ?_).trans (by simp)
  · rintro i e n L hi hL hn ⟨h2, h5, h17, h18, h19⟩ ih
    have hw : IntKind.wrap .i64 ((i : Int) + 1) = ((i + 1 : Nat) : Int) := wrap64 (by omega) (by omega)
    have hv := wid_ok p p.tables[k].keys[i].field.header p.tables[k].keys[i].field.field
    simp only [Prg.e] at hv
    rw [Prg.e] at h2
    have hn0 : ¬ (0 = n) := by omega
    have hn1 : ¬ (n = 0) := by omega
    have hm : min i p.tables[k].keys.length = i := by omega
    have hb : (i + 1) * 8 ≤ 70368744177664 := by omega
    simp [c_table_Widths_l0, TableKey.e, h2, h5, h17, h18, h19, hi, hw, hn0, hm, hb, hv]
    exact ih _ _ (by omega) ⟨by simp [h2, Prg.e], by simp [take_map_succ hi], by simp [h17], by simp [h18], by simp⟩
  · rintro e n L hL hn ⟨h2, h5, h17, h18, h19⟩
    simp [c_table_Widths_l0, c_table_Widths_k1, h5, h18, h19, hL]
  · simp [Prg.e]
theorem rwidths_ok (p : Prg) (f : PrgS p) (hv : ∀ t ∈ p.tables, ∀ v ∈ t.dflt.args, ok32 0 v) (k : Nat) (hk : k < p.tables.length) (q : tOk p k = true) : pureI Φ f_ref17_Widths [.agg (Prg.c p), .int .i64 k] = some (.val (.slice 1 ((kWid p p.tables[k]).map cI))) := by
  rw [pureI_go (fn := c_ref17_Widths) rfl rfl]
  have h := rvalidT_ok p f hv k
  rw [q] at h
  simp only [Prg.e] at h
  obtain ⟨k', hk', e, o⟩ := tOk_at q
  obtain rfl : k = k' := by omega
  have hb := o.keys
  have e0 : (kWid p p.tables[k]).map cI = p.tables[k].keys.map fun y => [AV.int .i64 (wid p y.field.header y.field.field)] := by simp [kWid, cI]
  rw [e0]
  simp [c_ref17_Widths, Prg.e, h]
  refine (loop_nx p.tables[k].keys.length (fun i => [(0, .tok 1 i)]) 1 (fun i e => look 2 e = some (.iptr 9 [Prg.c p] 0 0) ∧ look 1 e = some (.int .i64 k) ∧ look 5 e = some (.app 1 ((p.tables[k].keys.map fun y => [AV.int .i64 (wid p y.field.header y.field.field)]).take i) 0) ∧ look 6 e = some (.int .i64 i))
    (fun _ => some (Rt.val (.slice 1 (p.tables[k].keys.map fun y => [AV.int .i64 (wid p y.field.header y.field.field)])))) ?_ ?_ 0 _ 1 (Nat.zero_le _) (Nat.le_refl _) ?_).trans (by simp)
  · rintro i e n L hi hL hn ⟨h2, h1, h5, h6⟩ ih
    have hw : IntKind.wrap .i64 ((i : Int) + 1) = ((i + 1 : Nat) : Int) := wrap64 (by omega) (by omega)
    have hv := rWid17_ok p p.tables[k].keys[i].field.header p.tables[k].keys[i].field.field
    simp only [Prg.e] at hv
    rw [Prg.e] at h2
    have hn0 : ¬ (0 = n) := by omega
    have hn1 : ¬ (n = 0) := by omega
    have hm : min i p.tables[k].keys.length = i := by omega
    have hb : (i + 1) * 8 ≤ 70368744177664 := by omega
    simp [c_ref17_Widths_l0, TableKey.e, Tbl.e, h1, h2, h5, h6, hk, hi, hw, hm, hb, hv]
    exact ih _ _ (by omega) ⟨by simp [h2, Prg.e], by simp [h1], by simp [take_map_succ hi], by simp⟩
  · rintro e n L hL hn ⟨h2, h1, h5, h6⟩
    rw [Prg.e] at h2
    simp [c_ref17_Widths_l0, c_ref17_Widths_k1, Tbl.e, h1, h2, h5, h6, hk, hL]
  · simp [Prg.e]
def tAl (p : Prg) (t a : Int) : Bool := tOk p t && (match at? p.tables t with
  | some x => x.actions.any fun s => decide (s = a)
  | none => false)
theorem tallows_ok (p : Prg) (f : PrgS p) (t a : Int) : pureI Φ f_table_Allows [.agg (Prg.c p), .int .i64 t, .int .i64 a] = some (.val (.bool (tAl p t a))) := by
  rw [pureI_go (fn := c_table_Allows) rfl rfl]
  have h := tvalid_ok p f t
  simp only [Prg.e] at h
  cases q : tOk p t with
  | false =>
    rw [q] at h
    simp [c_table_Allows, Prg.e, h, tAl, q]
  | true =>
  rw [q] at h
  obtain ⟨k, hk, rfl, o⟩ := tOk_at q
  have hK : tAl p (k : Int) a = p.tables[k].actions.any fun s => decide (s = a) := by simp [tAl, q, hk]
  rw [hK]
  have hb := o.acts
  simp [c_table_Allows, Prg.e, h, hk, Tbl.e]
  refine (loop_nx p.tables[k].actions.length (fun _ => []) 0 (fun i e => look 2 e = some (.int .i64 a) ∧ look 18 e = some (.slice 1 (p.tables[k].actions.map cI)) ∧ look 19 e = some (.int .i64 p.tables[k].actions.length) ∧ look 20 e = some (.int .i64 i))
    (fun i => some (Rt.val (.bool ((p.tables[k].actions.drop i).any fun s => decide (s = a))))) ?_ ?_ 0 _ 0 (Nat.zero_le _) (Nat.le_refl _) ?_).trans (by simp)
  · rintro i e n L hi hL _ ⟨h2, h18, h19, h20⟩ ih
    have hw : IntKind.wrap .i64 ((i : Int) + 1) = ((i + 1 : Nat) : Int) := wrap64 (by omega) (by omega)
    rw [List.drop_eq_getElem_cons hi, List.any_cons]
    by_cases z : p.tables[k].actions[i] = a
    · generalize hX : some (Rt.val (AV.bool (decide (p.tables[k].actions[i] = a) || (p.tables[k].actions.drop (i + 1)).any fun s => decide (s = a)))) = X
      simp [c_table_Allows_l0, cI, h2, h18, h19, h20, hi, z]
      rw [← hX]
      simp [z]
    · rw [show (decide (p.tables[k].actions[i] = a) || (p.tables[k].actions.drop (i + 1)).any fun s => decide (s = a)) = (p.tables[k].actions.drop (i + 1)).any fun s => decide (s = a) by simp [z]]
      generalize hX : some (Rt.val (AV.bool ((p.tables[k].actions.drop (i + 1)).any fun s => decide (s = a)))) = X
      simp [c_table_Allows_l0, cI, h2, h18, h19, h20, hi, z, hw]
      rw [← hX]
      exact ih _ _ (Nat.zero_le _) ⟨by simp [h2], by simp [h18], by simp [h19], by simp⟩
  · rintro e n L hL _ ⟨h2, h18, h19, h20⟩
    simp [c_table_Allows_l0, c_table_Allows_k1, h19, h20, hL]
  · simp
theorem rallows_ok (p : Prg) (f : PrgS p) (hv : ∀ t ∈ p.tables, ∀ v ∈ t.dflt.args, ok32 0 v) (t a : Int) : pureI Φ f_ref17_Allows [.agg (Prg.c p), .int .i64 t, .int .i64 a] = some (.val (.bool (tAl p t a))) := by
  rw [pureI_go (fn := c_ref17_Allows) rfl rfl]
  have h := rvalidT_ok p f hv t
  simp only [Prg.e] at h
  cases q : tOk p t with
  | false =>
    rw [q] at h
    simp [c_ref17_Allows, Prg.e, h, tAl, q]
  | true =>
  rw [q] at h
  obtain ⟨k, hk, rfl, o⟩ := tOk_at q
  have hK : tAl p (k : Int) a = p.tables[k].actions.any fun s => decide (s = a) := by simp [tAl, q, hk]
  have hb := o.acts
  have hx := rindex_ok p.tables[k].actions a (by omega)
  rw [hK, ← ix_any]
  simp [c_ref17_Allows, Prg.e, Tbl.e, h, hk, hx]
end Go.Av
