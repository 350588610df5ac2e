/-
  Tables: kinds, widths and the actions that they allow, on both sides.
-/
import Derived.Test.YtjdbnnnakpacjaaGreatSK5
set_option linter.unusedVariables false
set_option linter.unusedSimpArgs false
set_option linter.constructorNameAsVariable false
namespace Go.Av
set_option maxRecDepth 4000
def tOk (p : Prg) (t : Int) : Bool := decide ((tblE p t).2 = 0)
theorem keyV {p : Prg} {x : Tbl} (h : keyE p x = none) : ∀ k ∈ x.keys, k.kind = 1 ∨ k.kind = 2 ∨ k.kind = 3 := by
  intro k hk
  obtain ⟨i, hi, rfl⟩ := List.getElem_of_mem hk
  have := (fe_all.1 h) i hi
  simp [hi] at this
  split at this
  · cases this
  · split at this
    · assumption
    · cases this
structure TOk (p : Prg) (k : Nat) (hk : k < p.tables.length) : Prop where
  keys : p.tables[k].keys.length ≤ 6
  acts : p.tables[k].actions.length ≤ 16
  kinds : ∀ x ∈ p.tables[k].keys, x.kind = 1 ∨ x.kind = 2 ∨ x.kind = 3
  size : 1 ≤ p.tables[k].size ∧ p.tables[k].size ≤ 256
theorem tOk_at {p : Prg} {t : Int} (h : tOk p t = true) : ∃ (k : Nat) (hk : k < p.tables.length), t = k ∧ TOk p k hk := by
  simp only [tOk, decide_eq_true_eq] at h
  by_cases i0 : t < 0
  · simp [tblE, at_neg i0] at h
  by_cases i1 : (p.tables.length : Int) ≤ t
  · simp [tblE, at_big i1] at h
  obtain ⟨k, rfl⟩ : ∃ k : Nat, t = k := ⟨t.toNat, by omega⟩
  have hk : k < p.tables.length := by omega
  refine ⟨k, hk, rfl, ?_⟩
  unfold tblE at h
  rw [at_nat, List.getElem?_eq_getElem hk] at h
  dsimp only at h
  by_cases z0 : idS p.tables[k].name = false
  · rw [if_pos z0] at h; cases h
  rw [if_neg z0] at h
  by_cases z1 : 6 < p.tables[k].keys.length ∨ 16 < p.tables[k].actions.length
  · rw [if_pos z1] at h; cases h
  rw [if_neg z1] at h
  by_cases z2 : p.tables[k].size < 1 ∨ 256 < p.tables[k].size
  · rw [if_pos z2] at h; cases h
  rw [if_neg z2] at h
  by_cases z3 : (keysE p p.tables[k]).2 ≠ 0
  · rw [if_pos z3] at h; exact absurd h z3
  refine ⟨by omega, by omega, ?_, by omega⟩
  unfold keysE at z3
  cases q : keyE p p.tables[k] with
  | none => exact keyV q
  | some e =>
    exfalso
    rw [q] at z3
    dsimp only at z3
    obtain ⟨i, hi, hx⟩ := fe_some q
    simp only [Option.bind_eq_some_iff] at hx
    obtain ⟨y, _, hy⟩ := hx
    split at hy
    · cases hy; exact z3 (by simp)
    · split at hy
      · cases hy
      · cases hy; exact z3 (by simp)
theorem tvalid_ok (p : Prg) (f : PrgS p) (t : Int) : pureI Φ f_table_valid [.agg (Prg.c p), .int .i64 t] = some (.val (.bool (tOk p t))) := by
  rw [pureI_go (fn := c_table_valid) rfl rfl]
  have h := tblE_ok p f t
  simp only [Prg.e] at h
  simp [c_table_valid, Prg.e, h, tOk]
theorem rvalidT_ok (p : Prg) (f : PrgS p) (hv : ∀ t ∈ p.tables, ∀ v ∈ t.dflt.args, ok32 0 v) (t : Int) : pureI Φ f_ref17_valid [.agg (Prg.c p), .int .i64 t] = some (.val (.bool (tOk p t))) := by
  rw [pureI_go (fn := c_ref17_valid) rfl rfl]
  have h := rtblE_ok p f hv t
  simp only [Prg.e] at h
  simp [c_ref17_valid, Prg.e, h, tOk]
-- kinds
def kMax : List TableKey → Int → Int
  | [], a => a
  | k :: r, a => kMax r (max a k.kind)
def tKind (p : Prg) (t : Int) : Int := if tOk p t then (match at? p.tables t with
  | some x => kMax x.keys 1
  | none => 0) else 0
theorem kMax_3 : ∀ (l : List TableKey) (a : Int), a = 3 → (∀ x ∈ l, x.kind = 1 ∨ x.kind = 2 ∨ x.kind = 3) → kMax l a = 3
  | [], a, h, _ => h
  | k :: r, a, h, hk => by
    subst h
    have := hk k (by simp)
    simp only [kMax]
    exact kMax_3 r _ (by omega) fun x hx => hk x (by simp [hx])
theorem tkind_ok (p : Prg) (f : PrgS p) (t : Int) : pureI Φ f_table_Kind [.agg (Prg.c p), .int .i64 t] = some (.val (.int .i64 (tKind p t))) := by
  rw [pureI_go (fn := c_table_Kind) rfl rfl]
  have h := tvalid_ok p f t
  simp only [Prg.e] at h
  cases q : tOk p t with
  | false =>
    rw [q] at h
    simp [c_table_Kind, Prg.e, h, tKind, q]
  | true =>
  rw [q] at h
  obtain ⟨k, hk, rfl, o⟩ := tOk_at q
  have hK : tKind p (k : Int) = kMax p.tables[k].keys 1 := by simp [tKind, q, hk]
  rw [hK]
  have hb := o.keys
  simp [c_table_Kind, Prg.e, h, hk, Tbl.e]
  refine loop_nx p.tables[k].keys.length (fun _ => []) 0 (fun i e => look 17 e = some (.slice 3 (p.tables[k].keys.map TableKey.c)) ∧ look 18 e = some (.int .i64 p.tables[k].keys.length) ∧ look 19 e = some (.int .i64 i) ∧ ∃ a : Int, look 5 e = some (.int .i64 a) ∧ (a = 1 ∨ a = 2) ∧ kMax (p.tables[k].keys.drop i) a = kMax p.tables[k].keys 1)
    (fun _ => some (Rt.val (.int .i64 (kMax p.tables[k].keys 1)))) ?_ ?_ 0 _ 0 (Nat.zero_le _) (Nat.le_refl _) ?_
  · rintro i e n L hi hL _ ⟨h17, h18, h19, a, h5, ha, hm⟩ ih
    have hw : IntKind.wrap .i64 ((i : Int) + 1) = ((i + 1 : Nat) : Int) := wrap64 (by omega) (by omega)
    rw [List.drop_eq_getElem_cons hi] at hm
    simp only [kMax] at hm
    have hkk := o.kinds _ (List.getElem_mem hi)
    by_cases k3 : p.tables[k].keys[i].kind = 3
    · have : kMax p.tables[k].keys 1 = 3 := by
        rw [← hm]
        exact kMax_3 _ _ (by omega) fun x hx => o.kinds x (List.mem_of_mem_drop hx)
      rw [this]
      simp [c_table_Kind_l0, TableKey.e, h17, h18, h19, hi, k3]
    by_cases k2 : p.tables[k].keys[i].kind = 2
    · simp [c_table_Kind_l0, TableKey.e, h17, h18, h19, hi, k2, hw]
      exact ih _ _ (Nat.zero_le _) ⟨by simp [h17], by simp [h18], by simp, 2, by simp, .inr rfl, by rw [← hm]; congr 1; omega⟩
    · simp [c_table_Kind_l0, TableKey.e, h17, h18, h19, hi, k3, k2, hw]
      exact ih _ _ (Nat.zero_le _) ⟨by simp [h17], by simp [h18], by simp, a, by simp [h5], ha, by rw [← hm]; congr 1; omega⟩
  · rintro e n L hL _ ⟨h17, h18, h19, a, h5, ha, hm⟩
    rw [List.drop_length] at hm
    simp only [kMax] at hm
    rw [← hm]
    simp [c_table_Kind_l0, c_table_Kind_k1, h5, h18, h19, hL]
  · simp
theorem rkind_ok (p : Prg) (f : PrgS p) (hv : ∀ t ∈ p.tables, ∀ v ∈ t.dflt.args, ok32 0 v) (t : Int) : pureI Φ f_ref17_Kind [.agg (Prg.c p), .int .i64 t] = some (.val (.int .i64 (tKind p t))) := by
  rw [pureI_go (fn := c_ref17_Kind) rfl rfl]
  have h := rvalidT_ok p f hv t
  simp only [Prg.e] at h
  cases q : tOk p t with
  | false =>
    rw [q] at h
    simp [c_ref17_Kind, Prg.e, h, tKind, q]
  | true =>
  rw [q] at h
  obtain ⟨k, hk, rfl, o⟩ := tOk_at q
  have hK : tKind p (k : Int) = kMax p.tables[k].keys 1 := by simp [tKind, q, hk]
  rw [hK]
  have hb := o.keys
  simp [c_ref17_Kind, Prg.e, h]
  refine loop_nx p.tables[k].keys.length (fun _ => []) 0 (fun i e => look 2 e = some (.iptr 9 [Prg.c p] 0 0) ∧ look 1 e = some (.int .i64 k) ∧ look 6 e = some (.int .i64 i) ∧ ∃ a : Int, look 5 e = some (.int .i64 a) ∧ kMax (p.tables[k].keys.drop i) a = kMax p.tables[k].keys 1)
    (fun _ => some (Rt.val (.int .i64 (kMax p.tables[k].keys 1)))) ?_ ?_ 0 _ 0 (Nat.zero_le _) (Nat.le_refl _) ?_
  · rintro i e n L hi hL _ ⟨h2, h1, h6, a, h5, hm⟩ ih
    have hw : IntKind.wrap .i64 ((i : Int) + 1) = ((i + 1 : Nat) : Int) := wrap64 (by omega) (by omega)
    rw [List.drop_eq_getElem_cons hi] at hm
    simp only [kMax] at hm
    rw [Prg.e] at h2
    simp [c_ref17_Kind_l0, TableKey.e, Tbl.e, h1, h2, h5, h6, hk, hi, hw]
    exact ih _ _ (Nat.zero_le _) ⟨by simp [h2, Prg.e], by simp [h1], by simp, max a p.tables[k].keys[i].kind, by simp; split <;> omega, hm⟩
  · rintro e n L hL _ ⟨h2, h1, h6, a, h5, hm⟩
    rw [List.drop_length] at hm
    simp only [kMax] at hm
    rw [Prg.e] at h2
    rw [← hm]
    simp [c_ref17_Kind_l0, c_ref17_Kind_k1, Tbl.e, h1, h2, h5, h6, hk, hL]
  · simp [Prg.e]
end Go.Av
