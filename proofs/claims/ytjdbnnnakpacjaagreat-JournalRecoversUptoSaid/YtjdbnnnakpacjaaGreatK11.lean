/-
  Widths of fields, tables: the program's answers.
-/
import Derived.Test.YtjdbnnnakpacjaaGreatK10
set_option linter.unusedVariables false
set_option linter.unusedSimpArgs false
set_option linter.constructorNameAsVariable false
namespace Go.Av
set_option maxRecDepth 4000
-- maps that are sets
@[simp] theorem entsOf_map (O : List (Nat × AO)) (n id : Nat) : entsOf ⟨O, n⟩ (.map id) = match look id O with
    | some (.map es) => some es
    | _ => none := by simp only [entsOf, AH.get] <;> rfl
@[simp] theorem kdOk_i (k : IntKind) (x : Int) : kdOk .i (.int k x) = true := by simp [kdOk]
@[simp] theorem kdOk_s (x : List UInt8) : kdOk .s (.str x) = true := by simp [kdOk]
def setM (l : List Int) : List (AV × AV) := l.map fun a => (.int .i64 a, .bool true)
def setS (l : List (List UInt8)) : List (AV × AV) := l.map fun a => (.str a, .bool true)
theorem setM_find (k : Int) : ∀ l : List Int, findA .i (.int .i64 k) (setM l) = some (if l.contains k then some (.bool true) else none)
  | [] => by simp [setM, findA]
  | a :: l => by
    have ih := setM_find k l
    unfold setM at ih ⊢
    by_cases h : k = a
    · subst h; simp [findA]
    · simp [findA, h, ih]
theorem setM_put (k : Int) : ∀ l : List Int, l.contains k = false → putA .i (.int .i64 k) (.bool true) (setM l) = some (setM (l ++ [k]))
  | [], _ => by simp [setM, putA]
  | a :: l, h => by
    simp only [List.contains_cons, Bool.or_eq_false_iff, beq_eq_false_iff_ne, ne_eq] at h
    have ih := setM_put k l h.2
    unfold setM at ih ⊢
    simp [putA, h.1, ih]
theorem setS_find (k : List UInt8) : ∀ l : List (List UInt8), findA .s (.str k) (setS l) = some (if l.contains k then some (.bool true) else none)
  | [] => by simp [setS, findA]
  | a :: l => by
    have ih := setS_find k l
    unfold setS at ih ⊢
    by_cases h : k = a
    · subst h; simp [findA]
    · simp [findA, h, ih]
theorem setS_put (k : List UInt8) : ∀ l : List (List UInt8), l.contains k = false → putA .s (.str k) (.bool true) (setS l) = some (setS (l ++ [k]))
  | [], _ => by simp [setS, putA]
  | a :: l, h => by
    simp only [List.contains_cons, Bool.or_eq_false_iff, beq_eq_false_iff_ne, ne_eq] at h
    have ih := setS_put k l h.2
    unfold setS at ih ⊢
    simp [putA, h.1, ih]
-- widths
theorem atFld_ok (l : List Fld) (i : Int) : pureI Φ f_env_at_api_Field [.slice 2 (l.map Fld.c), .int .i64 i] = some (.val (.agg (match at? l i with | some f => Fld.c f | none => [.str [], .int .i64 0]))) := by
  rw [pureI_go (fn := c_env_at_api_Field) rfl rfl]
  by_cases i0 : i < 0
  · simp [c_env_at_api_Field, i0, at_neg i0]
  by_cases i1 : (l.length : Int) ≤ i
  · simp [c_env_at_api_Field, i0, i1, at_big i1]
  obtain ⟨k, rfl⟩ : ∃ k : Nat, i = k := ⟨i.toNat, by omega⟩
  have hk : k < l.length := by omega
  simp [c_env_at_api_Field, hk, Nat.not_le.2 hk, Fld.e]
theorem atHdr_ok (l : List Header) (i : Int) : pureI Φ f_env_at_api_Header [.slice 2 (l.map Header.c), .int .i64 i] = some (.val (.agg (match at? l i with | some f => Header.c f | none => [.str [], .slice 2 []]))) := by
  rw [pureI_go (fn := c_env_at_api_Header) rfl rfl]
  by_cases i0 : i < 0
  · simp [c_env_at_api_Header, i0, at_neg i0]
  by_cases i1 : (l.length : Int) ≤ i
  · simp [c_env_at_api_Header, i0, i1, at_big i1]
  obtain ⟨k, rfl⟩ : ∃ k : Nat, i = k := ⟨i.toNat, by omega⟩
  have hk : k < l.length := by omega
  simp [c_env_at_api_Header, hk, Nat.not_le.2 hk, Header.e]
def fldsO (p : Prg) (h : Int) : List Fld := ((if h = -1 then some p.metadata else (at? p.headers h).map (·.fields))).getD []
theorem fields_ok (p : Prg) (h : Int) : pureI Φ f_env_fields [.agg (Prg.c p), .int .i64 h] = some (.val (.slice 2 ((fldsO p h).map Fld.c))) := by
  rw [pureI_go (fn := c_env_fields) rfl rfl]
  by_cases hm : h = -1
  · simp [c_env_fields, Prg.e, hm, fldsO]
  have ha := atHdr_ok p.headers h
  cases q : at? p.headers h with
  | none =>
    rw [q] at ha
    simp [c_env_fields, Prg.e, hm, fldsO, ha, q]
  | some x =>
    rw [q] at ha
    simp only [Header.e] at ha
    simp [c_env_fields, Prg.e, hm, fldsO, ha, q]
theorem decl_flds (p : Prg) (h i : Int) : decl p h i = (at? (fldsO p h) i).map (·.width) := by
  unfold decl fldsO
  cases (if h = -1 then some p.metadata else (at? p.headers h).map (·.fields)) with
  | some l => rfl
  | none =>
    have : at? ([] : List Fld) i = none := by unfold at?; split <;> simp
    simp [this]
theorem wid_ok (p : Prg) (h i : Int) : pureI Φ f_env_Width [.agg (Prg.c p), .agg [.int .i64 h, .int .i64 i]] = some (.val (.int .i64 (wid p h i))) := by
  rw [pureI_go (fn := c_env_Width) rfl rfl]
  have hf := fields_ok p h
  have ha := atFld_ok (fldsO p h) i
  have hd := decl_flds p h i
  simp only [Prg.e] at hf
  cases q : at? (fldsO p h) i with
  | none =>
    rw [q] at ha hd
    have hm := mask_ok 0
    rw [show maskI 0 = 0 from rfl] at hm
    simp [c_env_Width, Prg.e, hf, ha, hm, wid, hd]
  | some f =>
    rw [q] at ha hd
    simp only [Fld.e] at ha
    have hm := mask_ok f.width
    cases w : wBad f.width with
    | true =>
      rw [show maskI f.width = 0 by simp [maskI, w]] at hm
      simp [c_env_Width, Prg.e, hf, ha, hm, wid, hd, w]
    | false =>
      have : ¬ maskI f.width = 0 := by
        obtain ⟨w1, w2⟩ := wBad_false.1 w
        have : (2 : Int) ^ 1 ≤ 2 ^ f.width.toNat := by
          have := Nat.pow_le_pow_right (n := 2) (by omega) (show 1 ≤ f.width.toNat by omega)
          exact_mod_cast this
        simp only [maskI, w]
        simp
        omega
      simp [c_env_Width, Prg.e, hf, ha, hm, wid, hd, w, this]
theorem wid_range (p : Prg) (h i : Int) : 0 ≤ wid p h i ∧ wid p h i ≤ 32 := by
  unfold wid
  split
  · rename_i w _
    cases q : wBad w with
    | true => simp
    | false => have := wBad_false.1 q; simp; omega
  · simp
-- keys
def keyG (p : Prg) (x : Tbl) (i : Nat) : Option (Int × Int) := (x.keys[i]?).bind fun k =>
  if wid p k.field.header k.field.field = 0 then some ((i : Int), 8) else if k.kind = 1 ∨ k.kind = 2 ∨ k.kind = 3 then none else some ((i : Int), 11)
def keysF (p : Prg) (x : Tbl) : Int × Int := if 1 < x.keys.countP (fun k => decide (k.kind = 2)) then (-2, 7) else if 64 < (kWid p x).sum then (-2, 10) else (0, 0)
theorem kSum_range (p : Prg) (x : Tbl) : ∀ i, i ≤ x.keys.length → 0 ≤ ((kWid p x).take i).sum ∧ ((kWid p x).take i).sum ≤ 32 * i := by
  intro i
  induction i with
  | zero => intro _; simp
  | succ i ih =>
    intro hi
    have := ih (by omega)
    have hl : i < (kWid p x).length := by simp [kWid]; omega
    rw [List.take_succ_eq_append_getElem hl, List.sum_append, List.sum_singleton]
    have hr := wid_range p x.keys[i].field.header x.keys[i].field.field
    have he : (kWid p x)[i] = wid p x.keys[i].field.header x.keys[i].field.field := by simp [kWid]
    rw [he]
    omega
theorem keysE_ok (p : Prg) (x : Tbl) (hl : x.keys.length < 2 ^ 40) : pureI Φ f_table_checkKeys [.agg (Prg.c p), .agg (Tbl.c x)] = some (.val (.tup [.int .i64 (keysE p x).1, .int .i64 (keysE p x).2])) := by
  rw [pureI_go (fn := c_table_checkKeys) rfl rfl]
  have hE : keysE p x = (fe (keyG p x) x.keys.length 0).getD (keysF p x) := by
    unfold keysE keyE
    show (match fe (keyG p x) x.keys.length 0 with | some e => e | none => keysF p x) = _
    cases fe (keyG p x) x.keys.length 0 <;> rfl
  rw [hE]
  simp [c_table_checkKeys, Prg.e, Tbl.e]
  refine loop_nx x.keys.length (fun _ => []) 0 (fun i e => look 2 e = some (.iptr 9 [Prg.c p] 0 0) ∧ look 6 e = some (.int .i64 ((x.keys.take i).countP fun k => decide (k.kind = 2) : Nat)) ∧ look 7 e = some (.int .i64 ((kWid p x).take i).sum) ∧ look 12 e = some (.slice 3 (x.keys.map TableKey.c)) ∧ look 13 e = some (.int .i64 x.keys.length) ∧ look 14 e = some (.int .i64 i))
    (fun i => some (Rt.val (.tup [.int .i64 ((fe (keyG p x) x.keys.length i).getD (keysF p x)).1, .int .i64 ((fe (keyG p x) x.keys.length i).getD (keysF p x)).2]))) ?_ ?_ 0 _ 0 (Nat.zero_le _) (Nat.le_refl _) ?_
  · rintro i e n L hi hL _ ⟨h2, h6, h7, h12, h13, h14⟩ ih
    have hw : IntKind.wrap .i64 ((i : Int) + 1) = ((i + 1 : Nat) : Int) := wrap64 (by omega) (by omega)
    have hv := wid_ok p x.keys[i].field.header x.keys[i].field.field
    simp only [Prg.e] at hv
    rw [Prg.e] at h2
    by_cases z : wid p x.keys[i].field.header x.keys[i].field.field = 0
    · rw [z] at hv
      rw [fe_hit (x := ((i : Int), 8)) hi (by simp [keyG, hi, z])]
      simp [c_table_checkKeys_l0, TableKey.e, h2, h12, h13, h14, hi, hv]
    have hs := kSum_range p x (i + 1) (by omega)
    have hs0 := kSum_range p x i (by omega)
    have he : ((kWid p x).take (i + 1)).sum = ((kWid p x).take i).sum + wid p x.keys[i].field.header x.keys[i].field.field := by
      have hl : i < (kWid p x).length := by simp [kWid]; omega
      rw [List.take_succ_eq_append_getElem hl, List.sum_append, List.sum_singleton]
      congr 1
      simp [kWid]
    have hw7 : IntKind.wrap .i64 (((kWid p x).take i).sum + wid p x.keys[i].field.header x.keys[i].field.field) = ((kWid p x).take (i + 1)).sum := by rw [← he]; exact wrap64 (by omega) (by omega)
    have hc : (x.keys.take (i + 1)).countP (fun k => decide (k.kind = 2)) = (x.keys.take i).countP (fun k => decide (k.kind = 2)) + if x.keys[i].kind = 2 then 1 else 0 := by
      rw [List.take_succ_eq_append_getElem hi, List.countP_append]
      congr 1
      simp [List.countP_cons]
    have hcl : (x.keys.take i).countP (fun k => decide (k.kind = 2)) ≤ i := by
      have := List.countP_le_length (l := x.keys.take i) (p := fun k => decide (k.kind = 2))
      simp at this; omega
    have hw6 : IntKind.wrap .i64 (((x.keys.take i).countP (fun k => decide (k.kind = 2)) : Nat) + 1 : Int) = (((x.keys.take i).countP (fun k => decide (k.kind = 2)) + 1 : Nat) : Int) := wrap64 (by omega) (by omega)
    by_cases k2 : x.keys[i].kind = 2
    · rw [fe_miss hi (by simp [keyG, hi, z, k2])]
      rw [if_pos k2] at hc
      simp [c_table_checkKeys_l0, TableKey.e, h2, h6, h7, h12, h13, h14, hi, hv, z, k2, hw7, hw6, hw]
      exact ih _ _ (Nat.zero_le _) ⟨by simp [h2, Prg.e], by simp [hc], by simp, by simp [h12], by simp [h13], by simp⟩
    rw [if_neg k2] at hc
    by_cases k1 : x.keys[i].kind = 1
    · rw [fe_miss hi (by simp [keyG, hi, z, k1])]
      simp [c_table_checkKeys_l0, TableKey.e, h2, h7, h12, h13, h14, hi, hv, z, k1, hw7, hw]
      exact ih _ _ (Nat.zero_le _) ⟨by simp [h2, Prg.e], by simp [hc, h6], by simp, by simp [h12], by simp [h13], by simp⟩
    by_cases k3 : x.keys[i].kind = 3
    · rw [fe_miss hi (by simp [keyG, hi, z, k3])]
      simp [c_table_checkKeys_l0, TableKey.e, h2, h7, h12, h13, h14, hi, hv, z, k3, hw7, hw]
      exact ih _ _ (Nat.zero_le _) ⟨by simp [h2, Prg.e], by simp [hc, h6], by simp, by simp [h12], by simp [h13], by simp⟩
    · rw [fe_hit (x := ((i : Int), 11)) hi (by simp [keyG, hi, z, k1, k2, k3])]
      simp [c_table_checkKeys_l0, TableKey.e, h2, h12, h13, h14, hi, hv, z, k1, k2, k3]
  · rintro e n L hL _ ⟨h2, h6, h7, h12, h13, h14⟩
    rw [fe_end]
    have ht : (kWid p x).take x.keys.length = kWid p x := by rw [List.take_of_length_le]; simp [kWid]
    rw [ht] at h7
    rw [List.take_length] at h6
    by_cases y1 : 1 < x.keys.countP (fun k => decide (k.kind = 2))
    · simp [c_table_checkKeys_l0, c_table_checkKeys_k1, h6, h13, h14, hL, keysF, y1]
    by_cases y2 : 64 < (kWid p x).sum
    · simp [c_table_checkKeys_l0, c_table_checkKeys_k1, h6, h7, h13, h14, hL, keysF, y1, y2]
    · simp [c_table_checkKeys_l0, c_table_checkKeys_k1, h6, h7, h13, h14, hL, keysF, y1, y2]
  · simp [Prg.e]
end Go.Av
