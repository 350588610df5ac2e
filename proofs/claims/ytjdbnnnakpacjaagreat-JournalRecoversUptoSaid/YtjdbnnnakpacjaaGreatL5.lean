/-
  Tables: the reference's answers.
-/
import Derived.Test.YtjdbnnnakpacjaaGreatL4
set_option linter.unusedVariables false
set_option linter.unusedSimpArgs false
set_option linter.constructorNameAsVariable false
namespace Go.Av
set_option maxRecDepth 4000
theorem rindex_ok (l : List Int) (x : Int) (hl : l.length < 2 ^ 40) : pureI Φ f_ref17_index [.slice 1 (l.map cI), .int .i64 x] = some (.val (.int .i64 (ix (fun s => decide (s = x)) l 0))) := by
  rw [pureI_go (fn := c_ref17_index) rfl rfl]
  simp [c_ref17_index]
  refine (loop_nat0 l.length (fun i e => look 0 e = some (.slice 1 (l.map cI)) ∧ look 1 e = some (.int .i64 x) ∧ look 5 e = some (.int .i64 i))
    (fun i => some (.val (.int .i64 (ix (fun s => decide (s = x)) l i)))) ?_ ?_ 0 _ (Nat.zero_le _) ?_).trans (by simp)
  · rintro i e L hi hL ⟨h0, h1, h5⟩ ih
    have hw : IntKind.wrap .i64 ((i : Int) + 1) = ((i + 1 : Nat) : Int) := wrap64 (by omega) (by omega)
    by_cases z : l[i] = x
    · rw [ix_hit hi (by simpa using z)]
      simp [c_ref17_index_l0, cI, h0, h1, h5, hi, z]
    · rw [ix_miss hi (by simpa using z)]
      simp [c_ref17_index_l0, cI, h0, h1, h5, hi, z, hw]
      exact ih _ ⟨by simp [h0], by simp [h1], by simp⟩
  · rintro e L hL ⟨h0, h1, h5⟩
    rw [ix_end]
    simp [c_ref17_index_l0, c_ref17_index_k1, h0, h5, hL]
  · simp
theorem rkeysE_ok (p : Prg) (x : Tbl) (hl : x.keys.length < 2 ^ 40) : pureI Φ f_ref17_keys [.agg (Prg.c p), .agg (Tbl.c x)] = some (.val (.tup [.int .i64 (keysE p x).1, .int .i64 (keysE p x).2])) := by
  rw [pureI_go (fn := c_ref17_keys) rfl rfl]
  have hE : keysE p x = (fe (keyG p x) x.keys.length 0).getD (keysF p x) := by
    unfold keysE keyE
    show (match fe (keyG p x) x.keys.length 0 with | some e => e | none => keysF p x) = _
    cases fe (keyG p x) x.keys.length 0 <;> rfl
  rw [hE]
  simp [c_ref17_keys, Prg.e, Tbl.e]
  refine loop_nat0 x.keys.length (fun i e => look 2 e = some (.iptr 9 [Prg.c p] 0 0) ∧ look 3 e = some (.iptr 6 [Tbl.c x] 0 0) ∧ look 7 e = some (.int .i64 ((x.keys.take i).countP fun k => decide (k.kind = 2) : Nat)) ∧ look 6 e = some (.int .i64 ((kWid p x).take i).sum) ∧ look 8 e = some (.int .i64 i))
    (fun i => some (Rt.val (.tup [.int .i64 ((fe (keyG p x) x.keys.length i).getD (keysF p x)).1, .int .i64 ((fe (keyG p x) x.keys.length i).getD (keysF p x)).2]))) ?_ ?_ 0 _ (Nat.zero_le _) ?_
  · rintro i e L hi hL ⟨h2, h3, h7, h6, h8⟩ ih
    have hw : IntKind.wrap .i64 ((i : Int) + 1) = ((i + 1 : Nat) : Int) := wrap64 (by omega) (by omega)
    have hv := rWid17_ok p x.keys[i].field.header x.keys[i].field.field
    simp only [Prg.e] at hv
    rw [Prg.e] at h2
    rw [Tbl.e] at h3
    by_cases z : wid p x.keys[i].field.header x.keys[i].field.field = 0
    · rw [z] at hv
      rw [fe_hit (x := ((i : Int), 8)) hi (by simp [keyG, hi, z])]
      simp [c_ref17_keys_l0, TableKey.e, h2, h3, h8, hi, hv]
    have hs := kSum_range p x (i + 1) (by omega)
    have hs0 := kSum_range p x i (by omega)
    have he : ((kWid p x).take (i + 1)).sum = ((kWid p x).take i).sum + wid p x.keys[i].field.header x.keys[i].field.field := by
      have hl : i < (kWid p x).length := by simp [kWid]; omega
      rw [List.take_succ_eq_append_getElem hl, List.sum_append, List.sum_singleton]
      congr 1
      simp [kWid]
    have hw7 : IntKind.wrap .i64 (((kWid p x).take i).sum + wid p x.keys[i].field.header x.keys[i].field.field) = ((kWid p x).take (i + 1)).sum := by rw [← he]; exact wrap64 (by omega) (by omega)
    have hc : (x.keys.take (i + 1)).countP (fun k => decide (k.kind = 2)) = (x.keys.take i).countP (fun k => decide (k.kind = 2)) + if x.keys[i].kind = 2 then 1 else 0 := by
      rw [List.take_succ_eq_append_getElem hi, List.countP_append]
      congr 1
      simp [List.countP_cons]
    have hcl : (x.keys.take i).countP (fun k => decide (k.kind = 2)) ≤ i := by
      have := List.countP_le_length (l := x.keys.take i) (p := fun k => decide (k.kind = 2))
      simp at this; omega
    have hw6 : IntKind.wrap .i64 (((x.keys.take i).countP (fun k => decide (k.kind = 2)) : Nat) + 1 : Int) = (((x.keys.take i).countP (fun k => decide (k.kind = 2)) + 1 : Nat) : Int) := wrap64 (by omega) (by omega)
    by_cases k2 : x.keys[i].kind = 2
    · rw [fe_miss hi (by simp [keyG, hi, z, k2])]
      rw [if_pos k2] at hc
      simp [c_ref17_keys_l0, TableKey.e, h2, h3, h6, h7, h8, hi, hv, z, k2, hw7, hw6, hw]
      exact ih _ ⟨by simp [h2, Prg.e], by simp [h3, Tbl.e], by simp [hc], by simp, by simp⟩
    rw [if_neg k2] at hc
    by_cases k1 : x.keys[i].kind = 1
    · rw [fe_miss hi (by simp [keyG, hi, z, k1])]
      simp [c_ref17_keys_l0, TableKey.e, h2, h3, h6, h8, hi, hv, z, k1, hw7, hw]
      exact ih _ ⟨by simp [h2, Prg.e], by simp [h3, Tbl.e], by simp [hc, h7], by simp, by simp⟩
    by_cases k3 : x.keys[i].kind = 3
    · rw [fe_miss hi (by simp [keyG, hi, z, k3])]
      simp [c_ref17_keys_l0, TableKey.e, h2, h3, h6, h8, hi, hv, z, k3, hw7, hw]
      exact ih _ ⟨by simp [h2, Prg.e], by simp [h3, Tbl.e], by simp [hc, h7], by simp, by simp⟩
    · rw [fe_hit (x := ((i : Int), 11)) hi (by simp [keyG, hi, z, k1, k2, k3])]
      simp [c_ref17_keys_l0, TableKey.e, h2, h3, h8, hi, hv, z, k1, k2, k3]
  · rintro e L hL ⟨h2, h3, h7, h6, h8⟩
    rw [fe_end]
    have ht : (kWid p x).take x.keys.length = kWid p x := by rw [List.take_of_length_le]; simp [kWid]
    rw [ht] at h6
    rw [List.take_length] at h7
    rw [Tbl.e] at h3
    by_cases y1 : 1 < x.keys.countP (fun k => decide (k.kind = 2))
    · simp [c_ref17_keys_l0, c_ref17_keys_k1, h3, h7, h8, hL, keysF, y1]
    by_cases y2 : 64 < (kWid p x).sum
    · simp [c_ref17_keys_l0, c_ref17_keys_k1, h3, h6, h7, h8, hL, keysF, y1, y2]
    · simp [c_ref17_keys_l0, c_ref17_keys_k1, h3, h6, h7, h8, hL, keysF, y1, y2]
  · simp [Prg.e, Tbl.e]
theorem contains_eq (x : Int) (l : List Int) : l.contains x = l.any fun s => decide (s = x) := by
  have := contains_map (fun y : Int => y) x l
  rw [List.map_id'] at this
  exact this
theorem rtactE_ok (p : Prg) (f : PrgS p) (x : Tbl) (hl : x.actions.length < 2 ^ 40) (hg : x.dflt.args.length < 2 ^ 40) (hv : ∀ v ∈ x.dflt.args, ok32 0 v) : pureI Φ f_ref17_actions [.agg (Prg.c p), .agg (Tbl.c x)] = some (.val (.int .i64 (tactE p x))) := by
  rw [pureI_go (fn := c_ref17_actions) rfl rfl, tactE_eq]
  simp [c_ref17_actions, Prg.e, Tbl.e]
  refine loop_nat0 x.actions.length (fun i e => look 2 e = some (.iptr 9 [Prg.c p] 0 0) ∧ look 3 e = some (.iptr 6 [Tbl.c x] 0 0) ∧ look 5 e = some (.int .i64 i))
    (fun i => some (Rt.val (.int .i64 ((fe (tactG p x) x.actions.length i).getD (tactF p x))))) ?_ ?_ 0 _ (Nat.zero_le _) ?_
  · rintro i e L hi hL ⟨h2, h3, h5⟩ ih
    have hw : IntKind.wrap .i64 ((i : Int) + 1) = ((i + 1 : Nat) : Int) := wrap64 (by omega) (by omega)
    rw [Prg.e] at h2
    rw [Tbl.e] at h3
    by_cases z0 : x.actions[i] < 0
    · rw [fe_hit (x := 8) hi (by simp [tactG, hi, z0])]
      simp [c_ref17_actions_l0, cI, h3, h5, hi, z0]
    by_cases z1 : (p.actions.length : Int) ≤ x.actions[i]
    · rw [fe_hit (x := 8) hi (by simp [tactG, hi, z0, z1])]
      simp [c_ref17_actions_l0, cI, h2, h3, h5, hi, z0, z1]
    have hx := rindex_ok x.actions x.actions[i] hl
    obtain ⟨at', k1, k2⟩ := fxO_lt (q := fun s : Int => decide (s = x.actions[i])) hi (by simp) i 0 (by omega)
    rw [show ix (fun s => decide (s = x.actions[i])) x.actions 0 = (fxO (fun s : Int => decide (s = x.actions[i])) x.actions 0).getD (-1) from rfl, k1] at hx
    rw [any_zero, ← contains_eq] at k2
    simp only [Option.getD_some] at hx
    cases q : (x.actions.take i).contains x.actions[i] with
    | true =>
      rw [q] at k2
      have k3 : at' < i := by simpa using k2
      rw [fe_hit (x := 7) hi (by simp only [tactG, List.getElem?_eq_getElem hi, Option.bind_some]; rw [if_neg (by omega), q]; rfl)]
      simp [c_ref17_actions_l0, cI, h2, h3, h5, hi, z0, z1, hx, k3]
    | false =>
      rw [q] at k2
      have k3 : ¬ at' < i := by simpa using k2
      rw [fe_miss hi (by simp only [tactG, List.getElem?_eq_getElem hi, Option.bind_some]; rw [if_neg (by omega), q]; rfl)]
      simp [c_ref17_actions_l0, cI, h2, h3, h5, hi, z0, z1, hx, k3, hw]
      exact ih _ ⟨by simp [h2, Prg.e], by simp [h3, Tbl.e], by simp⟩
  · rintro e L hL ⟨h2, h3, h5⟩
    rw [fe_end]
    have hx := rindex_ok x.actions x.dflt.action hl
    have hc := rcallE_ok p f x.dflt hg hv
    have ha := ix_any (p := fun s => decide (s = x.dflt.action)) (l := x.actions)
    rw [← contains_eq] at ha
    simp only [Prg.e, ActionCall.e] at hc
    rw [Prg.e] at h2
    rw [Tbl.e] at h3
    cases q : x.actions.contains x.dflt.action with
    | true =>
      rw [q] at ha
      have ha2 : ¬ ix (fun s => decide (s = x.dflt.action)) x.actions 0 < 0 := by simpa using ha
      rw [show tactF p x = callE p x.dflt by simp only [tactF, q]; rfl]
      simp [c_ref17_actions_l0, c_ref17_actions_k1, h2, h3, h5, hL, hx, ha2, hc]
    | false =>
      rw [q] at ha
      have ha2 : ix (fun s => decide (s = x.dflt.action)) x.actions 0 < 0 := by simpa using ha
      rw [show tactF p x = 8 by simp only [tactF, q]; rfl]
      simp [c_ref17_actions_l0, c_ref17_actions_k1, h3, h5, hL, hx, ha2]
  · simp [Prg.e, Tbl.e]
theorem rtblE_ok (p : Prg) (f : PrgS p) (hv : ∀ t ∈ p.tables, ∀ v ∈ t.dflt.args, ok32 0 v) (t : Int) : pureI Φ f_ref17_Check [.agg (Prg.c p), .int .i64 t] = some (.val (.tup [.int .i64 (tblE p t).1, .int .i64 (tblE p t).2])) := by
  rw [pureI_go (fn := c_ref17_Check) rfl rfl]
  by_cases i0 : t < 0
  · simp [c_ref17_Check, Prg.e, i0, tblE, at_neg i0]
  by_cases i1 : (p.tables.length : Int) ≤ t
  · simp [c_ref17_Check, Prg.e, i0, i1, tblE, at_big i1]
  obtain ⟨k, rfl⟩ : ∃ k : Nat, t = k := ⟨t.toNat, by omega⟩
  have hk : k < p.tables.length := by omega
  have hm := List.getElem_mem hk
  have n1 := rIdent_ok p.tables[k].name (f.tn _ hm)
  have h1 := rkeysE_ok p p.tables[k] (f.tk _ hm)
  have h2 := rtactE_ok p f p.tables[k] (f.ta _ hm) (f.tg _ hm) (hv _ hm)
  simp only [Prg.e, Tbl.e] at h1 h2
  cases q1 : idS p.tables[k].name with
  | false => rw [q1] at n1; simp [c_ref17_Check, Prg.e, Tbl.e, hk, Nat.not_le.2 hk, n1, tblE, q1]
  | true =>
  rw [q1] at n1
  by_cases z0 : 6 < p.tables[k].keys.length
  · simp [c_ref17_Check, Prg.e, Tbl.e, hk, Nat.not_le.2 hk, n1, tblE, q1, z0]
  by_cases z1 : 16 < p.tables[k].actions.length
  · simp [c_ref17_Check, Prg.e, Tbl.e, hk, Nat.not_le.2 hk, n1, tblE, q1, z0, z1]
  by_cases z2 : p.tables[k].size < 1
  · simp [c_ref17_Check, Prg.e, Tbl.e, hk, Nat.not_le.2 hk, n1, tblE, q1, z0, z1, z2]
  by_cases z3 : 256 < p.tables[k].size
  · simp [c_ref17_Check, Prg.e, Tbl.e, hk, Nat.not_le.2 hk, n1, tblE, q1, z0, z1, z2, z3]
  by_cases y1 : (keysE p p.tables[k]).2 = 0
  rotate_left
  · simp [c_ref17_Check, Prg.e, Tbl.e, hk, Nat.not_le.2 hk, n1, tblE, q1, z0, z1, z2, z3, h1, y1]
  rw [y1] at h1
  by_cases y2 : tactE p p.tables[k] = 0
  · rw [y2] at h2
    simp [c_ref17_Check, Prg.e, Tbl.e, hk, Nat.not_le.2 hk, n1, tblE, q1, z0, z1, z2, z3, h1, y1, h2, y2]
  · simp [c_ref17_Check, Prg.e, Tbl.e, hk, Nat.not_le.2 hk, n1, tblE, q1, z0, z1, z2, z3, h1, y1, h2, y2]
end Go.Av
