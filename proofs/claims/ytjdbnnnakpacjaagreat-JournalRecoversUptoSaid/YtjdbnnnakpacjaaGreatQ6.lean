/-
  Entries: the reference's checks.
-/
import Derived.Test.YtjdbnnnakpacjaaGreatQ5
set_option linter.unusedVariables false
set_option linter.unusedSimpArgs false
set_option linter.constructorNameAsVariable false
namespace Go.Av
set_option maxRecDepth 4000
theorem rentF_ok (p : Prg) (f : PrgS p) (hv : ∀ t ∈ p.tables, ∀ v ∈ t.dflt.args, ok32 0 v) (t : Int) (x : Entry) (s : EntS x) (e : Env) (n : Nat) (h1 : look 1 e = some (.int .i64 t)) (h3 : look 3 e = some (.iptr 9 [Prg.c p] 0 0)) (h5 : look 5 e = some (.iptr 4 [Entry.c x] 0 0)) :
    go Φ (finP [.tmp 6]) [.c c_ref23_Check_k1] .normal ⟨e, ⟨[], n⟩⟩ = some (.val (.int .i64 (entF p t x))) := by
  have hk := rkind_ok p f hv t
  have ha := rallows_ok p f hv t x.call.action
  have hc := rcallE_ok p f x.call s.al s.ar
  simp only [Prg.e, ActionCall.ce] at hk ha hc
  rw [Prg.e] at h3
  rw [Entry.ce] at h5
  unfold entF
  by_cases p0 : x.priority < 0
  · simp [c_ref23_Check_k1, h5, p0]
  by_cases p1 : 255 < x.priority
  · simp [c_ref23_Check_k1, h5, p0, p1]
  by_cases p2 : x.priority = 0
  · cases q : tAl p t x.call.action with
    | false => rw [q] at ha; simp [c_ref23_Check_k1, h1, h3, h5, p2, ha]
    | true => rw [q] at ha; simp [c_ref23_Check_k1, h1, h3, h5, p2, ha, hc]
  have p4 : 0 < x.priority := by omega
  by_cases p3 : tKind p t = 3
  · cases q : tAl p t x.call.action with
    | false => rw [q] at ha; simp [c_ref23_Check_k1, h1, h3, h5, p0, p1, p2, p3, p4, hk, ha]
    | true => rw [q] at ha; simp [c_ref23_Check_k1, h1, h3, h5, p0, p1, p2, p3, p4, hk, ha, hc]
  · simp [c_ref23_Check_k1, h1, h3, h5, p0, p1, p2, p3, p4, hk]
theorem rentE_ok (p : Prg) (f : PrgS p) (hv : ∀ t ∈ p.tables, ∀ v ∈ t.dflt.args, ok32 0 v) (t : Int) (x : Entry) (s : EntS x) : pureI Φ f_ref23_Check [.agg (Prg.c p), .int .i64 t, .agg (Entry.c x)] = some (.val (.int .i64 (entE p t x))) := by
  rw [pureI_go (fn := c_ref23_Check) rfl rfl]
  have h := rtblE_ok p f hv t
  simp only [Prg.e] at h
  by_cases z : (tblE p t).2 = 0
  rotate_left
  · simp [c_ref23_Check, Prg.e, Entry.ce, h, z, entE]
  have q : tOk p t = true := by simp [tOk, z]
  obtain ⟨k, hk, rfl, o⟩ := tOk_at q
  have hw := rwidths_ok p f hv k hk q
  simp only [Prg.e] at hw
  have hb := o.keys
  have hkl : (kWid p p.tables[k]).length = p.tables[k].keys.length := by simp [kWid]
  by_cases y : x.keys.length = p.tables[k].keys.length
  rotate_left
  · simp [c_ref23_Check, Prg.e, Entry.ce, hk, h, z, hw, y, hkl, entE]
  have hE : entE p (k : Int) x = (fe (entG p p.tables[k] x) p.tables[k].keys.length 0).getD (entF p k x) := by simp [entE, z, hk, y]
  rw [hE]
  simp [c_ref23_Check, Prg.e, Entry.ce, h, z, hw, y, hkl]
  refine loop_nx p.tables[k].keys.length (fun _ => []) 0 (fun i e => look 1 e = some (.int .i64 k) ∧ look 3 e = some (.iptr 9 [Prg.c p] 0 0) ∧ look 5 e = some (.iptr 4 [Entry.c x] 0 0) ∧ look 9 e = some (.slice 1 ((kWid p p.tables[k]).map cI)) ∧ look 10 e = some (.int .i64 i))
    (fun i => some (Rt.val (.int .i64 ((fe (entG p p.tables[k] x) p.tables[k].keys.length i).getD (entF p k x))))) ?_ ?_ 0 _ 0 (Nat.zero_le _) (Nat.le_refl _) ?_
  · rintro i e n L hi hL _ ⟨h1, h3, h5, h9, h10⟩ ih
    have hi2 : i < x.keys.length := by omega
    have hi3 : i < (kWid p p.tables[k]).length := by omega
    have hkw : (kWid p p.tables[k])[i] = wid p p.tables[k].keys[i].field.header p.tables[k].keys[i].field.field := by simp [kWid]
    have hw : IntKind.wrap .i64 ((i : Int) + 1) = ((i + 1 : Nat) : Int) := wrap64 (by omega) (by omega)
    have hm := s.ks _ (List.getElem_mem hi2)
    have hc := rkey_ok x.keys[i] p.tables[k].keys[i].kind (wid p p.tables[k].keys[i].field.header p.tables[k].keys[i].field.field) hm.1 hm.2
    simp only [KeyMatch.ce] at hc
    rw [Prg.e] at h3
    rw [Entry.ce] at h5
    by_cases v : keyK x.keys[i] p.tables[k].keys[i].kind (wid p p.tables[k].keys[i].field.header p.tables[k].keys[i].field.field) = 0
    · rw [fe_miss hi (by simp [entG, hi, hi2, v])]
      rw [v] at hc
      generalize hX : some (Rt.val (AV.int .i64 ((fe (entG p p.tables[k] x) p.tables[k].keys.length (i + 1)).getD (entF p k x)))) = X
      simp [c_ref23_Check_l0, TableKey.e, Tbl.e, KeyMatch.ce, cI, h1, h3, h5, h9, h10, hk, hkl, hi, hi2, hkw, hc, hw]
      rw [← hX]
      exact ih _ _ (Nat.zero_le _) ⟨by simp [h1], by simp [h3, Prg.e], by simp [h5, Entry.ce], by simp [h9], by simp⟩
    · rw [fe_hit (x := keyK x.keys[i] p.tables[k].keys[i].kind (wid p p.tables[k].keys[i].field.header p.tables[k].keys[i].field.field)) hi (by simp [entG, hi, hi2, v])]
      simp [c_ref23_Check_l0, TableKey.e, Tbl.e, KeyMatch.ce, cI, h1, h3, h5, h9, h10, hk, hkl, hi, hi2, hkw, hc, v]
  · rintro e n L hL _ ⟨h1, h3, h5, h9, h10⟩
    rw [fe_end]
    simp [c_ref23_Check_l0, h9, h10, hkl, hL]
    exact rentF_ok p f hv k x s _ _ (by simp [h1]) (by simp [h3]) (by simp [h5])
  · simp [Prg.e, Entry.ce]
end Go.Av
