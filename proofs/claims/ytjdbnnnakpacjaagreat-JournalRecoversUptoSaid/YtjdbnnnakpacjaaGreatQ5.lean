/-
  Entries: checks, on both sides.
-/
import Derived.Test.YtjdbnnnakpacjaaGreatQ4
set_option linter.unusedVariables false
set_option linter.unusedSimpArgs false
set_option linter.constructorNameAsVariable false
namespace Go.Av
set_option maxRecDepth 4000
structure EntS (x : Entry) : Prop where
  kl : x.keys.length < 2 ^ 40
  ks : ∀ m ∈ x.keys, ok32 0 m.value ∧ ok32 0 m.mask
  al : x.call.args.length < 2 ^ 40
  ar : ∀ v ∈ x.call.args, ok32 0 v
def entF (p : Prg) (t : Int) (x : Entry) : Int := if x.priority < 0 then 9 else if 255 < x.priority then 9 else if x.priority ≠ 0 ∧ tKind p t ≠ 3 then 11 else if tAl p t x.call.action = false then 8 else callE p x.call
def entG (p : Prg) (tb : Tbl) (x : Entry) (i : Nat) : Option Int := match x.keys[i]?, tb.keys[i]? with
  | some m, some k => if keyK m k.kind (wid p k.field.header k.field.field) = 0 then none else some (keyK m k.kind (wid p k.field.header k.field.field))
  | _, _ => none
def entE (p : Prg) (t : Int) (x : Entry) : Int := if (tblE p t).2 ≠ 0 then (tblE p t).2 else match at? p.tables t with
  | some tb => if x.keys.length ≠ tb.keys.length then 2 else (fe (entG p tb x) tb.keys.length 0).getD (entF p t x)
  | none => 0
theorem entF_ok (p : Prg) (f : PrgS p) (t : Int) (x : Entry) (s : EntS x) (e : Env) (n : Nat) (h1 : look 1 e = some (.int .i64 t)) (h3 : look 3 e = some (.iptr 9 [Prg.c p] 0 0)) (h5 : look 5 e = some (.iptr 4 [Entry.c x] 0 0)) :
    go Φ (finP [.tmp 6]) [.c c_entry_Check_k1] .normal ⟨e, ⟨[], n⟩⟩ = some (.val (.int .i64 (entF p t x))) := by
  have hk := tkind_ok p f t
  have ha := tallows_ok p f t x.call.action
  have hc := callE_ok p f x.call s.al
  simp only [Prg.e, ActionCall.ce] at hk ha hc
  rw [Prg.e] at h3
  rw [Entry.ce] at h5
  unfold entF
  by_cases p0 : x.priority < 0
  · simp [c_entry_Check_k1, h5, p0]
  by_cases p1 : 255 < x.priority
  · simp [c_entry_Check_k1, h5, p0, p1]
  by_cases p2 : x.priority = 0
  · cases q : tAl p t x.call.action with
    | false => rw [q] at ha; simp [c_entry_Check_k1, h1, h3, h5, p2, ha]
    | true => rw [q] at ha; simp [c_entry_Check_k1, h1, h3, h5, p2, ha, hc]
  by_cases p3 : tKind p t = 3
  · cases q : tAl p t x.call.action with
    | false => rw [q] at ha; simp [c_entry_Check_k1, h1, h3, h5, p0, p1, p2, p3, hk, ha]
    | true => rw [q] at ha; simp [c_entry_Check_k1, h1, h3, h5, p0, p1, p2, p3, hk, ha, hc]
  · simp [c_entry_Check_k1, h1, h3, h5, p0, p1, p2, p3, hk]
theorem entE_ok (p : Prg) (f : PrgS p) (t : Int) (x : Entry) (s : EntS x) : pureI Φ f_entry_Check [.agg (Prg.c p), .int .i64 t, .agg (Entry.c x)] = some (.val (.int .i64 (entE p t x))) := by
  rw [pureI_go (fn := c_entry_Check) rfl rfl]
  have h := tblE_ok p f t
  simp only [Prg.e] at h
  by_cases z : (tblE p t).2 = 0
  rotate_left
  · simp [c_entry_Check, Prg.e, Entry.ce, h, z, entE]
  have q : tOk p t = true := by simp [tOk, z]
  obtain ⟨k, hk, rfl, o⟩ := tOk_at q
  have hw := twidths_ok p f k hk q
  simp only [Prg.e] at hw
  have hb := o.keys
  by_cases y : x.keys.length = p.tables[k].keys.length
  rotate_left
  · simp [c_entry_Check, Prg.e, Entry.ce, Tbl.e, hk, h, z, hw, y, entE]
  have hE : entE p (k : Int) x = (fe (entG p p.tables[k] x) p.tables[k].keys.length 0).getD (entF p k x) := by simp [entE, z, hk, y]
  rw [hE]
  simp [c_entry_Check, Prg.e, Entry.ce, Tbl.e, hk, h, z, hw, y]
  refine loop_nx p.tables[k].keys.length (fun _ => []) 0 (fun i e => look 1 e = some (.int .i64 k) ∧ look 3 e = some (.iptr 9 [Prg.c p] 0 0) ∧ look 5 e = some (.iptr 4 [Entry.c x] 0 0) ∧ look 9 e = some (.slice 3 (p.tables[k].keys.map TableKey.c)) ∧ look 10 e = some (.slice 1 ((kWid p p.tables[k]).map cI)) ∧ look 39 e = some (.slice 2 (x.keys.map KeyMatch.c)) ∧ look 40 e = some (.int .i64 p.tables[k].keys.length) ∧ look 41 e = some (.int .i64 i))
    (fun i => some (Rt.val (.int .i64 ((fe (entG p p.tables[k] x) p.tables[k].keys.length i).getD (entF p k x))))) ?_ ?_ 0 _ 0 (Nat.zero_le _) (Nat.le_refl _) ?_
  · rintro i e n L hi hL _ ⟨h1, h3, h5, h9, h10, h39, h40, h41⟩ ih
    have hi2 : i < x.keys.length := by omega
    have hi3 : i < (kWid p p.tables[k]).length := by simp [kWid]; exact hi
    have hkw : (kWid p p.tables[k])[i] = wid p p.tables[k].keys[i].field.header p.tables[k].keys[i].field.field := by simp [kWid]
    have hw : IntKind.wrap .i64 ((i : Int) + 1) = ((i + 1 : Nat) : Int) := wrap64 (by omega) (by omega)
    have hm := s.ks _ (List.getElem_mem hi2)
    have hc := ekey_ok x.keys[i] p.tables[k].keys[i].kind (wid p p.tables[k].keys[i].field.header p.tables[k].keys[i].field.field) hm.1 hm.2
    simp only [KeyMatch.ce] at hc
    by_cases v : keyK x.keys[i] p.tables[k].keys[i].kind (wid p p.tables[k].keys[i].field.header p.tables[k].keys[i].field.field) = 0
    · rw [fe_miss hi (by simp [entG, hi, hi2, v])]
      rw [v] at hc
      generalize hX : some (Rt.val (AV.int .i64 ((fe (entG p p.tables[k] x) p.tables[k].keys.length (i + 1)).getD (entF p k x)))) = X
      simp [c_entry_Check_l0, TableKey.e, KeyMatch.ce, cI, h9, h10, h39, h40, h41, hi, hi2, hi3, hkw, hc, hw]
      rw [← hX]
      exact ih _ _ (Nat.zero_le _) ⟨by simp [h1], by simp [h3], by simp [h5], by simp [h9], by simp [h10], by simp [h39], by simp [h40], by simp⟩
    · rw [fe_hit (x := keyK x.keys[i] p.tables[k].keys[i].kind (wid p p.tables[k].keys[i].field.header p.tables[k].keys[i].field.field)) hi (by simp [entG, hi, hi2, v])]
      simp [c_entry_Check_l0, TableKey.e, KeyMatch.ce, cI, h9, h10, h39, h40, h41, hi, hi2, hi3, hkw, hc, v]
  · rintro e n L hL _ ⟨h1, h3, h5, h9, h10, h39, h40, h41⟩
    rw [fe_end]
    simp [c_entry_Check_l0, h40, h41, hL]
    exact entF_ok p f k x s _ _ (by simp [h1]) (by simp [h3]) (by simp [h5])
  · simp [Prg.e, Entry.ce]
end Go.Av
