/-
  Configurations: checks, on both sides.
-/
import Derived.Test.YtjdbnnnakpacjaaGreatQ11
set_option linter.unusedVariables false
set_option linter.unusedSimpArgs false
set_option linter.constructorNameAsVariable false
namespace Go.Av
set_option maxRecDepth 4000
structure CfgT (a : Config) : Prop where
  rl : a.rows.length < 2 ^ 40
  rs : ∀ l ∈ a.rows, l.length < 2 ^ 40 ∧ ∀ r ∈ l, rowS r
  nl : a.nextID.length < 2 ^ 40
  dl : a.defaults.length < 2 ^ 40
  ds : ∀ d ∈ a.defaults, d.args.length < 2 ^ 40 ∧ ∀ v ∈ d.args, ok32 0 v
  gl : a.registers.length < 2 ^ 40
  gs : ∀ l ∈ a.registers, l.length < 2 ^ 40 ∧ ∀ v ∈ l, ok32 0 v
theorem rowS_of {B : Nat} (hB : B < 2 ^ 40) {r : Rw} (o : r.Ok B) : rowS r := by
  simp only [Rw.Ok, Entry.Ok, ActionCall.Ok] at o
  obtain ⟨_, o1, _, _, o2⟩ := o
  exact ⟨by have := o1.1; omega, fun m hm => o1.2 m hm, by have := o2.1; omega, fun v hv => o2.2 v hv⟩
theorem CfgT_of {a : Config} (o : a.Ok bulkMax) : CfgT a := by
  obtain ⟨o0, o1, o2, o3⟩ := o
  have e := bulkMax_eq
  refine ⟨by have := o0.1; omega, ?_, by have := o1.1; omega, by have := o2.1; omega, ?_, by have := o3.1; omega, ?_⟩
  · intro l hl
    have := o0.2 l hl
    exact ⟨by have := this.1; omega, fun r hr => rowS_of (by omega) (this.2 r hr)⟩
  · intro d hd
    have := o2.2 d hd
    simp only [ActionCall.Ok] at this
    exact ⟨by have := this.2.1; omega, fun v hv => this.2.2 v hv⟩
  · intro l hl
    have := o3.2 l hl
    exact ⟨by have := this.1; omega, fun v hv => this.2 v hv⟩
def rowE (p : Prg) (k : Nat) (tb : Tbl) (l : List Rw) (nx : Int) (z : Int) : Int := if tb.size < l.length then 12 else tabK p k l nx z (ordL l 0)
theorem tabK_z (p : Prg) (t : Int) (l : List Rw) (nx z : Int) (o : Option Int) : tabK p t l nx z o = if tabK p t l nx 0 o ≠ 0 then tabK p t l nx 0 o else z := by
  cases o with
  | none => simp [tabK]
  | some a =>
    simp only [tabK]
    by_cases z0 : nx ≤ a
    · simp [z0]
    by_cases z1 : 1073741824 < nx
    · simp [z0, z1]
    simp only [if_neg z0, if_neg z1]
    cases q : fe (rowG p t l) l.length 0 with
    | none => simp
    | some x =>
      have hx : x ≠ 0 := by
        obtain ⟨k, hk, hx⟩ := fe_some q
        simp only [rowG, Option.bind_eq_some_iff] at hx
        obtain ⟨r, _, hr⟩ := hx
        split at hr
        · cases hr; assumption
        · split at hr
          · cases hr; decide
          · cases hr
      simp [hx]
theorem rowE_z (p : Prg) (k : Nat) (tb : Tbl) (l : List Rw) (nx z : Int) : rowE p k tb l nx z = if rowE p k tb l nx 0 ≠ 0 then rowE p k tb l nx 0 else z := by
  unfold rowE
  split
  · simp
  · exact tabK_z _ _ _ _ _ _
def stG (p : Prg) (c : Config) (k : Nat) : Option Int := match p.tables[k]?, c.rows[k]?, c.nextID[k]?, c.defaults[k]? with
  | some tb, some l, some nx, some d => if rowE p k tb l nx (ckCall p k d) = 0 then none else some (rowE p k tb l nx (ckCall p k d))
  | _, _, _, _ => none
def cfgE (p : Prg) (c : Config) : Int := if (prgD p).1 ≠ 0 then (prgD p).1 else if c.rows.length ≠ p.tables.length ∨ c.nextID.length ≠ p.tables.length ∨ c.defaults.length ≠ p.tables.length then 2
  else (fe (stG p c) p.tables.length 0).getD (conE p c.registers)
theorem cfgE_ok (p : Prg) (f : PrgS p) (hc : (pre p.control).length < 2 ^ 40 - 1) (c : Config) (s : CfgT c) : pureI Φ f_store_Check [.agg (Prg.c p), .agg (Config.c c)] = some (.val (.int .i64 (cfgE p c))) := by
  rw [pureI_go (fn := c_store_Check) rfl rfl]
  have h := progCheck_ok p f hc
  simp only [Prg.e, dgC] at h
  have ht := f.t
  by_cases z : (prgD p).1 = 0
  rotate_left
  · simp [c_store_Check, Prg.e, Config.ce, h, z, cfgE]
  by_cases z1 : c.rows.length = p.tables.length
  rotate_left
  · simp [c_store_Check, Prg.e, Config.ce, h, z, z1, cfgE]
  by_cases z2 : c.nextID.length = p.tables.length
  rotate_left
  · simp [c_store_Check, Prg.e, Config.ce, h, z, z1, z2, cfgE]
  by_cases z3 : c.defaults.length = p.tables.length
  rotate_left
  · simp [c_store_Check, Prg.e, Config.ce, h, z, z1, z2, z3, cfgE]
  rw [show cfgE p c = (fe (stG p c) p.tables.length 0).getD (conE p c.registers) by simp [cfgE, z, z1, z2, z3]]
  simp [c_store_Check, Prg.e, Config.ce, h, z, z1, z2, z3]
  refine loop_nx p.tables.length (fun _ => []) 0 (fun i e => look 2 e = some (.iptr 9 [Prg.c p] 0 0) ∧ look 3 e = some (.iptr 4 [Config.c c] 0 0) ∧ look 38 e = some (.int .i64 p.tables.length) ∧ look 39 e = some (.int .i64 i))
    (fun i => some (Rt.val (.int .i64 ((fe (stG p c) p.tables.length i).getD (conE p c.registers))))) ?_ ?_ 0 _ _ (Nat.zero_le _) (Nat.zero_le _) ?_
  · rintro i e n L hi hL _ ⟨h2, h3, h38, h39⟩ ih
    have hw : IntKind.wrap .i64 ((i : Int) + 1) = ((i + 1 : Nat) : Int) := wrap64 (by omega) (by omega)
    have i1 : i < c.rows.length := by omega
    have i2 : i < c.nextID.length := by omega
    have i3 : i < c.defaults.length := by omega
    have hr := s.rs _ (List.getElem_mem i1)
    have hd := s.ds _ (List.getElem_mem i3)
    have hk := ctab_ok p f i hi c.rows[i] c.nextID[i] c.defaults[i] hr.1 hr.2 hd.1
    rw [show (if p.tables[i].size < (c.rows[i].length : Int) then (12 : Int) else tabK p i c.rows[i] c.nextID[i] (ckCall p i c.defaults[i]) (ordL c.rows[i] 0)) = rowE p i p.tables[i] c.rows[i] c.nextID[i] (ckCall p i c.defaults[i]) from rfl] at hk
    simp only [Prg.e, ActionCall.ce] at hk
    rw [Prg.e] at h2
    rw [Config.ce] at h3
    by_cases v : rowE p i p.tables[i] c.rows[i] c.nextID[i] (ckCall p i c.defaults[i]) = 0
    · rw [fe_miss hi (by simp [stG, hi, i1, i2, i3, v])]
      rw [v] at hk
      generalize hX : some (Rt.val (AV.int .i64 ((fe (stG p c) p.tables.length (i + 1)).getD (conE p c.registers)))) = X
      simp [c_store_Check_l0, cSe, cI, ActionCall.ce, h2, h3, h38, h39, hi, i1, i2, i3, hk, hw]
      rw [← hX]
      exact ih _ _ (Nat.zero_le _) ⟨by simp [h2, Prg.e], by simp [h3, Config.ce], by simp [h38], by simp⟩
    · rw [fe_hit (x := rowE p i p.tables[i] c.rows[i] c.nextID[i] (ckCall p i c.defaults[i])) hi (by simp [stG, hi, i1, i2, i3, v])]
      simp [c_store_Check_l0, cSe, cI, ActionCall.ce, h2, h3, h38, h39, hi, i1, i2, i3, hk, v]
  · rintro e n L hL _ ⟨h2, h3, h38, h39⟩
    have hk := conE_ok p f c.registers s.gl fun l hl => (s.gs l hl).1
    simp only [Prg.e] at hk
    rw [Prg.e] at h2
    rw [Config.ce] at h3
    rw [fe_end]
    simp [c_store_Check_l0, c_store_Check_k1, h2, h3, h38, h39, hL, hk]
  · simp [Prg.e, Config.ce]
end Go.Av
