/-
  Configurations: the reference's check.
-/
import Derived.Test.YtjdbnnnakpacjaaGreatQ12
set_option linter.unusedVariables false
set_option linter.unusedSimpArgs false
set_option linter.constructorNameAsVariable false
namespace Go.Av
set_option maxRecDepth 4000
theorem rcfgE_ok (p : Prg) (f : PrgS p) (hv : ∀ t ∈ p.tables, ∀ v ∈ t.dflt.args, ok32 0 v) (hc : (pre p.control).length < 2 ^ 40 - 1) (c : Config) (s : CfgT c) : pureI Φ f_ref25_Check [.agg (Prg.c p), .agg (Config.c c)] = some (.val (.int .i64 (cfgE p c))) := by
  rw [pureI_go (fn := c_ref25_Check) rfl rfl]
  have h := rprogCheck_ok p f hv hc
  simp only [Prg.e, dgC] at h
  have ht := f.t
  by_cases z : (prgD p).1 = 0
  rotate_left
  · simp [c_ref25_Check, Prg.e, Config.ce, h, z, cfgE]
  by_cases z1 : c.rows.length = p.tables.length
  rotate_left
  · simp [c_ref25_Check, Prg.e, Config.ce, h, z, z1, cfgE]
  by_cases z2 : c.nextID.length = p.tables.length
  rotate_left
  · simp [c_ref25_Check, Prg.e, Config.ce, h, z, z1, z2, cfgE]
  by_cases z3 : c.defaults.length = p.tables.length
  rotate_left
  · simp [c_ref25_Check, Prg.e, Config.ce, h, z, z1, z2, z3, cfgE]
  rw [show cfgE p c = (fe (stG p c) p.tables.length 0).getD (conE p c.registers) by simp [cfgE, z, z1, z2, z3]]
  simp [c_ref25_Check, Prg.e, Config.ce, h, z, z1, z2, z3]
  refine loop_nx p.tables.length (fun _ => []) 0 (fun i e => look 2 e = some (.iptr 9 [Prg.c p] 0 0) ∧ look 3 e = some (.iptr 4 [Config.c c] 0 0) ∧ look 5 e = some (.int .i64 p.tables.length) ∧ look 6 e = some (.int .i64 i))
    (fun i => some (Rt.val (.int .i64 ((fe (stG p c) p.tables.length i).getD (conE p c.registers))))) ?_ ?_ 0 _ _ (Nat.zero_le _) (Nat.zero_le _) ?_
  · rintro i e n L hi hL _ ⟨h2, h3, h5, h6⟩ ih
    have hw : IntKind.wrap .i64 ((i : Int) + 1) = ((i + 1 : Nat) : Int) := wrap64 (by omega) (by omega)
    have i1 : i < c.rows.length := by omega
    have i2 : i < c.nextID.length := by omega
    have i3 : i < c.defaults.length := by omega
    have hr := s.rs _ (List.getElem_mem i1)
    have hd := s.ds _ (List.getElem_mem i3)
    have hk := rrows_ok p f hv i hi c.rows[i] c.nextID[i] hr.1 hr.2
    have hq := rcall_ok p f hv i c.defaults[i] hd.1 hd.2
    rw [show (if p.tables[i].size < (c.rows[i].length : Int) then (12 : Int) else tabK p i c.rows[i] c.nextID[i] 0 (ordL c.rows[i] 0)) = rowE p i p.tables[i] c.rows[i] c.nextID[i] 0 from rfl] at hk
    simp only [Prg.e, ActionCall.ce] at hk hq
    rw [Prg.e] at h2
    rw [Config.ce] at h3
    have hz := rowE_z p i p.tables[i] c.rows[i] c.nextID[i] (ckCall p i c.defaults[i])
    by_cases v : rowE p i p.tables[i] c.rows[i] c.nextID[i] 0 = 0
    · rw [if_neg (by simpa using v)] at hz
      rw [v] at hk
      by_cases w : ckCall p i c.defaults[i] = 0
      · rw [fe_miss hi (by simp [stG, hi, i1, i2, i3, w, v])]
        rw [w] at hq
        generalize hX : some (Rt.val (AV.int .i64 ((fe (stG p c) p.tables.length (i + 1)).getD (conE p c.registers)))) = X
        simp [c_ref25_Check_l0, cSe, cI, ActionCall.ce, h2, h3, h5, h6, hi, i1, i2, i3, hk, hq, hw]
        rw [← hX]
        exact ih _ _ (Nat.zero_le _) ⟨by simp [h2, Prg.e], by simp [h3, Config.ce], by simp [h5], by simp⟩
      · rw [fe_hit (x := ckCall p i c.defaults[i]) hi (by simp [stG, hi, i1, i2, i3, hz, w])]
        simp [c_ref25_Check_l0, cSe, cI, ActionCall.ce, h2, h3, h5, h6, hi, i1, i2, i3, hk, hq, w]
    · rw [if_pos v] at hz
      rw [fe_hit (x := rowE p i p.tables[i] c.rows[i] c.nextID[i] 0) hi (by simp [stG, hi, i1, i2, i3, hz, v])]
      simp [c_ref25_Check_l0, cSe, cI, h2, h3, h5, h6, hi, i1, i2, hk, v]
  · rintro e n L hL _ ⟨h2, h3, h5, h6⟩
    have hk := rconE_ok p c.registers s.gl s.gs
    simp only [Prg.e] at hk
    rw [Prg.e] at h2
    rw [Config.ce] at h3
    rw [fe_end]
    simp [c_ref25_Check_l0, c_ref25_Check_k1, h2, h3, h5, h6, hL, hk]
  · simp [Prg.e, Config.ce]
end Go.Av
