/-
  Initial configurations: the reference's.
-/
import Derived.Test.YtjdbnnnakpacjaaGreatQ13
set_option linter.unusedVariables false
set_option linter.unusedSimpArgs false
set_option linter.constructorNameAsVariable false
namespace Go.Av
set_option maxRecDepth 4000
def regN (r : Register) : Nat := if r.size < 1 ∨ 64 < r.size then 0 else r.size.toNat
theorem regN_le (r : Register) : regN r ≤ 64 := by
  unfold regN
  split <;> omega
def newR (p : Prg) : List (List Int) := p.registers.map fun r => List.replicate (regN r) 0
theorem rnew_ok (p : Prg) (f : PrgS p) : pureI Φ f_ref15_New [.agg (Prg.c p)] = some (.val (.slice 1 ((newR p).map (cS 1 c32)))) := by
  rw [pureI_go (fn := c_ref15_New) rfl rfl]
  have hr := f.r
  have e0 : (newR p).map (cS 1 c32) = p.registers.map fun r => [AV.slice 1 (List.replicate (regN r) [AV.int .u32 0])] := by
    simp [newR, cSe, c32]
  rw [e0]
  simp [c_ref15_New, Prg.e]
  refine (loop_nx p.registers.length (fun i => [(0, .tok 1 i)]) 1 (fun i e => look 1 e = some (.iptr 9 [Prg.c p] 0 0) ∧ look 3 e = some (.app 1 ((p.registers.map fun r => [AV.slice 1 (List.replicate (regN r) [AV.int .u32 0])]).take i) 0) ∧ look 4 e = some (.int .i64 i))
    (fun _ => some (Rt.val (.slice 1 (p.registers.map fun r => [AV.slice 1 (List.replicate (regN r) [AV.int .u32 0])])))) ?_ ?_ 0 _ 1 (Nat.zero_le _) (Nat.le_refl _) ?_).trans (by simp)
  · rintro i e n L hi hL hn ⟨h1, h3, h4⟩ ih
    have hw : IntKind.wrap .i64 ((i : Int) + 1) = ((i + 1 : Nat) : Int) := wrap64 (by omega) (by omega)
    rw [Prg.e] at h1
    have hn0 : ¬ (0 = n) := by omega
    have hn1 : ¬ (n = 0) := by omega
    have hm : min i p.registers.length = i := by omega
    have hb : (i + 1) * 24 ≤ 70368744177664 := by omega
    by_cases z : p.registers[i].size < 1
    · have hz : regN p.registers[i] = 0 := by simp [regN, z]
      simp [c_ref15_New_l0, Register.e, h1, h3, h4, hi, z, hw, hm, hb]
      exact ih _ _ (by omega) ⟨by simp [h1, Prg.e], by simp [take_map_succ hi, hz], by simp⟩
    by_cases z1 : 64 < p.registers[i].size
    · have hz : regN p.registers[i] = 0 := by simp [regN, z1]
      simp [c_ref15_New_l0, Register.e, h1, h3, h4, hi, z, z1, hw, hm, hb]
      exact ih _ _ (by omega) ⟨by simp [h1, Prg.e], by simp [take_map_succ hi, hz], by simp⟩
    obtain ⟨k, hk⟩ : ∃ k : Nat, p.registers[i].size = k := ⟨p.registers[i].size.toNat, by omega⟩
    have hz : regN p.registers[i] = k := by simp [regN, z, z1]; omega
    have k1 : (k : Int) * 4 ≤ 140737488355328 := by omega
    have k3 : k < 4611686018427387904 := by omega
    have k0 : ¬ (k : Int) < 1 := by omega
    have k2 : ¬ (64 : Int) < k := by omega
    simp [c_ref15_New_l0, Register.e, h1, h3, h4, hi, hk, k0, k2, k1, k3, hw, hm, hb]
    exact ih _ _ (by omega) ⟨by simp [h1, Prg.e], by simp [take_map_succ hi, hz], by simp⟩
  · rintro e n L hL hn ⟨h1, h3, h4⟩
    rw [Prg.e] at h1
    simp [c_ref15_New_l0, c_ref15_New_k1, h1, h3, h4, hL]
  · simp [Prg.e]
def emptyC (p : Prg) : Config := ⟨p.tables.map fun _ => [], p.tables.map fun _ => 1, p.tables.map fun t => t.dflt, newR p⟩
theorem emptyC_c (p : Prg) : Config.c (emptyC p) = [.slice 1 (p.tables.map fun _ => [.slice 5 []]), .slice 1 (p.tables.map fun _ => [.int .i64 1]), .slice 2 (p.tables.map fun t => [.int .i64 t.dflt.action, .slice 1 (t.dflt.args.map c32)]), .slice 1 ((newR p).map (cS 1 c32))] := by
  simp [emptyC, Config.ce, cSe, cI, ActionCall.ce]
theorem rempty_ok (p : Prg) (f : PrgS p) : pureI Φ f_ref25_EmptyConfig [.agg (Prg.c p)] = some (.val (.agg (Config.c (emptyC p)))) := by
  rw [pureI_go (fn := c_ref25_EmptyConfig) rfl rfl, emptyC_c]
  have ht := f.t
  have h := rnew_ok p f
  simp only [Prg.e] at h
  generalize (newR p).map (cS 1 c32) = W at h ⊢
  simp [c_ref25_EmptyConfig, Prg.e, h]
  by_cases z : p.tables.length = 0
  · have e0 : p.tables = [] := List.eq_nil_of_length_eq_zero z
    rw [go_loop]
    simp [c_ref25_EmptyConfig_l0, c_ref25_EmptyConfig_k1, e0]
  have hp : 0 < p.tables.length := by omega
  rw [go_loop]
  simp [c_ref25_EmptyConfig_l0, Tbl.e, hp]
  have t1 : ∀ {β : Type} (g : Tbl → β), (p.tables.map g).take 1 = [g p.tables[0]] := by
    intro β g
    have := take_map_succ (f := g) hp
    simpa using this
  refine loop_nat p.tables.length (fun i e h => ∃ n, 5 ≤ n ∧ h = ⟨[(0, AO.row 4 [[.fslice 1 [], .fslice 1 [], .fslice 2 [], .fslice 1 []]]), (1, AO.row 4 [[.app 1 ((p.tables.map fun _ => [AV.slice 5 []]).take i) 2, .app 1 ((p.tables.map fun _ => [AV.int .i64 1]).take i) 3,
      .app 2 ((p.tables.map fun t => [AV.int .i64 t.dflt.action, .slice 1 (t.dflt.args.map c32)]).take i) 4, .slice 1 W]]), (2, .tok 1 i), (3, .tok 1 i), (4, .tok 2 i)], n⟩ ∧ look 1 e = some (.iptr 9 [Prg.c p] 0 0) ∧ look 2 e = some (.ptr 0 4 0 0) ∧ look 3 e = some (.ptr 1 4 0 0) ∧ look 4 e = some (.int .i64 i))
    (fun _ => some (Rt.val (.agg [.slice 1 (p.tables.map fun _ => [.slice 5 []]), .slice 1 (p.tables.map fun _ => [.int .i64 1]), .slice 2 (p.tables.map fun t => [.int .i64 t.dflt.action, .slice 1 (t.dflt.args.map c32)]), .slice 1 W]))) ?_ ?_ 1 _ _ (by omega) ?_
  · rintro i e _ L hi hL ⟨n, hn, rfl, h1, h2, h3, h4⟩ ih
    have hw : IntKind.wrap .i64 ((i : Int) + 1) = ((i + 1 : Nat) : Int) := wrap64 (by omega) (by omega)
    rw [Prg.e] at h1
    have n0 : ¬ (0 = n) := by omega
    have n1 : ¬ (1 = n) := by omega
    have n2 : ¬ (2 = n) := by omega
    have n3 : ¬ (3 = n) := by omega
    have n4 : ¬ (4 = n) := by omega
    have m0 : ¬ (n = 0) := by omega
    have m1 : ¬ (n = 1) := by omega
    have m2 : ¬ (n = 2) := by omega
    have m3 : ¬ (n = 3) := by omega
    have m4 : ¬ (n = 4) := by omega
    have hm : min i p.tables.length = i := by omega
    have hb : (i + 1) * 24 ≤ 70368744177664 := by omega
    have hb2 : (i + 1) * 8 ≤ 70368744177664 := by omega
    have hb3 : (i + 1) * 32 ≤ 70368744177664 := by omega
    simp [Tbl.e, h1, h3, h4, hi, hw, hm, hb, hb2, hb3]
    exact ih _ _ ⟨_, by omega, by simp [take_map_succ hi], by simp [h1, Prg.e], by simp [h2], by simp [h3], by simp⟩
  · rintro e _ L hL ⟨n, hn, rfl, h1, h2, h3, h4⟩
    rw [Prg.e] at h1
    simp [c_ref25_EmptyConfig_k1, h1, h2, h3, h4, hL]
  · exact ⟨5, by omega, by simp [t1], by simp [Prg.e], by simp, by simp, by simp [wr1]⟩
end Go.Av
