/-
  The initial configuration of a valid program is valid.
-/
import Derived.Test.YtjdbnnnakpacjaaGreatJP3
set_option linter.unusedVariables false
set_option linter.unusedSimpArgs false
set_option linter.constructorNameAsVariable false
namespace Go.Av
set_option maxRecDepth 4000
theorem PrgV.regs {p : Prg} (v : PrgV p) {k : Nat} (hk : k < p.registers.length) : regE p.registers[k] = 0 := by
  have := (fe_all.1 v.reg) k hk
  simp only [List.getElem?_eq_getElem hk, Option.bind_some] at this
  have hE : regD1 p k p.registers[k] = 0 := by
    refine Decidable.byContradiction fun hc => ?_
    rw [if_neg hc] at this; cases this
  unfold regD1 at hE
  refine Decidable.byContradiction fun hc => ?_
  rw [if_pos hc] at hE; exact hc hE
theorem PrgV.tblz {p : Prg} (v : PrgV p) {k : Nat} (hk : k < p.tables.length) : (tblE p k).2 = 0 := by
  have := (fe_all.1 v.tbl) k hk
  simp only [List.getElem?_eq_getElem hk, Option.bind_some] at this
  refine Decidable.byContradiction fun hc => ?_
  rw [if_pos hc] at this; cases this
theorem tbl_dflt {p : Prg} {k : Nat} (hk : k < p.tables.length) (h : (tblE p k).2 = 0) : ckCall p k p.tables[k].dflt = 0 := by
  have ho : tOk p k = true := by simp [tOk, h]
  unfold tblE at h
  rw [at_nat, List.getElem?_eq_getElem hk] at h
  dsimp only at h
  split at h
  · cases h
  split at h
  · cases h
  split at h
  · cases h
  split at h
  · rename_i hc; exact absurd h hc
  split at h
  · rename_i hc; exact absurd h hc
  rename_i hc
  have ht : tactE p p.tables[k] = 0 := by simpa using hc
  unfold tactE at ht
  split at ht
  · rename_i e he
    exfalso
    subst ht
    obtain ⟨i, _, hx⟩ := fe_some he
    rw [Option.bind_eq_some_iff] at hx
    obtain ⟨a, _, hx⟩ := hx
    split at hx
    · cases hx
    · split at hx <;> cases hx
  split at ht
  · rename_i hcon
    unfold ckCall
    have hA : tAl p k p.tables[k].dflt.action = true := by
      unfold tAl
      rw [ho, at_nat, List.getElem?_eq_getElem hk]
      simp at hcon ⊢
      exact hcon
    rw [if_neg (by simp [hA])]
    exact ht
  · cases ht
theorem maskI_nn (w : Int) : 0 ≤ maskI w := by
  unfold maskI
  split
  · exact Int.le_refl 0
  · have : (0 : Int) < 2 ^ w.toNat := Int.pow_pos (by decide)
    omega
theorem emptyV {p : Prg} (h : (prgD p).1 = 0) : CfgV p (emptyC p) := by
  have v := PrgV_of h
  refine ⟨h, by simp [emptyC], by simp [emptyC], by simp [emptyC], ?_, ?_⟩
  · intro k tb l nx d h1 h2 h3 h4
    obtain ⟨hk, rfl⟩ := List.getElem?_eq_some_iff.1 h1
    simp [emptyC, hk] at h2 h3 h4
    subst h2 h3 h4
    have hz := v.tblz hk
    obtain ⟨k', hk', hkk, o⟩ := tOk_at (p := p) (t := (k : Int)) (by simp [tOk, hz])
    have : k' = k := by omega
    subst this
    have := o.size
    exact ⟨by simp; omega, by simp, by simp, by simp, by decide, by decide, by simp, by simp, tbl_dflt hk hz⟩
  · unfold conE
    rw [if_neg (by simp [emptyC, newR])]
    have e1 : fe (szG p (emptyC p).registers) (emptyC p).registers.length 0 = none := by
      refine fe_all.2 fun i hi => ?_
      have hi2 : i < p.registers.length := by simpa [emptyC, newR] using hi
      have hr := v.regs hi2
      have hs : ¬ (p.registers[i].size < 1 ∨ 64 < p.registers[i].size) := by
        intro hc
        unfold regE at hr
        split at hr
        · cases hr
        split at hr
        · cases hr
        first | (rw [if_pos hc] at hr; cases hr) | cases hr
      simp [szG, emptyC, newR, hi2, regN, hs]
      omega
    have e2 : fe (vlG p (emptyC p).registers) (emptyC p).registers.length 0 = none := by
      refine fe_all.2 fun i hi => ?_
      have hi2 : i < p.registers.length := by simpa [emptyC, newR] using hi
      have hm := maskI_nn p.registers[i].width
      simp [vlG, emptyC, newR, hi2]
      intro _; omega
    rw [e1, e2]
    rfl
end Go.Av
