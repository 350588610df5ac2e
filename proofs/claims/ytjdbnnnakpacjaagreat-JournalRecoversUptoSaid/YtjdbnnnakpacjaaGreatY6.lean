/-
  The laws TxnApplies and TxnCommits.
-/
import Derived.Test.YtjdbnnnakpacjaaGreatY5
import Derived.Test.YtjdbnnnakpacjaaGreatW27K
set_option linter.unusedVariables false
set_option linter.unusedSimpArgs false
set_option linter.constructorNameAsVariable false
namespace Go.Av
set_option maxRecDepth 4000
theorem badA_len {p : Prg} {c : Config} {l : List TableOp} (h : badA p c l = none) : l.length ≤ 64 := by
  unfold badA at h
  by_cases z : cfgE p c = 0
  case neg => simp [z] at h
  by_cases z2 : 64 < l.length
  · simp [z, z2] at h
  · omega
theorem badA_zero {p : Prg} {c : Config} {l : List TableOp} (h : badA p c l = none) : cfgE p c = 0 := by
  by_cases z : cfgE p c = 0
  · exact z
  · simp [badA, z] at h
theorem idsA_map (p : Prg) (c : Config) (l : List TableOp) : idsA p c l = ((List.range l.length).map (idN p c l)).map cI := by simp [idsA]
theorem emptyS : CfgS ⟨[], [], [], []⟩ := by constructor <;> simp
end Go.Av
