/-
  The law TxnCommits.
-/
import Derived.Test.YtjdbnnnakpacjaaGreatY6
set_option linter.unusedVariables false
set_option linter.unusedSimpArgs false
set_option linter.constructorNameAsVariable false
namespace Go.Av
set_option maxRecDepth 4000
theorem aoEq_cfg (c : Config) : aoEq (some (.row 4 [Config.c c])) (some (.row 4 [Config.c c])) = true := by
  have h : ∀ x ∈ Config.c c, avEq 40 x x = true := by
    rw [Config.ce]
    simp only [List.mem_cons, List.not_mem_nil, or_false]
    rintro x (rfl | rfl | rfl | rfl)
    · refine Rf.map _ _ _ _ fun l _ => ?_
      simp only [cS, List.mem_cons, List.not_mem_nil, or_false]
      rintro c rfl
      refine Rf.map _ _ _ _ fun r _ => ?_
      rw [Rw.ce]
      simp only [List.mem_cons, List.not_mem_nil, or_false]
      rintro c (rfl | rfl | rfl | rfl | rfl)
      · exact Rf.int _ _ _
      · exact Rf.map _ _ _ _ fun x _ => by simp [KeyMatch.c, Rf.int]
      · exact Rf.int _ _ _
      · exact Rf.int _ _ _
      · exact Rf.map _ _ _ _ fun x _ => rf_32 _ x
    · exact Rf.map _ _ _ _ fun x _ => rf_I _ x
    · refine Rf.map _ _ _ _ fun x _ => ?_
      rw [ActionCall.ce]
      simp only [List.mem_cons, List.not_mem_nil, or_false]
      rintro c (rfl | rfl)
      · exact Rf.int _ _ _
      · exact Rf.map _ _ _ _ fun x _ => rf_32 _ x
    · refine Rf.map _ _ _ _ fun l _ => ?_
      simp only [cS, List.mem_cons, List.not_mem_nil, or_false]
      rintro c rfl
      exact Rf.map _ _ _ _ fun x _ => rf_32 _ x
  have h1 := eqL_rf (avEq 40) _ h
  unfold aoEq
  simp [snapFuel, eqL, h1]
end Go.Av
