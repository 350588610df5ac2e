/-
  Lemmas for the law.
-/
import Derived.Test.YtjdbnnnakpacjaaGreatY1
set_option linter.unusedVariables false
set_option linter.unusedSimpArgs false
set_option linter.constructorNameAsVariable false
namespace Go.Av
set_option maxRecDepth 4000
-- configurations that are small enough for the law
def badRow (r : Rw) : Bool := !smallE r.entry
def badRows (l : List Rw) : Bool := decide (40 < l.length) || anyFrom l badRow 0
def badDef (c : ActionCall) : Bool := decide (10 < c.args.length)
def badReg (l : List Int) : Bool := decide (80 < l.length)
def smallC (c : Config) : Bool := decide (c.rows.length ≤ 16) && decide (c.nextID.length ≤ 16) && decide (c.defaults.length ≤ 16) && decide (c.registers.length ≤ 8) && !anyFrom c.rows badRows 0 && !anyFrom c.defaults badDef 0 && !anyFrom c.registers badReg 0
theorem SmallConfig_regs (R N D : List (List AV)) (c : List (List Int)) (hd : c.length ≤ 8) (e : Env) (h1 : look 1 e = some (.ptr 0 4 0 0)) :
    go Φ (finP [.tmp 2]) [.c c_law27_SmallConfig_k6] .normal ⟨e, ⟨[(0, .row 4 [[.slice 1 R, .slice 1 N, .slice 2 D, .slice 1 (c.map (cS 1 c32))]])], 1⟩⟩ = some (Rt.val (.bool (!anyFrom c badReg 0))) := by
  simp [c_law27_SmallConfig_k6]
  refine loop_nat0 c.length (fun i e => look 1 e = some (.ptr 0 4 0 0) ∧ look 6 e = some (.int .i64 i)) (fun i => some (Rt.val (.bool (!anyFrom c badReg i)))) ?_ ?_ 0 _ (Nat.zero_le _) ?_
  · rintro i e L hi hL ⟨h1, h6⟩ ih
    have hw : IntKind.wrap .i64 ((i : Int) + 1) = ((i + 1 : Nat) : Int) := wrap64 (by omega) (by omega)
    cases hb : badReg c[i] with
    | true =>
      rw [any_hit hi hb]
      unfold badReg at hb
      simp at hb
      simp [c_law27_SmallConfig_l4, cS, hi, h1, h6, hb]
    | false =>
      rw [any_miss hi hb]
      unfold badReg at hb
      have hb' : ¬ 80 < c[i].length := by simpa using hb
      simp [c_law27_SmallConfig_l4, cS, hi, h1, h6, hb', hw]
      exact ih _ ⟨by simp [h1], by simp⟩
  · rintro e L hL ⟨h1, h6⟩
    rw [any_end]
    simp [c_law27_SmallConfig_l4, c_law27_SmallConfig_k5, *]
  · simp [h1]
end Go.Av
