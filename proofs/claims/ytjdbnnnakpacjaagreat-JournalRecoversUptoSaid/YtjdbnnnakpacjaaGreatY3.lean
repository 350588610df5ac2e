/-
  Lemmas for the law.
-/
import Derived.Test.YtjdbnnnakpacjaaGreatY2
set_option linter.unusedVariables false
set_option linter.unusedSimpArgs false
set_option linter.constructorNameAsVariable false
namespace Go.Av
set_option maxRecDepth 4000
theorem SmallConfig_defs (R N : List (List AV)) (d : List ActionCall) (c : List (List Int)) (hd : d.length ≤ 16) (hc : c.length ≤ 8) (e : Env) (h1 : look 1 e = some (.ptr 0 4 0 0)) :
    go Φ (finP [.tmp 2]) [.c c_law27_SmallConfig_k7] .normal ⟨e, ⟨[(0, .row 4 [[.slice 1 R, .slice 1 N, .slice 2 (d.map ActionCall.c), .slice 1 (c.map (cS 1 c32))]])], 1⟩⟩ = some (Rt.val (.bool (!anyFrom d badDef 0 && !anyFrom c badReg 0))) := by
  simp [c_law27_SmallConfig_k7]
  refine loop_nat0 d.length (fun i e => look 1 e = some (.ptr 0 4 0 0) ∧ look 5 e = some (.int .i64 i)) (fun i => some (Rt.val (.bool (!anyFrom d badDef i && !anyFrom c badReg 0)))) ?_ ?_ 0 _ (Nat.zero_le _) ?_
  · rintro i e L hi hL ⟨h1, h6⟩ ih
    have hw : IntKind.wrap .i64 ((i : Int) + 1) = ((i + 1 : Nat) : Int) := wrap64 (by omega) (by omega)
    cases hb : badDef d[i] with
    | true =>
      rw [any_hit hi hb]
      unfold badDef at hb
      simp at hb
      simp [c_law27_SmallConfig_l3, ActionCall.ce, hi, h1, h6, hb]
    | false =>
      rw [any_miss hi hb]
      unfold badDef at hb
      have hb' : ¬ 10 < d[i].args.length := by simpa using hb
      simp [c_law27_SmallConfig_l3, ActionCall.ce, hi, h1, h6, hb', hw]
      exact ih _ ⟨by simp [h1], by simp⟩
  · rintro e L hL ⟨h1, h6⟩
    rw [any_end]
    simp [c_law27_SmallConfig_l3, h1, h6, hL]
    have := SmallConfig_regs R N (d.map ActionCall.c) c hc
    refine (this _ ?_).trans (by simp)
    simp [h1]
  · simp [h1]
theorem smallE_row (r : Rw) : pureI Φ f_law23_Small [.agg [.slice 2 (r.entry.keys.map KeyMatch.c), .int .i64 r.entry.priority, .int .i64 r.entry.call.action, .slice 1 (r.entry.call.args.map c32)]] = some (.val (.bool (!badRow r))) := by
  have := Small23_ok r.entry
  simp only [Entry.c] at this
  simpa [badRow] using this
theorem SmallConfig_ok (c : Config) : pureI Φ f_law27_SmallConfig [.agg (Config.c c)] = some (.val (.bool (smallC c))) := by
  rw [pureI_go (fn := c_law27_SmallConfig) rfl rfl]
  by_cases q1 : c.rows.length ≤ 16
  rotate_left
  · simp [c_law27_SmallConfig, Config.c, smallC, q1, Nat.lt_of_not_le q1]
  by_cases q2 : c.nextID.length ≤ 16
  rotate_left
  · simp [c_law27_SmallConfig, Config.c, smallC, q1, q2, Nat.lt_of_not_le q2, Nat.not_lt.2 q1]
  by_cases q3 : c.defaults.length ≤ 16
  rotate_left
  · simp [c_law27_SmallConfig, Config.c, smallC, q1, q2, q3, Nat.lt_of_not_le q3, Nat.not_lt.2 q1, Nat.not_lt.2 q2]
  by_cases q4 : c.registers.length ≤ 8
  rotate_left
  · simp [c_law27_SmallConfig, Config.c, smallC, q1, q2, q3, q4, Nat.lt_of_not_le q4, Nat.not_lt.2 q1, Nat.not_lt.2 q2, Nat.not_lt.2 q3]
  simp [c_law27_SmallConfig, Config.c, smallC, q1, q2, q3, q4, Nat.not_lt.2 q1, Nat.not_lt.2 q2, Nat.not_lt.2 q3, Nat.not_lt.2 q4]
  refine loop_nat0 c.rows.length (fun i e => look 1 e = some (.ptr 0 4 0 0) ∧ look 3 e = some (.int .i64 i)) (fun i => some (Rt.val (.bool (!anyFrom c.rows badRows i && (!anyFrom c.defaults badDef 0 && !anyFrom c.registers badReg 0))))) ?_ ?_ 0 _ (Nat.zero_le _) ?_ |>.trans ?_
  · rintro i e L hi hL ⟨h1, h6⟩ ih
    have hw : IntKind.wrap .i64 ((i : Int) + 1) = ((i + 1 : Nat) : Int) := wrap64 (by omega) (by omega)
    by_cases q : 40 < c.rows[i].length
    · rw [any_hit hi (show badRows c.rows[i] = true by simp [badRows, q])]
      simp [c_law27_SmallConfig_l2, cSe, hi, h1, h6, q]
    simp [c_law27_SmallConfig_l2, cSe, hi, h1, h6, q]
    refine (loop_nat0 c.rows[i].length (fun k e => look 1 e = some (.ptr 0 4 0 0) ∧ look 3 e = some (.int .i64 i) ∧ look 4 e = some (.int .i64 k)) (fun k => some (Rt.val (.bool (if anyFrom c.rows[i] badRow k then false else (!anyFrom c.rows badRows (i + 1) && (!anyFrom c.defaults badDef 0 && !anyFrom c.registers badReg 0)))))) ?_ ?_ 0 _ (Nat.zero_le _) ?_).trans ?_
    · rintro k e L' hk hL' ⟨h1, h3, h4⟩ ih'
      have hw : IntKind.wrap .i64 ((k : Int) + 1) = ((k + 1 : Nat) : Int) := wrap64 (by omega) (by omega)
      have hsm := smallE_row c.rows[i][k]
      cases hb : badRow c.rows[i][k] with
      | true =>
        rw [any_hit hk hb]
        rw [hb] at hsm
        simp [c_law27_SmallConfig_l0, cSe, Rw.ce, hi, hk, h1, h3, h4, hsm]
      | false =>
        rw [any_miss hk hb]
        rw [hb] at hsm
        simp [c_law27_SmallConfig_l0, cSe, Rw.ce, hi, hk, h1, h3, h4, hsm, hw]
        refine (ih' _ ⟨by simp [h1], by simp [h3], by simp⟩).trans (by simp)
    · rintro e L' hL' ⟨h1, h3, h4⟩
      rw [any_end]
      simp [c_law27_SmallConfig_l0, c_law27_SmallConfig_k1, cSe, hi, hL', h1, h3, h4, hw]
      refine (ih _ ⟨by simp [h1], by simp⟩).trans (by simp)
    · simp [h1, h6]
    · cases hb : badRows c.rows[i] with
      | true =>
        rw [any_hit hi hb]
        simp [badRows, q] at hb
        simp [hb]
      | false =>
        rw [any_miss hi hb]
        simp [badRows, q] at hb
        simp [hb]
  · rintro e L hL ⟨h1, h6⟩
    rw [any_end]
    simp [c_law27_SmallConfig_l2, h1, h6, hL]
    have := SmallConfig_defs (c.rows.map (cS 5 Rw.c)) (c.nextID.map cI) c.defaults c.registers q3 q4
    refine (this _ ?_).trans (by simp)
    simp [h1]
  · simp
  · simp [Bool.and_assoc]
end Go.Av
