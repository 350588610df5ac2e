/-
  Lemmas for the law.
-/
import Derived.Test.YtgnlablpigoioaaGreatT9
import Derived.Test.YtgnlablpigoioaaGreatW27
set_option linter.unusedVariables false
set_option linter.unusedSimpArgs false
set_option linter.constructorNameAsVariable false
namespace Go.Av
set_option maxRecDepth 4000
theorem rEquivalent_ok (a b : Config) (f : CfgF a) : pureI Φ f_ref27_Equivalent [.agg (Config.c a), .agg (Config.c b)] = some (.val (.bool (equiv a b))) := by
  rw [pureI_go (fn := c_ref27_Equivalent) rfl rfl]
  by_cases q1 : a.rows.length = b.rows.length
  rotate_left
  · have : entss a.rows ≠ entss b.rows := fun h => q1 (by simpa using congrArg List.length h)
    simp [c_ref27_Equivalent, Config.ce, equiv, q1, this]
  by_cases q2 : a.defaults.length = b.defaults.length
  rotate_left
  · have : a.defaults ≠ b.defaults := fun h => q2 (by rw [h])
    simp [c_ref27_Equivalent, Config.ce, equiv, q1, q2, this]
  by_cases q3 : a.registers.length = b.registers.length
  rotate_left
  · have : a.registers ≠ b.registers := fun h => q3 (by rw [h])
    simp [c_ref27_Equivalent, Config.ce, equiv, q1, q2, q3, this]
  simp [c_ref27_Equivalent, Config.ce, equiv, q1, q2, q3]
  refine (loop_nat0 a.rows.length (fun i e => look 2 e = some (.ptr 0 4 0 0) ∧ look 3 e = some (.ptr 1 4 0 0) ∧ look 5 e = some (.int .i64 i))
    (fun i => some (Rt.val (AV.bool (eqFrom (entss a.rows) (entss b.rows) i && (decide (a.defaults = b.defaults) && decide (a.registers = b.registers)))))) ?_ ?_ 0 _ (Nat.zero_le _) ?_).trans (by simp [eqFrom])
  · rintro i e L hi hL ⟨h2, h3, h5⟩ ih
    have hi2 : i < b.rows.length := by omega
    have hw : IntKind.wrap .i64 ((i : Int) + 1) = ((i + 1 : Nat) : Int) := wrap64 (by omega) (by have := f.rl; omega)
    obtain ⟨u1, u2⟩ := f.rs _ (List.getElem_mem hi)
    have hee := rEqualRows_ok a.rows[i] b.rows[i] u1 u2
    by_cases c : ents a.rows[i] = ents b.rows[i]
    · rw [decide_eq_true c] at hee
      rw [eqFrom_hit (by simpa using hi) (by simpa using hi2) (by rw [entss_get _ _ hi, entss_get _ _ hi2]; exact c)]
      simp [c_ref27_Equivalent_l0, cSe, hi, hi2, hL, h2, h3, h5, hee, hw]
      refine (ih _ ⟨by simp [h2], by simp [h3], by simp⟩).trans (by simp)
    · rw [decide_eq_false c] at hee
      rw [eqFrom_miss (by simpa using hi) (by simpa using hi2) (by rw [entss_get _ _ hi, entss_get _ _ hi2]; exact c)]
      simp [c_ref27_Equivalent_l0, cSe, hi, hi2, hL, h2, h3, h5, hee]
  · rintro e L hL ⟨h2, h3, h5⟩
    have := eqFrom_end (l := entss a.rows) (m := entss b.rows) (by simpa using q1)
    rw [entss_length] at this
    rw [this]
    simp [c_ref27_Equivalent_l0, c_ref27_Equivalent_k5, h2, h5, hL]
    refine (loop_nat0 a.defaults.length (fun i e => look 2 e = some (.ptr 0 4 0 0) ∧ look 3 e = some (.ptr 1 4 0 0) ∧ look 6 e = some (.int .i64 i))
      (fun i => some (Rt.val (AV.bool (eqFrom a.defaults b.defaults i && decide (a.registers = b.registers))))) ?_ ?_ 0 _ (Nat.zero_le _) ?_).trans (by simp [eqFrom])
    · rintro i e L' hi hL' ⟨h2, h3, h6⟩ ih
      have hi2 : i < b.defaults.length := by omega
      have hw : IntKind.wrap .i64 ((i : Int) + 1) = ((i + 1 : Nat) : Int) := wrap64 (by omega) (by have := f.dl; omega)
      have hee := rEqualCalls_ok a.defaults[i] b.defaults[i] (f.ds _ (List.getElem_mem hi))
      by_cases c : a.defaults[i] = b.defaults[i]
      · rw [decide_eq_true c] at hee
        simp only [ActionCall.ce] at hee
        rw [eqFrom_hit hi hi2 c]
        simp [c_ref27_Equivalent_l1, ActionCall.ce, hi, hi2, hL', h2, h3, h6, hee, hw]
        refine (ih _ ⟨by simp [h2], by simp [h3], by simp⟩).trans (by simp)
      · rw [decide_eq_false c] at hee
        simp only [ActionCall.ce] at hee
        rw [eqFrom_miss hi hi2 c]
        simp [c_ref27_Equivalent_l1, ActionCall.ce, hi, hi2, hL', h2, h3, h6, hee]
    · rintro e L' hL' ⟨h2, h3, h6⟩
      rw [eqFrom_end q2]
      simp [c_ref27_Equivalent_l1, c_ref27_Equivalent_k4, h2, h6, hL']
      refine (loop_nat0 a.registers.length (fun i e => look 2 e = some (.ptr 0 4 0 0) ∧ look 3 e = some (.ptr 1 4 0 0) ∧ look 7 e = some (.int .i64 i))
        (fun i => some (Rt.val (AV.bool (eqFrom a.registers b.registers i)))) ?_ ?_ 0 _ (Nat.zero_le _) ?_).trans (by simp [eqFrom])
      · rintro i e L2 hi hL2 ⟨h2, h3, h7⟩ ih
        have hi2 : i < b.registers.length := by omega
        have hw : IntKind.wrap .i64 ((i : Int) + 1) = ((i + 1 : Nat) : Int) := wrap64 (by omega) (by have := f.gl; omega)
        have hee := eqNum_ok a.registers[i] b.registers[i] (by have := f.gs _ (List.getElem_mem hi); omega)
        by_cases c : a.registers[i] = b.registers[i]
        · rw [decide_eq_true c] at hee
          rw [eqFrom_hit hi hi2 c]
          simp [c_ref27_Equivalent_l2, cSe, hi, hi2, hL2, h2, h3, h7, hee, hw]
          refine (ih _ ⟨by simp [h2], by simp [h3], by simp⟩).trans (by simp)
        · rw [decide_eq_false c] at hee
          rw [eqFrom_miss hi hi2 c]
          simp [c_ref27_Equivalent_l2, cSe, hi, hi2, hL2, h2, h3, h7, hee]
      · rintro e L2 hL2 ⟨h2, h3, h7⟩
        rw [eqFrom_end q3]
        simp [c_ref27_Equivalent_l2, c_ref27_Equivalent_k3, h2, h7, hL2]
      · simp [h2, h3]
    · simp [h2, h3]
  · simp
theorem equiv_symm (a b : Config) : equiv b a = equiv a b := by
  unfold equiv
  rw [decide_eq_decide.2 (eq_comm (a := entss b.rows)), decide_eq_decide.2 (eq_comm (a := b.defaults)), decide_eq_decide.2 (eq_comm (a := b.registers))]
theorem equiv_refl (a : Config) : equiv a a = true := by simp [equiv]
theorem TxnEquivalent_all {B : Nat} (a b : Config) (_ : Config.Ok B a) (_ : Config.Ok B b) : pureI Φ f_law27_TxnEquivalent [.agg (Config.c a), .agg (Config.c b)] = some (.val (.bool true)) := by
  rw [pureI_go (fn := c_law27_TxnEquivalent) rfl rfl]
  have sa := SmallConfig_ok a
  have sb := SmallConfig_ok b
  cases ha : smallC a with
  | false =>
    rw [ha] at sa
    simp only [Config.ce] at sa
    simp [c_law27_TxnEquivalent, Config.ce, sa, works27]
  | true =>
  cases hb : smallC b with
  | false =>
    rw [ha] at sa
    rw [hb] at sb
    simp only [Config.ce] at sa sb
    simp [c_law27_TxnEquivalent, Config.ce, sa, sb, works27]
  | true =>
  rw [ha] at sa
  rw [hb] at sb
  have fa := CfgF_of ha
  have fb := CfgF_of hb
  have e1 := Equivalent_ok a b fa
  have e2 := Equivalent_ok b a fb
  have e3 := rEquivalent_ok a b fa
  have e4 := Equivalent_ok a a fa
  rw [equiv_symm] at e2
  rw [equiv_refl] at e4
  simp only [Config.ce] at sa sb e1 e2 e3 e4
  simp [c_law27_TxnEquivalent, Config.ce, sa, sb, e1, e2, e3, e4, works27]
end Go.Av
