/-
  Lemmas for the law.
-/
import Derived.Test.YtjdbnnnakpacjaaGreatZ3
set_option linter.unusedVariables false
set_option linter.unusedSimpArgs false
set_option linter.constructorNameAsVariable false
namespace Go.Av
set_option maxRecDepth 4000
def enRR (l : List (List Rw)) : List (List Entry) := l.map enR
@[simp] theorem enRR_length (l : List (List Rw)) : (enRR l).length = l.length := by simp [enRR]
theorem enRR_get (l : List (List Rw)) (i : Nat) (h : i < l.length) (h' : i < (enRR l).length) : (enRR l)[i] = enR l[i] := by simp [enRR]
structure CfgF (c : Config) : Prop where
  rl : c.rows.length < 2 ^ 40
  rs : ∀ l ∈ c.rows, l.length < 2 ^ 40 ∧ ∀ r ∈ l, r.entry.sm
  dl : c.defaults.length < 2 ^ 40
  ds : ∀ x ∈ c.defaults, x.args.length < 2 ^ 40
  gl : c.registers.length < 2 ^ 40
  gs : ∀ x ∈ c.registers, x.length < 2 ^ 40
theorem CfgF_of {c : Config} (s : CfgT c) : CfgF c :=
  ⟨s.rl, fun l hl => ⟨(s.rs l hl).1, fun r hr => ⟨((s.rs l hl).2 r hr).kl, ((s.rs l hl).2 r hr).al⟩⟩, s.dl, fun d hd => (s.ds d hd).1, s.gl, fun l hl => (s.gs l hl).1⟩
def equiv (a b : Config) : Bool := decide (enRR a.rows = enRR b.rows) && (decide (a.defaults = b.defaults) && decide (a.registers = b.registers))
theorem Equivalent_ok (a b : Config) (f : CfgF a) : pureI Φ f_txn_Equivalent [.agg (Config.c a), .agg (Config.c b)] = some (.val (.bool (equiv a b))) := by
  rw [pureI_go (fn := c_txn_Equivalent) rfl rfl]
  by_cases q1 : a.rows.length = b.rows.length
  rotate_left
  · have : enRR a.rows ≠ enRR b.rows := fun h => q1 (by simpa using congrArg List.length h)
    simp [c_txn_Equivalent, Config.ce, equiv, q1, this]
  by_cases q2 : a.defaults.length = b.defaults.length
  rotate_left
  · have : a.defaults ≠ b.defaults := fun h => q2 (by rw [h])
    simp [c_txn_Equivalent, Config.ce, equiv, q1, q2, this]
  simp [c_txn_Equivalent, Config.ce, equiv, q1, q2]
  refine (loop_nat0 a.rows.length (fun i e => look 2 e = some (.ptr 0 4 0 0) ∧ look 3 e = some (.ptr 1 4 0 0) ∧ look 26 e = some (.slice 1 (a.rows.map (cS 5 Rw.c))) ∧ look 27 e = some (.int .i64 a.rows.length) ∧ look 28 e = some (.int .i64 i))
    (fun i => some (Rt.val (AV.bool (eqFrom (enRR a.rows) (enRR b.rows) i && (decide (a.defaults = b.defaults) && decide (a.registers = b.registers)))))) ?_ ?_ 0 _ (Nat.zero_le _) ?_).trans (by simp [eqFrom])
  · rintro i e L hi hL ⟨h2, h3, h26, h27, h28⟩ ih
    have hi2 : i < b.rows.length := by omega
    have hw : IntKind.wrap .i64 ((i : Int) + 1) = ((i + 1 : Nat) : Int) := wrap64 (by omega) (by have := f.rl; omega)
    obtain ⟨u1, u2⟩ := f.rs _ (List.getElem_mem hi)
    have hee := equalRows_ok a.rows[i] b.rows[i] u1 u2
    by_cases c : enR a.rows[i] = enR b.rows[i]
    · rw [decide_eq_true c] at hee
      rw [eqFrom_hit (by simpa using hi) (by simpa using hi2) (by rw [enRR_get _ _ hi, enRR_get _ _ hi2]; exact c)]
      simp [c_txn_Equivalent_l0, cSe, hi, hi2, h3, h26, h27, h28, hee, hw]
      refine (ih _ ⟨by simp [h2], by simp [h3], by simp [h26], by simp [h27], by simp⟩).trans (by simp)
    · rw [decide_eq_false c] at hee
      rw [eqFrom_miss (by simpa using hi) (by simpa using hi2) (by rw [enRR_get _ _ hi, enRR_get _ _ hi2]; exact c)]
      simp [c_txn_Equivalent_l0, cSe, hi, hi2, h3, h26, h27, h28, hee]
  · rintro e L hL ⟨h2, h3, h26, h27, h28⟩
    have := eqFrom_end (l := enRR a.rows) (m := enRR b.rows) (by simpa using q1)
    rw [enRR_length] at this
    rw [this]
    simp [c_txn_Equivalent_l0, c_txn_Equivalent_k3, h2, h27, h28, hL]
    refine (loop_nat a.defaults.length (fun i e h => look 2 e = some (.ptr 0 4 0 0) ∧ look 3 e = some (.ptr 1 4 0 0) ∧ look 43 e = some (.slice 2 (a.defaults.map ActionCall.c)) ∧ look 44 e = some (.int .i64 a.defaults.length) ∧ look 45 e = some (.int .i64 i) ∧
      ∃ objs N, Tail objs N ∧ 2 ≤ N ∧ h = ⟨(0, AO.row 4 [Config.c a]) :: (1, AO.row 4 [Config.c b]) :: objs, N⟩)
      (fun i => some (Rt.val (AV.bool (eqFrom a.defaults b.defaults i && decide (a.registers = b.registers))))) ?_ ?_ 0 _ _ (Nat.zero_le _) ?_).trans (by simp [eqFrom])
    · rintro i e _ L' hi hL' ⟨h2, h3, h43, h44, h45, objs, N, hN, hN2, rfl⟩ ih
      have hi2 : i < b.defaults.length := by omega
      have hw : IntKind.wrap .i64 ((i : Int) + 1) = ((i + 1 : Nat) : Int) := wrap64 (by omega) (by have := f.dl; omega)
      have hNN := hN N (Nat.le_refl _)
      have v0 : ¬ 0 = N := by omega
      have v1 : ¬ 1 = N := by omega
      have hee := equalCalls_ok a.defaults[i] b.defaults[i] (f.ds _ (List.getElem_mem hi))
      by_cases c : a.defaults[i] = b.defaults[i]
      · rw [decide_eq_true c] at hee
        simp only [ActionCall.ce] at hee
        rw [eqFrom_hit hi hi2 c]
        simp [c_txn_Equivalent_l1, Config.ce, ActionCall.ce, hi, hi2, h3, h43, h44, h45, hNN, v0, v1, hee, hw]
        simp only [← Config.ce]
        refine (ih _ _ ⟨by simp [h2], by simp [h3], by simp [h43], by simp [h44], by simp, _, _, hN.app _, by omega, rfl⟩).trans (by simp)
      · rw [decide_eq_false c] at hee
        simp only [ActionCall.ce] at hee
        rw [eqFrom_miss hi hi2 c]
        simp [c_txn_Equivalent_l1, Config.ce, ActionCall.ce, hi, hi2, h3, h43, h44, h45, hNN, v0, v1, hee]
    · rintro e _ L' hL' ⟨h2, h3, h43, h44, h45, objs, N, hN, hN2, rfl⟩
      rw [eqFrom_end q2]
      have hr := equalRegs_ok a.registers b.registers f.gl f.gs
      simp [c_txn_Equivalent_l1, c_txn_Equivalent_k2, Config.ce, h2, h3, h44, h45, hL', hr]
    · simp [h2, h3, q2]
      exact ⟨[], 2, Tail.nil 2, by omega, by simp [Config.ce]⟩
  · simp [q1]
end Go.Av
