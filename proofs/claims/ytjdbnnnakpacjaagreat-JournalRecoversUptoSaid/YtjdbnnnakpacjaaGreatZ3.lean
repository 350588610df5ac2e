/-
  Lemmas for the law.
-/
import Derived.Test.YtjdbnnnakpacjaaGreatZ2
set_option linter.unusedVariables false
set_option linter.unusedSimpArgs false
set_option linter.constructorNameAsVariable false
namespace Go.Av
set_option maxRecDepth 4000
def enR (l : List Rw) : List Entry := l.map Rw.entry
@[simp] theorem enR_length (l : List Rw) : (enR l).length = l.length := by simp [enR]
theorem enR_get (l : List Rw) (i : Nat) (h : i < l.length) (h' : i < (enR l).length) : (enR l)[i] = l[i].entry := by simp [enR]
theorem equalRows_ok (a b : List Rw) (ha : a.length < 2 ^ 40) (hs : ∀ r ∈ a, r.entry.sm) : pureI Φ f_txn_equalRows [.slice 5 (a.map Rw.c), .slice 5 (b.map Rw.c)] = some (.val (.bool (decide (enR a = enR b)))) := by
  rw [pureI_go (fn := c_txn_equalRows) rfl rfl]
  by_cases q : a.length = b.length
  rotate_left
  · have : enR a ≠ enR b := fun h => q (by simpa using congrArg List.length h)
    simp [c_txn_equalRows, q, this]
  simp [c_txn_equalRows, q]
  refine (loop_nat a.length (fun i e h => look 1 e = some (.slice 5 (b.map Rw.c)) ∧ look 12 e = some (.slice 5 (a.map Rw.c)) ∧ look 13 e = some (.int .i64 a.length) ∧ look 14 e = some (.int .i64 i) ∧ ∃ objs N, Tail objs N ∧ h = ⟨objs, N⟩) (fun i => some (Rt.val (.bool (eqFrom (enR a) (enR b) i)))) ?_ ?_ 0 _ _ (Nat.zero_le _) ?_).trans (by simp [eqFrom])
  · rintro i e _ L hi hL ⟨h1, h12, h13, h14, objs, N, hN, rfl⟩ ih
    have hi2 : i < b.length := by omega
    have hw : IntKind.wrap .i64 ((i : Int) + 1) = ((i + 1 : Nat) : Int) := wrap64 (by omega) (by omega)
    have hNN := hN N (Nat.le_refl _)
    have hee := eEqual_ok a[i].entry b[i].entry (hs _ (List.getElem_mem hi))
    by_cases c : a[i].entry = b[i].entry
    · rw [decide_eq_true c] at hee
      simp only [Entry.ce] at hee
      rw [eqFrom_hit (by simpa using hi) (by simpa using hi2) (by rw [enR_get _ _ hi, enR_get _ _ hi2]; exact c)]
      simp [c_txn_equalRows_l0, Rw.ce, hi, hi2, h1, h12, h13, h14, hNN, hee, hw]
      exact ih _ _ ⟨by simp [h1], by simp [h12], by simp [h13], by simp, _, _, hN.app _, rfl⟩
    · rw [decide_eq_false c] at hee
      simp only [Entry.ce] at hee
      rw [eqFrom_miss (by simpa using hi) (by simpa using hi2) (by rw [enR_get _ _ hi, enR_get _ _ hi2]; exact c)]
      simp [c_txn_equalRows_l0, Rw.ce, hi, hi2, h1, h12, h13, h14, hNN, hee]
  · rintro e _ L hL ⟨h1, h12, h13, h14, objs, N, hN, rfl⟩
    have := eqFrom_end (l := enR a) (m := enR b) (by simpa using q)
    rw [enR_length] at this
    rw [this]
    simp [c_txn_equalRows_l0, c_txn_equalRows_k1, *]
  · simp [q]
    exact Tail.nil 0
theorem equalCalls_ok (x y : ActionCall) (h : x.args.length < 2 ^ 40) : pureI Φ f_txn_equalCalls [.agg (ActionCall.c x), .agg (ActionCall.c y)] = some (.val (.bool (decide (x = y)))) := by
  rw [pureI_go (fn := c_txn_equalCalls) rfl rfl]
  have hee := eEqual_ok ⟨[], 0, x⟩ ⟨[], 0, y⟩ ⟨by simp, h⟩
  have e : decide ((⟨[], 0, x⟩ : Entry) = ⟨[], 0, y⟩) = decide (x = y) := by simp
  rw [e] at hee
  simp only [Entry.ce, List.map_nil] at hee
  simp [c_txn_equalCalls, ActionCall.ce, hee]
theorem rEqualCalls_ok (x y : ActionCall) (h : x.args.length < 2 ^ 40) : pureI Φ f_ref23_EqualCalls [.agg (ActionCall.c x), .agg (ActionCall.c y)] = some (.val (.bool (decide (x = y)))) := by
  rw [decide_eq_decide.2 (ActionCall.eq_iff x y)]
  exact EqualCalls_ok x.action y.action x.args y.args h
theorem equalRegs_ok (l m : List (List Int)) (hb : l.length < 2 ^ 40) (hs : ∀ x ∈ l, x.length < 2 ^ 40) : pureI Φ f_txn_equalRegisters [.slice 1 (l.map (cS 1 c32)), .slice 1 (m.map (cS 1 c32))] = some (.val (.bool (decide (l = m)))) := by
  rw [pureI_go (fn := c_txn_equalRegisters) rfl rfl]
  by_cases q1 : l.length = m.length
  rotate_left
  · have : l ≠ m := fun h => q1 (by rw [h])
    simp [c_txn_equalRegisters, q1, this]
  simp [c_txn_equalRegisters, q1]
  refine (loop_nat0 l.length (fun i e => look 1 e = some (.slice 1 (m.map (cS 1 c32))) ∧ look 14 e = some (.slice 1 (l.map (cS 1 c32))) ∧ look 15 e = some (.int .i64 l.length) ∧ look 16 e = some (.int .i64 i))
    (fun i => some (Rt.val (AV.bool (eqFrom l m i)))) ?_ ?_ 0 _ (Nat.zero_le _) ?_).trans (by simp [eqFrom])
  · rintro i e L hi hL ⟨h1, h14, h15, h16⟩ ih
    have hi2 : i < m.length := by omega
    have hw : IntKind.wrap .i64 ((i : Int) + 1) = ((i + 1 : Nat) : Int) := wrap64 (by omega) (by omega)
    have c3 : ∀ x, c32 x = [.int .u32 x] := fun x => by simp [c32]
    have hsi := hs _ (List.getElem_mem hi)
    by_cases q : l[i].length = m[i].length
    rotate_left
    · rw [eqFrom_miss hi hi2 (fun h => q (by rw [h]))]
      simp [c_txn_equalRegisters_l2, cSe, hi, hi2, h1, h14, h15, h16, q]
    simp [c_txn_equalRegisters_l2, cSe, hi, hi2, h1, h14, h15, h16, q]
    refine (loop_nat0 l[i].length (fun k e => look 1 e = some (.slice 1 (m.map (cS 1 c32))) ∧ look 5 e = some (.int .i64 i) ∧ look 14 e = some (.slice 1 (l.map (cS 1 c32))) ∧ look 15 e = some (.int .i64 l.length) ∧ look 16 e = some (.int .i64 i) ∧
        look 29 e = some (.slice 1 (l[i].map c32)) ∧ look 30 e = some (.int .i64 l[i].length) ∧ look 31 e = some (.int .i64 k)) (fun k => some (Rt.val (AV.bool (if eqFrom l[i] m[i] k then eqFrom l m (i + 1) else false)))) ?_ ?_ 0 _ (Nat.zero_le _) ?_).trans ?_
    · rintro k e L' hk hL' ⟨h1, h5, h14, h15, h16, h29, h30, h31⟩ ih'
      have hk2 : k < m[i].length := by omega
      have hw : IntKind.wrap .i64 ((k : Int) + 1) = ((k + 1 : Nat) : Int) := wrap64 (by omega) (by omega)
      by_cases c : l[i][k] = m[i][k]
      · rw [eqFrom_hit hk hk2 c]
        simp [c_txn_equalRegisters_l0, c3, cSe, hi2, hk, hk2, h1, h5, h29, h30, h31, c, hw]
        refine (ih' _ ⟨by simp [h1], by simp [h5], by simp [h14], by simp [h15], by simp [h16], by simp [h29], by simp [h30], by simp⟩).trans (by simp)
      · rw [eqFrom_miss hk hk2 c]
        simp [c_txn_equalRegisters_l0, c3, cSe, hi2, hk, hk2, h1, h5, h29, h30, h31, c]
    · rintro e L' hL' ⟨h1, h5, h14, h15, h16, h29, h30, h31⟩
      rw [eqFrom_end q]
      simp [c_txn_equalRegisters_l0, c_txn_equalRegisters_k1, hL', h16, h30, h31, hw]
      exact ih _ ⟨by simp [h1], by simp [h14], by simp [h15], by simp⟩
    · simp [*]
    · by_cases c : l[i] = m[i]
      · rw [eqFrom_hit hi hi2 c]
        simp [eqFrom_zero, c]
      · rw [eqFrom_miss hi hi2 c]
        simp [eqFrom_zero, c]
  · rintro e L hL ⟨h1, h14, h15, h16⟩
    rw [eqFrom_end q1]
    simp [c_txn_equalRegisters_l2, c_txn_equalRegisters_k3, *]
  · simp [q1]
end Go.Av
