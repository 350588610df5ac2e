/-
  Towards TxnInverse: txn.undo of an operation that succeeds.
-/
import Derived.Test.YtjdbnnnakpacjaaGreatZ7
set_option linter.unusedVariables false
set_option linter.unusedSimpArgs false
set_option linter.constructorNameAsVariable false
namespace Go.Av
theorem undoL_find (o : TableOp) : ∀ {l : List Rw}, (l.Pairwise fun a b => a.id < b.id) → undoL l o = l.find? fun r => decide (r.id = o.id)
  | [], _ => rfl
  | a :: l, h => by
    rw [List.pairwise_cons] at h
    have ih := undoL_find o h.2
    have e1 : undoL (a :: l) o = (undoL l o).or (if a.id = o.id then some a else none) := by
      unfold undoL
      rw [List.reverse_cons, List.find?_append]
      by_cases z : a.id = o.id <;> simp [z]
    rw [e1, ih, List.find?_cons]
    by_cases z : a.id = o.id
    · have hn : (l.find? fun r => decide (r.id = o.id)) = none := by
        rw [List.find?_eq_none]
        intro x hx
        have := h.1 x hx
        simp only [decide_eq_true_eq]
        omega
      rw [hn]; simp [z]
    · simp [z]
theorem undo_ok {p : Prg} {c : Config} (v : CfgV p c) (s : CfgT c) {o : TableOp} (hx : xoE p c o = 0) (id : Int) :
    pureI Φ f_txn_undo [.agg (Config.c c), .agg (TableOp.c o), .int .i64 id] = some (.val (.agg (TableOp.c (undF c o id)))) := by
  obtain ⟨hi, hk⟩ := xo_inT hx
  obtain ⟨k, hk1, hl⟩ := inT_iff hi
  have hd : k < c.defaults.length := by rw [v.dl]; exact hl
  have hr : k < c.rows.length := by rw [v.rl]; exact hl
  have row : o.kind = 2 ∨ o.kind = 3 → ∃ r, undoL c.rows[k] o = some r ∧ etyF (rowsAt c o.table) o.id = r.entry := fun hk => by
    obtain ⟨_, hn⟩ := xo_row hx hk
    rw [undoL_find o (v.at hl).inc]
    rw [hk1, rowsAt_nat hr] at hn
    rw [hk1, rowsAt_nat hr]
    obtain ⟨r, hr1, hr2, hr3⟩ := etyF_mem hn
    cases hf : c.rows[k].find? fun r => decide (r.id = o.id) with
    | none => exact absurd (List.find?_eq_none.1 hf r hr1) (by simpa using hr2)
    | some r' => exact ⟨r', rfl, by unfold etyF; rw [hf]⟩
  rcases hk with z | z | z | z
  · rw [undo1_ok c o id z]; simp [undF, z, noE, noCl]
  · obtain ⟨r, h1, h2⟩ := row (.inl z)
    rw [undo2_ok c o id z hk1 hr (s.rs c.rows[k] (List.getElem_mem hr)).1, h1]
    simp [undF, z, undoO, h2, noE]
  · obtain ⟨r, h1, h2⟩ := row (.inr z)
    rw [undo3_ok c o id z hk1 hr (s.rs c.rows[k] (List.getElem_mem hr)).1, h1]
    simp [undF, z, undoO, h2, noCl]
  · rw [undo4_ok c o id z hk1 hd]
    simp [undF, z, defAt, hk1, at_nat, List.getElem?_eq_getElem hd, noE, noCl]
end Go.Av
