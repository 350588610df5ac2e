/-
  Towards TxnInverse: txn.undo.
-/
import Derived.Test.YtjdbnnnakpacjaaGreatZ5
set_option linter.unusedVariables false
set_option linter.unusedSimpArgs false
set_option linter.constructorNameAsVariable false
namespace Go.Av
set_option maxRecDepth 4000
-- the undoing of an operation that succeeds; for the rest: the last row with its number
def noO (t : Int) : TableOp := ⟨0, t, 0, ⟨[], 0, ⟨0, []⟩⟩, ⟨0, []⟩⟩
theorem undo1_ok (c : Config) (o : TableOp) (id : Int) (h : o.kind = 1) : pureI Φ f_txn_undo [.agg (Config.c c), .agg (TableOp.c o), .int .i64 id] = some (.val (.agg (TableOp.c ⟨3, o.table, id, ⟨[], 0, ⟨0, []⟩⟩, ⟨0, []⟩⟩))) := by
  rw [pureI_go (fn := c_txn_undo) rfl rfl]
  simp [c_txn_undo, c_txn_undo_k1, Config.ce, TableOp.ce2, h]
theorem undo4_ok (c : Config) (o : TableOp) (id : Int) (h : o.kind = 4) {t : Nat} (ht : o.table = t) (hd : t < c.defaults.length) : pureI Φ f_txn_undo [.agg (Config.c c), .agg (TableOp.c o), .int .i64 id] = some (.val (.agg (TableOp.c ⟨4, o.table, 0, ⟨[], 0, ⟨0, []⟩⟩, c.defaults[t]⟩))) := by
  rw [pureI_go (fn := c_txn_undo) rfl rfl]
  simp [c_txn_undo, c_txn_undo_k1, Config.ce, TableOp.ce2, ActionCall.ce, h, ht, hd]
-- the row with the number, among rows with different numbers
def undoO (o : TableOp) (r : Rw) : TableOp := if o.kind = 2 then ⟨2, o.table, o.id, ⟨[], 0, ⟨0, []⟩⟩, r.entry.call⟩ else ⟨1, o.table, o.id, r.entry, ⟨0, []⟩⟩
def undoL (l : List Rw) (o : TableOp) : Option Rw := l.reverse.find? fun r => decide (r.id = o.id)
theorem undoL_snoc (l : List Rw) (r : Rw) (o : TableOp) : undoL (l ++ [r]) o = if r.id = o.id then some r else undoL l o := by
  unfold undoL
  rw [List.reverse_append, List.reverse_singleton, List.singleton_append, List.find?_cons]
  by_cases z : r.id = o.id <;> simp [z]
def undoC (o : TableOp) : Option Rw → List AV
  | none => [.int .i64 0, .int .i64 o.table, .int .i64 0, .fslice 2 [], .int .i64 0, .int .i64 0, .fslice 1 [], .int .i64 0, .fslice 1 []]
  | some r => [.int .i64 2, .int .i64 o.table, .int .i64 o.id, .fslice 2 [], .int .i64 0, .int .i64 0, .fslice 1 [], .int .i64 r.entry.call.action, .slice 1 (r.entry.call.args.map c32)]
theorem undo2_ok (c : Config) (o : TableOp) (id : Int) (h : o.kind = 2) {t : Nat} (ht : o.table = t) (hd : t < c.rows.length) (hl : c.rows[t].length < 2 ^ 40) : pureI Φ f_txn_undo [.agg (Config.c c), .agg (TableOp.c o), .int .i64 id] = some (.val (.agg (TableOp.c (match undoL c.rows[t] o with | some r => undoO o r | none => noO o.table)))) := by
  rw [pureI_go (fn := c_txn_undo) rfl rfl]
  generalize hR : (match undoL c.rows[t] o with | some r => undoO o r | none => noO o.table) = R
  simp [c_txn_undo, Config.ce, TableOp.ce2, h, ht, hd, cSe]
  refine loop_nat c.rows[t].length (fun i e hp => (∃ n, 4 ≤ n ∧ hp = ⟨[(0, .row 4 [Config.c c]), (1, .row 9 [TableOp.c o]), (2, .row 9 [undoC ⟨0, 0, 0, ⟨[], 0, ⟨0, []⟩⟩, ⟨0, []⟩⟩ none]), (3, .row 9 [undoC o (undoL (c.rows[t].take i) o)])], n⟩) ∧ look 4 e = some (.ptr 1 9 0 0) ∧ look 6 e = some (.ptr 2 9 0 0) ∧ look 7 e = some (.ptr 3 9 0 0) ∧ look 20 e = some (.slice 5 (c.rows[t].map Rw.c)) ∧ look 21 e = some (.int .i64 c.rows[t].length) ∧ look 22 e = some (.int .i64 i)) (fun _ => some (Rt.val (.agg (TableOp.c R)))) ?_ ?_ 0 _ _ (Nat.zero_le _) ?_
  · rintro i e _ L hi hL ⟨⟨n, hn, rfl⟩, h4, h6, h7, h20, h21, h22⟩ ih
    have hw : IntKind.wrap .i64 ((i : Int) + 1) = ((i + 1 : Nat) : Int) := wrap64 (by omega) (by omega)
    have g : ∀ k : Nat, k < 4 → ¬ k = n ∧ ¬ n = k := fun k hk => by omega
    have g0 := g 0 (by omega)
    have g1 := g 1 (by omega)
    have g2 := g 2 (by omega)
    have g3 := g 3 (by omega)
    have hs : undoL (c.rows[t].take (i + 1)) o = if c.rows[t][i].id = o.id then some c.rows[t][i] else undoL (c.rows[t].take i) o := by
      rw [List.take_succ_eq_append_getElem hi, undoL_snoc]
    by_cases z : c.rows[t][i].id = o.id
    · rw [if_pos z] at hs
      cases hu : undoL (c.rows[t].take i) o <;>
      · simp [c_txn_undo_l0, undoC, TableOp.ce2, Rw.ce, h4, h7, h20, h21, h22, hi, z, h, g0, g1, g2, g3, hw]
        refine ih _ _ ⟨⟨_, ?_, by rw [hs]; simp [undoC, TableOp.ce2, h]; rfl⟩, by simp [h4], by simp [h6], by simp [h7], by simp [h20], by simp [h21], by simp⟩
        omega
    · rw [if_neg z] at hs
      simp [c_txn_undo_l0, TableOp.ce2, Rw.ce, h4, h20, h21, h22, hi, z, h, g0, g1, g2, g3, hw]
      refine ih _ _ ⟨⟨_, ?_, by rw [hs]; simp [TableOp.ce2, h]; rfl⟩, by simp [h4], by simp [h6], by simp [h7], by simp [h20], by simp [h21], by simp⟩
      omega
  · rintro e _ L hL ⟨⟨n, hn, rfl⟩, h4, h6, h7, h20, h21, h22⟩
    rw [List.take_length]
    cases hu : undoL c.rows[t] o with
    | none =>
      rw [hu] at hR
      rw [← hR]
      simp [c_txn_undo_l0, c_txn_undo_k1, undoC, h6, h7, h21, h22, hL, noO, TableOp.ce2]
    | some r =>
      rw [hu] at hR
      rw [← hR]
      simp [c_txn_undo_l0, c_txn_undo_k1, undoC, h6, h7, h21, h22, hL, undoO, TableOp.ce2, h]
  · refine ⟨⟨4, by omega, ?_⟩, by simp, by simp, by simp, by simp, by simp, by simp⟩
    simp [undoL, undoC, Config.ce, TableOp.ce2, h, ht]
def undoC3 (o : TableOp) : Option Rw → List AV
  | none => [.int .i64 0, .int .i64 o.table, .int .i64 0, .fslice 2 [], .int .i64 0, .int .i64 0, .fslice 1 [], .int .i64 0, .fslice 1 []]
  | some r => [.int .i64 1, .int .i64 o.table, .int .i64 o.id, .slice 2 (r.entry.keys.map KeyMatch.c), .int .i64 r.entry.priority, .int .i64 r.entry.call.action, .slice 1 (r.entry.call.args.map c32), .int .i64 0, .fslice 1 []]
theorem undo3_ok (c : Config) (o : TableOp) (id : Int) (h : o.kind = 3) {t : Nat} (ht : o.table = t) (hd : t < c.rows.length) (hl : c.rows[t].length < 2 ^ 40) : pureI Φ f_txn_undo [.agg (Config.c c), .agg (TableOp.c o), .int .i64 id] = some (.val (.agg (TableOp.c (match undoL c.rows[t] o with | some r => undoO o r | none => noO o.table)))) := by
  rw [pureI_go (fn := c_txn_undo) rfl rfl]
  generalize hR : (match undoL c.rows[t] o with | some r => undoO o r | none => noO o.table) = R
  simp [c_txn_undo, Config.ce, TableOp.ce2, h, ht, hd, cSe]
  refine loop_nat c.rows[t].length (fun i e hp => (∃ n, 4 ≤ n ∧ hp = ⟨[(0, .row 4 [Config.c c]), (1, .row 9 [TableOp.c o]), (2, .row 9 [undoC3 ⟨0, 0, 0, ⟨[], 0, ⟨0, []⟩⟩, ⟨0, []⟩⟩ none]), (3, .row 9 [undoC3 o (undoL (c.rows[t].take i) o)])], n⟩) ∧ look 4 e = some (.ptr 1 9 0 0) ∧ look 6 e = some (.ptr 2 9 0 0) ∧ look 7 e = some (.ptr 3 9 0 0) ∧ look 20 e = some (.slice 5 (c.rows[t].map Rw.c)) ∧ look 21 e = some (.int .i64 c.rows[t].length) ∧ look 22 e = some (.int .i64 i)) (fun _ => some (Rt.val (.agg (TableOp.c R)))) ?_ ?_ 0 _ _ (Nat.zero_le _) ?_
  · rintro i e _ L hi hL ⟨⟨n, hn, rfl⟩, h4, h6, h7, h20, h21, h22⟩ ih
    have hw : IntKind.wrap .i64 ((i : Int) + 1) = ((i + 1 : Nat) : Int) := wrap64 (by omega) (by omega)
    have g : ∀ k : Nat, k < 4 → ¬ k = n ∧ ¬ n = k := fun k hk => by omega
    have g0 := g 0 (by omega)
    have g1 := g 1 (by omega)
    have g2 := g 2 (by omega)
    have g3 := g 3 (by omega)
    have hs : undoL (c.rows[t].take (i + 1)) o = if c.rows[t][i].id = o.id then some c.rows[t][i] else undoL (c.rows[t].take i) o := by
      rw [List.take_succ_eq_append_getElem hi, undoL_snoc]
    by_cases z : c.rows[t][i].id = o.id
    · rw [if_pos z] at hs
      cases hu : undoL (c.rows[t].take i) o <;>
      · simp [c_txn_undo_l0, undoC3, TableOp.ce2, Rw.ce, h4, h7, h20, h21, h22, hi, z, h, g0, g1, g2, g3, hw]
        refine ih _ _ ⟨⟨_, ?_, by rw [hs]; simp [undoC3, TableOp.ce2, h]; rfl⟩, by simp [h4], by simp [h6], by simp [h7], by simp [h20], by simp [h21], by simp⟩
        omega
    · rw [if_neg z] at hs
      simp [c_txn_undo_l0, TableOp.ce2, Rw.ce, h4, h20, h21, h22, hi, z, h, g0, g1, g2, g3, hw]
      refine ih _ _ ⟨⟨_, ?_, by rw [hs]; simp [TableOp.ce2, h]; rfl⟩, by simp [h4], by simp [h6], by simp [h7], by simp [h20], by simp [h21], by simp⟩
      omega
  · rintro e _ L hL ⟨⟨n, hn, rfl⟩, h4, h6, h7, h20, h21, h22⟩
    rw [List.take_length]
    cases hu : undoL c.rows[t] o with
    | none =>
      rw [hu] at hR
      rw [← hR]
      simp [c_txn_undo_l0, c_txn_undo_k1, undoC3, h6, h7, h21, h22, hL, noO, TableOp.ce2]
    | some r =>
      rw [hu] at hR
      rw [← hR]
      simp [c_txn_undo_l0, c_txn_undo_k1, undoC3, h6, h7, h21, h22, hL, undoO, TableOp.ce2, h]
  · refine ⟨⟨4, by omega, ?_⟩, by simp, by simp, by simp, by simp, by simp, by simp⟩
    simp [undoL, undoC3, Config.ce, TableOp.ce2, h, ht]
end Go.Av
