/-
  Lemmas for the law.
-/
import Derived.Test.YtgnlablpigoioaaGreatC1
set_option linter.unusedVariables false
set_option linter.unusedSimpArgs false
set_option linter.constructorNameAsVariable false
namespace Go.Av
set_option maxRecDepth 4000
theorem rCountByKind_ok (l : List TableOp) (hl : l.length ≤ 80) : pureI Φ f_ref30_CountByKind [.slice 9 (l.map TableOp.c)] = some (.val (.agg (cnts l))) := by
  rw [pureI_go (fn := c_ref30_CountByKind) rfl rfl]
  simp [c_ref30_CountByKind]
  refine loop_nat l.length (fun i e h => look 2 e = some (.ptr 0 5 0 0) ∧ look 3 e = some (.ptr 1 5 0 0) ∧ look 0 e = some (.slice 9 (l.map TableOp.c)) ∧ look 4 e = some (.int .i64 i) ∧
     h = ⟨[(0, AO.row 5 [cnts []]), (1, AO.row 5 [cnts (l.take i)])], 2⟩) (fun _ => _) ?_ ?_ 0 _ _ (Nat.zero_le _) ?_
  · rintro i e _ L hi hL ⟨h2, h3, h6, h8, rfl⟩ ih
    have hw : IntKind.wrap .i64 ((i : Int) + 1) = ((i + 1 : Nat) : Int) := wrap64 (by omega) (by omega)
    have hc := cnt_wrap hl hi
    have hs := cnt_succ hi
    rcases kd_cases l[i] with ⟨k1, k2⟩ | ⟨k1, k2⟩ | ⟨k1, k2⟩ | ⟨k1, k2⟩ | ⟨k1, k3, k4, k2⟩ | ⟨k1, k3, k4, k5, k2⟩
    all_goals
      simp [c_ref30_CountByKind_l0, TableOp.c, cnts, h2, h3, h6, h8, hi, hL, hw, hc, *]
  · rintro e _ L hL ⟨h2, h3, h6, h8, rfl⟩
    simp [c_ref30_CountByKind_l0, c_ref30_CountByKind_k1, cnts, *]
  · simp [cnts, cnt]
def smallE (x : Entry) : Bool := decide (x.keys.length ≤ 10) && decide (x.call.args.length ≤ 10)
theorem Small23_ok (x : Entry) : pureI Φ f_law23_Small [.agg (Entry.c x)] = some (.val (.bool (smallE x))) := by
  rw [pureI_go (fn := c_law23_Small) rfl rfl]
  by_cases h : x.keys.length ≤ 10 <;> simp [c_law23_Small, Entry.c, ActionCall.c, smallE, h]
def bigO (x : TableOp) : Bool := !smallE x.entry || decide (10 < x.call.args.length)
def smallOps (l : List TableOp) : Bool := decide (l.length ≤ 80) && !anyFrom l bigO 0
theorem SmallOps_ok (l : List TableOp) : pureI Φ f_law27_SmallOps [.slice 9 (l.map TableOp.c)] = some (.val (.bool (smallOps l))) := by
  rw [pureI_go (fn := c_law27_SmallOps) rfl rfl]
  by_cases q : l.length ≤ 80
  rotate_left
  · have : 80 < l.length := by omega
    simp [c_law27_SmallOps, smallOps, q, this]
  have q' : ¬ 80 < l.length := by omega
  simp [c_law27_SmallOps, smallOps, q, q']
  refine loop_nat0 l.length (fun i e => look 0 e = some (.slice 9 (l.map TableOp.c)) ∧ look 3 e = some (.int .i64 i)) (fun i => some (Rt.val (AV.bool (!anyFrom l bigO i)))) ?_ ?_ 0 _ (Nat.zero_le _) ?_
  · rintro i e L hi hL ⟨h0, h3⟩ ih
    have hw : IntKind.wrap .i64 ((i : Int) + 1) = ((i + 1 : Nat) : Int) := wrap64 (by omega) (by omega)
    have hsm := Small23_ok l[i].entry
    simp only [Entry.c, ActionCall.c, List.cons_append, List.nil_append] at hsm
    cases hb : bigO l[i] with
    | true =>
      rw [any_hit hi hb]
      unfold bigO at hb
      cases hq : smallE l[i].entry with
      | false =>
        rw [hq] at hsm
        simp [c_law27_SmallOps_l0, TableOp.c, h0, h3, hi, hL, hsm]
      | true =>
        rw [hq] at hb hsm
        simp at hb
        simp [c_law27_SmallOps_l0, TableOp.c, h0, h3, hi, hL, hsm, hb]
    | false =>
      rw [any_miss hi hb]
      unfold bigO at hb
      simp at hb
      rw [hb.1] at hsm
      have : ¬ 10 < l[i].call.args.length := by omega
      simp [c_law27_SmallOps_l0, TableOp.c, h0, h3, hi, hL, hsm, hw, this]
      exact ih _ ⟨by simp [h0, TableOp.c], by simp⟩
  · rintro e L hL ⟨h0, h3⟩
    rw [any_end]
    simp [c_law27_SmallOps_l0, c_law27_SmallOps_k1, *]
  · simp
end Go.Av
