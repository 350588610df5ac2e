/-
  Lemmas for the law.
-/
import Derived.Test.YtjdbnnnakpacjaaGreatX6
set_option linter.unusedVariables false
set_option linter.unusedSimpArgs false
set_option linter.constructorNameAsVariable false
namespace Go.Av
set_option maxRecDepth 4000
def smallE (x : Entry) : Bool := decide (x.keys.length ≤ 10) && decide (x.call.args.length ≤ 10)
theorem Small23_ok (x : Entry) : pureI Φ f_law23_Small [.agg (Entry.c x)] = some (.val (.bool (smallE x))) := by
  rw [pureI_go (fn := c_law23_Small) rfl rfl]
  by_cases h : x.keys.length ≤ 10 <;> simp [c_law23_Small, Entry.c, smallE, h]
def bigO (x : TableOp) : Bool := !smallE x.entry || decide (10 < x.call.args.length)
def smallOps (l : List TableOp) : Bool := decide (l.length ≤ 80) && !anyFrom l bigO 0
theorem SmallOps_ok (l : List TableOp) : pureI Φ f_law27_SmallOps [.slice 9 (l.map TableOp.c)] = some (.val (.bool (smallOps l))) := by
  rw [pureI_go (fn := c_law27_SmallOps) rfl rfl]
  by_cases q : l.length ≤ 80
  rotate_left
  · have : 80 < l.length := by omega
    simp [c_law27_SmallOps, smallOps, q, this]
  have q' : ¬ 80 < l.length := by omega
  simp [c_law27_SmallOps, smallOps, q, q']
  refine loop_nat0 l.length (fun i e => look 0 e = some (.slice 9 (l.map TableOp.c)) ∧ look 3 e = some (.int .i64 i)) (fun i => some (Rt.val (AV.bool (!anyFrom l bigO i)))) ?_ ?_ 0 _ (Nat.zero_le _) ?_
  · rintro i e L hi hL ⟨h0, h3⟩ ih
    have hw : IntKind.wrap .i64 ((i : Int) + 1) = ((i + 1 : Nat) : Int) := wrap64 (by omega) (by omega)
    have hsm := Small23_ok l[i].entry
    simp only [Entry.c] at hsm
    cases hb : bigO l[i] with
    | true =>
      rw [any_hit hi hb]
      unfold bigO at hb
      cases hq : smallE l[i].entry with
      | false =>
        rw [hq] at hsm
        simp [c_law27_SmallOps_l0, TableOp.c, h0, h3, hi, hsm]
      | true =>
        rw [hq] at hb hsm
        simp at hb
        simp [c_law27_SmallOps_l0, TableOp.c, h0, h3, hi, hsm, hb]
    | false =>
      rw [any_miss hi hb]
      unfold bigO at hb
      simp at hb
      rw [hb.1] at hsm
      have : ¬ 10 < l[i].call.args.length := by omega
      simp [c_law27_SmallOps_l0, TableOp.c, h0, h3, hi, hsm, hw, this]
      exact ih _ ⟨by simp [h0], by simp⟩
  · rintro e L hL ⟨h0, h3⟩
    rw [any_end]
    simp [c_law27_SmallOps_l0, c_law27_SmallOps_k1, *]
  · simp
end Go.Av
