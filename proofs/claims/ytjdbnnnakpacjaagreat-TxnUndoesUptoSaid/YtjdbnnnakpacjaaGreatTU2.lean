/-
  What txn.Inverse answers (towards TxnUndoes).
-/
import Derived.Test.YtjdbnnnakpacjaaGreatTU1
import Derived.Test.YtjdbnnnakpacjaaGreatI1
set_option linter.unusedVariables false
set_option linter.unusedSimpArgs false
set_option linter.constructorNameAsVariable false
namespace Go.Av
def hasDel (l : List TableOp) : Bool := l.any fun o => decide (o.kind = 3)
theorem undo_cases {p : Prg} {c : Config} {l : List TableOp} (h : badA p c l = none) : (invA p c l (invP p c l) = .tup [.slice 9 ((invP p c l).map TableOp.c), .int .i64 0] ∧ badA p (xoF p c l) (invP p c l) = none ∧ equiv (xoF p (xoF p c l) (invP p c l)) c = true) ∨ (invA p c l (invP p c l) = .tup [.slice 9 [], .int .i64 14] ∧ hasDel l = true) := by
  cases hd : hasDel l with
  | false =>
    refine .inl (inverse_of h fun o ho hk => ?_)
    have := List.any_eq_false.1 hd o ho
    simp [hk] at this
  | true =>
    have hA : invA p c l (invP p c l) = invT p c l (invP p c l) := by unfold invA; rw [h]
    rw [hA]
    unfold invT
    rw [cfgN_len]
    cases hb : badA p (xoF p c l) (invP p c l) with
    | some x => exact .inr ⟨rfl, rfl⟩
    | none =>
      simp only
      rw [cfgN_len]
      by_cases q : equiv (xoF p (xoF p c l) (invP p c l)) c = true
      · rw [if_pos q]; exact .inl ⟨rfl, trivial, q⟩
      · rw [if_neg q]; exact .inr ⟨rfl, trivial⟩
theorem inv_bad {p : Prg} {c : Config} {l out : List TableOp} {k e : Int} (h : badA p c l = some (k, e)) : invA p c l out = .tup [.slice 9 [], .int .i64 e] := by unfold invA; rw [h]
-- what is handed to the second Apply is small
theorem invP_s {p : Prg} {c : Config} (s : CfgT c) (hp : p.tables.length < 2 ^ 40) {l : List TableOp} (hl : ∀ o ∈ l, OpS o) (h : badA p c l = none) : ∀ o ∈ invP p c l, OpS o := by
  obtain ⟨v, _, hb⟩ := badA_none h
  have hU := undos_s v s hp hl hb
  exact bkP_ops p _ _ _ fun u hu => hU u (by simpa using hu)
end Go.Av
