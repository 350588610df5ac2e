/-
  The check of an expression: the program's answer.
-/
import Derived.Test.YtjdbnnnakpacjaaGreatK7
set_option linter.unusedVariables false
set_option linter.unusedSimpArgs false
set_option linter.constructorNameAsVariable false
namespace Go.Av
set_option maxRecDepth 4000
def chkR (r : Except Int (Int × Nat)) (x : Option Rt) : Prop := match r with
  | .error e => e ≠ 0 ∧ ∃ a b, x = some (.val (.tup [.int .i64 a, .int .i64 b, .int .i64 e]))
  | .ok (w, j) => x = some (.val (.tup [.int .i64 w, .int .i64 j, .int .i64 0]))
theorem wide_range {w : Int} (h : (wide w).2 = 0) : 1 ≤ (wide w).1 ∧ (wide w).1 ≤ 32 := by
  unfold wide at h ⊢
  cases q : wBad w with
  | true => rw [q] at h; simp at h
  | false => simp; exact wBad_false.1 q
theorem prim_range {p : Prg} {ps : List Fld} {x : ExprNode} (h : (prim p ps x).2 = 0) : 1 ≤ (prim p ps x).1 ∧ (prim p ps x).1 ≤ 32 := by
  unfold prim at h ⊢
  by_cases o1 : x.op = 1
  · simp only [o1, if_true] at h ⊢
    cases q : wBad x.w with
    | true => rw [q] at h; simp at h
    | false =>
      rw [q] at h
      by_cases r : x.n < 0 ∨ 2 ^ x.w.toNat - 1 < x.n
      · simp [r] at h
      · simp [r]; exact wBad_false.1 q
  by_cases o2 : x.op = 2
  · simp only [o2, if_true] at h ⊢
    cases q : decl p x.n x.w with
    | none => rw [q] at h; simp at h
    | some w => rw [q] at h; exact wide_range h
  by_cases o3 : x.op = 3
  · simp only [o3, if_true] at h ⊢
    cases q : at? ps x.n with
    | none => rw [q] at h; simp at h
    | some f => rw [q] at h; exact wide_range h
  simp only [o1, o2, o3, if_false] at h ⊢
  cases q : (at? p.headers x.n).isSome with
  | true => simp
  | false => rw [q] at h; simp at h
theorem comb_range {x : ExprNode} {a b c : Int} (ha : 1 ≤ a ∧ a ≤ 32) (hb : ari x.op = 3 ∨ x.op = 14 → 1 ≤ b ∧ b ≤ 32) (h : (comb x a b c).2 = 0) : 1 ≤ (comb x a b c).1 ∧ (comb x a b c).1 ≤ 32 := by
  unfold comb at h ⊢
  by_cases o6 : x.op = 6 ∨ x.op = 7
  · simp only [if_pos o6] at h ⊢
    by_cases r : x.n < 0 ∨ 31 < x.n
    · simp [r] at h
    · simpa [r] using ha
  simp only [if_neg o6] at h ⊢
  by_cases o8 : x.op = 8
  · simp only [if_pos o8] at h ⊢
    by_cases r : x.n < 0
    · simp [r] at h
    simp only [if_neg r] at h ⊢
    by_cases r2 : wBad x.w ∨ a - x.w < x.n
    · simp [r2] at h
    · simp only [if_neg r2]
      have : wBad x.w = false := by
        cases q : wBad x.w with
        | true => exact absurd (.inl q) r2
        | false => rfl
      exact wBad_false.1 this
  simp only [if_neg o8] at h ⊢
  by_cases o14 : x.op = 14
  · simp only [if_pos o14] at h ⊢; exact wide_range h
  simp only [if_neg o14] at h ⊢
  by_cases o17 : x.op = 17
  · simp only [if_pos o17] at h ⊢
    by_cases r : a ≠ 1 ∨ b ≠ c
    · simp [r] at h
    · simp only [if_neg r]; exact hb (.inl (by simp [o17, ari]))
  simp only [if_neg o17] at h ⊢
  by_cases r : ari x.op = 2 ∧ a ≠ b
  · rw [if_pos r] at h; simp at h
  simp only [if_neg r] at h ⊢
  by_cases r2 : x.op = 15 ∨ x.op = 16
  · simp [r2]
  · simpa [r2] using ha
theorem chk_range {p : Prg} {ps : List Fld} {l : List ExprNode} : ∀ {n i w j}, chk p ps l n i = .ok (w, j) → (1 ≤ w ∧ w ≤ 32) ∧ i < j ∧ j ≤ l.length
  | 0, i, w, j, h => by simp [chk] at h
  | n + 1, i, w, j, h => by
    simp only [chk] at h
    cases hx : l[i]? with
    | none => rw [hx] at h; simp at h
    | some x =>
      have hi : i < l.length := by
        obtain ⟨hi, _⟩ := List.getElem?_eq_some_iff.1 hx
        exact hi
      rw [hx] at h
      simp only at h
      split at h
      · cases h
      split at h
      · split at h
        · rename_i hp
          cases h
          exact ⟨prim_range hp, by omega, by omega⟩
        · cases h
      split at h
      · cases h
      · rename_i a i1 h1
        obtain ⟨ra, r1, r2⟩ := chk_range h1
        split at h
        · rename_i hk
          split at h
          · rename_i hc
            cases h
            refine ⟨comb_range ra ?_ hc, by omega, r2⟩
            intro hh
            rcases hh with hh | hh
            · omega
            · rw [hh] at hk; simp [ari] at hk
          · cases h
        split at h
        · cases h
        · rename_i b i2 h2
          obtain ⟨rb, s1, s2⟩ := chk_range h2
          split at h
          · split at h
            · rename_i hc
              cases h
              exact ⟨comb_range ra (fun _ => rb) hc, by omega, s2⟩
            · cases h
          split at h
          · cases h
          · rename_i c i3 h3
            obtain ⟨_, t1, t2⟩ := chk_range h3
            split at h
            · rename_i hc
              cases h
              exact ⟨comb_range ra (fun _ => rb) hc, by omega, t2⟩
            · cases h
theorem chkR_end (w e : Int) (j : Nat) : chkR (if e = 0 then .ok (w, j) else .error e) (some (.val (.tup [.int .i64 w, .int .i64 j, .int .i64 e]))) := by
  by_cases z : e = 0
  · subst z; simp [chkR]
  · simp [chkR, z]
theorem ari_cases (op : Int) : ari op = -1 ∨ ari op = 0 ∨ ari op = 1 ∨ ari op = 2 ∨ ari op = 3 := by
  unfold ari
  split
  · exact .inr (.inl rfl)
  split
  · exact .inr (.inr (.inl rfl))
  split
  · exact .inr (.inr (.inr (.inl rfl)))
  split
  · exact .inr (.inr (.inr (.inr rfl)))
  · exact .inl rfl
theorem echeck_ok (p : Prg) (ps : List Fld) (l : List ExprNode) (hl : l.length < 2 ^ 40) : ∀ n i, l.length - i < n → i ≤ l.length → chkR (chk p ps l n i) (pureI Φ f_expr_Scope_check [.agg (scC p ps), .slice 3 (l.map ExprNode.c), .int .i64 (i : Nat)])
  | 0, i, h, hle => by omega
  | n + 1, i, h, hle => by
    rw [pureI_go (fn := c_expr_Scope_check) rfl rfl]
    by_cases hi : i < l.length
    rotate_left
    · have : i = l.length := by omega
      subst this
      simp [chk, chkR, c_expr_Scope_check, scC_e]
    have ih1 := echeck_ok p ps l hl n (i + 1) (by omega) (by omega)
    have hA := arity_ok l[i].op
    have hP := primary_ok p ps l[i]
    have hw : IntKind.wrap .i64 ((i : Int) + 1) = (i : Int) + 1 := wrap64 (by omega) (by omega)
    have e1 : ((i + 1 : Nat) : Int) = (i : Int) + 1 := by omega
    rw [e1] at ih1
    simp only [scC_e, ExprNode.e] at ih1 hP
    simp only [chk, List.getElem?_eq_getElem hi]
    rcases ari_cases l[i].op with k | k | k | k | k
    · rw [k] at hA
      simp [chkR, c_expr_Scope_check, scC_e, ExprNode.e, hi, Nat.not_le.2 hi, hA, k]
    · rw [k] at hA
      by_cases z : (prim p ps l[i]).2 = 0
      · rw [z] at hP
        simp [chkR, c_expr_Scope_check, scC_e, ExprNode.e, hi, Nat.not_le.2 hi, hA, k, hP, z, hw]
      · simp [chkR, c_expr_Scope_check, scC_e, ExprNode.e, hi, Nat.not_le.2 hi, hA, k, hP, z, hw]
    · rw [k] at hA
      simp [c_expr_Scope_check, scC_e, ExprNode.e, hi, Nat.not_le.2 hi, hA, k, hw]
      rw [go_loop]
      cases h1 : chk p ps l n (i + 1) with
      | error e =>
        rw [h1] at ih1
        obtain ⟨he, a, b, hc⟩ := ih1
        simp [c_expr_Scope_check_l0, chkR, hc, he]
      | ok q =>
        obtain ⟨a, i1⟩ := q
        rw [h1] at ih1
        obtain ⟨ra, r1, r2⟩ := chk_range h1
        have hC := combine_ok l[i] a 0 0 (by omega) (by omega)
        simp only [ExprNode.e] at hC
        simp only [chkR] at ih1
        simp [c_expr_Scope_check_l0, ih1]
        rw [go_loop]
        simp [wr1, c_expr_Scope_check_k1, hi, ExprNode.e, hC]
        exact chkR_end _ _ _
    · rw [k] at hA
      simp [c_expr_Scope_check, scC_e, ExprNode.e, hi, Nat.not_le.2 hi, hA, k, hw]
      rw [go_loop]
      cases h1 : chk p ps l n (i + 1) with
      | error e =>
        rw [h1] at ih1
        obtain ⟨he, a, b, hc⟩ := ih1
        simp [c_expr_Scope_check_l0, chkR, hc, he]
      | ok q =>
        obtain ⟨a, i1⟩ := q
        rw [h1] at ih1
        obtain ⟨ra, r1, r2⟩ := chk_range h1
        simp only [chkR] at ih1
        simp [c_expr_Scope_check_l0, ih1]
        rw [go_loop]
        have ih2 := echeck_ok p ps l hl n i1 (by omega) (by omega)
        simp only [scC_e] at ih2
        cases h2 : chk p ps l n i1 with
        | error e =>
          rw [h2] at ih2
          obtain ⟨he, x, y, hc⟩ := ih2
          simp [chkR, hc, he, wr1]
        | ok q =>
          obtain ⟨b, i2⟩ := q
          rw [h2] at ih2
          obtain ⟨rb, s1, s2⟩ := chk_range h2
          simp only [chkR] at ih2
          have hC := combine_ok l[i] a b 0 (by omega) (by omega)
          simp only [ExprNode.e] at hC
          simp [ih2, wr1]
          rw [go_loop]
          simp [wr2, c_expr_Scope_check_k1, hi, ExprNode.e, hC]
          exact chkR_end _ _ _
    · rw [k] at hA
      simp [c_expr_Scope_check, scC_e, ExprNode.e, hi, Nat.not_le.2 hi, hA, k, hw]
      rw [go_loop]
      cases h1 : chk p ps l n (i + 1) with
      | error e =>
        rw [h1] at ih1
        obtain ⟨he, a, b, hc⟩ := ih1
        simp [c_expr_Scope_check_l0, chkR, hc, he]
      | ok q =>
        obtain ⟨a, i1⟩ := q
        rw [h1] at ih1
        obtain ⟨ra, r1, r2⟩ := chk_range h1
        simp only [chkR] at ih1
        simp [c_expr_Scope_check_l0, ih1]
        rw [go_loop]
        have ih2 := echeck_ok p ps l hl n i1 (by omega) (by omega)
        simp only [scC_e] at ih2
        cases h2 : chk p ps l n i1 with
        | error e =>
          rw [h2] at ih2
          obtain ⟨he, x, y, hc⟩ := ih2
          simp [chkR, hc, he, wr1]
        | ok q =>
          obtain ⟨b, i2⟩ := q
          rw [h2] at ih2
          obtain ⟨rb, s1, s2⟩ := chk_range h2
          simp only [chkR] at ih2
          simp [ih2, wr1]
          rw [go_loop]
          have ih3 := echeck_ok p ps l hl n i2 (by omega) (by omega)
          simp only [scC_e] at ih3
          cases h3 : chk p ps l n i2 with
          | error e =>
            rw [h3] at ih3
            obtain ⟨he, x, y, hc⟩ := ih3
            simp [chkR, hc, he, wr2]
          | ok q =>
            obtain ⟨c, i3⟩ := q
            rw [h3] at ih3
            simp only [chkR] at ih3
            have hC := combine_ok l[i] a b c (by omega) (by omega)
            simp only [ExprNode.e] at hC
            simp [ih3, wr2]
            rw [go_loop]
            simp [wr3, c_expr_Scope_check_k1, hi, ExprNode.e, hC]
            exact chkR_end _ _ _
theorem exE_ok (p : Prg) (ps : List Fld) (l : List ExprNode) : pureI Φ f_expr_Check [.slice 3 (l.map ExprNode.c), .agg (scC p ps)] = some (.val (.tup [.int .i64 (exE p ps l).1, .int .i64 (exE p ps l).2])) := by
  rw [pureI_go (fn := c_expr_Check) rfl rfl]
  by_cases h : 24 < l.length
  · simp [c_expr_Check, scC_e, h, exE]
  have hc := echeck_ok p ps l (by omega) (l.length + 1) 0 (by omega) (by omega)
  simp only [scC_e, Int.ofNat_zero] at hc
  cases q : chk p ps l (l.length + 1) 0 with
  | error e =>
    rw [q] at hc
    obtain ⟨he, a, b, hc⟩ := hc
    simp [c_expr_Check, scC_e, h, exE, q, hc, he]
  | ok r =>
    obtain ⟨w, j⟩ := r
    rw [q] at hc
    simp only [chkR] at hc
    by_cases hj : j < l.length
    · simp [c_expr_Check, scC_e, h, exE, q, hc, hj]
    · simp [c_expr_Check, scC_e, h, exE, q, hc, hj]
end Go.Av
