/-
  Expressions: the program's answers.
-/
import Derived.Test.YtjdbnnnakpacjaaGreatK6
set_option linter.unusedVariables false
set_option linter.unusedSimpArgs false
set_option linter.constructorNameAsVariable false
namespace Go.Av
set_option maxRecDepth 4000
theorem maskI_wrap (w : Int) : IntKind.wrap .i64 (maskI w) = maskI w := by
  unfold maskI
  cases h : wBad w with
  | true => rw [if_pos rfl]; decide
  | false =>
    obtain ⟨h1, h2⟩ := wBad_false.1 h
    obtain ⟨k, rfl⟩ : ∃ k : Nat, w = k := ⟨w.toNat, by omega⟩
    have : (2 : Int) ^ k ≤ 2 ^ 32 := by
      have := Nat.pow_le_pow_right (n := 2) (by omega) (show k ≤ 32 by omega)
      exact_mod_cast this
    have h0 : (0 : Int) < 2 ^ k := by
      have := Nat.pow_pos (a := 2) (n := k) (by omega)
      exact_mod_cast this
    simp
    exact wrap64 (by omega) (by omega)
theorem primary_ok (p : Prg) (ps : List Fld) (x : ExprNode) : pureI Φ f_expr_Scope_primary [.agg (scC p ps), .agg (ExprNode.c x)] = some (.val (.tup [.int .i64 (prim p ps x).1, .int .i64 (prim p ps x).2])) := by
  rw [pureI_go (fn := c_expr_Scope_primary) rfl rfl]
  by_cases o1 : x.op = 1
  · have hw := wide_ok x.w
    have hm := mask_ok x.w
    have hmw := maskI_wrap x.w
    cases q : wBad x.w with
    | true =>
      simp [wide, q] at hw
      simp [c_expr_Scope_primary, scC_e, ExprNode.e, o1, prim, hw, q]
    | false =>
      simp [wide, q] at hw
      by_cases n0 : x.n < 0
      · simp [c_expr_Scope_primary, scC_e, ExprNode.e, o1, prim, hw, q, n0]
      have e : maskI x.w = 2 ^ x.w.toNat - 1 := by simp [maskI, q]
      rw [e] at hm hmw
      by_cases n1 : 2 ^ x.w.toNat - 1 < x.n
      · simp [c_expr_Scope_primary, scC_e, ExprNode.e, o1, prim, hw, hm, hmw, q, n0, n1]
      · simp [c_expr_Scope_primary, scC_e, ExprNode.e, o1, prim, hw, hm, hmw, q, n0, n1]
  by_cases o2 : x.op = 2
  · have hf := field_ok p ps x.n x.w
    simp only [scC_e] at hf
    cases q : fieldO p x.n x.w with
    | none =>
      rw [q] at hf
      simp [c_expr_Scope_primary, scC_e, ExprNode.e, o2, prim, hf, decl_eq, q]
    | some f =>
      rw [q] at hf
      simp only [Fld.e] at hf
      have hw := wide_ok f.width
      simp [c_expr_Scope_primary, scC_e, ExprNode.e, o2, prim, hf, hw, decl_eq, q]
  by_cases o3 : x.op = 3
  · by_cases n0 : x.n < 0
    · simp [c_expr_Scope_primary, scC_e, ExprNode.e, o3, prim, n0, at_neg n0]
    by_cases n1 : (ps.length : Int) ≤ x.n
    · simp [c_expr_Scope_primary, scC_e, ExprNode.e, o3, prim, n0, n1, at_big n1]
    obtain ⟨k, hk⟩ : ∃ k : Nat, x.n = k := ⟨x.n.toNat, by omega⟩
    have hk2 : k < ps.length := by omega
    have hw := wide_ok ps[k].width
    simp [c_expr_Scope_primary, scC_e, ExprNode.e, Fld.e, o3, prim, hk, hk2, Nat.not_le.2 hk2, hw]
  by_cases n0 : x.n < 0
  · simp [c_expr_Scope_primary, scC_e, ExprNode.e, o1, o2, o3, prim, n0, at_neg n0]
  by_cases n1 : (p.headers.length : Int) ≤ x.n
  · simp [c_expr_Scope_primary, scC_e, ExprNode.e, o1, o2, o3, prim, n0, n1, at_big n1]
  obtain ⟨k, hk⟩ : ∃ k : Nat, x.n = k := ⟨x.n.toNat, by omega⟩
  have hk2 : k < p.headers.length := by omega
  simp [c_expr_Scope_primary, scC_e, ExprNode.e, o1, o2, o3, prim, hk, hk2, Nat.not_le.2 hk2]
theorem combine_ok (x : ExprNode) (a b c : Int) (ha : 0 ≤ a ∧ a ≤ 32) (hb : 0 ≤ b ∧ b ≤ 32) : pureI Φ f_expr_combine [.agg (ExprNode.c x), .agg [.int .i64 a, .int .i64 b, .int .i64 c]] = some (.val (.tup [.int .i64 (comb x a b c).1, .int .i64 (comb x a b c).2])) := by
  rw [pureI_go (fn := c_expr_combine) rfl rfl]
  have hA := arity_ok x.op
  have hw := wide_ok x.w
  have hab : IntKind.wrap .i64 (a + b) = a + b := wrap64 (by omega) (by omega)
  have hw2 := wide_ok (a + b)
  by_cases o6 : x.op = 6
  · rw [show ari x.op = 1 by simp [o6, ari]] at hA
    rw [o6] at hA
    by_cases n0 : x.n < 0
    · simp [c_expr_combine, ExprNode.e, o6, comb, n0]
    by_cases n1 : 31 < x.n
    · simp [c_expr_combine, ExprNode.e, o6, comb, n0, n1]
    simp [c_expr_combine, ExprNode.e, o6, comb, n0, n1, hA]
  by_cases o7 : x.op = 7
  · rw [show ari x.op = 1 by simp [o7, ari]] at hA
    rw [o7] at hA
    by_cases n0 : x.n < 0
    · simp [c_expr_combine, ExprNode.e, o7, comb, n0]
    by_cases n1 : 31 < x.n
    · simp [c_expr_combine, ExprNode.e, o7, comb, n0, n1]
    simp [c_expr_combine, ExprNode.e, o7, comb, n0, n1, hA]
  by_cases o8 : x.op = 8
  · by_cases n0 : x.n < 0
    · simp [c_expr_combine, ExprNode.e, o8, comb, n0]
    cases q : wBad x.w with
    | true =>
      simp [wide, q] at hw
      simp [c_expr_combine, ExprNode.e, o8, comb, n0, q, hw]
    | false =>
      simp [wide, q] at hw
      obtain ⟨w1, w2⟩ := wBad_false.1 q
      have hs : IntKind.wrap .i64 (a - x.w) = a - x.w := wrap64 (by omega) (by omega)
      by_cases n1 : a - x.w < x.n
      · simp [c_expr_combine, ExprNode.e, o8, comb, n0, q, hw, hs, n1]
      · simp [c_expr_combine, ExprNode.e, o8, comb, n0, q, hw, hs, n1]
  by_cases o14 : x.op = 14
  · simp [c_expr_combine, ExprNode.e, o14, comb, hab, hw2]
  by_cases o17 : x.op = 17
  · by_cases a1 : a = 1
    · by_cases bc : b = c
      · simp [c_expr_combine, ExprNode.e, o17, comb, a1, bc]
      · simp [c_expr_combine, ExprNode.e, o17, comb, a1, bc]
    · simp [c_expr_combine, ExprNode.e, o17, comb, a1]
  by_cases r2 : ari x.op = 2
  · rw [r2] at hA
    by_cases ab : a = b
    · by_cases o15 : x.op = 15
      · rw [o15] at hA; simp [c_expr_combine, ExprNode.e, o15, comb, ab, hA]
      by_cases o16 : x.op = 16
      · rw [o16] at hA; simp [c_expr_combine, ExprNode.e, o16, comb, ab, hA]
      simp [c_expr_combine, ExprNode.e, o6, o7, o8, o14, o15, o16, o17, comb, r2, ab, hA]
    · simp [c_expr_combine, ExprNode.e, o6, o7, o8, o14, o17, comb, r2, ab, hA]
  · have o15 : ¬ x.op = 15 := by intro h; apply r2; simp [h, ari]
    have o16 : ¬ x.op = 16 := by intro h; apply r2; simp [h, ari]
    simp [c_expr_combine, ExprNode.e, o6, o7, o8, o14, o15, o16, o17, comb, r2, hA]
end Go.Av
