/-
  Expressions: the reference's answers.
-/
import Derived.Test.YtjdbnnnakpacjaaGreatL2
set_option linter.unusedVariables false
set_option linter.unusedSimpArgs false
set_option linter.constructorNameAsVariable false
namespace Go.Av
set_option maxRecDepth 4000
theorem declared_ok (p : Prg) (h i : Int) : pureI Φ f_ref13_Declared [.agg (Prg.c p), .agg [.int .i64 h, .int .i64 i]] = some (.val (match decl p h i with
    | some w => .tup [.int .i64 w, .bool true]
    | none => .tup [.int .i64 0, .bool false])) := by
  rw [pureI_go (fn := c_ref13_Declared) rfl rfl, decl_eq]
  by_cases hm : h = -1
  · subst hm
    by_cases i0 : i < 0
    · rw [show fieldO p (-1) i = none by simp [fieldO, at_neg i0]]
      simp [c_ref13_Declared, Prg.e, i0]
    by_cases i1 : (p.metadata.length : Int) ≤ i
    · rw [show fieldO p (-1) i = none by simp [fieldO, at_big i1]]
      simp [c_ref13_Declared, Prg.e, i0, i1]
    obtain ⟨k, rfl⟩ : ∃ k : Nat, i = k := ⟨i.toNat, by omega⟩
    have hk : k < p.metadata.length := by omega
    rw [show fieldO p (-1) k = some p.metadata[k] by simp [fieldO, hk]]
    simp [c_ref13_Declared, Prg.e, i0, i1, hk, Fld.e]
  by_cases h0 : h < 0
  · rw [show fieldO p h i = none by simp [fieldO, hm, at_neg h0]]
    simp [c_ref13_Declared, Prg.e, hm, h0]
  by_cases h1 : (p.headers.length : Int) ≤ h
  · rw [show fieldO p h i = none by simp [fieldO, hm, at_big h1]]
    simp [c_ref13_Declared, Prg.e, hm, h0, h1]
  obtain ⟨m, rfl⟩ : ∃ k : Nat, h = k := ⟨h.toNat, by omega⟩
  have hk : m < p.headers.length := by omega
  by_cases i0 : i < 0
  · rw [show fieldO p m i = none by simp [fieldO, hm, hk, at_neg i0]]
    simp [c_ref13_Declared, Prg.e, hm, hk, Nat.not_le.2 hk, i0, Header.e]
  by_cases i1 : (p.headers[m].fields.length : Int) ≤ i
  · rw [show fieldO p m i = none by simp [fieldO, hm, hk, at_big i1]]
    simp [c_ref13_Declared, Prg.e, hm, hk, Nat.not_le.2 hk, i0, i1, Header.e]
  obtain ⟨k, rfl⟩ : ∃ k : Nat, i = k := ⟨i.toNat, by omega⟩
  have hk2 : k < p.headers[m].fields.length := by omega
  rw [show fieldO p m k = some p.headers[m].fields[k] by simp [fieldO, hm, hk, hk2]]
  simp [c_ref13_Declared, Prg.e, hm, hk, Nat.not_le.2 hk, hk2, Nat.not_le.2 hk2, Header.e, Fld.e]
theorem rwide_ok (w : Int) : pureI Φ f_ref13_wide [.int .i64 w] = some (.val (.tup [.int .i64 (wide w).1, .int .i64 (wide w).2])) := by
  rw [pureI_go (fn := c_ref13_wide) rfl rfl]
  by_cases h1 : w < 1
  · simp [c_ref13_wide, wide, wBad, h1]
  by_cases h2 : 32 < w
  · simp [c_ref13_wide, wide, wBad, h1, h2]
  simp [c_ref13_wide, wide, wBad, h1, h2]
theorem rmask_ok (w : Int) : pureI Φ f_ref01_Mask [.int .i64 w] = some (.val (.int .u32 (maskI w))) := by
  rw [pureI_go (fn := c_ref01_Mask) rfl rfl]
  have h1 := rvalid_ok w
  cases q : wBad w with
  | true =>
    rw [q] at h1
    simp [c_ref01_Mask, h1, maskI, q]
  | false =>
    rw [q] at h1
    obtain ⟨w1, w2⟩ := wBad_false.1 q
    obtain ⟨k, rfl⟩ : ∃ k : Nat, w = k := ⟨w.toNat, by omega⟩
    have h2 := power_ok k (by omega)
    have hb : (2 : Int) ^ k ≤ 2 ^ 32 := by
      have := Nat.pow_le_pow_right (n := 2) (by omega) (show k ≤ 32 by omega)
      exact_mod_cast this
    have h0 : (0 : Int) < 2 ^ k := by
      have := Nat.pow_pos (a := 2) (n := k) (by omega)
      exact_mod_cast this
    have c1 : IntKind.wrap .u64 ((2 : Int) ^ k - 1) = 2 ^ k - 1 := wrapU64 (by omega) (by omega)
    have c2 : IntKind.wrap .u32 ((2 : Int) ^ k - 1) = 2 ^ k - 1 := wrap32 (by omega) (by omega)
    simp [c_ref01_Mask, h1, h2, c1, c2, maskI, q]
theorem leaf_ok (p : Prg) (ps : List Fld) (x : ExprNode) : pureI Φ f_ref13_leaf [.agg (ExprNode.c x), .agg (scC p ps)] = some (.val (.tup [.int .i64 (prim p ps x).1, .int .i64 (prim p ps x).2])) := by
  rw [pureI_go (fn := c_ref13_leaf) rfl rfl]
  by_cases o1 : x.op = 1
  · have hw := rwide_ok x.w
    have hm := rmask_ok x.w
    have hmw := maskI_wrap x.w
    cases q : wBad x.w with
    | true =>
      simp [wide, q] at hw
      simp [c_ref13_leaf, scC_e, ExprNode.e, o1, prim, hw, q]
    | false =>
      simp [wide, q] at hw
      by_cases n0 : x.n < 0
      · simp [c_ref13_leaf, scC_e, ExprNode.e, o1, prim, hw, q, n0]
      have e : maskI x.w = 2 ^ x.w.toNat - 1 := by simp [maskI, q]
      rw [e] at hm hmw
      by_cases n1 : 2 ^ x.w.toNat - 1 < x.n
      · simp [c_ref13_leaf, scC_e, ExprNode.e, o1, prim, hw, hm, hmw, q, n0, n1]
      · simp [c_ref13_leaf, scC_e, ExprNode.e, o1, prim, hw, hm, hmw, q, n0, n1]
  by_cases o2 : x.op = 2
  · have hf := declared_ok p x.n x.w
    simp only [Prg.e] at hf
    cases q : decl p x.n x.w with
    | none =>
      rw [q] at hf
      simp [c_ref13_leaf, scC_e, ExprNode.e, o2, prim, hf, q]
    | some w =>
      rw [q] at hf
      have hw := rwide_ok w
      simp [c_ref13_leaf, scC_e, ExprNode.e, o2, prim, hf, hw, q]
  by_cases o3 : x.op = 3
  · by_cases n0 : x.n < 0
    · simp [c_ref13_leaf, scC_e, ExprNode.e, o3, prim, n0, at_neg n0]
    by_cases n1 : (ps.length : Int) ≤ x.n
    · simp [c_ref13_leaf, scC_e, ExprNode.e, o3, prim, n0, n1, at_big n1]
    obtain ⟨k, hk⟩ : ∃ k : Nat, x.n = k := ⟨x.n.toNat, by omega⟩
    have hk2 : k < ps.length := by omega
    have hw := rwide_ok ps[k].width
    simp [c_ref13_leaf, scC_e, ExprNode.e, Fld.e, o3, prim, hk, hk2, Nat.not_le.2 hk2, hw]
  by_cases n0 : x.n < 0
  · simp [c_ref13_leaf, scC_e, ExprNode.e, o1, o2, o3, prim, n0, at_neg n0]
  by_cases n1 : (p.headers.length : Int) ≤ x.n
  · simp [c_ref13_leaf, scC_e, ExprNode.e, o1, o2, o3, prim, n0, n1, at_big n1]
  obtain ⟨k, hk⟩ : ∃ k : Nat, x.n = k := ⟨x.n.toNat, by omega⟩
  have hk2 : k < p.headers.length := by omega
  simp [c_ref13_leaf, scC_e, ExprNode.e, o1, o2, o3, prim, hk, hk2, Nat.not_le.2 hk2]
theorem rarity_ok (op : Int) : pureI Φ f_ref13_Arity [.int .i64 op] = some (.val (.int .i64 (ari op))) := by
  rw [pureI_go (fn := c_ref13_Arity) rfl rfl]
  rcases (show op < 1 ∨ (1 ≤ op ∧ op ≤ 4) ∨ (5 ≤ op ∧ op ≤ 8) ∨ (9 ≤ op ∧ op ≤ 16) ∨ op = 17 ∨ 17 < op by omega) with h | h | h | h | h | h
  · have e : ari op = -1 := by unfold ari; rw [if_neg (by omega), if_neg (by omega), if_neg (by omega), if_neg (by omega)]
    rw [e]
    simp [c_ref13_Arity, show ¬ 1 ≤ op by omega, show ¬ 5 ≤ op by omega, show ¬ 9 ≤ op by omega, show ¬ op = 17 by omega]
  · simp [c_ref13_Arity, ari, h]
  · simp [c_ref13_Arity, ari, h, show 1 ≤ op by omega, show ¬ op ≤ 4 by omega]
  · simp [c_ref13_Arity, ari, h, show 1 ≤ op by omega, show ¬ op ≤ 4 by omega, show 5 ≤ op by omega, show ¬ op ≤ 8 by omega]
  · subst h; simp [c_ref13_Arity, ari]
  · have e : ari op = -1 := by unfold ari; rw [if_neg (by omega), if_neg (by omega), if_neg (by omega), if_neg (by omega)]
    rw [e]
    simp [c_ref13_Arity, show 1 ≤ op by omega, show ¬ op ≤ 4 by omega, show 5 ≤ op by omega, show ¬ op ≤ 8 by omega, show 9 ≤ op by omega, show ¬ op ≤ 16 by omega, show ¬ op = 17 by omega]
theorem ari_1 {op : Int} (h : ari op = 1) : op = 5 ∨ op = 6 ∨ op = 7 ∨ op = 8 := by
  unfold ari at h
  split at h
  · omega
  split at h
  · omega
  split at h
  · omega
  split at h <;> omega
theorem ari_2 {op : Int} (h : ari op = 2) : 9 ≤ op ∧ op ≤ 16 := by
  unfold ari at h
  split at h
  · omega
  split at h
  · omega
  split at h
  · omega
  split at h <;> omega
theorem ari_3 {op : Int} (h : ari op = 3) : op = 17 := by
  unfold ari at h
  split at h
  · omega
  split at h
  · omega
  split at h
  · omega
  split at h <;> omega
theorem operator1_ok (x : ExprNode) (a : Int) (ha : 0 ≤ a ∧ a ≤ 32) (hx : ari x.op = 1) : pureI Φ f_ref13_operator [.agg (ExprNode.c x), .slice 1 [[.int .i64 a]]] = some (.val (.tup [.int .i64 (comb x a 0 0).1, .int .i64 (comb x a 0 0).2])) := by
  rw [pureI_go (fn := c_ref13_operator) rfl rfl]
  rcases ari_1 hx with o | o | o | o
  · simp [c_ref13_operator, ExprNode.e, o, comb, ari]
  · by_cases n0 : x.n < 0
    · simp [c_ref13_operator, ExprNode.e, o, comb, n0]
    by_cases n1 : 31 < x.n
    · simp [c_ref13_operator, ExprNode.e, o, comb, n0, n1]
    simp [c_ref13_operator, ExprNode.e, o, comb, n0, n1]
  · by_cases n0 : x.n < 0
    · simp [c_ref13_operator, ExprNode.e, o, comb, n0]
    by_cases n1 : 31 < x.n
    · simp [c_ref13_operator, ExprNode.e, o, comb, n0, n1]
    simp [c_ref13_operator, ExprNode.e, o, comb, n0, n1]
  · by_cases n0 : x.n < 0
    · simp [c_ref13_operator, ExprNode.e, o, comb, n0]
    by_cases w1 : x.w < 1
    · simp [c_ref13_operator, ExprNode.e, o, comb, n0, wBad, w1]
    by_cases w2 : 32 < x.w
    · simp [c_ref13_operator, ExprNode.e, o, comb, n0, wBad, w1, w2]
    have hs : IntKind.wrap .i64 (a - x.w) = a - x.w := wrap64 (by omega) (by omega)
    by_cases n1 : a - x.w < x.n
    · simp [c_ref13_operator, ExprNode.e, o, comb, n0, wBad, w1, w2, hs, n1]
    · simp [c_ref13_operator, ExprNode.e, o, comb, n0, wBad, w1, w2, hs, n1]
theorem operator2_ok (x : ExprNode) (a b : Int) (ha : 0 ≤ a ∧ a ≤ 32) (hb : 0 ≤ b ∧ b ≤ 32) (hx : ari x.op = 2) : pureI Φ f_ref13_operator [.agg (ExprNode.c x), .slice 1 [[.int .i64 a], [.int .i64 b]]] = some (.val (.tup [.int .i64 (comb x a b 0).1, .int .i64 (comb x a b 0).2])) := by
  rw [pureI_go (fn := c_ref13_operator) rfl rfl]
  have hr := ari_2 hx
  have o5 : ¬ x.op = 5 := by omega
  have o6 : ¬ x.op = 6 := by omega
  have o7 : ¬ x.op = 7 := by omega
  have o8 : ¬ x.op = 8 := by omega
  have o17 : ¬ x.op = 17 := by omega
  have hab : IntKind.wrap .i64 (a + b) = a + b := wrap64 (by omega) (by omega)
  have hw2 := rwide_ok (a + b)
  by_cases o14 : x.op = 14
  · simp [c_ref13_operator, ExprNode.e, o14, comb, hab, hw2]
  by_cases ab : a = b
  · by_cases o15 : x.op = 15
    · simp [c_ref13_operator, ExprNode.e, o15, comb, ab]
    by_cases o16 : x.op = 16
    · simp [c_ref13_operator, ExprNode.e, o16, comb, ab]
    simp [c_ref13_operator, ExprNode.e, o5, o6, o7, o8, o14, o15, o16, o17, comb, hx, ab]
  · simp [c_ref13_operator, ExprNode.e, o5, o6, o7, o8, o14, o17, comb, hx, ab]
theorem operator3_ok (x : ExprNode) (a b c : Int) (hx : ari x.op = 3) : pureI Φ f_ref13_operator [.agg (ExprNode.c x), .slice 1 [[.int .i64 a], [.int .i64 b], [.int .i64 c]]] = some (.val (.tup [.int .i64 (comb x a b c).1, .int .i64 (comb x a b c).2])) := by
  rw [pureI_go (fn := c_ref13_operator) rfl rfl]
  have o := ari_3 hx
  by_cases a1 : a = 1
  · by_cases bc : b = c
    · simp [c_ref13_operator, ExprNode.e, o, comb, a1, bc]
    · simp [c_ref13_operator, ExprNode.e, o, comb, a1, bc]
  · simp [c_ref13_operator, ExprNode.e, o, comb, a1]
theorem rcheck_ok (p : Prg) (ps : List Fld) (l : List ExprNode) (hl : l.length < 2 ^ 40) : ∀ n i, l.length - i < n → i ≤ l.length → chkR (chk p ps l n i) (pureI Φ f_ref13_check [.slice 3 (l.map ExprNode.c), .int .i64 (i : Nat), .agg (scC p ps)])
  | 0, i, h, hle => by omega
  | n + 1, i, h, hle => by
    rw [pureI_go (fn := c_ref13_check) rfl rfl]
    by_cases hi : i < l.length
    rotate_left
    · have : i = l.length := by omega
      subst this
      simp [chk, chkR, c_ref13_check, scC_e]
    have ih1 := rcheck_ok p ps l hl n (i + 1) (by omega) (by omega)
    have hA := rarity_ok l[i].op
    have hP := leaf_ok p ps l[i]
    have hw : IntKind.wrap .i64 ((i : Int) + 1) = (i : Int) + 1 := wrap64 (by omega) (by omega)
    have e1 : ((i + 1 : Nat) : Int) = (i : Int) + 1 := by omega
    rw [e1] at ih1
    simp only [scC_e, ExprNode.e] at ih1 hP
    simp only [chk, List.getElem?_eq_getElem hi]
    rcases ari_cases l[i].op with k | k | k | k | k
    · rw [k] at hA
      simp [chkR, c_ref13_check, scC_e, ExprNode.e, hi, Nat.not_le.2 hi, hA, k]
    · rw [k] at hA
      by_cases z : (prim p ps l[i]).2 = 0
      · rw [z] at hP
        simp [chkR, c_ref13_check, scC_e, ExprNode.e, hi, Nat.not_le.2 hi, hA, k, hP, z, hw]
      · simp [chkR, c_ref13_check, scC_e, ExprNode.e, hi, Nat.not_le.2 hi, hA, k, hP, z, hw]
    · rw [k] at hA
      simp [c_ref13_check, scC_e, ExprNode.e, hi, Nat.not_le.2 hi, hA, k, hw]
      rw [go_loop]
      cases h1 : chk p ps l n (i + 1) with
      | error e =>
        rw [h1] at ih1
        obtain ⟨he, a, b, hc⟩ := ih1
        simp [c_ref13_check_l0, chkR, hc, he]
      | ok q =>
        obtain ⟨a, i1⟩ := q
        rw [h1] at ih1
        obtain ⟨ra, r1, r2⟩ := chk_range h1
        have hC := operator1_ok l[i] a (by omega) k
        simp only [ExprNode.e] at hC
        simp only [chkR] at ih1
        simp [c_ref13_check_l0, ih1]
        rw [go_loop]
        simp [wr1, c_ref13_check_k1, hi, ExprNode.e, hC]
        exact chkR_end _ _ _
    · rw [k] at hA
      simp [c_ref13_check, scC_e, ExprNode.e, hi, Nat.not_le.2 hi, hA, k, hw]
      rw [go_loop]
      cases h1 : chk p ps l n (i + 1) with
      | error e =>
        rw [h1] at ih1
        obtain ⟨he, a, b, hc⟩ := ih1
        simp [c_ref13_check_l0, chkR, hc, he]
      | ok q =>
        obtain ⟨a, i1⟩ := q
        rw [h1] at ih1
        obtain ⟨ra, r1, r2⟩ := chk_range h1
        simp only [chkR] at ih1
        simp [c_ref13_check_l0, ih1]
        rw [go_loop]
        have ih2 := rcheck_ok p ps l hl n i1 (by omega) (by omega)
        simp only [scC_e] at ih2
        cases h2 : chk p ps l n i1 with
        | error e =>
          rw [h2] at ih2
          obtain ⟨he, x, y, hc⟩ := ih2
          simp [chkR, hc, he, wr1]
        | ok q =>
          obtain ⟨b, i2⟩ := q
          rw [h2] at ih2
          obtain ⟨rb, s1, s2⟩ := chk_range h2
          simp only [chkR] at ih2
          have hC := operator2_ok l[i] a b (by omega) (by omega) k
          simp only [ExprNode.e] at hC
          simp [ih2, wr1]
          rw [go_loop]
          simp [wr2, c_ref13_check_k1, hi, ExprNode.e, hC]
          exact chkR_end _ _ _
    · rw [k] at hA
      simp [c_ref13_check, scC_e, ExprNode.e, hi, Nat.not_le.2 hi, hA, k, hw]
      rw [go_loop]
      cases h1 : chk p ps l n (i + 1) with
      | error e =>
        rw [h1] at ih1
        obtain ⟨he, a, b, hc⟩ := ih1
        simp [c_ref13_check_l0, chkR, hc, he]
      | ok q =>
        obtain ⟨a, i1⟩ := q
        rw [h1] at ih1
        obtain ⟨ra, r1, r2⟩ := chk_range h1
        simp only [chkR] at ih1
        simp [c_ref13_check_l0, ih1]
        rw [go_loop]
        have ih2 := rcheck_ok p ps l hl n i1 (by omega) (by omega)
        simp only [scC_e] at ih2
        cases h2 : chk p ps l n i1 with
        | error e =>
          rw [h2] at ih2
          obtain ⟨he, x, y, hc⟩ := ih2
          simp [chkR, hc, he, wr1]
        | ok q =>
          obtain ⟨b, i2⟩ := q
          rw [h2] at ih2
          obtain ⟨rb, s1, s2⟩ := chk_range h2
          simp only [chkR] at ih2
          simp [ih2, wr1]
          rw [go_loop]
          have ih3 := rcheck_ok p ps l hl n i2 (by omega) (by omega)
          simp only [scC_e] at ih3
          cases h3 : chk p ps l n i2 with
          | error e =>
            rw [h3] at ih3
            obtain ⟨he, x, y, hc⟩ := ih3
            simp [chkR, hc, he, wr2]
          | ok q =>
            obtain ⟨c, i3⟩ := q
            rw [h3] at ih3
            simp only [chkR] at ih3
            have hC := operator3_ok l[i] a b c k
            simp only [ExprNode.e] at hC
            simp [ih3, wr2]
            rw [go_loop]
            simp [wr3, c_ref13_check_k1, hi, ExprNode.e, hC]
            exact chkR_end _ _ _
theorem rexE_ok (p : Prg) (ps : List Fld) (l : List ExprNode) : pureI Φ f_ref13_Check [.slice 3 (l.map ExprNode.c), .agg (scC p ps)] = some (.val (.tup [.int .i64 (exE p ps l).1, .int .i64 (exE p ps l).2])) := by
  rw [pureI_go (fn := c_ref13_Check) rfl rfl]
  by_cases h : 24 < l.length
  · simp [c_ref13_Check, scC_e, h, exE]
  have hc := rcheck_ok p ps l (by omega) (l.length + 1) 0 (by omega) (by omega)
  simp only [scC_e, Int.ofNat_zero] at hc
  cases q : chk p ps l (l.length + 1) 0 with
  | error e =>
    rw [q] at hc
    obtain ⟨he, a, b, hc⟩ := hc
    simp [c_ref13_Check, scC_e, h, exE, q, hc, he]
  | ok r =>
    obtain ⟨w, j⟩ := r
    rw [q] at hc
    simp only [chkR] at hc
    by_cases hj : j < l.length
    · simp [c_ref13_Check, scC_e, h, exE, q, hc, hj]
    · simp [c_ref13_Check, scC_e, h, exE, q, hc, hj]
end Go.Av
