/-
  The reference's run.
-/
import Derived.Test.YtjdbnnnakpacjaaGreatR5
set_option linter.unusedVariables false
set_option linter.unusedSimpArgs false
set_option linter.constructorNameAsVariable false
namespace Go.Av
set_option maxRecDepth 4000
-- the configuration before operation i, and its number
def cfgN (p : Prg) (c : Config) (l : List TableOp) (i : Nat) : Config := xoF p c (l.take i)
def idN (p : Prg) (c : Config) (l : List TableOp) (i : Nat) : Int := match l[i]? with
  | some o => xoI p (cfgN p c l i) o
  | none => 0
-- the first operation that fails
def badF (p : Prg) : Config → List TableOp → Nat → Option (Nat × Int)
  | _, [], _ => none
  | c, o :: l, i => if xoE p c o = 0 then badF p (xoC p c o) l (i + 1) else some (i, xoE p c o)
theorem cfgN_zero (p : Prg) (c : Config) (l : List TableOp) : cfgN p c l 0 = c := by simp [cfgN, xoF]
theorem cfgN_succ (p : Prg) (c : Config) (l : List TableOp) {i : Nat} (h : i < l.length) : cfgN p c l (i + 1) = xoC p (cfgN p c l i) l[i] := by
  simp only [cfgN, xoF, List.take_succ_eq_append_getElem h, List.foldl_append, List.foldl_cons, List.foldl_nil]
theorem cfgN_ok {p : Prg} {c : Config} (v : CfgV p c) (s : CfgT c) (hp : p.tables.length < 2 ^ 40) (l : List TableOp) (hl : ∀ o ∈ l, OpS o) : ∀ i, CfgV p (cfgN p c l i) ∧ CfgT (cfgN p c l i)
  | 0 => by rw [cfgN_zero]; exact ⟨v, s⟩
  | i + 1 => by
    have ih := cfgN_ok v s hp l hl i
    by_cases h : i < l.length
    · rw [cfgN_succ p c l h]
      exact ⟨xoC_ok ih.1 _, xoC_t ih.1 ih.2 hp _ (hl _ (List.getElem_mem h))⟩
    · have : cfgN p c l (i + 1) = cfgN p c l i := by
        unfold cfgN; rw [List.take_of_length_le (by omega), List.take_of_length_le (by omega)]
      rw [this]; exact ih
def histA (p : Prg) (c : Config) (l : List TableOp) (i : Nat) : List AV := [.slice 4 ((List.range (i + 1)).map fun j => Config.c (cfgN p c l j)), .slice 1 ((List.range i).map fun j => cI (idN p c l j))]
def noH : List AV := [.slice 4 [], .slice 1 []]
def histF (p : Prg) (c : Config) (l : List TableOp) (i : Nat) : List AV := [.fslice 4 ((List.range (i + 1)).map fun j => Config.c (cfgN p c l j)), .fslice 1 ((List.range i).map fun j => cI (idN p c l j))]
def runA (p : Prg) (c : Config) (l : List TableOp) : Rt :=
  if cfgE p c ≠ 0 then .val (.tup [.agg noH, .int .i64 (-1), .int .i64 (cfgE p c)])
  else if 64 < l.length then .val (.tup [.agg noH, .int .i64 (-1), .int .i64 12])
  else match badF p c l 0 with
    | some (k, e) => .val (.tup [.agg noH, .int .i64 k, .int .i64 e])
    | none => .val (.tup [.agg (histA p c l l.length), .int .i64 0, .int .i64 0])
theorem rrun_ok (p : Prg) (f : PrgS p) (hv : ∀ t ∈ p.tables, ∀ v ∈ t.dflt.args, ok32 0 v) (hc : (pre p.control).length < 2 ^ 40 - 1) (hp : p.tables.length < 2 ^ 40) {c : Config} (s : CfgT c) (l : List TableOp) (hll : l.length < 2 ^ 40) (hl : ∀ o ∈ l, OpS o) :
    pureI Φ f_ref27_run [.agg (Prg.c p), .agg (Config.c c), .slice 9 (l.map TableOp.c)] = some (runA p c l) := by
  rw [pureI_go (fn := c_ref27_run) rfl rfl]
  have hk := rcfgE_ok p f hv hc c s
  obtain ⟨q0, q1, q2, q3, hC, hq, hq2⟩ := cfg4 c
  by_cases z : cfgE p c = 0
  case neg =>
    have hR : runA p c l = .val (.tup [.agg noH, .int .i64 (-1), .int .i64 (cfgE p c)]) := by simp [runA, z]
    rw [hR]
    rw [hC] at hk ⊢
    simp only [Prg.e] at hk
    simp [c_ref27_run, Prg.e, hk, hq, hq2, z, noH]
  have v := (cfgE_zero p c).1 z
  by_cases z2 : 64 < l.length
  · have hR : runA p c l = .val (.tup [.agg noH, .int .i64 (-1), .int .i64 12]) := by simp [runA, z, z2]
    rw [hR]
    rw [hC] at hk ⊢
    have z3 : (64 : Int) < (l.length : Int) := by omega
    simp only [Prg.e] at hk
    simp [c_ref27_run, Prg.e, hk, hq, hq2, z, z3, noH]
  generalize hR : runA p c l = R
  have z3 : ¬ (64 : Int) < (l.length : Int) := by omega
  rw [hC] at hk ⊢
  simp only [Prg.e] at hk
  simp [c_ref27_run, Prg.e, hk, hq, hq2, z, z3]
  have h0 : histF p c l 0 = [.fslice 4 [[q0, q1, q2, q3]], .fslice 1 []] := by simp [histF, cfgN_zero, hC]
  rw [← h0]
  refine loop_nat l.length (fun i e h => (∃ n, 2 ≤ n ∧ ((h = ⟨[(0, .row 2 [[.fslice 4 [], .fslice 1 []]]), (1, .row 2 [histF p c l i])], n⟩) ∨ ∃ A B, 2 ≤ A ∧ A < B ∧ B < n ∧ h = ⟨[(0, .row 2 [[.fslice 4 [], .fslice 1 []]]), (1, .row 2 [[.app 4 ((List.range (i + 1)).map fun j => Config.c (cfgN p c l j)) A, .app 1 ((List.range i).map fun j => cI (idN p c l j)) B]]), (A, .tok 4 (i + 1)), (B, .tok 1 i)], n⟩)) ∧ badF p c l 0 = badF p (cfgN p c l i) (l.drop i) i ∧ look 2 e = some (.slice 9 (l.map TableOp.c)) ∧ look 3 e = some (.iptr 9 [Prg.c p] 0 0) ∧ look 6 e = some (.ptr 0 2 0 0) ∧ look 10 e = some (.ptr 1 2 0 0) ∧ look 11 e = some (.int .i64 i)) (fun _ => some R) ?_ ?_ 0 _ _ (Nat.zero_le _) ?_
  · rintro i e h L hi hL ⟨⟨n, hn, hh⟩, hb, e2, e3, e6, e10, e11⟩ ih
    obtain ⟨vi, si⟩ := cfgN_ok v s hp l hl i
    have hx := rexec_ok f hv vi si l[i] (hl _ (List.getElem_mem hi))
    obtain ⟨r0, r1, r2, r3, hD, hr, hr2⟩ := cfg4 (cfgN p c l i)
    obtain ⟨s0, s1, s2, s3, hE, hs, hs2⟩ := cfg4 (xoC p (cfgN p c l i) l[i])
    rw [hD, hE] at hx
    have h1 : (i : Int) < (i : Int) + 1 := by omega
    have hw : IntKind.wrap .i64 ((i : Int) + 1) = ((i + 1 : Nat) : Int) := wrap64 (by omega) (by omega)
    have hm : (List.map (fun j => Config.c (cfgN p c l j)) (List.range (i + 1)))[i]? = some [r0, r1, r2, r3] := by simp [hD]
    have t0 : ∀ k, ¬ (n + k = 0) := fun k => by omega
    have t1 : ∀ k, ¬ (n + k = 1) := fun k => by omega
    have t2 : ¬ n = 0 := by omega
    have t3 : ¬ n = 1 := by omega
    have hb2 : badF p (cfgN p c l i) (l.drop i) i = if xoE p (cfgN p c l i) l[i] = 0 then badF p (xoC p (cfgN p c l i) l[i]) (l.drop (i + 1)) (i + 1) else some (i, xoE p (cfgN p c l i) l[i]) := by
      rw [List.drop_eq_getElem_cons hi, badF]
    rw [hb2] at hb
    generalize hml : List.map (fun j => Config.c (cfgN p c l j)) (List.range (i + 1)) = ml at hm
    have hmi : i < ml.length := by rw [← hml]; simp
    have hlen : ml.length = i + 1 := by rw [← hml]; simp
    have h96 : (i + 1 + 1) * 96 ≤ 70368744177664 := by omega
    have h8 : (i + 1) * 8 ≤ 70368744177664 := by omega
    generalize hil : List.map (fun j => cI (idN p c l j)) (List.range i) = il
    have hill : il.length = i := by rw [← hil]; simp
    have hm' : ml[i] = [r0, r1, r2, r3] := by rw [List.getElem?_eq_getElem hmi] at hm; exact Option.some.inj hm
    simp only [Prg.e, TableOp.ce2] at hx
    by_cases zi : xoE p (cfgN p c l i) l[i] = 0
    · rw [if_pos zi, ← cfgN_succ p c l hi] at hb
      rw [zi] at hx
      have hr1 : List.map (fun j => Config.c (cfgN p c l j)) (List.range (i + 1 + 1)) = ml ++ [[s0, s1, s2, s3]] := by
        rw [List.range_succ, List.map_append, hml, List.map_singleton, cfgN_succ p c l hi, hE]
      have hr2' : List.map (fun j => cI (idN p c l j)) (List.range (i + 1)) = il ++ [[.int .i64 (xoI p (cfgN p c l i) l[i])]] := by
        rw [List.range_succ, List.map_append, hil, List.map_singleton]
        simp [idN, hi, cI]
      rcases hh with rfl | ⟨A, B, hA, hAB, hBn, rfl⟩
      · simp [c_ref27_run_l0, e2, e3, e10, e11, hi, histF, hml, hil, hill, hlen, h1, hm', Prg.e, hx, hr, hr2, hs, hs2, TableOp.ce2, t2, hw, h96, h8]
        refine ih _ _ ⟨⟨n + 12 + 1 + 1 + 1, by omega, .inr ⟨n + 12 + 1, n + 12 + 1 + 1, by omega, by omega, by omega, by rw [hr1, hr2']⟩⟩, hb, ?_⟩
        simp [e2, e3, e6, e10]
      · have g0 : ¬ A = 0 := by omega
        have g1 : ¬ A = 1 := by omega
        have g2 : ¬ B = 0 := by omega
        have g3 : ¬ B = 1 := by omega
        have g4 : ¬ B = A := by omega
        have g5 : ∀ k, ¬ (n + k = A) := fun k => by omega
        have g6 : ∀ k, ¬ (n + k = B) := fun k => by omega
        have g7 : ¬ n = A := by omega
        have g8 : ¬ n = B := by omega
        have i0 : ¬ 0 = A := by omega
        have i1 : ¬ 1 = A := by omega
        have i2 : ¬ 0 = B := by omega
        have i3 : ¬ 1 = B := by omega
        have i4 : ¬ A = B := by omega
        have g9 : ∀ k, ¬ (A = n + k) := fun k => by omega
        have g10 : ∀ k, ¬ (B = n + k) := fun k => by omega
        simp [c_ref27_run_l0, e2, e3, e10, e11, hi, hml, hil, hill, hlen, h1, hm', Prg.e, hx, hr, hr2, hs, hs2, TableOp.ce2, t2, hw, h96, h8, g9, g10, i0, i1, i2, i3, i4]
        refine ih _ _ ⟨⟨n + 12 + 1, by omega, .inr ⟨A, B, hA, hAB, by omega, by rw [hr1, hr2']⟩⟩, hb, ?_⟩
        simp [e2, e3, e6, e10]
    · rw [if_neg zi] at hb
      have hR' : R = .val (.tup [.agg noH, .int .i64 i, .int .i64 (xoE p (cfgN p c l i) l[i])]) := by
        rw [← hR]; simp [runA, z, z2, hb]
      rw [hR']
      rcases hh with rfl | ⟨A, B, hA, hAB, hBn, rfl⟩
      · simp [c_ref27_run_l0, e2, e3, e6, e10, e11, hi, histF, hml, hil, hlen, h1, hm', Prg.e, hx, hr, hr2, hs, hs2, TableOp.ce2, zi, t2, noH]
      · have g0 : ¬ A = 0 := by omega
        have g1 : ¬ A = 1 := by omega
        have g2 : ¬ B = 0 := by omega
        have g3 : ¬ B = 1 := by omega
        have g4 : ¬ B = A := by omega
        have g5 : ∀ k, ¬ (n + k = A) := fun k => by omega
        have g6 : ∀ k, ¬ (n + k = B) := fun k => by omega
        have g7 : ¬ n = A := by omega
        have g8 : ¬ n = B := by omega
        have i0 : ¬ 0 = A := by omega
        have i1 : ¬ 1 = A := by omega
        have i2 : ¬ 0 = B := by omega
        have i3 : ¬ 1 = B := by omega
        have i4 : ¬ A = B := by omega
        have g9 : ∀ k, ¬ (A = n + k) := fun k => by omega
        have g10 : ∀ k, ¬ (B = n + k) := fun k => by omega
        simp [c_ref27_run_l0, e2, e3, e6, e10, e11, hi, hml, hil, hlen, h1, hm', Prg.e, hx, hr, hr2, hs, hs2, TableOp.ce2, zi, t2, noH, g9, g10]
  · rintro e h L hL ⟨⟨n, hn, hh⟩, hb, e2, e3, e6, e10, e11⟩
    have hR' : R = .val (.tup [.agg (histA p c l l.length), .int .i64 0, .int .i64 0]) := by
      rw [← hR]; simp [runA, z, z2, hb, badF]
    rw [hR']
    rcases hh with rfl | ⟨A, B, hA, hAB, hBn, rfl⟩
    · simp [c_ref27_run_l0, c_ref27_run_k1, e2, e6, e10, e11, hL, histF, histA]
    · simp [c_ref27_run_l0, c_ref27_run_k1, e2, e6, e10, e11, hL, histA]
  · refine ⟨⟨2, Nat.le_refl _, .inl rfl⟩, ?_⟩
    simp [cfgN_zero, Prg.e]
end Go.Av
