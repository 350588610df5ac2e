/-
  The reference's Apply.
-/
import Derived.Test.YtjdbnnnakpacjaaGreatR6
set_option linter.unusedVariables false
set_option linter.unusedSimpArgs false
set_option linter.constructorNameAsVariable false
namespace Go.Av
set_option maxRecDepth 4000
def noC : List AV := [.slice 1 [], .slice 1 [], .slice 2 [], .slice 1 []]
-- what a transaction answers: the place and the error, or none
def badA (p : Prg) (c : Config) (l : List TableOp) : Option (Int × Int) :=
  if cfgE p c ≠ 0 then some (-1, cfgE p c) else if 64 < l.length then some (-1, 12) else (badF p c l 0).map fun x => ((x.1 : Int), x.2)
def appA (p : Prg) (c : Config) (l : List TableOp) : AV := match badA p c l with
  | some (k, e) => .tup [.agg noC, .slice 1 [], .int .i64 k, .int .i64 e]
  | none => .tup [.agg (Config.c (cfgN p c l l.length)), .slice 1 ((List.range l.length).map fun j => cI (idN p c l j)), .int .i64 0, .int .i64 0]
theorem runA_bad {p : Prg} {c : Config} {l : List TableOp} {k e : Int} (h : badA p c l = some (k, e)) : runA p c l = .val (.tup [.agg noH, .int .i64 k, .int .i64 e]) := by
  unfold badA at h
  unfold runA
  by_cases z : cfgE p c = 0
  case neg => simp only [ne_eq, z, not_false_eq_true, if_true, Option.some.injEq, Prod.mk.injEq] at h ⊢; rw [← h.1, ← h.2]
  by_cases z2 : 64 < l.length
  · simp only [ne_eq, z, not_true, if_false, z2, if_true, Option.some.injEq, Prod.mk.injEq] at h ⊢; rw [← h.1, ← h.2]
  · simp only [ne_eq, z, not_true, if_false, z2] at h ⊢
    cases hb : badF p c l 0 with
    | none => simp [hb] at h
    | some x => simp only [hb, Option.map_some, Option.some.injEq, Prod.mk.injEq] at h; obtain ⟨h1, h2⟩ := h; subst h1; subst h2; rfl
theorem runA_none {p : Prg} {c : Config} {l : List TableOp} (h : badA p c l = none) : runA p c l = .val (.tup [.agg (histA p c l l.length), .int .i64 0, .int .i64 0]) := by
  unfold badA at h
  unfold runA
  by_cases z : cfgE p c = 0
  case neg => simp [z] at h
  by_cases z2 : 64 < l.length
  · simp [z, z2] at h
  · simp only [ne_eq, z, not_true, if_false, z2] at h ⊢
    cases hb : badF p c l 0 with
    | none => rfl
    | some x => simp [hb] at h
theorem badF_ne {p : Prg} {k : Nat} {e : Int} : ∀ {l : List TableOp} {c : Config} {i : Nat}, badF p c l i = some (k, e) → e ≠ 0
  | [], _, _, h => by simp [badF] at h
  | o :: l, c, i, h => by
    unfold badF at h
    by_cases z : xoE p c o = 0
    · rw [if_pos z] at h; exact badF_ne h
    · rw [if_neg z] at h
      simp only [Option.some.injEq, Prod.mk.injEq] at h
      rw [← h.2]; exact z
theorem badA_ne {p : Prg} {c : Config} {l : List TableOp} {k e : Int} (h : badA p c l = some (k, e)) : e ≠ 0 := by
  unfold badA at h
  by_cases z : cfgE p c = 0
  case neg => simp only [ne_eq, z, not_false_eq_true, if_true, Option.some.injEq, Prod.mk.injEq] at h; rw [← h.2]; exact z
  by_cases z2 : 64 < l.length
  · simp only [ne_eq, z, not_true, if_false, z2, if_true, Option.some.injEq, Prod.mk.injEq] at h; rw [← h.2]; decide
  · simp only [ne_eq, z, not_true, if_false, z2] at h
    cases hb : badF p c l 0 with
    | none => simp [hb] at h
    | some x => simp only [hb, Option.map_some, Option.some.injEq, Prod.mk.injEq] at h; rw [← h.2]; exact badF_ne (k := x.1) (e := x.2) hb
theorem rapply_ok (p : Prg) (f : PrgS p) (hv : ∀ t ∈ p.tables, ∀ v ∈ t.dflt.args, ok32 0 v) (hc : (pre p.control).length < 2 ^ 40 - 1) (hp : p.tables.length < 2 ^ 40) {c : Config} (s : CfgT c) (l : List TableOp) (hll : l.length < 2 ^ 40) (hl : ∀ o ∈ l, OpS o) :
    pureI Φ f_ref27_Apply [.agg (Prg.c p), .agg (Config.c c), .slice 9 (l.map TableOp.c)] = some (.val (appA p c l)) := by
  rw [pureI_go (fn := c_ref27_Apply) rfl rfl]
  have hr := rrun_ok p f hv hc hp s l hll hl
  obtain ⟨q0, q1, q2, q3, hC, hq, hq2⟩ := cfg4 c
  cases hb : badA p c l with
  | some x =>
    obtain ⟨k, e⟩ := x
    have he := badA_ne hb
    rw [runA_bad hb] at hr
    rw [show appA p c l = .tup [.agg noC, .slice 1 [], .int .i64 k, .int .i64 e] by simp only [appA, hb]]
    rw [hC] at hr ⊢
    simp only [Prg.e, noH] at hr
    simp [c_ref27_Apply, Prg.e, hr, hq, hq2, he, noC]
  | none =>
    rw [runA_none hb] at hr
    rw [show appA p c l = .tup [.agg (Config.c (cfgN p c l l.length)), .slice 1 ((List.range l.length).map fun j => cI (idN p c l j)), .int .i64 0, .int .i64 0] by simp only [appA, hb]]
    obtain ⟨r0, r1, r2, r3, hD, hs, hs2⟩ := cfg4 (cfgN p c l l.length)
    rw [hC] at hr ⊢
    rw [hD]
    have hm : (List.map (fun j => Config.c (cfgN p c l j)) (List.range (l.length + 1)))[l.length]? = some [r0, r1, r2, r3] := by simp [hD]
    simp only [histA] at hr
    generalize hml : List.map (fun j => Config.c (cfgN p c l j)) (List.range (l.length + 1)) = ml at hm hr
    have hmi : l.length < ml.length := by rw [← hml]; simp
    have hm' : ml[l.length] = [r0, r1, r2, r3] := by rw [List.getElem?_eq_getElem hmi] at hm; exact Option.some.inj hm
    simp only [Prg.e] at hr
    simp [c_ref27_Apply, Prg.e, hr, hq, hq2, hmi, hm', hs]
end Go.Av
