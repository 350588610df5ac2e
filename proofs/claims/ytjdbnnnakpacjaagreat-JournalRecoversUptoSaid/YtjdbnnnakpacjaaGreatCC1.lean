/-
  Runs of an appended list of operations (towards TxnConcats).
-/
import Derived.Test.YtjdbnnnakpacjaaGreatDX
set_option linter.unusedVariables false
set_option linter.unusedSimpArgs false
set_option linter.constructorNameAsVariable false
namespace Go.Av
theorem okF_badF (p : Prg) : ∀ (c : Config) (l : List TableOp) (i : Nat), badF p c l i = none → okF p c l
  | _, [], _, _ => trivial
  | c, o :: l, i, h => by
    rw [badF] at h
    by_cases q : xoE p c o = 0
    · rw [if_pos q] at h
      exact ⟨q, okF_badF p _ l _ h⟩
    · rw [if_neg q] at h; cases h
theorem badF_shift (p : Prg) : ∀ (c : Config) (l : List TableOp) (i j : Nat), badF p c l (i + j) = (badF p c l i).map fun x => (x.1 + j, x.2)
  | _, [], _, _ => rfl
  | c, o :: l, i, j => by
    rw [badF, badF]
    by_cases q : xoE p c o = 0
    · rw [if_pos q, if_pos q, show i + j + 1 = (i + 1) + j by omega]
      exact badF_shift p _ l _ _
    · rw [if_neg q, if_neg q]; rfl
theorem badF_app (p : Prg) : ∀ (c : Config) (l m : List TableOp) (i : Nat), okF p c l → badF p c (l ++ m) i = badF p (xoF p c l) m (i + l.length)
  | _, [], _, _, _ => rfl
  | c, o :: l, m, i, h => by
    rw [List.cons_append, badF, if_pos h.1, badF_app p _ l m _ h.2, xoF_cons]
    rw [List.length_cons, show i + 1 + l.length = i + (l.length + 1) by omega]
theorem cfgN_len (p : Prg) (c : Config) (l : List TableOp) : cfgN p c l l.length = xoF p c l := by unfold cfgN; rw [List.take_length]
theorem badA_okF {p : Prg} {c : Config} {l : List TableOp} (h : badA p c l = none) : okF p c l := by
  have z := badA_zero h
  have h64 := badA_len h
  unfold badA at h
  rw [if_neg (by simpa using z), if_neg (by omega)] at h
  simp only [Option.map_eq_none_iff] at h
  exact okF_badF p c l 0 h
-- an appended list: where it fails, what it gives
theorem badA_app {p : Prg} {c : Config} {l m : List TableOp} (h : badA p c l = none) (hl : l.length + m.length ≤ 64) : badA p c (l ++ m) = (badA p (xoF p c l) m).map fun x => ((l.length : Int) + x.1, x.2) := by
  have z := badA_zero h
  have ho := badA_okF h
  have v := (cfgE_zero p c).1 z
  have z2 := (cfgE_zero p _).2 (xoF_ok l v)
  unfold badA
  rw [if_neg (by simpa using z), if_neg (by rw [List.length_append]; omega), if_neg (by simpa using z2), if_neg (by omega), badF_app p c l m 0 ho, badF_shift]
  cases badF p (xoF p c l) m 0 with
  | none => rfl
  | some x =>
    simp only [Option.map_some, Option.some.injEq, Prod.mk.injEq, and_true]
    omega
theorem cfgN_app {p : Prg} {c : Config} {l m : List TableOp} : cfgN p c (l ++ m) (l ++ m).length = cfgN p (xoF p c l) m m.length := by
  rw [cfgN_len, cfgN_len, xoF_app]
theorem idN_app1 {p : Prg} {c : Config} {l m : List TableOp} {i : Nat} (h : i < l.length) : idN p c (l ++ m) i = idN p c l i := by
  unfold idN cfgN
  rw [List.getElem?_append_left h, List.take_append_of_le_length (by omega)]
theorem idN_app2 {p : Prg} {c : Config} {l m : List TableOp} (i : Nat) : idN p c (l ++ m) (l.length + i) = idN p (xoF p c l) m i := by
  unfold idN cfgN
  rw [List.getElem?_append_right (by omega), Nat.add_sub_cancel_left, List.take_length_add_append, xoF_app]
theorem ids_app {p : Prg} {c : Config} {l m : List TableOp} : (List.range (l ++ m).length).map (idN p c (l ++ m)) = (List.range l.length).map (idN p c l) ++ (List.range m.length).map (idN p (xoF p c l) m) := by
  rw [List.length_append, List.range_add, List.map_append]
  congr 1
  · exact List.map_congr_left fun i hi => idN_app1 (by simpa using hi)
  · rw [List.map_map]
    exact List.map_congr_left fun i _ => idN_app2 i
end Go.Av
