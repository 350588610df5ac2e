/-
  Towards TxnInverse: the reference's entryOf and current.
-/
import Derived.Test.YtjdbnnnakpacjaaGreatY7
set_option linter.unusedVariables false
set_option linter.unusedSimpArgs false
set_option linter.constructorNameAsVariable false
namespace Go.Av
set_option maxRecDepth 4000
def noE : Entry := ⟨[], 0, ⟨0, []⟩⟩
def etyF (l : List Rw) (id : Int) : Entry := match l.find? fun r => decide (r.id = id) with
  | some r => r.entry
  | none => noE
theorem etyF_hit {l : List Rw} {i : Nat} (hi : i < l.length) {id : Int} (h : l[i].id = id) : etyF (l.drop i) id = l[i].entry := by
  unfold etyF; rw [List.drop_eq_getElem_cons hi, List.find?_cons]; simp only [h, decide_true]
theorem etyF_miss {l : List Rw} {i : Nat} (hi : i < l.length) {id : Int} (h : ¬ l[i].id = id) : etyF (l.drop i) id = etyF (l.drop (i + 1)) id := by
  unfold etyF; rw [List.drop_eq_getElem_cons hi, List.find?_cons]; simp only [h, decide_false]
structure Ren where
  t : Int
  old : Int
  new : Int
def Ren.c (x : Ren) : List AV := [.int .i64 x.t, .int .i64 x.old, .int .i64 x.new]
-- the last renaming wins
def curF (l : List Ren) (t id : Int) : Int := match l.reverse.find? fun r => decide (r.t = t) && decide (r.old = id) with
  | some r => r.new
  | none => id
theorem cur_snoc (l : List Ren) (x : Ren) (t id : Int) : curF (l ++ [x]) t id = if x.t = t ∧ x.old = id then x.new else curF l t id := by
  unfold curF
  rw [List.reverse_append, List.reverse_singleton, List.singleton_append, List.find?_cons]
  by_cases z : x.t = t <;> by_cases y : x.old = id <;> simp [z, y]
end Go.Av
