/-
  Comparison of configurations: contracts of the functions that it calls.
-/
import Derived.Test.YtjdbnnnakpacjaaGreatT5K
set_option linter.unusedVariables false
set_option linter.unusedSimpArgs false
set_option linter.constructorNameAsVariable false
namespace Go.Av
set_option maxRecDepth 4000
theorem Rw.ce (x : Rw) : Rw.c x = [.int .i64 x.id, .slice 2 (x.entry.keys.map KeyMatch.c), .int .i64 x.entry.priority, .int .i64 x.entry.call.action, .slice 1 (x.entry.call.args.map c32)] := by simp [Rw.c]
theorem cSe {α : Type} (z : Nat) (f : α → List AV) (l : List α) : cS z f l = [.slice z (l.map f)] := by simp [cS]
theorem ActionCall.ce (x : ActionCall) : ActionCall.c x = [.int .i64 x.action, .slice 1 (x.args.map c32)] := by simp [ActionCall.c]
theorem Entry.ce (x : Entry) : Entry.c x = [.slice 2 (x.keys.map KeyMatch.c), .int .i64 x.priority, .int .i64 x.call.action, .slice 1 (x.call.args.map c32)] := by simp [Entry.c]
theorem Config.ce (x : Config) : Config.c x = [.slice 1 (x.rows.map (cS 5 Rw.c)), .slice 1 (x.nextID.map cI), .slice 2 (x.defaults.map ActionCall.c), .slice 1 (x.registers.map (cS 1 c32))] := by simp [Config.c]
theorem cIe (x : Int) : cI x = [.int .i64 x] := by simp [cI]
theorem c32e (x : Int) : c32 x = [.int .u32 x] := by simp [c32]
theorem Rw.eq_iff (x y : Rw) : x = y ↔ x.id = y.id ∧ x.entry = y.entry := by
  constructor
  · rintro rfl; simp
  · rintro ⟨a, b⟩
    obtain ⟨u, v⟩ := x
    obtain ⟨u', v'⟩ := y
    simp only at a b
    subst a b; rfl
theorem ActionCall.eq_iff (x y : ActionCall) : x = y ↔ x.action = y.action ∧ x.args = y.args := by
  constructor
  · rintro rfl; simp
  · rintro ⟨a, b⟩
    obtain ⟨u, v⟩ := x
    obtain ⟨u', v'⟩ := y
    simp only at a b
    subst a b; rfl
end Go.Av
