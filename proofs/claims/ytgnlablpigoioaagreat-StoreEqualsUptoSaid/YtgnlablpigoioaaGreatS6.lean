/-
  The law StoreEquals returns true for every program and every two configurations.
-/
import Derived.Test.YtgnlablpigoioaaGreatS5
import Derived.Test.YtgnlablpigoioaaGreatW25
set_option linter.unusedVariables false
set_option linter.unusedSimpArgs false
set_option linter.constructorNameAsVariable false
namespace Go.Av
set_option maxRecDepth 4000
theorem CfgS_of {a : Config} (o : a.Ok bulkMax) : CfgS a := by
  obtain ⟨o0, o1, o2, o3⟩ := o
  have e := bulkMax_eq
  refine ⟨by have := o0.1; omega, ?_, by have := o1.1; omega, by have := o2.1; omega, ?_, by have := o3.1; omega, ?_⟩
  · intro l hl
    have h := o0.2 l hl
    refine ⟨by have := h.1; omega, ?_⟩
    intro r hr
    have h2 := h.2 r hr
    simp only [Rw.Ok, Entry.Ok, ActionCall.Ok] at h2
    exact ⟨by have := h2.2.1.1; omega, by have := h2.2.2.2.2.1; omega⟩
  · intro d hd
    have h := o2.2 d hd
    simp only [ActionCall.Ok] at h
    have := h.2.1; omega
  · intro l hl
    have := (o3.2 l hl).1
    omega
theorem StoreEquals_all (p : Prg) (a b : Config) (op : p.Ok bulkMax) (oa : a.Ok bulkMax) (ob : b.Ok bulkMax) : pureI Φ f_law25_StoreEquals [.agg (Prg.c p), .agg (Config.c a), .agg (Config.c b)] = some (.val (.bool true)) := by
  have fa := CfgS_of oa
  have fb := CfgS_of ob
  have fp := PrgB_of op
  obtain ⟨x, hx⟩ := s25_ok p a fp fa
  obtain ⟨y, hy⟩ := s25_ok p b fp fb
  rw [pureI_go (fn := c_law25_StoreEquals) rfl rfl]
  simp only [Prg.ce, Config.ce] at hx hy
  cases x with
  | false => simp [c_law25_StoreEquals, Prg.ce, Config.ce, hx, awake25]
  | true =>
  cases y with
  | false => simp [c_law25_StoreEquals, Prg.ce, Config.ce, hx, hy, awake25]
  | true =>
  have e1 := stEqual_ok a b fa
  have e2 := rEqualC_ok a b fa
  have e3 := stEqual_ok a a fa
  rw [decide_eq_true (rfl : a = a)] at e3
  simp only [Config.ce] at e1 e2 e3
  simp [c_law25_StoreEquals, Prg.ce, Config.ce, hx, hy, e1, e2, e3, awake25]
end Go.Av
