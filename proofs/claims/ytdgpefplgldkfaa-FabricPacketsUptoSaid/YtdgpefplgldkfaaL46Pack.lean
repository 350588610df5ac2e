/-
  The law FabricPackets, over the structures.
-/
import Derived.Test.YtdgpefplgldkfaaB32
import Derived.Test.YtdgpefplgldkfaaW46
set_option linter.unusedVariables false
set_option linter.unusedSimpArgs false
set_option linter.constructorNameAsVariable false
namespace Go.Av
theorem natOf {x : Int} (h : ok8 bulkMax x) : ∃ n : Nat, x = n ∧ n < 256 := ⟨x.toNat, by have := h.1; omega, by have := h.1; have := h.2; omega⟩
theorem FabricPackets_all (l : List Int) (x : Tag) (f : Flow) (ol : okL bulkMax (ok8 bulkMax) l) (ox : x.Ok bulkMax) (of : f.Ok bulkMax) : pureI Φ f_law46_FabricPackets [.slice 1 (l.map c8), .agg x.c, .agg f.c] = some (.val (.bool true)) := by
  obtain ⟨tg, v, lb⟩ := x
  obtain ⟨s, d, t⟩ := f
  obtain ⟨a, rfl, ha⟩ := natOf ox.1
  obtain ⟨b, rfl, hb⟩ := natOf ox.2
  obtain ⟨c, rfl, hc⟩ := natOf of.1
  obtain ⟨d, rfl, hd⟩ := natOf of.2.1
  obtain ⟨e, rfl, he⟩ := natOf of.2.2
  have hl := ol.1
  rw [bulkMax_eq] at hl
  exact FabricPackets_ok l tg a b c d e hl (fun y hy => by have := ol.2 y hy; exact ⟨this.1, by have := this.2; omega⟩) ha hb hc hd he works_ok
end Go.Av
