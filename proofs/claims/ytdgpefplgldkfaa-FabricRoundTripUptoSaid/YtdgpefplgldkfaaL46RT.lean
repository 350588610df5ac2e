/-
  The law FabricRoundTrip, over the structures.
-/
import Derived.Test.YtdgpefplgldkfaaB33
import Derived.Test.YtdgpefplgldkfaaW46
set_option linter.unusedVariables false
set_option linter.unusedSimpArgs false
set_option linter.constructorNameAsVariable false
namespace Go.Av
theorem natOf8 {x : Int} (h : ok8 bulkMax x) : ∃ n : Nat, x = n ∧ n < 256 := ⟨x.toNat, by have := h.1; omega, by have := h.1; have := h.2; omega⟩
theorem FabricRoundTrip_all (f g : Flow) (l : List Int) (of : f.Ok bulkMax) (og : g.Ok bulkMax) (ol : okL bulkMax (ok8 bulkMax) l) : pureI Φ f_law46_FabricRoundTrip [.agg f.c, .agg g.c, .slice 1 (l.map c8)] = some (.val (.bool true)) := by
  obtain ⟨s, d, t⟩ := f
  obtain ⟨p, q, r⟩ := g
  obtain ⟨a, rfl, ha⟩ := natOf8 of.1
  obtain ⟨b, rfl, hb⟩ := natOf8 of.2.1
  obtain ⟨c, rfl, hc⟩ := natOf8 of.2.2
  obtain ⟨d, rfl, hd⟩ := natOf8 og.1
  obtain ⟨e, rfl, he⟩ := natOf8 og.2.1
  obtain ⟨f, rfl, hf⟩ := natOf8 og.2.2
  have hl := ol.1
  rw [bulkMax_eq] at hl
  exact FabricRoundTrip_ok l a b c d e f (by omega) (fun y hy => by have := ol.2 y hy; exact ⟨this.1, by have := this.2; omega⟩) ha hb hc hd he hf works_ok
end Go.Av
