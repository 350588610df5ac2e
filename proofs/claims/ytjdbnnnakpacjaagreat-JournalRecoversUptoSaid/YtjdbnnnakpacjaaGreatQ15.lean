/-
  The library's Clone; copies of calls, entries and rows.
-/
import Derived.Test.YtjdbnnnakpacjaaGreatQ14
set_option linter.unusedVariables false
set_option linter.unusedSimpArgs false
set_option linter.constructorNameAsVariable false
namespace Go.Av
set_option maxRecDepth 4000
theorem clone_app {Ψ : FuncId → Option AFun} {f z bytes : Nat} (hf : Ψ f = some (.rule (cloneG z bytes .app))) (es : List (List AV)) (hz : allLen z es = true) (hb : es.length * bytes ≤ 70368744177664) : pureI Ψ f [.slice z es] = some (.val (.slice z es)) := by
  unfold pureI
  rw [callI_rule Ψ hf]
  cases es with
  | nil => simp [cloneG, lenOf, srcOf, evR, pureRt, H0, AH.put]
  | cons x es =>
    simp only [List.length_cons] at hb
    simp [cloneG, lenOf, evR, pureRt, H0, AH.put, hz, hb]
theorem clU_ok (l : List Int) (h : l.length < 2 ^ 40) : pureI Φ f_slices_Clone_uint32_uint32 [.slice 1 (l.map c32)] = some (.val (.slice 1 (l.map c32))) :=
  clone_app (bytes := 4) rfl _ (allLen_map 1 c32 l fun x => by simp [c32]) (by rw [List.length_map]; omega)
theorem clK_ok (l : List KeyMatch) (h : l.length < 2 ^ 40) : pureI Φ f_slices_Clone_api_KeyMatch_api_KeyMatch [.slice 2 (l.map KeyMatch.c)] = some (.val (.slice 2 (l.map KeyMatch.c))) :=
  clone_app (bytes := 8) rfl _ (allLen_map 2 KeyMatch.c l fun x => by simp [KeyMatch.c]) (by rw [List.length_map]; omega)
theorem ccall_ok (c : ActionCall) (h : c.args.length < 2 ^ 40) : pureI Φ f_store_cloneCall [.agg (ActionCall.c c)] = some (.val (.agg (ActionCall.c c))) := by
  rw [pureI_go (fn := c_store_cloneCall) rfl rfl]
  have k := clU_ok c.args h
  simp [c_store_cloneCall, ActionCall.ce, k]
theorem centry_ok (x : Entry) (h : x.call.args.length < 2 ^ 40) (h2 : x.keys.length < 2 ^ 40) : pureI Φ f_store_cloneEntry [.agg (Entry.c x)] = some (.val (.agg (Entry.c x))) := by
  rw [pureI_go (fn := c_store_cloneEntry) rfl rfl]
  have k := clK_ok x.keys h2
  have k2 := ccall_ok x.call h
  simp only [ActionCall.ce] at k2
  simp [c_store_cloneEntry, Entry.ce, k, k2]
theorem crow_ok (x : Rw) (h : rowS x) : pureI Φ f_store_cloneRow [.agg (Rw.c x)] = some (.val (.agg (Rw.c x))) := by
  rw [pureI_go (fn := c_store_cloneRow) rfl rfl]
  have k := centry_ok x.entry h.al h.kl
  simp only [Entry.ce] at k
  simp [c_store_cloneRow, Rw.ce, k]
end Go.Av
