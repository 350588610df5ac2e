/-
  The reference's execute.
-/
import Derived.Test.YtjdbnnnakpacjaaGreatR4
import Derived.Test.YtjdbnnnakpacjaaGreatV4
set_option linter.unusedVariables false
set_option linter.unusedSimpArgs false
set_option linter.constructorNameAsVariable false
namespace Go.Av
set_option maxRecDepth 4000
theorem TableOp.ce2 (x : TableOp) : TableOp.c x = [.int .i64 x.kind, .int .i64 x.table, .int .i64 x.id, .slice 2 (x.entry.keys.map KeyMatch.c), .int .i64 x.entry.priority, .int .i64 x.entry.call.action, .slice 1 (x.entry.call.args.map c32), .int .i64 x.call.action, .slice 1 (x.call.args.map c32)] := by simp [TableOp.c]
theorem cfg4 (c : Config) : ∃ r0 r1 r2 r3, Config.c c = [r0, r1, r2, r3] ∧ (∀ (H : AH), (snap 37 H r0 = some r0 ∧ snap 37 H r1 = some r1 ∧ snap 37 H r2 = some r2 ∧ snap 37 H r3 = some r3) ∧ (snap 38 H r0 = some r0 ∧ snap 38 H r1 = some r1 ∧ snap 38 H r2 = some r2 ∧ snap 38 H r3 = some r3) ∧ (snap 39 H r0 = some r0 ∧ snap 39 H r1 = some r1 ∧ snap 39 H r2 = some r2 ∧ snap 39 H r3 = some r3) ∧ (snap 40 H r0 = some r0 ∧ snap 40 H r1 = some r1 ∧ snap 40 H r2 = some r2 ∧ snap 40 H r3 = some r3)) ∧ (bor 37 r0 = false ∧ bor 37 r1 = false ∧ bor 37 r2 = false ∧ bor 37 r3 = false) ∧ (bor 38 r0 = false ∧ bor 38 r1 = false ∧ bor 38 r2 = false ∧ bor 38 r3 = false) ∧ (bor 39 r0 = false ∧ bor 39 r1 = false ∧ bor 39 r2 = false ∧ bor 39 r3 = false) ∧ (bor 40 r0 = false ∧ bor 40 r1 = false ∧ bor 40 r2 = false ∧ bor 40 r3 = false) := by
  refine ⟨_, _, _, _, Config.ce c, fun H => ⟨?_, ?_, ?_, ?_⟩, ?_, ?_, ?_, ?_⟩ <;> simp
theorem rexec_ok {p : Prg} (f : PrgS p) (hv : ∀ t ∈ p.tables, ∀ v ∈ t.dflt.args, ok32 0 v) {c : Config} (v : CfgV p c) (s : CfgT c) (o : TableOp) (ho : OpS o) :
    pureI Φ f_ref27_execute [.agg (Prg.c p), .agg (Config.c c), .agg (TableOp.c o)] = some (.val (.tup [.agg (Config.c (xoC p c o)), .int .i64 (xoI p c o), .int .i64 (xoE p c o)])) := by
  rw [pureI_go (fn := c_ref27_execute) rfl rfl]
  obtain ⟨r0, r1, r2, r3, hR, hs, hs2⟩ := cfg4 (xoC p c o)
  obtain ⟨q0, q1, q2, q3, hC, hq, hq2⟩ := cfg4 c
  by_cases z1 : o.kind = 1
  · have h := rInsert_ok f hv v s o.table o.entry ho.e
    have e1 : xoE p c o = insE p c o.table o.entry := by simp [xoE, z1]
    have e2 : (if insE p c o.table o.entry = 0 then insC c o.table o.entry else c) = xoC p c o := by simp [xoC, e1, xoD, z1]
    have e3 : (if insE p c o.table o.entry = 0 then nextAt c o.table else 0) = xoI p c o := by simp [xoI, e1, z1]
    rw [e2, e3, ← e1] at h
    rw [hR, hC] at h ⊢
    simp only [Prg.e, Entry.ce] at h
    simp [c_ref27_execute, Prg.e, TableOp.ce2, z1, h, hs, hq, hq2]
  by_cases z2 : o.kind = 2
  · have h := rModify_ok f hv v s o.table o.id o.call ho.c.al ho.c.ar
    have e1 : xoE p c o = modE p c o.table o.id o.call := by simp [xoE, z2]
    have e2 : (if modE p c o.table o.id o.call = 0 then modC c o.table o.id o.call else c) = xoC p c o := by simp [xoC, e1, xoD, z2]
    have e3 : xoI p c o = 0 := by simp [xoI, z1]
    rw [e2, ← e1] at h
    rw [e3, hR, hC] at *
    simp only [Prg.e, ActionCall.ce] at h
    simp [c_ref27_execute, Prg.e, TableOp.ce2, z2, h, hs, hs2, hq, hq2]
  by_cases z3 : o.kind = 3
  · have h := rDelete_ok f hv v s o.table o.id
    have e1 : xoE p c o = delE p c o.table o.id := by simp [xoE, z3]
    have e2 : (if delE p c o.table o.id = 0 then delC c o.table o.id else c) = xoC p c o := by simp [xoC, e1, xoD, z3]
    have e3 : xoI p c o = 0 := by simp [xoI, z1]
    rw [e2, ← e1] at h
    rw [e3, hR, hC] at *
    simp only [Prg.e] at h
    simp [c_ref27_execute, Prg.e, TableOp.ce2, z3, h, hs, hs2, hq, hq2]
  by_cases z4 : o.kind = 4
  · have h := rSetDefault_ok f hv v s o.table o.call ho.c.al ho.c.ar
    have e1 : xoE p c o = defE p o.table o.call := by simp [xoE, z4]
    have e2 : (if defE p o.table o.call = 0 then defC c o.table o.call else c) = xoC p c o := by simp [xoC, e1, xoD, z4]
    have e3 : xoI p c o = 0 := by simp [xoI, z1]
    rw [e2, ← e1] at h
    rw [e3, hR, hC] at *
    simp only [Prg.e, ActionCall.ce] at h
    simp [c_ref27_execute, Prg.e, TableOp.ce2, z4, h, hs, hs2, hq, hq2]
  · have e1 : xoE p c o = 11 := by simp [xoE, z1, z2, z3, z4]
    have e2 : xoC p c o = c := by simp [xoC, e1]
    have e3 : xoI p c o = 0 := by simp [xoI, z1]
    rw [e1, e2, e3, hC]
    simp [c_ref27_execute, Prg.e, TableOp.ce2, z1, z2, z3, z4, hq, hq2]
end Go.Av
