/-
  txn.Apply.
-/
import Derived.Test.YtjdbnnnakpacjaaGreatX5
import Derived.Test.YtjdbnnnakpacjaaGreatH12
set_option linter.unusedVariables false
set_option linter.unusedSimpArgs false
set_option linter.constructorNameAsVariable false
namespace Go.Av
set_option maxRecDepth 4000
theorem apply_ok (p : Prg) (op : p.Ok bulkMax) (hc : (pre p.control).length < 2 ^ 40 - 1) (hp : p.tables.length < 2 ^ 40) {c : Config} (s : CfgT c) (l : List TableOp) (hl : ∀ o ∈ l, OpS o) :
    pureI Φ f_txn_Apply [.agg (Prg.c p), .agg (Config.c c), .slice 9 (l.map TableOp.c)] = some (.val (appA p c l)) := by
  rw [pureI_go (fn := c_txn_Apply) rfl rfl]
  obtain ⟨q0, q1, q2, q3, hC, hq, hq2⟩ := cfg4 c
  have hT0 : Tail [(0, AO.row 4 [[.fslice 1 [], .fslice 1 [], .fslice 2 [], .fslice 1 []]])] 1 := (Tail.nil 0).app1 (Nat.le_refl 0)
  rcases Load_ok p op hc c s hT0 with ⟨z, e⟩ | ⟨z, S, O1, N1, e, m1, w1, hk1, hT1, hN1⟩
  · have hb : badA p c l = some (-1, cfgE p c) := by simp [badA, z]
    rw [show appA p c l = .tup [.agg noC, .slice 1 [], .int .i64 (-1), .int .i64 (cfgE p c)] by simp only [appA, hb]]
    rw [hC] at e ⊢
    simp only [Prg.e] at e
    simp [c_txn_Apply, Prg.e, e, hq, hq2, z, noC]
  · have v := (cfgE_zero p c).1 z
    have r0 : look 0 O1 = some (.row 4 [[.fslice 1 [], .fslice 1 [], .fslice 2 [], .fslice 1 []]]) := hk1.lk hT0 rfl (by intro h; cases h)
    have n0 : ¬ S.own 0 := fun h => by have := w1 0 h; omega
    obtain ⟨S2, O2, N2, es, ho, hk2, hT2, hN2, hm⟩ := Commit_ok p op hp v s l hl hT1 m1
    have r02 : look 0 O2 = some (.row 4 [[.fslice 1 [], .fslice 1 [], .fslice 2 [], .fslice 1 []]]) := hk2.lk hT1 r0 (by
      rintro (h | h)
      · exact n0 h
      · have h : look 0 O1 = some .res := h
        rw [r0] at h; cases h)
    cases hb : badA p c l with
    | some x =>
      obtain ⟨k, x⟩ := x
      rw [hb] at hm
      obtain ⟨e2, -⟩ := hm
      have hx := badA_ne hb
      rw [show appA p c l = .tup [.agg noC, .slice 1 [], .int .i64 k, .int .i64 x] by simp only [appA, hb]]
      rw [hC] at e ⊢
      simp only [Prg.e] at e
      simp [c_txn_Apply, Prg.e, e, e2, hq, hq2, hx, noC, r02, lk_setl]
    | none =>
      rw [hb] at hm
      obtain ⟨T, e2, m2, hTk, hTN, hTo⟩ := hm
      obtain ⟨v', s'⟩ := cfgN_ok v s hp l hl l.length
      obtain ⟨u1, u2, u3, u4, U, O3, N3, e3, n3, w3, hk3, hT3, hN3⟩ := Config_ok (v'.u s') hT2 m2
      rw [es] at e3
      have r03 := hk3.lk hT2 r02 (by simp)
      have hT3k := hk3.lk hT2 hTk (by simp)
      rw [show appA p c l = .tup [.agg (Config.c (cfgN p c l l.length)), .slice 1 (idsA p c l), .int .i64 0, .int .i64 0] by simp only [appA, hb]; rfl]
      have hil : (idsA p c l).length = l.length := by simp [idsA]
      have T0 : ¬ T = 0 := by omega
      simp only [Prg.e, Config.ce c] at e
      generalize idsA p c l = il at *
      have n3' : CfgM (setl 0 (AO.row 4 [[u1, u2, u3, u4]]) O3) u1 u2 u3 u4 U (cfgN p c l l.length) := n3.fr fun j hj => by
        have := w3 j hj
        rw [lk_setl, if_neg (by omega)]
      have a1 := n3'.snpR (n := 34) (N := N3)
      have a2 := n3'.snpN (n := 34) (N := N3)
      have a3 := n3'.snpD (n := 34) (N := N3)
      have a4 := n3'.snpG (n := 34) (N := N3)
      simp [c_txn_Apply, Prg.e, e, e2, e3, r03, lk_setl, a1, a2, a3, a4, Config.ce]
end Go.Av
