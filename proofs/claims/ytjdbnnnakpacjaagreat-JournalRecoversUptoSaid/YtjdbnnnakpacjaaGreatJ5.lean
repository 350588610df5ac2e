/-
  The reference's reading of an operation.
-/
import Derived.Test.YtjdbnnnakpacjaaGreatJ4
set_option linter.unusedVariables false
set_option linter.unusedSimpArgs false
set_option linter.constructorNameAsVariable false
namespace Go.Av
set_option maxRecDepth 4000
theorem TableOp.ce (x : TableOp) : TableOp.c x = [.int .i64 x.kind, .int .i64 x.table, .int .i64 x.id, .slice 2 (x.entry.keys.map KeyMatch.c), .int .i64 x.entry.priority, .int .i64 x.entry.call.action, .slice 1 (x.entry.call.args.map c32), .int .i64 x.call.action, .slice 1 (x.call.args.map c32)] := by simp [TableOp.c]
theorem rdN_err {n : Nat} {s : Stt} (h : s.e ≠ 0) : rdN n s = (s, 0) := by simp [rdN, h]
theorem rreadOp (s : Stt) (hb : okB s.b) : pureI Φ f_ref28_readOp [.agg (cSt s)] = some (.val (.tup [.agg (cSt (rdOp s).1), .agg (TableOp.c (rdOp s).2)])) := by
  rw [pureI_go (fn := c_ref28_readOp) rfl rfl]
  have hr1 := rread1 s hb
  have hb1 : okB (rdN 1 s).1.b := rdN_okB hb
  have hbk : okB (kindS (rdN 1 s)).b := kindS_okB hb1
  have hr2 := rread2 _ hbk
  have hb2 : okB (rdN 2 (kindS (rdN 1 s))).1.b := rdN_okB hbk
  have hE := rreadEntry _ hb2
  have hI := rreadID _ hb2
  have hbI : okB (rdI (rdN 2 (kindS (rdN 1 s))).1).1.b := rdI_okB hb2
  have hCI := rreadCall _ hbI
  have hC := rreadCall _ hb2
  simp only [rdOp]
  simp only [cSt_e, cE_e, cC_e] at hr1 hr2 hE hI hCI hC ⊢
  by_cases z1 : (rdN 1 s).1.e = 0
  · by_cases k1 : (rdN 1 s).2 < 1
    · have hk : kindS (rdN 1 s) = ⟨(rdN 1 s).1.b, 5⟩ := by simp [kindS, z1, k1]
      rw [hk] at hr2 ⊢
      rw [rdN_err (n := 2) (s := ⟨(rdN 1 s).1.b, 5⟩) (by simp)] at hr2 ⊢
      simp only at hr2
      simp [c_ref28_readOp, cSt_e, hr1, hr2, z1, k1, rdTail, TableOp.ce, entry0, call0]
    by_cases k2 : 4 < (rdN 1 s).2
    · have hk : kindS (rdN 1 s) = ⟨(rdN 1 s).1.b, 5⟩ := by simp [kindS, z1, k2]
      rw [hk] at hr2 ⊢
      rw [rdN_err (n := 2) (s := ⟨(rdN 1 s).1.b, 5⟩) (by simp)] at hr2 ⊢
      simp only at hr2
      simp [c_ref28_readOp, cSt_e, hr1, hr2, z1, k1, k2, rdTail, TableOp.ce, entry0, call0]
    have hk : kindS (rdN 1 s) = (rdN 1 s).1 := by simp [kindS, z1, k1, k2]
    rw [hk] at hr2 hE hI hCI hC ⊢
    rw [z1] at hr2
    by_cases z2 : (rdN 2 (rdN 1 s).1).1.e = 0
    rotate_left
    · simp [c_ref28_readOp, cSt_e, hr1, hr2, z1, k1, k2, z2, rdTail, TableOp.ce, entry0, call0]
    rw [z2] at hE hI hC
    by_cases c1 : (rdN 1 s).2 = 1
    · rw [c1] at hr1
      simp [c_ref28_readOp, cSt_e, hr1, hr2, z1, z2, c1, hE, rdTail, TableOp.ce, entry0, call0]
    by_cases c4 : (rdN 1 s).2 = 4
    · rw [c4] at hr1
      simp [c_ref28_readOp, cSt_e, hr1, hr2, z1, z2, c4, hC, rdTail, TableOp.ce, entry0, call0]
    by_cases c3 : (rdN 1 s).2 = 3
    · rw [c3] at hr1
      simp [c_ref28_readOp, cSt_e, hr1, hr2, z1, z2, c3, hI, rdTail, TableOp.ce, entry0, call0]
    have c2 : (rdN 1 s).2 = 2 := by omega
    rw [c2] at hr1
    by_cases z3 : (rdI (rdN 2 (rdN 1 s).1).1).1.e = 0
    · rw [z3] at hCI
      simp [c_ref28_readOp, cSt_e, hr1, hr2, z1, z2, c2, hI, z3, hCI, rdTail, TableOp.ce, entry0, call0]
    · simp [c_ref28_readOp, cSt_e, hr1, hr2, z1, z2, c2, hI, z3, rdTail, TableOp.ce, entry0, call0]
  · have hk : kindS (rdN 1 s) = (rdN 1 s).1 := by simp [kindS, z1]
    rw [hk] at hr2 ⊢
    rw [rdN_err (n := 2) z1] at hr2 ⊢
    simp [c_ref28_readOp, cSt_e, hr1, hr2, z1, rdTail, TableOp.ce, entry0, call0]
end Go.Av
