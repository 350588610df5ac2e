/-
  The journal's Config.
-/
import Derived.Test.YtjdbnnnakpacjaaGreatJC8
set_option linter.unusedVariables false
set_option linter.unusedSimpArgs false
set_option linter.constructorNameAsVariable false
namespace Go.Av
set_option maxRecDepth 4000
def LCpost (N : Nat) (O : List (Nat × AO)) (c : Config) (r : Option (Rt × AH)) : Prop :=
  ∃ w1 w2 w3 w4 V O' N', r = some (.val (.agg [w1, w2, w3, w4]), ⟨O', N'⟩) ∧ CfgM O' w1 w2 w3 w4 V c ∧ (∀ j, CfgM.own w1 w2 w3 V j → N ≤ j) ∧ Kp (Rs O) N O O' ∧ Tail O' N' ∧ N ≤ N'
theorem lconfig_ok (p : Prg) (op : p.Ok bulkMax) (hc : (pre p.control).length < 2 ^ 40 - 1) {g : LgV} (v : CfgV p g.c) (s : CfgT g.c) {O : List (Nat × AO)} {N t : Nat} {R : AV} (hT : Tail O N) (m : LogM O t R p g) :
    LCpost N O g.c (callI Φ f_journal_Log_Config [.ptr t 16 0 0] ⟨O, N⟩) := by
  rw [callI_go (fn := c_journal_Log_Config) rfl rfl]
  have t0 := hT N (Nat.le_refl _)
  have h := m.row
  rw [lgRow_e] at h
  have hk0 : Kp (fun _ => False) N O (O ++ [(N, AO.row 4 [[.fslice 1 [], .fslice 1 [], .fslice 2 [], .fslice 1 []]])]) := Kp.app (fun _ _ _ => rfl) (Nat.le_refl _)
  have hT0 := hT.app1 (o := AO.row 4 [[.fslice 1 [], .fslice 1 [], .fslice 2 [], .fslice 1 []]]) (Nat.le_refl N)
  have rN : look N (O ++ [(N, AO.row 4 [[.fslice 1 [], .fslice 1 [], .fslice 2 [], .fslice 1 []]])]) = some (.row 4 [[.fslice 1 [], .fslice 1 [], .fslice 2 [], .fslice 1 []]]) := by simp [t0]
  rcases Load_ok p op hc g.c s hT0 with ⟨z, _⟩ | ⟨_, S, O1, N1, e, m1, w1, hk1, hT1, hN1⟩
  · exact absurd ((cfgE_zero p g.c).2 v) z
  obtain ⟨u1, u2, u3, u4, U, O2, N2, e2, n2, w2, hk2, hT2, hN2⟩ := Config_ok (v.u s) hT1 m1
  have r1 := hk1.lk hT0 rN (by intro h; unfold Rs at h; rw [rN] at h; cases h)
  have r2 := hk2.lk hT1 r1 (by simp)
  simp only [Prg.e, Config.ce] at e
  simp [c_journal_Log_Config, h, t0, lk_app, e, e2, r2, lk_setl]
  refine ⟨u1, u2, u3, u4, U, _, N2, rfl, ?_, fun j hj => by have := w2 j hj; omega, ?_, Tail_setl2 hT2, by omega⟩
  · refine n2.fr fun j hj => ?_
    have := w2 j hj
    rw [lk_setl, if_neg (by omega)]
  · intro j hj hx
    rw [lk_setl, if_neg (by omega), hk2 j (by omega) (by simp), hk1 j (by omega) ?_, hk0 j hj (by simp)]
    intro hr
    unfold Rs at hr
    rw [hk0 j hj (by simp)] at hr
    exact hx hr
end Go.Av
