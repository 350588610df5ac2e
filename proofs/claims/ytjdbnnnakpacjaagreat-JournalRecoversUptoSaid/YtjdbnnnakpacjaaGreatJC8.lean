/-
  The journal's Commit, as a whole.
-/
import Derived.Test.YtjdbnnnakpacjaaGreatJC7
set_option linter.unusedVariables false
set_option linter.unusedSimpArgs false
set_option linter.constructorNameAsVariable false
namespace Go.Av
set_option maxRecDepth 4000
def CJ (N : Nat) (O : List (Nat × AO)) (t : Nat) (R : AV) (p : Prg) (g : LgV) (l : List TableOp) (r : Option (Rt × AH)) : Prop :=
  ∃ O' N' R', N ≤ N' ∧ Tail O' N' ∧ (∀ j, tid R' = some j → tid R = some j ∨ N ≤ j) ∧ Kp (fun j => j = t ∨ tid R = some j ∨ Rs O j) N O O' ∧
    match badA p g.c l with
    | some (k, x) => r = some (.val (.tup [.fslice 1 [], .int .i64 k, .int .i64 x]), ⟨O', N'⟩) ∧ LogM O' t R' p g
    | none => r = some (.val (.tup [.slice 1 (idsA p g.c l), .int .i64 0, .int .i64 0]), ⟨O', N'⟩) ∧ LogM O' t R' p (cmt p g l)
theorem lcommit_ok (p : Prg) (op : p.Ok bulkMax) (hc : (pre p.control).length < 2 ^ 40 - 1) (hp : p.tables.length < 2 ^ 40) {g : LgV} (s : CfgT g.c) (hn : g.n < 2 ^ 40) (hb : g.b.length < 2 ^ 40) {l : List TableOp} (hl : ∀ o ∈ l, OpS o) {v : AV} (hv : OpV v l)
    {O : List (Nat × AO)} {N t : Nat} {R : AV} (hT : Tail O N) (m : LogM O t R p g) : CJ N O t R p g l (callI Φ f_journal_Log_Commit [.ptr t 16 0 0, v] ⟨O, N⟩) := by
  rw [callI_dfr Φ (d := c_journal_Log_Commit) rfl rfl, jc_code]
  obtain ⟨e1, a1, g1, g2, g6⟩ := jc1 (t := t) hT v
  have t0 := hT N (Nat.le_refl _)
  have t1 := hT (N + 1) (by omega)
  have lt := hT.lt m.row
  have hT1 : Tail (O ++ [(N, .row 1 [[.ptr t 16 0 0]])] ++ [(N + 1, .row 1 [[.int .i64 0]])]) (N + 2) := (hT.app1 (Nat.le_refl N)).app1 (Nat.le_refl (N + 1))
  have hk1 : Kp (fun _ => False) N O (O ++ [(N, .row 1 [[.ptr t 16 0 0]])] ++ [(N + 1, .row 1 [[.int .i64 0]])]) := (Kp.app Kp.refl (Nat.le_refl _)).app (Nat.le_succ _)
  have tl : ∀ {O : List (Nat × AO)} {N : Nat}, Tail O N → LogM O t R p g → ∀ j, tid R = some j → j < N := by
    intro O N hT m j hj
    rcases m.rcd with ⟨rfl, _⟩ | ⟨T, rfl, h⟩
    · simp [tid] at hj
    · simp [tid] at hj; subst hj; exact hT.lt h
  have m1 := m.fr (hk1 t lt (by simp)) (fun j hj => hk1 j (tl hT m j hj) (by simp))
  have q2 : look N (O ++ [(N, .row 1 [[.ptr t 16 0 0]])] ++ [(N + 1, .row 1 [[.int .i64 0]])]) = some (.row 1 [[.ptr t 16 0 0]]) := by simp [t0]
  have q6 : look (N + 1) (O ++ [(N, .row 1 [[.ptr t 16 0 0]])] ++ [(N + 1, .row 1 [[.int .i64 0]])]) = some (.row 1 [[.int .i64 0]]) := by simp [t1]
  generalize O ++ [(N, .row 1 [[.ptr t 16 0 0]])] ++ [(N + 1, .row 1 [[.int .i64 0]])] = H1 at *
  obtain ⟨e2, a2, i1, i2, i6⟩ := jc2 (N := N + 2) m1 g2 q2 g1 g6
  obtain ⟨e3, a3, h1, h2, h6, h7⟩ := jc3 hT1 m1 i2 q2 i1 i6
  have t2 := hT1 (N + 2) (Nat.le_refl _)
  have hk2 : Kp (fun _ => False) (N + 2) H1 (H1 ++ [(N + 2, .row 4 [Config.c g.c])]) := Kp.app Kp.refl (Nat.le_refl _)
  have hT2 : Tail (H1 ++ [(N + 2, .row 4 [Config.c g.c])]) (N + 3) := hT1.app1 (Nat.le_refl _)
  have m2 := m1.fr (hk2 t (by omega) (by simp)) (fun j hj => hk2 j (tl hT1 m1 j hj) (by simp))
  have q2 := hk2.lk hT1 q2 (by simp)
  have q6 := hk2.lk hT1 q6 (by simp)
  have q7 : look (N + 2) (H1 ++ [(N + 2, .row 4 [Config.c g.c])]) = some (.row 4 [Config.c g.c]) := by simp [t2]
  have hkO : Kp (fun _ => False) N O (H1 ++ [(N + 2, .row 4 [Config.c g.c])]) := hk1.trans hk2 (by omega)
  generalize H1 ++ [(N + 2, .row 4 [Config.c g.c])] = H2 at *
  have a4 : evOps (callI Φ) none jcO ⟨e3, ⟨H2, N + 3⟩⟩ = some (.normal, ⟨(21, .func (.func f_journal_Log_Commit_1) [] [.ptr (N + 1) 1 0 0, .ptr (N + 2) 4 0 0, .ptr N 1 0 0]) :: e3, ⟨H2, N + 3⟩⟩) := by
    simp [jcO, evOps, guardOn, h2, h6, h7]
  have hcl : (look 21 ((21, AV.func (.func f_journal_Log_Commit_1) [] [.ptr (N + 1) 1 0 0, .ptr (N + 2) 4 0 0, .ptr N 1 0 0]) :: e3)).bind tgt = some (f_journal_Log_Commit_1, [.ptr (N + 1) 1 0 0, .ptr (N + 2) 4 0 0, .ptr N 1 0 0]) := by simp
  have z1 : N + 1 ≠ N := by omega
  unfold CJ
  cases hA : badA p g.c l with
  | some x =>
    obtain ⟨k, x⟩ := x
    have hx := badA_ne hA
    obtain ⟨e4, O4, a5, j4, j5, j6, rfl⟩ := jcB_bad (N := N + 3) (e := (21, .func (.func f_journal_Log_Commit_1) [] [.ptr (N + 1) 1 0 0, .ptr (N + 2) 4 0 0, .ptr N 1 0 0]) :: e3) p op hc hp s hl hv m2 (by simp [h1]) (by simp [h2]) (by simp [h6]) q2 q6 z1 hA
    simp only [dcodeI, a1, a2, a3, a4]
    rw [a5, hcl]
    simp only [show c_journal_Log_Commit.clo = f_journal_Log_Commit_1 from rfl, show c_journal_Log_Commit.ncaps = 3 from rfl, List.length_cons, List.length_nil, and_self, if_true, dEndI]
    have n1 : N + 1 ≠ t := by omega
    have n2 : N ≠ t := by omega
    have n3 : N + 2 ≠ t := by omega
    have n4 : t ≠ N + 1 := by omega
    have r := m2.row
    have y6 : look (N + 1) (setl (N + 1) (.row 1 [[.int .i64 x]]) (setl (N + 1) (.row 1 [[.int .i64 x]]) (setl t (.row 16 [lgRow p noCfg R g.n]) H2))) = some (.row 1 [[.int .i64 x]]) := by simp [lk_setl, n1, q6]
    have y7 : look (N + 2) (setl (N + 1) (.row 1 [[.int .i64 x]]) (setl (N + 1) (.row 1 [[.int .i64 x]]) (setl t (.row 16 [lgRow p noCfg R g.n]) H2))) = some (.row 4 [Config.c g.c]) := by simp [lk_setl, n3, q7]
    have y2 : look N (setl (N + 1) (.row 1 [[.int .i64 x]]) (setl (N + 1) (.row 1 [[.int .i64 x]]) (setl t (.row 16 [lgRow p noCfg R g.n]) H2))) = some (.row 1 [[.ptr t 16 0 0]]) := by simp [lk_setl, n2, q2]
    have yt : look t (setl (N + 1) (.row 1 [[.int .i64 x]]) (setl (N + 1) (.row 1 [[.int .i64 x]]) (setl t (.row 16 [lgRow p noCfg R g.n]) H2))) = some (.row 16 [lgRow p noCfg R g.n]) := by simp [lk_setl, n4, r]
    rw [jcClo1 hx y6 y7 y2 yt]
    refine ⟨setl t (.row 16 [lgRow p g.c R g.n]) (setl (N + 1) (.row 1 [[.int .i64 x]]) (setl (N + 1) (.row 1 [[.int .i64 x]]) (setl t (.row 16 [lgRow p noCfg R g.n]) H2))), N + 3, R, by omega, Tail_setl2 (Tail_setl2 (Tail_setl2 (Tail_setl2 hT2))), fun j hj => .inl hj, ?_, ?_, ?_⟩
    · intro j hj hx
      have e1 : j ≠ t := fun h => hx (.inl h)
      rw [lk_setl, if_neg e1, lk_setl, if_neg (by omega), lk_setl, if_neg (by omega), lk_setl, if_neg e1]
      exact hkO j hj (by simp)
    · simp [evRet, c_journal_Log_Commit, j4, j5, j6, lk_setl, n1, q6]
    · refine ⟨by simp [lk_setl, n4, r], ?_⟩
      rcases m2.rcd with hz | ⟨T, rfl, hz⟩
      · exact .inl hz
      · refine .inr ⟨T, rfl, ?_⟩
        have u1 : T ≠ t := lk_ne hz r (by simp)
        have u2 : T ≠ N + 1 := lk_ne hz q6 (by simp)
        rw [lk_setl, if_neg u1, lk_setl, if_neg u2, lk_setl, if_neg u2, lk_setl, if_neg u1, hz]
  | none =>
    obtain ⟨e4, O4, N4, R4, a5, j4, j5, j6, hN4, hT4, m4, hR4, hk4, y6⟩ := jcB_ok (N := N + 3) (e := (21, .func (.func f_journal_Log_Commit_1) [] [.ptr (N + 1) 1 0 0, .ptr (N + 2) 4 0 0, .ptr N 1 0 0]) :: e3) p op hc hp s hl hv hT2 m2 (by simp [h1]) (by simp [h2]) (by simp [h6]) q2 q6 z1 hA hn hb
    simp only [dcodeI, a1, a2, a3, a4]
    rw [a5, hcl]
    simp only [show c_journal_Log_Commit.clo = f_journal_Log_Commit_1 from rfl, show c_journal_Log_Commit.ncaps = 3 from rfl, List.length_cons, List.length_nil, and_self, if_true, dEndI]
    rw [jcClo0 y6]
    refine ⟨O4, N4, R4, by omega, hT4, fun j hj => (hR4 j hj).imp id fun h => by omega, ?_, ?_, m4⟩
    · intro j hj hx
      rw [hk4 j (by omega) ?_, hkO j hj (by simp)]
      rintro (h | h | h | h)
      · exact hx (.inl h)
      · omega
      · exact hx (.inr (.inl h))
      · have h : look j H2 = some .res := h
        rw [hkO j hj (by simp)] at h
        exact hx (.inr (.inr h))
    · simp [evRet, c_journal_Log_Commit, j4, j5, j6, y6]
end Go.Av
