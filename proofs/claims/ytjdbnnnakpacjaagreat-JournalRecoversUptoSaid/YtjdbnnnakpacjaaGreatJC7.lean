/-
  The journal's Commit.
-/
import Derived.Test.YtjdbnnnakpacjaaGreatJC6
set_option linter.unusedVariables false
set_option linter.unusedSimpArgs false
set_option linter.constructorNameAsVariable false
namespace Go.Av
set_option maxRecDepth 4000
def jcA1 : ACode := match c_journal_Log_Commit.code with | .seq a _ => a | _ => .skip
def jcA2 : ACode := match c_journal_Log_Commit.code with | .seq _ (.seq a _) => a | _ => .skip
def jcA3 : ACode := match c_journal_Log_Commit.code with | .seq _ (.seq _ (.seq a _)) => a | _ => .skip
def jcB : ACode := match c_journal_Log_Commit.code with | .seq _ (.seq _ (.seq _ (.dfr _ _ b))) => b | _ => .skip
def jcO : List AOper := [⟨some 21, none, .mkfunc (.func f_journal_Log_Commit_1) [] [.t 6, .t 7, .t 2]⟩]
theorem jc_code : c_journal_Log_Commit.code = .seq jcA1 (.seq jcA2 (.seq jcA3 (.dfr jcO 21 jcB))) := rfl
-- a list of operations as it is given
def OpV (v : AV) (l : List TableOp) : Prop := v = .slice 9 (l.map TableOp.c) ∨ (v = .fslice 9 [] ∧ l = [])
theorem OpV.snp {v : AV} {l : List TableOp} (h : OpV v l) (n : Nat) (H : AH) : snap (n + 1) H v = some (.slice 9 (l.map TableOp.c)) := by
  rcases h with rfl | ⟨rfl, rfl⟩ <;> simp
theorem OpV.nb {v : AV} {l : List TableOp} (h : OpV v l) (n : Nat) : bor (n + 1) v = false := by
  rcases h with rfl | ⟨rfl, rfl⟩ <;> simp
theorem jc1 {O : List (Nat × AO)} {N t : Nat} (hT : Tail O N) (w : AV) : ∃ e, codeI Φ jcA1 ⟨bindE 0 [.ptr t 16 0 0, w], ⟨O, N⟩⟩ = some (.normal, ⟨e, ⟨O ++ [(N, .row 1 [[.ptr t 16 0 0]])] ++ [(N + 1, .row 1 [[.int .i64 0]])], N + 2⟩⟩) ∧ look 1 e = some w ∧ look 2 e = some (.ptr N 1 0 0) ∧ look 6 e = some (.ptr (N + 1) 1 0 0) := by
  have t0 := hT N (Nat.le_refl _)
  have t1 := hT (N + 1) (by omega)
  rw [codeI_go]
  simp [jcA1, c_journal_Log_Commit, t0, t1]
theorem jc2 {O : List (Nat × AO)} {N t b : Nat} {R : AV} {p : Prg} {g : LgV} {e : Env} (m : LogM O t R p g) (h2 : look 2 e = some (.ptr b 1 0 0)) (hb : look b O = some (.row 1 [[.ptr t 16 0 0]])) {w x6 : AV} (h1 : look 1 e = some w) (h6 : look 6 e = some x6) :
    ∃ e', codeI Φ jcA2 ⟨e, ⟨O, N⟩⟩ = some (.normal, ⟨e', ⟨O, N⟩⟩) ∧ look 1 e' = some w ∧ look 2 e' = some (.ptr b 1 0 0) ∧ look 6 e' = some x6 := by
  have h := m.row
  rw [lgRow_e] at h
  rw [codeI_go]
  simp [jcA2, c_journal_Log_Commit, h, h1, h2, h6, hb]
theorem jc3 {O : List (Nat × AO)} {N t b : Nat} {R : AV} {p : Prg} {g : LgV} {e : Env} (hT : Tail O N) (m : LogM O t R p g) (h2 : look 2 e = some (.ptr b 1 0 0)) (hb : look b O = some (.row 1 [[.ptr t 16 0 0]])) {w x6 : AV} (h1 : look 1 e = some w) (h6 : look 6 e = some x6) :
    ∃ e', codeI Φ jcA3 ⟨e, ⟨O, N⟩⟩ = some (.normal, ⟨e', ⟨O ++ [(N, .row 4 [Config.c g.c])], N + 1⟩⟩) ∧ look 1 e' = some w ∧ look 2 e' = some (.ptr b 1 0 0) ∧ look 6 e' = some x6 ∧ look 7 e' = some (.ptr N 4 0 0) := by
  have h := m.row
  rw [lgRow_e] at h
  have t0 := hT N (Nat.le_refl _)
  rw [codeI_go]
  simp [jcA3, c_journal_Log_Commit, h, h1, h2, h6, hb, t0, Config.ce]
def noCfg : Config := ⟨[], [], [], []⟩
section
variable (p : Prg) (op : p.Ok bulkMax) (hc : (pre p.control).length < 2 ^ 40 - 1) (hp : p.tables.length < 2 ^ 40) {g : LgV} (s : CfgT g.c) {l : List TableOp} (hl : ∀ o ∈ l, OpS o) {v : AV} (hv : OpV v l)
  {O : List (Nat × AO)} {N t b2 b6 : Nat} {R : AV} (hT : Tail O N) (m : LogM O t R p g) {e : Env} (h1 : look 1 e = some v) (h2 : look 2 e = some (.ptr b2 1 0 0)) (h6 : look 6 e = some (.ptr b6 1 0 0))
  (hb2 : look b2 O = some (.row 1 [[.ptr t 16 0 0]])) (hb6 : look b6 O = some (.row 1 [[.int .i64 0]])) (n6 : b6 ≠ b2)
include op hc hp s hl hv m h1 h2 h6 hb2 hb6 n6
theorem jcB_bad {k x : Int} (hA : badA p g.c l = some (k, x)) :
    ∃ e' O', codeI Φ jcB ⟨e, ⟨O, N⟩⟩ = some (.ret, ⟨e', ⟨O', N⟩⟩) ∧ look 4 e' = some (.fslice 1 []) ∧ look 5 e' = some (.int .i64 k) ∧ look 6 e' = some (.ptr b6 1 0 0) ∧ O' = setl b6 (.row 1 [[.int .i64 x]]) (setl b6 (.row 1 [[.int .i64 x]]) (setl t (.row 16 [lgRow p noCfg R g.n]) O)) := by
  have h := m.row
  rw [lgRow_e] at h
  have n1 : b6 ≠ t := lk_ne hb6 h (by simp)
  have n2 : b2 ≠ t := lk_ne hb2 h (by simp)
  have n3 := n1.symm
  have n4 := n2.symm
  have n5 := n6.symm
  have hx := badA_ne hA
  have k1 := apply_ok p op hc hp s l hl
  rw [show appA p g.c l = .tup [.agg noC, .slice 1 [], .int .i64 k, .int .i64 x] by simp only [appA, hA]] at k1
  simp only [Prg.e, Config.ce, noC] at k1
  have sn := hv.snp
  have nb := hv.nb
  rw [codeI_go]
  simp [jcB, c_journal_Log_Commit, h, h1, h2, h6, hb2, hb6, sn, nb, k1, hx, lk_setl, n1, n2, n3, n4, n5, n6, lgRow_e, noCfg]
  exact ⟨_, _, ⟨rfl, rfl⟩, by simp, by simp, by simp [h6], rfl⟩
include hT in
theorem jcB_ok (hA : badA p g.c l = none) (hn : g.n < 2 ^ 40) (hb : g.b.length < 2 ^ 40) :
    ∃ e' O' N' R', codeI Φ jcB ⟨e, ⟨O, N⟩⟩ = some (.ret, ⟨e', ⟨O', N'⟩⟩) ∧ look 4 e' = some (.slice 1 (idsA p g.c l)) ∧ look 5 e' = some (.int .i64 0) ∧ look 6 e' = some (.ptr b6 1 0 0) ∧ N ≤ N' ∧ Tail O' N' ∧ LogM O' t R' p (cmt p g l) ∧ (∀ j, tid R' = some j → tid R = some j ∨ N ≤ j) ∧ Kp (fun j => j = t ∨ j = b6 ∨ tid R = some j ∨ Rs O j) N O O' ∧ look b6 O' = some (.row 1 [[.int .i64 0]]) := by
  have h := m.row
  rw [lgRow_e] at h
  have n1 : b6 ≠ t := lk_ne hb6 h (by simp)
  have n2 : b2 ≠ t := lk_ne hb2 h (by simp)
  have n3 := n1.symm
  have n4 := n2.symm
  have n5 := n6.symm
  have k1 := apply_ok p op hc hp s l hl
  rw [show appA p g.c l = .tup [.agg (Config.c (cfgN p g.c l l.length)), .slice 1 (idsA p g.c l), .int .i64 0, .int .i64 0] by simp only [appA, hA]; rfl, cfgN_len] at k1
  have k2 := jEncode l fun o ho => okO_of (hl o ho)
  have k3 := kframe (encB l) (encB_okB l) (by have := encB_len2 l; omega)
  have hw : IntKind.wrap .i64 ((g.n : Int) + 1) = ((g.n + 1 : Nat) : Int) := wrap64 (by omega) (by omega)
  have a2 := al8 (frB (encB l))
  have nF : (frB (encB l)).length ≤ 300008 := by rw [frB_len]; have := encB_len2 l; omega
  have nF0 : ¬ (frB (encB l)).map c8 = [] := by
    intro hh
    have := congrArg List.length hh
    rw [List.length_map, frB_len] at this
    simp at this
  have m1 : (frB (encB l)).length ≤ 70368744177664 := by omega
  have m2 : g.b.length + (frB (encB l)).length ≤ 70368744177664 := by omega
  have sn := hv.snp
  have nb := hv.nb
  have hT' : ∀ k, look (N + k) O = none := fun k => hT (N + k) (by omega)
  have l2 := hT.lt hb2
  have l6 := hT.lt hb6
  have lt := hT.lt h
  have q2 : ∀ k, ¬ N + k = b2 := fun k => by omega
  have q6 : ∀ k, ¬ N + k = b6 := fun k => by omega
  have qt : ∀ k, ¬ N + k = t := fun k => by omega
  have p2 : ∀ k, ¬ b2 = N + k := fun k => by omega
  have p6 : ∀ k, ¬ b6 = N + k := fun k => by omega
  have pt : ∀ k, ¬ t = N + k := fun k => by omega
  have r2 : ∀ k, (b2 == N + k) = false := fun k => by simp; omega
  have rt : ∀ k, (t == N + k) = false := fun k => by simp; omega
  have hR := m.rcd
  simp only [cmt]
  generalize xoF p g.c l = d at *
  generalize frB (encB l) = F at *
  generalize idsA p g.c l = il at *
  simp only [Prg.e, Config.ce] at k1
  rw [codeI_go]
  rcases hR with ⟨rfl, hz⟩ | ⟨T, rfl, hz⟩
  · simp [jcB, c_journal_Log_Commit, h, h1, h2, h6, hb2, hb6, sn, nb, k1, k2, k3, hw, a2, nF0, m1, lk_setl, n1, n2, n3, n4, n5, n6, lgRow_e, hT', lk_app, q2, q6, qt, p2, p6, pt, r2, rt, lk_sweep]
    refine ⟨_, _, _, ⟨rfl, rfl, rfl⟩, by simp, by simp, by simp [h6], by omega, ?_, .app 1 (F.map c8) (N + 52), ⟨?_, .inr ⟨N + 52, by simp [hz], ?_⟩⟩, ?_, ?_, ?_⟩
    · refine Tail_setl2 (Tail_setl2 (Tail_sweep2 (Tail_setl2 (Tail_append_iff.2 ⟨Tail_setl2 (Tail_setl2 (hT.mono (by omega))), ?_⟩))))
      simp [Tail_cons_iff, Tail_nil_iff]
    · simp [lk_setl, lk_app, lk_sweep, h, hb6, hT', n1, n3, p6, pt, q6, qt, lgRow_e]
    · simp [lk_setl, lk_app, lk_sweep, h, hb6, hT', n1, n3, p6, pt, q6, qt, hz]
    · intro j hj; simp [tid] at hj; right; omega
    · intro j hj hx
      have j1 : ¬ j = t := fun h => hx (.inl h)
      have j2 : ¬ j = b6 := fun h => hx (.inr (.inl h))
      have j3 : ¬ look j O = some .res := fun h => hx (.inr (.inr (.inr h)))
      have j4 : ¬ N + 52 = j := by omega
      cases hlo : look j O with
      | none => simp [lk_setl, lk_app, lk_sweep, j1, j2, j4, hlo]
      | some y =>
        have j5 : ¬ y = .res := fun hh => j3 (by rw [hlo, hh])
        simp [lk_setl, lk_app, lk_sweep, j1, j2, j4, hlo, j5]
    · simp [lk_setl, lk_app, lk_sweep, h, hb6, n1, n3]
  · have u1 : T ≠ t := lk_ne hz h (by simp)
    have u2 : T ≠ b6 := lk_ne hz hb6 (by simp)
    have u3 : T ≠ b2 := lk_ne hz hb2 (by simp)
    have u4 := u1.symm
    have u5 := u2.symm
    have u6 := u3.symm
    have lT := hT.lt hz
    have qT : ∀ k, ¬ N + k = T := fun k => by omega
    have pT : ∀ k, ¬ T = N + k := fun k => by omega
    have rT : ∀ k, (T == N + k) = false := fun k => by simp; omega
    have r3 : (b2 == T) = false := by simpa using u6
    have r4 : (t == T) = false := by simpa using u4
    simp [jcB, c_journal_Log_Commit, h, h1, h2, h6, hb2, hb6, sn, nb, k1, k2, k3, hw, a2, nF0, m1, m2, lk_setl, n1, n2, n3, n4, n5, n6, lgRow_e, hT', lk_app, q2, q6, qt, p2, p6, pt, r2, rt, lk_sweep, hz, u1, u2, u3, u4, u5, u6, qT, pT, rT, r3, r4]
    refine ⟨_, _, _, ⟨rfl, rfl, rfl⟩, by simp, by simp, by simp [h6], by omega, ?_, .app 1 ((g.b ++ F).map c8) T, ⟨?_, .inr ⟨T, rfl, ?_⟩⟩, ?_, ?_, ?_⟩
    · refine Tail_setl2 (Tail_setl2 (Tail_sweep2 (Tail_setl2 (Tail_setl2 (Tail_append_iff.2 ⟨Tail_setl2 (Tail_setl2 (hT.mono (by omega))), ?_⟩)))))
      simp [Tail_cons_iff, Tail_nil_iff]
    · simp [lk_setl, lk_app, lk_sweep, h, hb6, hT', n1, n3, p6, pt, q6, qt, u1, u2, u4, u5, lgRow_e]
    · simp [lk_setl, lk_app, lk_sweep, h, hb6, hz, hT', n1, n3, p6, pt, q6, qt, u1, u2, u4, u5]
    · intro j hj; simp [tid] at hj; left; simp [tid, hj]
    · intro j hj hx
      have j1 : ¬ j = t := fun h => hx (.inl h)
      have j2 : ¬ j = b6 := fun h => hx (.inr (.inl h))
      have j3 : ¬ look j O = some .res := fun h => hx (.inr (.inr (.inr h)))
      have j4 : ¬ N + 52 = j := by omega
      have j6 : ¬ j = T := fun h => hx (.inr (.inr (.inl (by simp [tid, h]))))
      cases hlo : look j O with
      | none => simp [lk_setl, lk_app, lk_sweep, j1, j2, j4, j6, hlo]
      | some y =>
        have j5 : ¬ y = .res := fun hh => j3 (by rw [hlo, hh])
        simp [lk_setl, lk_app, lk_sweep, j1, j2, j4, j6, hlo, j5]
    · simp [lk_setl, lk_app, lk_sweep, h, hb6, n1, n3, u2, u5]
end
theorem jcClo0 {O : List (Nat × AO)} {N b6 : Nat} {a7 a2 : AV} (hb6 : look b6 O = some (.row 1 [[.int .i64 0]])) : cloI Φ c_journal_Log_Commit .niliface [.ptr b6 1 0 0, a7, a2] ⟨O, N⟩ = some ⟨O, N⟩ := by
  unfold cloI
  rw [codeI_go]
  simp [c_journal_Log_Commit, recE, hb6]
theorem jcClo1 {O : List (Nat × AO)} {N b6 b7 b2 t : Nat} {x : Int} {p : Prg} {c c0 : Config} {R : AV} {n : Nat} (hx : x ≠ 0) (hb6 : look b6 O = some (.row 1 [[.int .i64 x]])) (hb7 : look b7 O = some (.row 4 [Config.c c])) (hb2 : look b2 O = some (.row 1 [[.ptr t 16 0 0]])) (ht : look t O = some (.row 16 [lgRow p c0 R n])) :
    cloI Φ c_journal_Log_Commit .niliface [.ptr b6 1 0 0, .ptr b7 4 0 0, .ptr b2 1 0 0] ⟨O, N⟩ = some ⟨setl t (.row 16 [lgRow p c R n]) O, N⟩ := by
  unfold cloI
  rw [codeI_go]
  rw [lgRow_e] at ht
  rw [Config.ce] at hb7
  simp [c_journal_Log_Commit, recE, hb6, hx, hb7, hb2, ht, lgRow_e]
end Go.Av
