/-
  The reference's reading of a call.
-/
import Derived.Test.YtjdbnnnakpacjaaGreatJ2
set_option linter.unusedVariables false
set_option linter.unusedSimpArgs false
set_option linter.constructorNameAsVariable false
namespace Go.Av
set_option maxRecDepth 4000
def cC (c : ActionCall) : List AV := [.int .i64 c.action, .slice 1 (c.args.map c32)]
theorem cC_e (c : ActionCall) : cC c = [.int .i64 c.action, .slice 1 (c.args.map c32)] := by simp [cC]
theorem c32eJ (x : Int) : c32 x = [.int .u32 x] := by simp [c32]
theorem rdArgs_stop {n : Nat} {s : Stt} (h : s.e ≠ 0) : rdArgs n s = (s, []) := by
  cases n with
  | zero => rfl
  | succ n => simp [rdArgs, h]
theorem rdArgs_go {n : Nat} {s : Stt} (h : s.e = 0) : rdArgs (n + 1) s = ((rdArgs n (rdN 4 s).1).1, (rdN 4 s).2 :: (rdArgs n (rdN 4 s).1).2) := by
  simp [rdArgs, h]
def RC (a : Int) (x : Nat × Stt × List Int) : Option Rt := some (.val (.tup [.agg (cSt (rdArgs x.1 x.2.1).1), .agg (cC ⟨a, x.2.2 ++ (rdArgs x.1 x.2.1).2⟩)]))
theorem rcall_loop (a : Int) (n : Nat) (hn : n ≤ 255) (k : Nat) (s : Stt) (acc : List Int) (hb : okB s.b) (hk : acc.length + k = n) (e : Env) (T : List (Nat × AO)) (N : Nat) (X : List AV)
    (h1 : look 1 e = some (.ptr 0 2 0 0)) (h2 : look 2 e = some (.ptr 1 2 0 0)) (h3 : look 3 e = some (.ptr 2 2 0 0)) (h4 : look 4 e = some (.ptr 3 2 0 0)) (h5 : look 5 e = some (.int .i64 n)) (h6 : look 6 e = some (.int .i64 acc.length))
    (hT : Tail T N) (hN : 6 ≤ N) (hS : sweepL T = T) :
    go Φ (finP [.cell 2 true 2, .cell 3 true 2]) [.c (.loop c_ref28_readCall_l0), .b 0, .c c_ref28_readCall_k1] .normal
      ⟨e, ⟨(0, .row 2 [cSt s]) :: (1, .row 2 [[.fslice 1 [], .int .i64 0]]) :: (2, .row 2 [[.int .i64 0, .fslice 1 []]]) :: (3, .row 2 [[.int .i64 a, .app 1 (acc.map c32) 5]]) :: (4, .row 2 [X]) :: (5, .tok 1 acc.length) :: T, N⟩⟩ = RC a (k, s, acc) := by
  refine loop_rec (fun x : Nat × Stt × List Int => x.1) (fun x e h => okB x.2.1.b ∧ x.2.2.length + x.1 = n ∧ look 1 e = some (.ptr 0 2 0 0) ∧ look 2 e = some (.ptr 1 2 0 0) ∧ look 3 e = some (.ptr 2 2 0 0) ∧ look 4 e = some (.ptr 3 2 0 0) ∧
    look 5 e = some (.int .i64 n) ∧ look 6 e = some (.int .i64 x.2.2.length) ∧ ∃ X T N, Tail T N ∧ 6 ≤ N ∧ sweepL T = T ∧ h = ⟨(0, .row 2 [cSt x.2.1]) :: (1, .row 2 [[.fslice 1 [], .int .i64 0]]) :: (2, .row 2 [[.int .i64 0, .fslice 1 []]]) :: (3, .row 2 [[.int .i64 a, .app 1 (x.2.2.map c32) 5]]) :: (4, .row 2 [X]) :: (5, .tok 1 x.2.2.length) :: T, N⟩)
    (RC a) ?_ (k, s, acc) e _ ⟨hb, hk, h1, h2, h3, h4, h5, h6, X, T, N, hT, hN, hS, rfl⟩
  rintro ⟨k, s, acc⟩ e _ L hL ⟨hb, hk, h1, h2, h3, h4, h5, h6, X, T, N, hT, hN, hS, rfl⟩ ih
  simp only at hb hk h6 ih
  have hw : IntKind.wrap .i64 ((acc.length : Int) + 1) = ((acc.length + 1 : Nat) : Int) := wrap64 (by omega) (by omega)
  have hNN := hT N (Nat.le_refl _)
  have n0 : ¬ (0 = N) := by omega
  have n1 : ¬ (1 = N) := by omega
  have n2 : ¬ (2 = N) := by omega
  have n3 : ¬ (3 = N) := by omega
  have n4 : ¬ (4 = N) := by omega
  have n5 : ¬ (5 = N) := by omega
  cases k with
  | zero =>
    have q : ¬ ((acc.length : Int) < n) := by omega
    simp [c_ref28_readCall_l0, c_ref28_readCall_k1, cSt_e, cC_e, RC, rdArgs, h1, h2, h3, h4, h5, h6, hL, q, hS]
  | succ k =>
    have q : (acc.length : Int) < n := by omega
    by_cases z : s.e = 0
    rotate_left
    · simp [c_ref28_readCall_l0, c_ref28_readCall_k1, cSt_e, cC_e, RC, rdArgs_stop z, h1, h2, h3, h4, h5, h6, hL, q, hS, z]
    have hr := rread4 s hb
    simp only [cSt_e, z] at hr
    have hu := wrapU32 (rd4_rng hb)
    have hlen : ((acc.length : Nat) + 1) * 4 ≤ 70368744177664 := by omega
    simp [c_ref28_readCall_l0, cSt_e, h1, h2, h3, h4, h5, h6, hL, q, z, hr, hNN, n0, n1, n2, n3, n4, n5, hu, hw, hlen]
    refine (ih (k, (rdN 4 s).1, acc ++ [(rdN 4 s).2]) _ _ (Nat.lt_succ_self k) ⟨rdN_okB hb, by simp; omega, by simp [h1], by simp [h2], by simp [h3], by simp [h4], by simp [h5], by simp, X,
      T ++ [(N, .row 2 [[.slice 1 ((rdN 4 s).1.b.map c8), .int .i64 (rdN 4 s).1.e]])], N + 1, hT.app _, by omega, by simp [sweepL_append2, hS], by simp [cSt_e, c32eJ]⟩).trans (by simp [RC, rdArgs_go z])
theorem rreadCall (s : Stt) (hb : okB s.b) : pureI Φ f_ref28_readCall [.agg (cSt s)] = some (.val (.tup [.agg (cSt (rdCall s).1), .agg (cC (rdCall s).2)])) := by
  rw [pureI_go (fn := c_ref28_readCall) rfl rfl]
  have hr2 := rread2 s hb
  have hb2 : okB (rdN 2 s).1.b := rdN_okB hb
  have hr1 := rread1 _ hb2
  have hb1 : okB (rdN 1 (rdN 2 s).1).1.b := rdN_okB hb2
  have hrng := rd1_rng hb2
  have hr4 := rread4 _ hb1
  have hu := wrapU32 (rd4_rng hb1)
  have hw0 : IntKind.wrap .i64 1 = 1 := by decide
  simp only [rdCall, cSt_e] at hr2 hr1 hr4 ⊢
  obtain ⟨n, hn⟩ : ∃ n : Nat, (rdN 1 (rdN 2 s).1).2 = (n : Int) := ⟨_, (Int.toNat_of_nonneg hrng.1).symm⟩
  rw [hn] at hr1 hrng
  simp [c_ref28_readCall, cSt_e, hr2, hr1, hn]
  refine loop_once fun L hL hX => ?_
  by_cases q : n = 0
  · subst q
    simp [c_ref28_readCall_l0, c_ref28_readCall_k1, rdArgs, cC_e, hL]
  obtain ⟨m, rfl⟩ : ∃ m, n = m + 1 := ⟨n - 1, by omega⟩
  have q' : (0 : Int) < (m : Int) + 1 := by omega
  by_cases z : (rdN 1 (rdN 2 s).1).1.e = 0
  rotate_left
  · simp [c_ref28_readCall_l0, c_ref28_readCall_k1, rdArgs_stop z, cC_e, q', z, hL]
  rw [z] at hr4
  simp [c_ref28_readCall_l0, q', z, hr4, hu, hw0]
  rw [hX]
  have := rcall_loop (rdN 2 s).2 (m + 1) (by omega) m (rdN 4 (rdN 1 (rdN 2 s).1).1).1 [(rdN 4 (rdN 1 (rdN 2 s).1).1).2] (rdN_okB hb1) (by simp; omega)
  simp only [cSt_e, c32eJ, List.map_cons, List.map_nil] at this
  refine (this _ [] 6 _ ?_ ?_ ?_ ?_ ?_ ?_ (Tail.nil 6) (Nat.le_refl _) (by simp)).trans ?_
  · simp
  · simp
  · simp
  · simp
  · simp
  · simp
  · simp [RC, rdArgs_go z, cSt_e, cC_e]
end Go.Av
