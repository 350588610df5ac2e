/-
  The reference's reading of an entry.
-/
import Derived.Test.YtjdbnnnakpacjaaGreatJ3
set_option linter.unusedVariables false
set_option linter.unusedSimpArgs false
set_option linter.constructorNameAsVariable false
namespace Go.Av
set_option maxRecDepth 4000
def cE (x : Entry) : List AV := [.slice 2 (x.keys.map KeyMatch.c), .int .i64 x.priority, .int .i64 x.call.action, .slice 1 (x.call.args.map c32)]
theorem cE_e (x : Entry) : cE x = [.slice 2 (x.keys.map KeyMatch.c), .int .i64 x.priority, .int .i64 x.call.action, .slice 1 (x.call.args.map c32)] := by simp [cE]
theorem KeyMatch.ceJ (x : KeyMatch) : KeyMatch.c x = [.int .u32 x.value, .int .u32 x.mask] := by simp [KeyMatch.c]
theorem rdKeys_stop {n : Nat} {s : Stt} (h : s.e ≠ 0) : rdKeys n s = (s, []) := by
  cases n with
  | zero => rfl
  | succ n => simp [rdKeys, h]
theorem rdKeys_go {n : Nat} {s : Stt} (h : s.e = 0) : rdKeys (n + 1) s = ((rdKeys n (rdKey s).1).1, (rdKey s).2 :: (rdKeys n (rdKey s).1).2) := by
  simp [rdKeys, h]
-- what follows the keys
def RE (p : Int) (x : Nat × Stt × List KeyMatch) : Option Rt := some (.val (.tup [.agg (cSt (rdCall (rdKeys x.1 x.2.1).1).1), .agg (cE ⟨x.2.2 ++ (rdKeys x.1 x.2.1).2, p, (rdCall (rdKeys x.1 x.2.1).1).2⟩)]))
theorem rentry_loop (p : Int) (n : Nat) (hn : n ≤ 255) (k : Nat) (s : Stt) (acc : List KeyMatch) (hb : okB s.b) (hk : acc.length + k = n) (e : Env) (T : List (Nat × AO)) (N : Nat) (X : List AV)
    (h1 : look 1 e = some (.ptr 0 2 0 0)) (h2 : look 2 e = some (.ptr 1 2 0 0)) (h3 : look 3 e = some (.ptr 2 4 0 0)) (h4 : look 4 e = some (.ptr 3 4 0 0)) (h5 : look 5 e = some (.int .i64 n)) (h6 : look 6 e = some (.int .i64 acc.length))
    (hT : Tail T N) (hN : 6 ≤ N) (hS : sweepL T = T) :
    go Φ (finP [.cell 2 true 2, .cell 3 true 4]) [.c (.loop c_ref28_readEntry_l0), .b 0, .c c_ref28_readEntry_k1] .normal
      ⟨e, ⟨(0, .row 2 [cSt s]) :: (1, .row 2 [[.fslice 1 [], .int .i64 0]]) :: (2, .row 4 [[.fslice 2 [], .int .i64 0, .int .i64 0, .fslice 1 []]]) :: (3, .row 4 [[.app 2 (acc.map KeyMatch.c) 5, .int .i64 p, .int .i64 0, .fslice 1 []]]) :: (4, .row 2 [X]) :: (5, .tok 2 acc.length) :: T, N⟩⟩ = RE p (k, s, acc) := by
  refine loop_rec (fun x : Nat × Stt × List KeyMatch => x.1) (fun x e h => okB x.2.1.b ∧ x.2.2.length + x.1 = n ∧ look 1 e = some (.ptr 0 2 0 0) ∧ look 2 e = some (.ptr 1 2 0 0) ∧ look 3 e = some (.ptr 2 4 0 0) ∧ look 4 e = some (.ptr 3 4 0 0) ∧
    look 5 e = some (.int .i64 n) ∧ look 6 e = some (.int .i64 x.2.2.length) ∧ ∃ X T N, Tail T N ∧ 6 ≤ N ∧ sweepL T = T ∧ h = ⟨(0, .row 2 [cSt x.2.1]) :: (1, .row 2 [[.fslice 1 [], .int .i64 0]]) :: (2, .row 4 [[.fslice 2 [], .int .i64 0, .int .i64 0, .fslice 1 []]]) :: (3, .row 4 [[.app 2 (x.2.2.map KeyMatch.c) 5, .int .i64 p, .int .i64 0, .fslice 1 []]]) :: (4, .row 2 [X]) :: (5, .tok 2 x.2.2.length) :: T, N⟩)
    (RE p) ?_ (k, s, acc) e _ ⟨hb, hk, h1, h2, h3, h4, h5, h6, X, T, N, hT, hN, hS, rfl⟩
  rintro ⟨k, s, acc⟩ e _ L hL ⟨hb, hk, h1, h2, h3, h4, h5, h6, X, T, N, hT, hN, hS, rfl⟩ ih
  simp only at hb hk h6 ih
  have hw : IntKind.wrap .i64 ((acc.length : Int) + 1) = ((acc.length + 1 : Nat) : Int) := wrap64 (by omega) (by omega)
  have hNN := hT N (Nat.le_refl _)
  have n0 : ¬ (0 = N) := by omega
  have n1 : ¬ (1 = N) := by omega
  have n2 : ¬ (2 = N) := by omega
  have n3 : ¬ (3 = N) := by omega
  have n4 : ¬ (4 = N) := by omega
  have n5 : ¬ (5 = N) := by omega
  cases k with
  | zero =>
    have q : ¬ ((acc.length : Int) < n) := by omega
    have hc := rreadCall s hb
    simp only [cSt_e, cC_e] at hc
    simp [c_ref28_readEntry_l0, c_ref28_readEntry_k1, cSt_e, cE_e, RE, rdKeys, h1, h2, h3, h4, h5, h6, hL, q, hS, hc]
  | succ k =>
    have q : (acc.length : Int) < n := by omega
    by_cases z : s.e = 0
    rotate_left
    · have hc := rreadCall s hb
      simp only [cSt_e, cC_e] at hc
      simp [c_ref28_readEntry_l0, c_ref28_readEntry_k1, cSt_e, cE_e, RE, rdKeys_stop z, h1, h2, h3, h4, h5, h6, hL, q, hS, z, hc]
    have hb1 : okB (rdN 4 s).1.b := rdN_okB hb
    have hr := rread4 s hb
    have hr2 := rread4 _ hb1
    simp only [cSt_e, z] at hr hr2
    have hu := wrapU32 (rd4_rng hb)
    have hu2 := wrapU32 (rd4_rng hb1)
    have hlen : ((acc.length : Nat) + 1) * 8 ≤ 70368744177664 := by omega
    simp [c_ref28_readEntry_l0, cSt_e, h1, h2, h3, h4, h5, h6, hL, q, z, hr, hr2, hNN, n0, n1, n2, n3, n4, n5, hu, hu2, hw, hlen]
    refine (ih (k, (rdKey s).1, acc ++ [(rdKey s).2]) _ _ (Nat.lt_succ_self k) ⟨rdKey_okB hb, by simp; omega, by simp [h1], by simp [h2], by simp [h3], by simp [h4], by simp [h5], by simp, X,
      T ++ [(N, .row 2 [[.slice 1 ((rdKey s).1.b.map c8), .int .i64 (rdKey s).1.e]])], N + 1, hT.app _, by omega, by simp [sweepL_append2, hS], by simp [cSt_e, KeyMatch.ceJ, rdKey]⟩).trans (by simp [RE, rdKeys_go z])
theorem rreadEntry (s : Stt) (hb : okB s.b) : pureI Φ f_ref28_readEntry [.agg (cSt s)] = some (.val (.tup [.agg (cSt (rdEntry s).1), .agg (cE (rdEntry s).2)])) := by
  rw [pureI_go (fn := c_ref28_readEntry) rfl rfl]
  have hr2 := rread2 s hb
  have hb2 : okB (rdN 2 s).1.b := rdN_okB hb
  have hr1 := rread1 _ hb2
  have hb1 : okB (rdN 1 (rdN 2 s).1).1.b := rdN_okB hb2
  have hrng := rd1_rng hb2
  have hr4 := rread4 _ hb1
  have hb4 : okB (rdN 4 (rdN 1 (rdN 2 s).1).1).1.b := rdN_okB hb1
  have hr5 := rread4 _ hb4
  have hu := wrapU32 (rd4_rng hb1)
  have hu2 := wrapU32 (rd4_rng hb4)
  have hw0 : IntKind.wrap .i64 1 = 1 := by decide
  simp only [rdEntry, cSt_e] at hr2 hr1 hr4 hr5 ⊢
  obtain ⟨n, hn⟩ : ∃ n : Nat, (rdN 1 (rdN 2 s).1).2 = (n : Int) := ⟨_, (Int.toNat_of_nonneg hrng.1).symm⟩
  rw [hn] at hr1 hrng
  simp [c_ref28_readEntry, cSt_e, hr2, hr1, hn]
  refine loop_once fun L hL hX => ?_
  by_cases q : n = 0
  · subst q
    have hc := rreadCall _ hb1
    simp only [cSt_e, cC_e] at hc
    simp [c_ref28_readEntry_l0, c_ref28_readEntry_k1, rdKeys, cE_e, hL, hc]
  obtain ⟨m, rfl⟩ : ∃ m, n = m + 1 := ⟨n - 1, by omega⟩
  have q' : (0 : Int) < (m : Int) + 1 := by omega
  by_cases z : (rdN 1 (rdN 2 s).1).1.e = 0
  rotate_left
  · have hc := rreadCall _ hb1
    simp only [cSt_e, cC_e] at hc
    simp [c_ref28_readEntry_l0, c_ref28_readEntry_k1, rdKeys_stop z, cE_e, q', z, hL, hc]
  rw [z] at hr4
  simp [c_ref28_readEntry_l0, q', z, hr4, hr5, hu, hu2, hw0]
  rw [hX]
  have := rentry_loop (rdN 2 s).2 (m + 1) (by omega) m (rdKey (rdN 1 (rdN 2 s).1).1).1 [(rdKey (rdN 1 (rdN 2 s).1).1).2] (rdKey_okB hb1) (by simp; omega)
  simp only [cSt_e, KeyMatch.ceJ, List.map_cons, List.map_nil] at this
  refine (this _ [] 6 _ ?_ ?_ ?_ ?_ ?_ ?_ (Tail.nil 6) (Nat.le_refl _) (by simp)).trans ?_
  · simp
  · simp
  · simp
  · simp
  · simp
  · simp
  · simp [RE, rdKeys_go z, cSt_e, cE_e]
end Go.Av
