/-
  The reference's decoding.
-/
import Derived.Test.YtjdbnnnakpacjaaGreatJ5
set_option linter.unusedVariables false
set_option linter.unusedSimpArgs false
set_option linter.constructorNameAsVariable false
namespace Go.Av
set_option maxRecDepth 4000
theorem rdOps_stop {n : Nat} {s : Stt} (h : s.e ≠ 0) : rdOps n s = (s, []) := by
  cases n with
  | zero => rfl
  | succ n => simp [rdOps, h]
theorem rdOps_go {n : Nat} {s : Stt} (h : s.e = 0) : rdOps (n + 1) s = ((rdOps n (rdOp s).1).1, (rdOp s).2 :: (rdOps n (rdOp s).1).2) := by
  simp [rdOps, h]
def RD (x : Nat × Stt × List TableOp) : Option Rt :=
  some (.val (.tup [.slice 9 ((if endE (rdOps x.1 x.2.1).1 = 0 then x.2.2 ++ (rdOps x.1 x.2.1).2 else []).map TableOp.c), .int .i64 (endE (rdOps x.1 x.2.1).1)]))
theorem rdec_end (s : Stt) (acc : List TableOp) (e : Env) (h4 : look 4 e = some (.ptr 0 2 0 0)) (h6 : look 6 e = some (.app 9 (acc.map TableOp.c) 1)) (o : AO) (T : List (Nat × AO)) (N : Nat) (hS : sweepL ((1, o) :: T) = (1, o) :: T) :
    go Φ (finP [.tmp 2, .tmp 3]) [.c c_ref28_Decode_k1] .normal ⟨e, ⟨(0, .row 2 [[.slice 1 (s.b.map c8), .int .i64 s.e]]) :: (1, o) :: T, N⟩⟩ = some (.val (.tup [.slice 9 ((if endE s = 0 then acc else []).map TableOp.c), .int .i64 (endE s)])) := by
  by_cases z : s.e = 0
  rotate_left
  · have : endE s = s.e := by simp [endE, z]
    simp [c_ref28_Decode_k1, h4, h6, z, this, hS]
  by_cases q : s.b = []
  · have : endE s = 0 := by simp [endE, z, q]
    simp [c_ref28_Decode_k1, h4, h6, z, this, q]
  · have : endE s = 4 := by simp [endE, z, q]
    have hl : 0 < s.b.length := List.length_pos_iff.2 q
    simp [c_ref28_Decode_k1, h4, h6, z, this, hS, hl, q]
theorem rdec_loop (n : Nat) (hn : n ≤ 255) (k : Nat) (s : Stt) (acc : List TableOp) (hb : okB s.b) (hk : acc.length + k = n) (e : Env) (T : List (Nat × AO)) (N : Nat)
    (h4 : look 4 e = some (.ptr 0 2 0 0)) (h5 : look 5 e = some (.int .i64 n)) (h6 : look 6 e = some (.app 9 (acc.map TableOp.c) 1)) (h7 : look 7 e = some (.int .i64 acc.length))
    (hT : Tail T N) (hN : 2 ≤ N) (hS : sweepL T = T) :
    go Φ (finP [.tmp 2, .tmp 3]) [.c (.loop c_ref28_Decode_l0), .b 0, .c c_ref28_Decode_k1] .normal ⟨e, ⟨(0, .row 2 [cSt s]) :: (1, .tok 9 acc.length) :: T, N⟩⟩ = RD (k, s, acc) := by
  refine loop_rec (fun x : Nat × Stt × List TableOp => x.1) (fun x e h => okB x.2.1.b ∧ x.2.2.length + x.1 = n ∧ look 4 e = some (.ptr 0 2 0 0) ∧
    look 5 e = some (.int .i64 n) ∧ look 6 e = some (.app 9 (x.2.2.map TableOp.c) 1) ∧ look 7 e = some (.int .i64 x.2.2.length) ∧ ∃ T N, Tail T N ∧ 2 ≤ N ∧ sweepL T = T ∧ h = ⟨(0, .row 2 [cSt x.2.1]) :: (1, .tok 9 x.2.2.length) :: T, N⟩)
    RD ?_ (k, s, acc) e _ ⟨hb, hk, h4, h5, h6, h7, T, N, hT, hN, hS, rfl⟩
  rintro ⟨k, s, acc⟩ e _ L hL ⟨hb, hk, h4, h5, h6, h7, T, N, hT, hN, hS, rfl⟩ ih
  simp only at hb hk h6 h7 ih
  have hw : IntKind.wrap .i64 ((acc.length : Int) + 1) = ((acc.length + 1 : Nat) : Int) := wrap64 (by omega) (by omega)
  have hNN := hT N (Nat.le_refl _)
  have hN1 := hT (N + 1) (by omega)
  have n0 : ¬ (0 = N) := by omega
  have n1 : ¬ (1 = N) := by omega
  have m0 : ¬ (N = 0) := by omega
  have m1 : ¬ (1 = N + 1) := by omega
  have hend : ∀ e : Env, look 4 e = some (.ptr 0 2 0 0) → look 6 e = some (.app 9 (acc.map TableOp.c) 1) → go Φ (finP [.tmp 2, .tmp 3]) [.c c_ref28_Decode_k1] .normal ⟨e, ⟨(0, .row 2 [[.slice 1 (s.b.map c8), .int .i64 s.e]]) :: (1, .tok 9 acc.length) :: T, N⟩⟩ = some (.val (.tup [.slice 9 ((if endE s = 0 then acc else []).map TableOp.c), .int .i64 (endE s)])) :=
    fun e a b => rdec_end s acc e a b _ T N (by simp [hS])
  cases k with
  | zero =>
    have q : ¬ ((acc.length : Int) < n) := by omega
    simp [c_ref28_Decode_l0, cSt_e, h4, h5, h6, h7, hL, q]
    refine (hend _ (by simp [h4]) (by simp [h6])).trans (by simp [RD, rdOps])
  | succ k =>
    have q : (acc.length : Int) < n := by omega
    by_cases z : s.e = 0
    rotate_left
    · simp [c_ref28_Decode_l0, cSt_e, h4, h5, h6, h7, hL, q, z]
      refine (hend _ (by simp [h4]) (by simp [h6])).trans (by simp [RD, rdOps_stop z])
    have hr := rreadOp s hb
    simp only [cSt_e, z, TableOp.ce] at hr
    have hlen : ((acc.length : Nat) + 1) * 120 ≤ 70368744177664 := by omega
    simp [c_ref28_Decode_l0, cSt_e, h4, h5, h6, h7, hL, q, z, hr, hNN, hN1, n0, n1, m0, m1, hw, hlen]
    refine (ih (k, (rdOp s).1, acc ++ [(rdOp s).2]) _ _ (Nat.lt_succ_self k) ⟨rdOp_okB hb, by simp; omega, by simp [h4], by simp [h5], by simp [TableOp.ce], by simp,
      T ++ [(N, .row 2 [[.slice 1 ((rdOp s).1.b.map c8), .int .i64 (rdOp s).1.e]]), (N + 1, .row 9 [TableOp.c (rdOp s).2])], N + 2, ?_, by omega, by simp [sweepL_append2, hS], by simp [cSt_e, TableOp.ce]⟩).trans (by simp [RD, rdOps_go z])
    have := (hT.app (.row 2 [[.slice 1 ((rdOp s).1.b.map c8), .int .i64 (rdOp s).1.e]])).app (.row 9 [TableOp.c (rdOp s).2])
    simpa using this
theorem cntS_okB {p : Stt × Int} (h : okB p.1.b) : okB (cntS p).b := by
  unfold cntS; split <;> exact h
theorem rDecode_ok (b : List Int) (hb : okB b) : pureI Φ f_ref28_Decode [.slice 1 (b.map c8)] = some (.val (.tup [.slice 9 ((decB b).1.map TableOp.c), .int .i64 (decB b).2])) := by
  rw [pureI_go (fn := c_ref28_Decode) rfl rfl]
  have hr1 := rread1 ⟨b, 0⟩ hb
  have hb1 : okB (rdN 1 ⟨b, 0⟩).1.b := rdN_okB hb
  have hrng := rd1_rng (s := ⟨b, 0⟩) hb
  obtain ⟨n, hn⟩ : ∃ n : Nat, (rdN 1 ⟨b, 0⟩).2 = (n : Int) := ⟨_, (Int.toNat_of_nonneg hrng.1).symm⟩
  rw [hn] at hr1 hrng
  simp only [cSt_e] at hr1
  have key := rdec_loop n (by omega) n (cntS (rdN 1 ⟨b, 0⟩)) [] (cntS_okB hb1) (by simp)
  simp only [cSt_e, cntS, hn, List.map_nil, List.length_nil] at key
  by_cases q : 64 < (n : Int)
  · simp only [if_pos q] at key
    simp [c_ref28_Decode, hr1, q]
    refine (key _ [] 2 ?_ ?_ ?_ ?_ (Tail.nil 2) (Nat.le_refl _) (by simp)).trans ?_
    · simp
    · simp
    · simp
    · simp
    · simp [RD, decB, cntS, hn, q]
  · simp only [if_neg q] at key
    simp [c_ref28_Decode, hr1, q]
    refine (key _ [] 2 ?_ ?_ ?_ ?_ (Tail.nil 2) (Nat.le_refl _) (by simp)).trans ?_
    · simp
    · simp
    · simp
    · simp
    · simp [RD, decB, cntS, hn, q]
end Go.Av
