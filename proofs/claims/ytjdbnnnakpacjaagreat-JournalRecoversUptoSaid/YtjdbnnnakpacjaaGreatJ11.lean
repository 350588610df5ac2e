/-
  The decoder answers as the reference.
-/
import Derived.Test.YtjdbnnnakpacjaaGreatJ10
set_option linter.unusedVariables false
set_option linter.unusedSimpArgs false
set_option linter.constructorNameAsVariable false
namespace Go.Av
set_option maxRecDepth 4000
theorem ddec_end (s : Stt) (acc : List TableOp) (e : Env) (h4 : look 4 e = some (.ptr 0 2 0 0)) (h6 : look 6 e = some (.app 9 (acc.map TableOp.c) 1)) (T : List (Nat × AO)) (N : Nat) (hS : sweepL T = T) :
    go Φ (finP [.tmp 2, .tmp 3]) [.c c_journal_Decode_k1] .normal ⟨e, ⟨(0, .row 2 [[.slice 1 (s.b.map c8), .int .i64 s.e]]) :: T, N⟩⟩ = some (.val (.tup [.slice 9 ((if endE s = 0 then acc else []).map TableOp.c), .int .i64 (endE s)])) := by
  by_cases z : s.e = 0
  rotate_left
  · have : endE s = s.e := by simp [endE, z]
    have hq := dreq s
    simp only [cSt_e, z, false_and, if_false] at hq
    simp [c_journal_Decode_k1, h4, h6, z, this, hS, hq]
  by_cases q : s.b = []
  · have : endE s = 0 := by simp [endE, z, q]
    have hq := dreq s true 4 T N
    simp only [cSt_e, z, q, List.map_nil, reduceCtorEq, and_false, if_false] at hq
    simp [c_journal_Decode_k1, h4, h6, z, this, q, hq]
  · have : endE s = 4 := by simp [endE, z, q]
    have hl : ¬ (s.b.length = 0) := by simpa using q
    have hq := dreq s false 4 T N
    simp only [cSt_e, z, and_self, if_true] at hq
    simp [c_journal_Decode_k1, h4, h6, z, this, hS, hl, q, hq]
theorem ddec_loop (n : Nat) (hn : n ≤ 255) (k : Nat) (s : Stt) (acc : List TableOp) (hb : okB s.b) (hk : acc.length + k = n) (e : Env) (T : List (Nat × AO)) (N : Nat)
    (h4 : look 4 e = some (.ptr 0 2 0 0)) (h5 : look 5 e = some (.int .i64 n)) (h6 : look 6 e = some (.app 9 (acc.map TableOp.c) 1)) (h7 : look 7 e = some (.int .i64 acc.length))
    (hT : Tail T N) (hN : 2 ≤ N) (hS : sweepL T = T) :
    go Φ (finP [.tmp 2, .tmp 3]) [.c (.loop c_journal_Decode_l0), .b 0, .c c_journal_Decode_k1] .normal ⟨e, ⟨(0, .row 2 [cSt s]) :: (1, .tok 9 acc.length) :: T, N⟩⟩ = RD (k, s, acc) := by
  refine loop_rec (fun x : Nat × Stt × List TableOp => x.1) (fun x e h => okB x.2.1.b ∧ x.2.2.length + x.1 = n ∧ look 4 e = some (.ptr 0 2 0 0) ∧
    look 5 e = some (.int .i64 n) ∧ look 6 e = some (.app 9 (x.2.2.map TableOp.c) 1) ∧ look 7 e = some (.int .i64 x.2.2.length) ∧ ∃ T N, Tail T N ∧ 2 ≤ N ∧ sweepL T = T ∧ h = ⟨(0, .row 2 [cSt x.2.1]) :: (1, .tok 9 x.2.2.length) :: T, N⟩)
    RD ?_ (k, s, acc) e _ ⟨hb, hk, h4, h5, h6, h7, T, N, hT, hN, hS, rfl⟩
  rintro ⟨k, s, acc⟩ e _ L hL ⟨hb, hk, h4, h5, h6, h7, T, N, hT, hN, hS, rfl⟩ ih
  simp only at hb hk h6 h7 ih
  have hw : IntKind.wrap .i64 ((acc.length : Int) + 1) = ((acc.length + 1 : Nat) : Int) := wrap64 (by omega) (by omega)
  have hend := fun (e : Env) (a : look 4 e = some (.ptr 0 2 0 0)) (b : look 6 e = some (.app 9 (acc.map TableOp.c) 1)) => ddec_end s acc e a b ((1, .tok 9 acc.length) :: T) N (by simp [hS])
  cases k with
  | zero =>
    have q : ¬ ((acc.length : Int) < n) := by omega
    simp [c_journal_Decode_l0, cSt_e, h4, h5, h6, h7, hL, q]
    refine (hend _ (by simp [h4]) (by simp [h6])).trans (by simp [RD, rdOps])
  | succ k =>
    have q : (acc.length : Int) < n := by omega
    by_cases z : s.e = 0
    rotate_left
    · simp [c_journal_Decode_l0, cSt_e, h4, h5, h6, h7, hL, q, z]
      refine (hend _ (by simp [h4]) (by simp [h6])).trans (by simp [RD, rdOps_stop z])
    obtain ⟨KX, X1, X2, E, N2, hc, hx, hK, hA1, hA2⟩ := dop s hb ((1, .tok 9 acc.length) :: T) N (by omega) (by
      intro j hj
      have n1 : ¬ 1 = j := by omega
      simp [n1, hT j hj]) (by simp [hS])
    have hlen : ((acc.length : Nat) + 1) * 120 ≤ 70368744177664 := by omega
    simp only [cSt_e, z, List.cons_append] at hc
    have hT2 : Tail (T ++ E) N2 := by
      intro j hj
      have h1 := hT j (by have := hx.le; omega)
      have h2 := hx.hi j hj
      simp [h1, h2]
    have hN2 : 2 ≤ N2 := by have := hx.le; omega
    have hS2 : sweepL (T ++ E) = T ++ E := by simp [sweepL_append2, hS, hx.sw]
    rcases hK with ⟨rfl, hk0⟩ | ⟨tk, rfl⟩ <;> rcases hA1 with ⟨rfl, ha0⟩ | ⟨t1, rfl⟩ <;> rcases hA2 with ⟨rfl, hb0⟩ | ⟨t2, rfl⟩
    · simp [c_journal_Decode_l0, cSt_e, h4, h5, h6, h7, hL, q, z, hc, hw, hlen]
      exact (ih (k, (rdOp s).1, acc ++ [(rdOp s).2]) _ _ (Nat.lt_succ_self k) ⟨rdOp_okB hb, by simp; omega, by simp [h4], by simp [h5], by simp [TableOp.ce, hk0, ha0, hb0], by simp, T ++ E, N2, hT2, hN2, hS2, by simp [cSt_e]⟩).trans (by simp [RD, rdOps_go z])
    · simp [c_journal_Decode_l0, cSt_e, h4, h5, h6, h7, hL, q, z, hc, hw, hlen]
      exact (ih (k, (rdOp s).1, acc ++ [(rdOp s).2]) _ _ (Nat.lt_succ_self k) ⟨rdOp_okB hb, by simp; omega, by simp [h4], by simp [h5], by simp [TableOp.ce, hk0, ha0], by simp, T ++ E, N2, hT2, hN2, hS2, by simp [cSt_e]⟩).trans (by simp [RD, rdOps_go z])
    · simp [c_journal_Decode_l0, cSt_e, h4, h5, h6, h7, hL, q, z, hc, hw, hlen]
      exact (ih (k, (rdOp s).1, acc ++ [(rdOp s).2]) _ _ (Nat.lt_succ_self k) ⟨rdOp_okB hb, by simp; omega, by simp [h4], by simp [h5], by simp [TableOp.ce, hk0, hb0], by simp, T ++ E, N2, hT2, hN2, hS2, by simp [cSt_e]⟩).trans (by simp [RD, rdOps_go z])
    · simp [c_journal_Decode_l0, cSt_e, h4, h5, h6, h7, hL, q, z, hc, hw, hlen]
      exact (ih (k, (rdOp s).1, acc ++ [(rdOp s).2]) _ _ (Nat.lt_succ_self k) ⟨rdOp_okB hb, by simp; omega, by simp [h4], by simp [h5], by simp [TableOp.ce, hk0], by simp, T ++ E, N2, hT2, hN2, hS2, by simp [cSt_e]⟩).trans (by simp [RD, rdOps_go z])
    · simp [c_journal_Decode_l0, cSt_e, h4, h5, h6, h7, hL, q, z, hc, hw, hlen]
      exact (ih (k, (rdOp s).1, acc ++ [(rdOp s).2]) _ _ (Nat.lt_succ_self k) ⟨rdOp_okB hb, by simp; omega, by simp [h4], by simp [h5], by simp [TableOp.ce, ha0, hb0], by simp, T ++ E, N2, hT2, hN2, hS2, by simp [cSt_e]⟩).trans (by simp [RD, rdOps_go z])
    · simp [c_journal_Decode_l0, cSt_e, h4, h5, h6, h7, hL, q, z, hc, hw, hlen]
      exact (ih (k, (rdOp s).1, acc ++ [(rdOp s).2]) _ _ (Nat.lt_succ_self k) ⟨rdOp_okB hb, by simp; omega, by simp [h4], by simp [h5], by simp [TableOp.ce, ha0], by simp, T ++ E, N2, hT2, hN2, hS2, by simp [cSt_e]⟩).trans (by simp [RD, rdOps_go z])
    · simp [c_journal_Decode_l0, cSt_e, h4, h5, h6, h7, hL, q, z, hc, hw, hlen]
      exact (ih (k, (rdOp s).1, acc ++ [(rdOp s).2]) _ _ (Nat.lt_succ_self k) ⟨rdOp_okB hb, by simp; omega, by simp [h4], by simp [h5], by simp [TableOp.ce, hb0], by simp, T ++ E, N2, hT2, hN2, hS2, by simp [cSt_e]⟩).trans (by simp [RD, rdOps_go z])
    · simp [c_journal_Decode_l0, cSt_e, h4, h5, h6, h7, hL, q, z, hc, hw, hlen]
      exact (ih (k, (rdOp s).1, acc ++ [(rdOp s).2]) _ _ (Nat.lt_succ_self k) ⟨rdOp_okB hb, by simp; omega, by simp [h4], by simp [h5], by simp [TableOp.ce], by simp, T ++ E, N2, hT2, hN2, hS2, by simp [cSt_e]⟩).trans (by simp [RD, rdOps_go z])
theorem dDecode_ok (b : List Int) (hb : okB b) : pureI Φ f_journal_Decode [.slice 1 (b.map c8)] = some (.val (.tup [.slice 9 ((decB b).1.map TableOp.c), .int .i64 (decB b).2])) := by
  rw [pureI_go (fn := c_journal_Decode) rfl rfl]
  have hn1 := dnum1 ⟨b, 0⟩ hb
  have hb1 : okB (rdN 1 ⟨b, 0⟩).1.b := rdN_okB hb
  have hrng := rd1_rng (s := ⟨b, 0⟩) hb
  have hw1 : IntKind.wrap .i64 (rdN 1 ⟨b, 0⟩).2 = (rdN 1 ⟨b, 0⟩).2 := wrap64 (by omega) (by omega)
  have key := fun n hn hk => ddec_loop n hn n (cntS (rdN 1 ⟨b, 0⟩)) [] (cntS_okB hb1) hk
  have hq : ∀ (ok : Bool), ok = decide ((rdN 1 ⟨b, 0⟩).2 ≤ 64) → ∀ T N, callI Φ f_journal_decoder_require [.ptr 0 2 0 0, .bool ok, .int .i64 5] ⟨(0, .row 2 [cSt (rdN 1 ⟨b, 0⟩).1]) :: T, N⟩ =
      some (.val (.tup []), ⟨(0, .row 2 [cSt (cntS (rdN 1 ⟨b, 0⟩))]) :: T, N⟩) := by
    rintro ok rfl T N
    rw [dreq]
    simp only [cntS]
    by_cases a : (rdN 1 ⟨b, 0⟩).1.e = 0
    · by_cases c : (rdN 1 ⟨b, 0⟩).2 ≤ 64
      · have d : ¬ (64 < (rdN 1 ⟨b, 0⟩).2) := by omega
        simp [a, c, d]
      · have d : 64 < (rdN 1 ⟨b, 0⟩).2 := by omega
        simp [a, c, d]
    · have := rdN_zero a
      simp [a, this]
  have hdec : decB b = (if endE (rdOps (rdN 1 ⟨b, 0⟩).2.toNat (cntS (rdN 1 ⟨b, 0⟩))).1 = 0 then (rdOps (rdN 1 ⟨b, 0⟩).2.toNat (cntS (rdN 1 ⟨b, 0⟩))).2 else [], endE (rdOps (rdN 1 ⟨b, 0⟩).2.toNat (cntS (rdN 1 ⟨b, 0⟩))).1) := rfl
  rw [hdec]
  simp only [cSt_e, List.map_nil, List.length_nil] at hn1 hq key
  generalize cntS (rdN 1 ⟨b, 0⟩) = s2 at *
  obtain ⟨n, hn⟩ : ∃ n : Nat, (rdN 1 ⟨b, 0⟩).2 = (n : Int) := ⟨_, (Int.toNat_of_nonneg hrng.1).symm⟩
  rw [hn] at hn1 hrng hw1 hq
  rw [hn, Int.toNat_natCast]
  have hq' := hq (decide (n ≤ 64)) (decide_eq_decide.2 (by omega))
  simp [c_journal_Decode, cSt_e, hn1, hw1, hq']
  refine (key n (by omega) (by simp) _ [] 2 ?_ ?_ ?_ ?_ (Tail.nil 2) (Nat.le_refl _) (by simp)).trans ?_
  · simp
  · simp
  · simp
  · simp
  · simp [RD]
end Go.Av
