/-
  The decoder's operations: all kinds.
-/
import Derived.Test.YtjdbnnnakpacjaaGreatJ9
set_option linter.unusedVariables false
set_option linter.unusedSimpArgs false
set_option linter.constructorNameAsVariable false
namespace Go.Av
set_option maxRecDepth 4000
theorem rdCall_err {s : Stt} (h : s.e ≠ 0) : rdCall s = (s, call0) := by
  simp [rdCall, rdN_err h, rdArgs_stop h, call0]
theorem rdEntry_err {s : Stt} (h : s.e ≠ 0) : rdEntry s = (s, entry0) := by
  simp [rdEntry, rdN_err h, rdKeys_stop h, rdCall_err h, entry0]
theorem rdI_err {s : Stt} (h : s.e ≠ 0) : rdI s = (s, 0) := by
  simp [rdI, rdN_err h]
theorem rdTail1 (t : Int) (s : Stt) : rdTail 1 t s = ((rdEntry s).1, ⟨1, t, 0, (rdEntry s).2, call0⟩) := by
  by_cases h : s.e = 0
  · simp [rdTail, h]
  · simp [rdTail, h, rdEntry_err h]
theorem rdTail2 (t : Int) (s : Stt) : rdTail 2 t s = ((rdCall (rdI s).1).1, ⟨2, t, (rdI s).2, entry0, (rdCall (rdI s).1).2⟩) := by
  by_cases h : s.e = 0
  · by_cases g : (rdI s).1.e = 0
    · simp [rdTail, h, g]
    · simp [rdTail, h, g, rdCall_err g]
  · simp [rdTail, h, rdI_err h, rdCall_err h]
theorem rdTail3 (t : Int) (s : Stt) : rdTail 3 t s = ((rdI s).1, ⟨3, t, (rdI s).2, entry0, call0⟩) := by
  by_cases h : s.e = 0
  · simp [rdTail, h]
  · simp [rdTail, h, rdI_err h]
theorem rdTail4 (t : Int) (s : Stt) : rdTail 4 t s = ((rdCall s).1, ⟨4, t, 0, entry0, (rdCall s).2⟩) := by
  by_cases h : s.e = 0
  · simp [rdTail, h]
  · simp [rdTail, h, rdCall_err h]
theorem rdTail0 (k t : Int) {s : Stt} (h : s.e ≠ 0) : rdTail k t s = (s, ⟨k, t, 0, entry0, call0⟩) := by simp [rdTail, h]
-- what is left of the rows at the end
theorem HExt_two {T : List (Nat × AO)} {p N : Nat} (x y : List AV) (E : List (Nat × AO)) (hN : p + 2 ≤ N) (h : HExt (p + 2) E N) : HExt p ((p, .row 9 [x]) :: (p + 1, .row 9 [y]) :: E) N := by
  refine ⟨by omega, ?_, ?_, by simp [h.sw]⟩
  · intro j hj
    have n1 : ¬ p = j := by omega
    have n2 : ¬ p + 1 = j := by omega
    have := h.lo j (by omega)
    simp [n1, n2, this]
  · intro j hj
    have n1 : ¬ p = j := by omega
    have n2 : ¬ p + 1 = j := by omega
    have := h.hi j hj
    simp [n1, n2, this]
theorem HExt_nil (p : Nat) : HExt p [] p := ⟨Nat.le_refl _, fun _ _ => rfl, fun _ _ => rfl, by simp⟩
theorem dop (s : Stt) (hb : okB s.b) (T : List (Nat × AO)) (p : Nat) (hp : 1 ≤ p) (hT : Tail T p) (hS : sweepL T = T) :
    OQ T p (rdOp s).2 (rdOp s).1 (callI Φ f_journal_decoder_op [.ptr 0 2 0 0] ⟨(0, .row 2 [cSt s]) :: T, p⟩) := by
  have hb1 : okB (rdN 1 s).1.b := rdN_okB hb
  have hbk : okB (kindS (rdN 1 s)).b := kindS_okB hb1
  have hb2 : okB (rdN 2 (kindS (rdN 1 s))).1.b := rdN_okB hbk
  have hn1 := dnum1 s hb
  have hn2 := dnum2 (kindS (rdN 1 s)) hbk
  have hrng := rd1_rng hb
  have hr2 := rd2_rng hbk
  have hw1 : IntKind.wrap .i64 (rdN 1 s).2 = (rdN 1 s).2 := wrap64 (by omega) (by omega)
  have hw2 : IntKind.wrap .i64 (rdN 2 (kindS (rdN 1 s))).2 = (rdN 2 (kindS (rdN 1 s))).2 := wrap64 (by omega) (by omega)
  have hpp := hT p (Nat.le_refl _)
  have hp1 := hT (p + 1) (by omega)
  have p0 : ¬ (0 = p) := by omega
  have p0' : ¬ (p = 0) := by omega
  rw [callI_go (fn := c_journal_decoder_op) rfl rfl]
  simp only [rdOp]
  have hq : ∀ (ok : Bool), ok = (decide (1 ≤ (rdN 1 s).2) && decide ((rdN 1 s).2 ≤ 4)) → ∀ T N, callI Φ f_journal_decoder_require [.ptr 0 2 0 0, .bool ok, .int .i64 5] ⟨(0, .row 2 [cSt (rdN 1 s).1]) :: T, N⟩ =
      some (.val (.tup []), ⟨(0, .row 2 [cSt (kindS (rdN 1 s))]) :: T, N⟩) := by
    rintro ok rfl T N
    rw [dreq]
    simp only [kindS]
    by_cases a : (rdN 1 s).1.e = 0
    · by_cases b : 1 ≤ (rdN 1 s).2
      · by_cases c : (rdN 1 s).2 ≤ 4
        · have d : ¬ ((rdN 1 s).2 < 1) := by omega
          have d' : ¬ (4 < (rdN 1 s).2) := by omega
          simp [a, b, c, d, d']
        · have d' : 4 < (rdN 1 s).2 := by omega
          simp [a, b, c, d']
      · have d : (rdN 1 s).2 < 1 := by omega
        simp [a, b, d]
    · simp [a]
  have hkn : ¬ (1 ≤ (rdN 1 s).2 ∧ (rdN 1 s).2 ≤ 4) → (kindS (rdN 1 s)).e ≠ 0 := by
    intro h
    simp only [kindS]
    split
    · simp
    · rename_i g; simp only [not_and, not_or] at g; intro h0; exact h (by have := g h0; omega)
  simp only [cSt_e] at hn1 hn2 hq
  generalize rdN 1 s = pk at *
  obtain ⟨s1, k⟩ := pk
  simp only at *
  generalize kindS (s1, k) = s2 at *
  by_cases c1 : k = 1
  · subst c1
    have hqt := hq true (by simp)
    rw [rdTail1]
    have hb3 : okB (rdN 2 (rdN 2 s2).1).1.b := rdN_okB hb2
    have hb4 : okB (rdN 1 (rdN 2 (rdN 2 s2).1).1).1.b := rdN_okB hb3
    have hn3 := dnum2 _ hb2
    have hn4 := dnum1 _ hb3
    have hrg4 := rd1_rng hb3
    have hrg3 := rd2_rng hb2
    have hw3 : IntKind.wrap .i64 (rdN 2 (rdN 2 s2).1).2 = (rdN 2 (rdN 2 s2).1).2 := wrap64 (by omega) (by omega)
    simp only [rdEntry]
    obtain ⟨n, hn⟩ : ∃ n : Nat, (rdN 1 (rdN 2 (rdN 2 s2).1).1).2 = (n : Int) := ⟨_, (Int.toNat_of_nonneg hrg4.1).symm⟩
    rw [hn, Int.toNat_natCast]
    rw [hn] at hn4 hrg4
    simp only [cSt_e] at hn3 hn4
    generalize (rdN 1 (rdN 2 (rdN 2 s2).1).1).1 = s4 at *
    generalize (rdN 2 (rdN 2 s2).1).2 = pr at *
    generalize (rdN 2 s2).2 = tb at *
    simp [c_journal_decoder_op, cSt_e, hn1, hn2, hn3, hn4, hw1, hw2, hw3, hqt, hpp, hp1, p0, p0']
    have hend := fun (e : Env) (a : look 0 e = some (.ptr 0 2 0 0)) (b : look 2 e = some (.ptr p 9 0 0)) (c : look 3 e = some (.ptr (p + 1) 9 0 0)) =>
      op_end T p hp hT hS s4 hb4 tb pr [] (.fslice 2 []) (.inl ⟨rfl, rfl⟩) [.int .i64 0, .int .i64 0, .int .i64 0, .fslice 2 [], .int .i64 0, .int .i64 0, .fslice 1 [], .int .i64 0, .fslice 1 []] rfl [] (p + 1 + 1) (by omega) (fun _ _ => rfl) (fun _ _ => rfl) (by simp) e a b c
    simp only [cSt_e] at hend
    refine loop_onceQ (OQ T p _ _) fun L hL hX => ?_
    by_cases q : n = 0
    · subst q
      simp [c_journal_decoder_op_l0, hL, hpp, hp1, p0, p0', rdKeys]
      exact hend _ (by simp) (by simp) (by simp)
    obtain ⟨m, rfl⟩ : ∃ m, n = m + 1 := ⟨n - 1, by omega⟩
    have q' : (0 : Int) < (m : Int) + 1 := by omega
    by_cases z : s4.e = 0
    rotate_left
    · simp [c_journal_decoder_op_l0, hL, hpp, hp1, p0, p0', q', z, rdKeys_stop z]
      exact hend _ (by simp) (by simp) (by simp)
    have hb5 : okB (rdN 4 s4).1.b := rdN_okB hb4
    have hnum := dnum4 s4 hb4
    have hnum2 := dnum4 _ hb5
    simp only [cSt_e, z] at hnum hnum2
    have ha := aoEq_row9n tb pr
    have hw : IntKind.wrap .u32 (m : Int) = (m : Int) := wrapU32 (by omega)
    have hp58 := hT (p + 1 + 1 + 56) (by omega)
    have e1 : ¬ (p = p + 1 + 1 + 56) := by omega
    have e2 : ¬ (p + 1 = p + 1 + 1 + 56) := by omega
    have e3 : ¬ (p + 1 + 1 + 56 = p) := by omega
    have e4 : ¬ (p + 1 + 1 + 56 = p + 1) := by omega
    simp [c_journal_decoder_op_l0, cSt_e, hpp, hp1, p0, p0', z, q', hnum, hnum2, ha, hS, sweepL_append2, hw, hp58, e1, e2, e3, e4]
    rw [hX]
    have key := fun e N hN => op_loop T p hp hT hS tb pr [.int .i64 0, .int .i64 0, .int .i64 0, .fslice 2 [], .int .i64 0, .int .i64 0, .fslice 1 [], .int .i64 0, .fslice 1 []] rfl (p + 1 + 1 + 56) (by omega) m (rdKey s4).1 [(rdKey s4).2] (rdKey_okB hb4) (by simp; omega) e N hN
    simp only [KQ, cSt_e, KeyMatch.ceJ, List.map_cons, List.map_nil, List.cons_append, List.nil_append] at key
    simp only [rdKeys_go z]
    exact key _ (p + 1 + 1 + 56 + 1) (by omega) (by simp) (by simp) (by simp) (by simp)
  by_cases c2 : k = 2
  · subst c2
    have hqt := hq true (by simp)
    have hi := did _ hb2
    have hbI : okB (rdI (rdN 2 s2).1).1.b := rdI_okB hb2
    rw [rdTail2]
    obtain ⟨X, E, N, hc, hx, hv⟩ := dcall' _ hbI (T ++ [(p, .row 9 [[.int .i64 0, .int .i64 0, .int .i64 0, .fslice 2 [], .int .i64 0, .int .i64 0, .fslice 1 [], .int .i64 0, .fslice 1 []]]), (p + 1, .row 9 [[.int .i64 2, .int .i64 (rdN 2 s2).2, .int .i64 (rdI (rdN 2 s2).1).2, .fslice 2 [], .int .i64 0, .int .i64 0, .fslice 1 [], .int .i64 0, .fslice 1 []]])]) (p + 1 + 1) (by omega)
      (hT.three _ _ (fun _ _ => rfl) (Nat.le_refl _)) (by simp [sweepL_append2, hS])
    simp only [cSt_e, List.append_assoc, List.cons_append, List.nil_append] at hc hi
    refine ⟨.fslice 2 [], .fslice 1 [], X, (p, .row 9 [[.int .i64 2, .int .i64 (rdN 2 s2).2, .int .i64 (rdI (rdN 2 s2).1).2, .fslice 2 [], .int .i64 0, .int .i64 0, .fslice 1 [], .int .i64 (rdCall (rdI (rdN 2 s2).1).1).2.action, X]]) ::
      (p + 1, .row 9 [[.int .i64 2, .int .i64 (rdN 2 s2).2, .int .i64 (rdI (rdN 2 s2).1).2, .fslice 2 [], .int .i64 0, .int .i64 0, .fslice 1 [], .int .i64 (rdCall (rdI (rdN 2 s2).1).1).2.action, X]]) :: E, N, ?_, HExt_two (T := T) _ _ _ (by have := hx.le; omega) hx, .inl ⟨rfl, rfl⟩, .inl ⟨rfl, rfl⟩, hv⟩
    simp [c_journal_decoder_op, c_journal_decoder_op_k2, cSt_e, hn1, hn2, hw1, hw2, hqt, hi, hc, hpp, hp1, p0, p0', entry0, call0]
  by_cases c3 : k = 3
  · subst c3
    have hqt := hq true (by simp)
    have hi := did _ hb2
    simp only [cSt_e] at hi
    rw [rdTail3]
    refine ⟨.fslice 2 [], .fslice 1 [], .fslice 1 [], (p, .row 9 [[.int .i64 3, .int .i64 (rdN 2 s2).2, .int .i64 (rdI (rdN 2 s2).1).2, .fslice 2 [], .int .i64 0, .int .i64 0, .fslice 1 [], .int .i64 0, .fslice 1 []]]) ::
      (p + 1, .row 9 [[.int .i64 3, .int .i64 (rdN 2 s2).2, .int .i64 (rdI (rdN 2 s2).1).2, .fslice 2 [], .int .i64 0, .int .i64 0, .fslice 1 [], .int .i64 0, .fslice 1 []]]) :: [], p + 1 + 1, ?_, HExt_two (T := T) _ _ _ (by omega) (HExt_nil _), .inl ⟨rfl, rfl⟩, .inl ⟨rfl, rfl⟩, .inl ⟨rfl, rfl⟩⟩
    simp [c_journal_decoder_op, c_journal_decoder_op_k2, cSt_e, hn1, hn2, hw1, hw2, hqt, hi, hpp, hp1, p0, p0', entry0, call0]
  by_cases c4 : k = 4
  · subst c4
    have hqt := hq true (by simp)
    rw [rdTail4]
    obtain ⟨X, E, N, hc, hx, hv⟩ := dcall' _ hb2 (T ++ [(p, .row 9 [[.int .i64 0, .int .i64 0, .int .i64 0, .fslice 2 [], .int .i64 0, .int .i64 0, .fslice 1 [], .int .i64 0, .fslice 1 []]]), (p + 1, .row 9 [[.int .i64 4, .int .i64 (rdN 2 s2).2, .int .i64 0, .fslice 2 [], .int .i64 0, .int .i64 0, .fslice 1 [], .int .i64 0, .fslice 1 []]])]) (p + 1 + 1) (by omega)
      (hT.three _ _ (fun _ _ => rfl) (Nat.le_refl _)) (by simp [sweepL_append2, hS])
    simp only [cSt_e, List.append_assoc, List.cons_append, List.nil_append] at hc
    refine ⟨.fslice 2 [], .fslice 1 [], X, (p, .row 9 [[.int .i64 4, .int .i64 (rdN 2 s2).2, .int .i64 0, .fslice 2 [], .int .i64 0, .int .i64 0, .fslice 1 [], .int .i64 (rdCall (rdN 2 s2).1).2.action, X]]) ::
      (p + 1, .row 9 [[.int .i64 4, .int .i64 (rdN 2 s2).2, .int .i64 0, .fslice 2 [], .int .i64 0, .int .i64 0, .fslice 1 [], .int .i64 (rdCall (rdN 2 s2).1).2.action, X]]) :: E, N, ?_, HExt_two (T := T) _ _ _ (by have := hx.le; omega) hx, .inl ⟨rfl, rfl⟩, .inl ⟨rfl, rfl⟩, hv⟩
    simp [c_journal_decoder_op, c_journal_decoder_op_k2, cSt_e, hn1, hn2, hw1, hw2, hqt, hc, hpp, hp1, p0, p0', entry0, call0]
  · have hz := hkn (by omega)
    rw [rdTail0 _ _ (by rw [rdN_err hz]; exact hz)]
    refine ⟨.fslice 2 [], .fslice 1 [], .fslice 1 [], (p, .row 9 [[.int .i64 k, .int .i64 (rdN 2 s2).2, .int .i64 0, .fslice 2 [], .int .i64 0, .int .i64 0, .fslice 1 [], .int .i64 0, .fslice 1 []]]) ::
      (p + 1, .row 9 [[.int .i64 k, .int .i64 (rdN 2 s2).2, .int .i64 0, .fslice 2 [], .int .i64 0, .int .i64 0, .fslice 1 [], .int .i64 0, .fslice 1 []]]) :: [], p + 1 + 1, ?_, HExt_two (T := T) _ _ _ (by omega) (HExt_nil _), .inl ⟨rfl, rfl⟩, .inl ⟨rfl, rfl⟩, .inl ⟨rfl, rfl⟩⟩
    by_cases d1 : 1 ≤ k
    · have d2 : ¬ (k ≤ 4) := by omega
      have hqt := hq false (by simp [d2])
      simp [c_journal_decoder_op, c_journal_decoder_op_k2, cSt_e, hn1, hn2, hw1, hw2, hqt, d1, d2, c1, c2, c3, c4, hpp, hp1, p0, p0', entry0, call0]
    · have hqt := hq false (by simp [d1])
      simp [c_journal_decoder_op, c_journal_decoder_op_k2, cSt_e, hn1, hn2, hw1, hw2, hqt, d1, c1, c2, c3, c4, hpp, hp1, p0, p0', entry0, call0]
end Go.Av
