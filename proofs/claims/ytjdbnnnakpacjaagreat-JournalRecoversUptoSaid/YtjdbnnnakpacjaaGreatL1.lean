/-
  Identifiers, widths: the reference's answers.
-/
import Derived.Test.YtjdbnnnakpacjaaGreatK22
set_option linter.unusedVariables false
set_option linter.unusedSimpArgs false
set_option linter.constructorNameAsVariable false
namespace Go.Av
set_option maxRecDepth 4000
theorem rLet_ok (c : Int) : pureI Φ f_ref05_letter [.int .u8 c] = some (.val (.bool (letC c))) := by
  rw [pureI_go (fn := c_ref05_letter) rfl rfl]
  by_cases h1 : 97 ≤ c <;> by_cases h2 : c ≤ 122 <;> by_cases h3 : 65 ≤ c <;> simp [c_ref05_letter, letC, h1, h2, h3]
theorem rDig_ok (c : Int) : pureI Φ f_ref05_digit [.int .u8 c] = some (.val (.bool (digI c))) := by
  rw [pureI_go (fn := c_ref05_digit) rfl rfl]
  by_cases h1 : 48 ≤ c <;> simp [c_ref05_digit, digI, h1]
theorem rIdent_ok (s : List UInt8) (hs : s.length < 2 ^ 40) : pureI Φ f_ref05_IsIdentifier [.str s] = some (.val (.bool (idS s))) := by
  rw [pureI_go (fn := c_ref05_IsIdentifier) rfl rfl]
  by_cases h0 : s.length = 0
  · have : s = [] := List.eq_nil_of_length_eq_zero h0
    subst this
    simp [c_ref05_IsIdentifier, idS]
  have hp : 0 < s.length := by omega
  have hne : ¬ s = [] := by intro h; subst h; simp at h0
  rw [idS_pos hp]
  by_cases h16 : 16 < s.length
  · simp [c_ref05_IsIdentifier, hne, h16, Nat.not_le.2 h16]
  have hl := rLet_ok (s[0].toNat : Int)
  cases q : letC (s[0].toNat : Int) with
  | false =>
    rw [q] at hl
    simp [c_ref05_IsIdentifier, hne, hp, h16, hl]
  | true =>
    rw [q] at hl
    generalize hX : (decide (s.length ≤ 16) && (true && s.all fun b => idC b.toNat)) = X
    simp [c_ref05_IsIdentifier, hne, hp, h16, hl]
    refine (loop_any s (fun b => !idC b.toNat) (some (Rt.val (.bool false))) (some (Rt.val (.bool true)))
      (fun i e H => look 0 e = some (.str s) ∧ look 3 e = some (.int .i64 i) ∧ H = ⟨[], 0⟩) ?_ ?_ ?_ _ _ ?_).trans ?_
    · rintro i e _ L hi hL ⟨h0, h3, rfl⟩ hb
      have g1 := rLet_ok (s[i].toNat : Int)
      have g2 := rDig_ok (s[i].toNat : Int)
      cases z1 : letC (s[i].toNat : Int) with
      | true => simp [idC, z1] at hb
      | false =>
        cases z2 : digI (s[i].toNat : Int) with
        | true => simp [idC, z1, z2] at hb
        | false =>
          rw [z1] at g1
          rw [z2] at g2
          simp only [idC, z1, z2, Bool.false_or, Bool.not_eq_true', decide_eq_false_iff_not] at hb
          simp [c_ref05_IsIdentifier_l0, h0, h3, hi, g1, g2, hb]
    · rintro i e _ L X hi hL ⟨h0, h3, rfl⟩ hb ih
      have hw : IntKind.wrap .i64 ((i : Int) + 1) = ((i + 1 : Nat) : Int) := wrap64 (by omega) (by omega)
      have g1 := rLet_ok (s[i].toNat : Int)
      have g2 := rDig_ok (s[i].toNat : Int)
      cases z1 : letC (s[i].toNat : Int) with
      | true =>
        rw [z1] at g1
        simp [c_ref05_IsIdentifier_l0, h0, h3, hi, g1, hw]
        exact ih _ _ ⟨by simp [h0], by simp, rfl⟩
      | false =>
        rw [z1] at g1
        cases z2 : digI (s[i].toNat : Int) with
        | true =>
          rw [z2] at g2
          simp [c_ref05_IsIdentifier_l0, h0, h3, hi, g1, g2, hw]
          exact ih _ _ ⟨by simp [h0], by simp, rfl⟩
        | false =>
          rw [z2] at g2
          simp only [idC, z1, z2, Bool.false_or, Bool.not_eq_false', decide_eq_true_eq] at hb
          rw [hb] at g1 g2
          simp [c_ref05_IsIdentifier_l0, h0, h3, hi, g1, g2, hb, hw]
          exact ih _ _ ⟨by simp [h0], by simp, rfl⟩
    · rintro e _ L hL ⟨h0, h3, rfl⟩
      simp [c_ref05_IsIdentifier_l0, c_ref05_IsIdentifier_k1, h0, h3, hL]
    · simp
    · rw [← hX]
      have : (s.any fun b => !idC b.toNat) = !(s.all fun b => idC b.toNat) := by
        rw [List.not_all_eq_any_not]
      rw [this]
      have h16' : decide (s.length ≤ 16) = true := by simpa using h16
      rw [h16']
      cases s.all fun b => idC b.toNat <;> rfl
theorem wrapU64 {n : Int} (h1 : 0 ≤ n) (h2 : n < 18446744073709551616) : IntKind.wrap .u64 n = n := by
  have e1 : (2 : Int) ^ 64 = 18446744073709551616 := rfl
  simp only [IntKind.wrap, IntKind.bits, IntKind.signed, Bool.false_and, e1]
  rw [if_neg (by simp)]
  omega
theorem pow_u64 {i : Nat} (h : i < 63) : IntKind.wrap .u64 (2 * 2 ^ i) = 2 ^ (i + 1) := by
  have h1 : (2 : Int) ^ (i + 1) = 2 * 2 ^ i := by rw [Int.pow_succ]; omega
  have h2 : (2 : Int) ^ i ≤ 2 ^ 62 := by
    have := Nat.pow_le_pow_right (n := 2) (by omega) (show i ≤ 62 by omega)
    exact_mod_cast this
  have h0 : (0 : Int) < 2 ^ i := by
    have := Nat.pow_pos (a := 2) (n := i) (by omega)
    exact_mod_cast this
  have h3 : (2 : Int) ^ 62 = 4611686018427387904 := rfl
  rw [h1]
  exact wrapU64 (by omega) (by omega)
theorem rvalid_ok (w : Int) : pureI Φ f_ref01_valid [.int .i64 w] = some (.val (.bool (!wBad w))) := by
  rw [pureI_go (fn := c_ref01_valid) rfl rfl]
  by_cases h1 : w < 1
  · simp [c_ref01_valid, wBad, h1, Int.not_le.2 h1]
  · by_cases h2 : 32 < w
    · simp [c_ref01_valid, wBad, h1, Int.not_lt.1 h1, h2, Int.not_le.2 h2]
    · simp [c_ref01_valid, wBad, h1, Int.not_lt.1 h1, h2, Int.not_lt.1 h2]
theorem power_ok (n : Nat) (hn : n < 63) : pureI Φ f_ref01_power [.int .i64 n] = some (.val (.int .u64 (2 ^ n))) := by
  rw [pureI_go (fn := c_ref01_power) rfl rfl]
  simp [c_ref01_power]
  refine (loop_nat0 n (fun i e => look 0 e = some (.int .i64 n) ∧ look 3 e = some (.int .u64 (2 ^ i)) ∧ look 4 e = some (.int .i64 i)) (fun i => some (Rt.val (.int .u64 (2 ^ n)))) ?_ ?_ 0 _ (Nat.zero_le _) ?_).trans (by simp)
  · rintro i e L hi hL ⟨h0, h3, h4⟩ ih
    have hw : IntKind.wrap .i64 ((i : Int) + 1) = ((i + 1 : Nat) : Int) := wrap64 (by omega) (by omega)
    have hp := pow_u64 (i := i) (by omega)
    simp [c_ref01_power_l0, h0, h3, h4, hi, hw, hp]
    exact ih _ ⟨by simp [h0], by simp, by simp⟩
  · rintro e L hL ⟨h0, h3, h4⟩
    simp [c_ref01_power_l0, c_ref01_power_k1, h0, h3, h4, hL]
  · simp
theorem rFits_ok (v w : Int) (hv : ok32 0 v) : pureI Φ f_ref01_Fits [.int .u32 v, .int .i64 w] = some (.val (.bool (fits v w))) := by
  rw [pureI_go (fn := c_ref01_Fits) rfl rfl]
  have h1 := rvalid_ok w
  have hv1 := hv.1
  have hv2 := hv.2
  have hc : IntKind.wrap .u64 v = v := wrapU64 (by omega) (by omega)
  cases q : wBad w with
  | true =>
    rw [q] at h1
    simp [c_ref01_Fits, h1, fits, q]
  | false =>
    rw [q] at h1
    obtain ⟨w1, w2⟩ := wBad_false.1 q
    obtain ⟨k, rfl⟩ : ∃ k : Nat, w = k := ⟨w.toNat, by omega⟩
    have h2 := power_ok k (by omega)
    simp [c_ref01_Fits, h1, h2, hc, fits, q]
theorem rFits12_ok (v : Int) (hv : ok32 0 v) (k : Nat) (hk : k ≤ 32) : pureI Φ f_ref12_Fits [.int .u32 v, .int .i64 k] = some (.val (.bool (decide (v < 2 ^ k)))) := by
  rw [pureI_go (fn := c_ref12_Fits) rfl rfl]
  have hv1 := hv.1
  have hv2 := hv.2
  have hc : IntKind.wrap .u64 v = v := wrapU64 (by omega) (by omega)
  generalize hX : decide (v < 2 ^ k) = X
  simp [c_ref12_Fits]
  refine (loop_nat0 k (fun i e => look 0 e = some (.int .u32 v) ∧ look 1 e = some (.int .i64 k) ∧ look 5 e = some (.int .u64 (2 ^ i)) ∧ look 6 e = some (.int .i64 i)) (fun i => some (Rt.val (.bool X))) ?_ ?_ 0 _ (Nat.zero_le _) ?_).trans (by simp)
  · rintro i e L hi hL ⟨h0, h1, h5, h6⟩ ih
    have hw : IntKind.wrap .i64 ((i : Int) + 1) = ((i + 1 : Nat) : Int) := wrap64 (by omega) (by omega)
    have hp := pow_u64 (i := i) (by omega)
    simp [c_ref12_Fits_l0, h1, h5, h6, hi, hw, hp]
    exact ih _ ⟨by simp [h0], by simp [h1], by simp, by simp⟩
  · rintro e L hL ⟨h0, h1, h5, h6⟩
    simp [c_ref12_Fits_l0, c_ref12_Fits_k1, h0, h1, h5, h6, hL, hc, ← hX]
  · simp
theorem rWid12_ok (p : Prg) (h i : Int) : pureI Φ f_ref12_Width [.agg (Prg.c p), .agg [.int .i64 h, .int .i64 i]] = some (.val (.int .i64 (wid p h i))) := by
  rw [pureI_go (fn := c_ref12_Width) rfl rfl]
  have tail : ∀ (l : List Fld), (∀ j : Int, decl p h j = (at? l j).map (·.width)) → (i < 0 ∧ wid p h i = 0) ∨ (¬ i < 0 ∧ (l.length : Int) ≤ i ∧ wid p h i = 0) ∨ ∃ k : Nat, ∃ hk : k < l.length, i = k ∧ ((l[k].width < 1 ∧ wid p h i = 0) ∨ (¬ l[k].width < 1 ∧ 32 < l[k].width ∧ wid p h i = 0) ∨ (¬ l[k].width < 1 ∧ ¬ 32 < l[k].width ∧ wid p h i = l[k].width)) := by
    intro l hd
    by_cases i0 : i < 0
    · exact .inl ⟨i0, by simp [wid, hd, at_neg i0]⟩
    by_cases i1 : (l.length : Int) ≤ i
    · exact .inr (.inl ⟨i0, i1, by simp [wid, hd, at_big i1]⟩)
    obtain ⟨k, hk⟩ : ∃ k : Nat, i = k := ⟨i.toNat, by omega⟩
    refine .inr (.inr ⟨k, by omega, hk, ?_⟩)
    have hk2 : k < l.length := by omega
    have e : wid p h i = if wBad l[k].width then 0 else l[k].width := by simp [wid, hd, hk, hk2]
    by_cases w1 : l[k].width < 1
    · exact .inl ⟨w1, by rw [e]; simp [wBad, w1]⟩
    by_cases w2 : 32 < l[k].width
    · exact .inr (.inl ⟨w1, w2, by rw [e]; simp [wBad, w2]⟩)
    · exact .inr (.inr ⟨w1, w2, by rw [e]; simp [wBad, w1, w2]⟩)
  by_cases h0 : 0 ≤ h
  · have hm : ¬ h = -1 := by omega
    have hm2 : ¬ h < -1 := by omega
    by_cases h1 : (p.headers.length : Int) ≤ h
    · rw [show wid p h i = 0 by simp [wid, decl, hm, at_big h1]]
      simp [c_ref12_Width, Prg.e, h0, h1]
    obtain ⟨m, rfl⟩ : ∃ k : Nat, h = k := ⟨h.toNat, by omega⟩
    have hk : m < p.headers.length := by omega
    rcases tail p.headers[m].fields (by intro j; simp [decl, hm, hk]) with ⟨i0, e⟩ | ⟨i0, i1, e⟩ | ⟨k, hk2, rfl, ⟨w1, e⟩ | ⟨w1, w2, e⟩ | ⟨w1, w2, e⟩⟩
    · rw [e]; simp [c_ref12_Width, Prg.e, Header.e, hk, Nat.not_le.2 hk, hm2, i0]
    · rw [e]; simp [c_ref12_Width, Prg.e, Header.e, hk, Nat.not_le.2 hk, hm2, i0, i1]
    · rw [e]; simp [c_ref12_Width, Prg.e, Header.e, Fld.e, hk, Nat.not_le.2 hk, hm2, hk2, Nat.not_le.2 hk2, w1]
    · rw [e]; simp [c_ref12_Width, Prg.e, Header.e, Fld.e, hk, Nat.not_le.2 hk, hm2, hk2, Nat.not_le.2 hk2, w1, w2]
    · rw [e]; simp [c_ref12_Width, Prg.e, Header.e, Fld.e, hk, Nat.not_le.2 hk, hm2, hk2, Nat.not_le.2 hk2, w1, w2]
  by_cases hm : h = -1
  · subst hm
    rcases tail p.metadata (by intro j; simp [decl]) with ⟨i0, e⟩ | ⟨i0, i1, e⟩ | ⟨k, hk2, rfl, ⟨w1, e⟩ | ⟨w1, w2, e⟩ | ⟨w1, w2, e⟩⟩
    · rw [e]; simp [c_ref12_Width, Prg.e, i0]
    · rw [e]; simp [c_ref12_Width, Prg.e, i0, i1]
    · rw [e]; simp [c_ref12_Width, Prg.e, Fld.e, hk2, Nat.not_le.2 hk2, w1]
    · rw [e]; simp [c_ref12_Width, Prg.e, Fld.e, hk2, Nat.not_le.2 hk2, w1, w2]
    · rw [e]; simp [c_ref12_Width, Prg.e, Fld.e, hk2, Nat.not_le.2 hk2, w1, w2]
  · have hm2 : h < -1 := by omega
    rw [show wid p h i = 0 by simp [wid, decl, hm, at_neg (show h < 0 by omega)]]
    simp [c_ref12_Width, Prg.e, h0, hm2]
theorem rWid17_ok (p : Prg) (h i : Int) : pureI Φ f_ref17_width [.agg (Prg.c p), .agg [.int .i64 h, .int .i64 i]] = some (.val (.int .i64 (wid p h i))) := by
  rw [pureI_go (fn := c_ref17_width) rfl rfl]
  have tail : ∀ (l : List Fld), (∀ j : Int, decl p h j = (at? l j).map (·.width)) → (i < 0 ∧ wid p h i = 0) ∨ (¬ i < 0 ∧ (l.length : Int) ≤ i ∧ wid p h i = 0) ∨ ∃ k : Nat, ∃ hk : k < l.length, i = k ∧ ((l[k].width < 1 ∧ wid p h i = 0) ∨ (¬ l[k].width < 1 ∧ 32 < l[k].width ∧ wid p h i = 0) ∨ (¬ l[k].width < 1 ∧ ¬ 32 < l[k].width ∧ wid p h i = l[k].width)) := by
    intro l hd
    by_cases i0 : i < 0
    · exact .inl ⟨i0, by simp [wid, hd, at_neg i0]⟩
    by_cases i1 : (l.length : Int) ≤ i
    · exact .inr (.inl ⟨i0, i1, by simp [wid, hd, at_big i1]⟩)
    obtain ⟨k, hk⟩ : ∃ k : Nat, i = k := ⟨i.toNat, by omega⟩
    refine .inr (.inr ⟨k, by omega, hk, ?_⟩)
    have hk2 : k < l.length := by omega
    have e : wid p h i = if wBad l[k].width then 0 else l[k].width := by simp [wid, hd, hk, hk2]
    by_cases w1 : l[k].width < 1
    · exact .inl ⟨w1, by rw [e]; simp [wBad, w1]⟩
    by_cases w2 : 32 < l[k].width
    · exact .inr (.inl ⟨w1, w2, by rw [e]; simp [wBad, w2]⟩)
    · exact .inr (.inr ⟨w1, w2, by rw [e]; simp [wBad, w1, w2]⟩)
  by_cases h0 : 0 ≤ h
  · have hm : ¬ h = -1 := by omega
    have hm2 : ¬ h < -1 := by omega
    by_cases h1 : (p.headers.length : Int) ≤ h
    · rw [show wid p h i = 0 by simp [wid, decl, hm, at_big h1]]
      simp [c_ref17_width, Prg.e, h0, h1]
    obtain ⟨m, rfl⟩ : ∃ k : Nat, h = k := ⟨h.toNat, by omega⟩
    have hk : m < p.headers.length := by omega
    rcases tail p.headers[m].fields (by intro j; simp [decl, hm, hk]) with ⟨i0, e⟩ | ⟨i0, i1, e⟩ | ⟨k, hk2, rfl, ⟨w1, e⟩ | ⟨w1, w2, e⟩ | ⟨w1, w2, e⟩⟩
    · rw [e]; simp [c_ref17_width, Prg.e, Header.e, hk, Nat.not_le.2 hk, hm2, i0]
    · rw [e]; simp [c_ref17_width, Prg.e, Header.e, hk, Nat.not_le.2 hk, hm2, i0, i1]
    · rw [e]; simp [c_ref17_width, Prg.e, Header.e, Fld.e, hk, Nat.not_le.2 hk, hm2, hk2, Nat.not_le.2 hk2, w1]
    · rw [e]; simp [c_ref17_width, Prg.e, Header.e, Fld.e, hk, Nat.not_le.2 hk, hm2, hk2, Nat.not_le.2 hk2, w1, w2]
    · rw [e]; simp [c_ref17_width, Prg.e, Header.e, Fld.e, hk, Nat.not_le.2 hk, hm2, hk2, Nat.not_le.2 hk2, w1, w2]
  by_cases hm : h = -1
  · subst hm
    rcases tail p.metadata (by intro j; simp [decl]) with ⟨i0, e⟩ | ⟨i0, i1, e⟩ | ⟨k, hk2, rfl, ⟨w1, e⟩ | ⟨w1, w2, e⟩ | ⟨w1, w2, e⟩⟩
    · rw [e]; simp [c_ref17_width, Prg.e, i0]
    · rw [e]; simp [c_ref17_width, Prg.e, i0, i1]
    · rw [e]; simp [c_ref17_width, Prg.e, Fld.e, hk2, Nat.not_le.2 hk2, w1]
    · rw [e]; simp [c_ref17_width, Prg.e, Fld.e, hk2, Nat.not_le.2 hk2, w1, w2]
    · rw [e]; simp [c_ref17_width, Prg.e, Fld.e, hk2, Nat.not_le.2 hk2, w1, w2]
  · have hm2 : h < -1 := by omega
    rw [show wid p h i = 0 by simp [wid, decl, hm, at_neg (show h < 0 by omega)]]
    simp [c_ref17_width, Prg.e, h0, hm2]
end Go.Av
