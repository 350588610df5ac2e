/-
  Identifiers: the program's answer.
-/
import Derived.Test.YtjdbnnnakpacjaaGreatFunsAU
import Derived.Test.YtjdbnnnakpacjaaGreatAvD
set_option linter.unusedVariables false
set_option linter.unusedSimpArgs false
set_option linter.constructorNameAsVariable false
namespace Go.Av
set_option maxRecDepth 4000
def letC (c : Int) : Bool := (decide (97 ≤ c) && decide (c ≤ 122)) || (decide (65 ≤ c) && decide (c ≤ 90))
def digI (c : Int) : Bool := decide (48 ≤ c) && decide (c ≤ 57)
def idC (c : Int) : Bool := letC c || (digI c || decide (c = 95))
theorem isLetter_ok (c : Int) : pureI Φ f_lexer_isLetter [.int .u8 c] = some (.val (.bool (letC c))) := by
  rw [pureI_go (fn := c_lexer_isLetter) rfl rfl]
  by_cases h1 : 97 ≤ c <;> by_cases h2 : c ≤ 122 <;> by_cases h3 : 65 ≤ c <;> simp [c_lexer_isLetter, letC, h1, h2, h3]
theorem isDigit_ok (c : Int) : pureI Φ f_lexer_isDigit [.int .u8 c] = some (.val (.bool (digI c))) := by
  rw [pureI_go (fn := c_lexer_isDigit) rfl rfl]
  by_cases h1 : 48 ≤ c <;> simp [c_lexer_isDigit, digI, h1]
theorem idC_ok (c : Int) : pureI Φ f_lexer_IsIdentifier_1 [.int .u8 c] = some (.val (.bool (idC c))) := by
  rw [pureI_go (fn := c_lexer_IsIdentifier_1) rfl rfl]
  have h1 := isLetter_ok c
  have h2 := isDigit_ok c
  cases q1 : letC c <;> cases q2 : digI c <;> rw [q1] at h1 <;> rw [q2] at h2 <;> simp [c_lexer_IsIdentifier_1, idC, h1, h2, q1, q2]
theorem extent_ok (s : List UInt8) (hs : s.length < 2 ^ 40) : pureI Φ f_lexer_extent [.str s, .func (.func f_lexer_IsIdentifier_1) [] []] = some (.val (.int .i64 (s.takeWhile fun b => idC b.toNat).length)) := by
  rw [pureI_go (fn := c_lexer_extent) rfl rfl]
  simp [c_lexer_extent]
  refine (loop_nat0 s.length (fun i e => look 0 e = some (.str s) ∧ look 1 e = some (.func (.func f_lexer_IsIdentifier_1) [] []) ∧ look 5 e = some (.int .i64 i))
    (fun i => some (Rt.val (.int .i64 (i + ((s.drop i).takeWhile fun b => idC b.toNat).length : Nat)))) ?_ ?_ 0 _ (Nat.zero_le _) ?_).trans (by simp)
  · rintro i e L hi hL ⟨h0, h1, h5⟩ ih
    have hw : IntKind.wrap .i64 ((i : Int) + 1) = ((i + 1 : Nat) : Int) := wrap64 (by omega) (by omega)
    have hc := idC_ok (s[i].toNat : Int)
    rw [List.drop_eq_getElem_cons hi]
    cases q : idC (s[i].toNat : Int) with
    | true =>
      rw [q] at hc
      rw [show List.takeWhile (fun b : UInt8 => idC b.toNat) (s[i] :: s.drop (i + 1)) = s[i] :: List.takeWhile (fun b : UInt8 => idC b.toNat) (s.drop (i + 1)) from List.takeWhile_cons_of_pos q]
      simp [c_lexer_extent_l0, h0, h1, h5, hi, hc, hw]
      refine (ih _ ⟨by simp [h0], by simp [h1], by simp⟩).trans ?_
      simp
      omega
    | false =>
      rw [q] at hc
      rw [show List.takeWhile (fun b : UInt8 => idC b.toNat) (s[i] :: s.drop (i + 1)) = [] from List.takeWhile_cons_of_neg (by simp [q])]
      simp [c_lexer_extent_l0, c_lexer_extent_k1, h0, h1, h5, hi, hL, hc]
  · rintro e L hL ⟨h0, h1, h5⟩
    simp [c_lexer_extent_l0, c_lexer_extent_k1, h0, h5, hL]
  · simp
-- identifiers
def idS (s : List UInt8) : Bool := match s with
  | [] => false
  | c :: _ => decide (s.length ≤ 16) && (letC c.toNat && s.all fun b => idC b.toNat)
theorem takeWhile_len (p : UInt8 → Bool) : ∀ s : List UInt8, ((s.takeWhile p).length = s.length) ↔ s.all p = true
  | [] => by simp
  | c :: r => by
    have := takeWhile_len p r
    cases q : p c <;> simp [q]
    simpa using this
theorem idS_pos {s : List UInt8} (h : 0 < s.length) : idS s = (decide (s.length ≤ 16) && (letC s[0].toNat && s.all fun b => idC b.toNat)) := by
  cases s with
  | nil => simp at h
  | cons c r => rfl
theorem isIdent_ok (s : List UInt8) (hs : s.length < 2 ^ 40) : pureI Φ f_lexer_IsIdentifier [.str s] = some (.val (.bool (idS s))) := by
  rw [pureI_go (fn := c_lexer_IsIdentifier) rfl rfl]
  by_cases h0 : s.length = 0
  · have : s = [] := List.eq_nil_of_length_eq_zero h0
    subst this
    simp [c_lexer_IsIdentifier, idS]
  have hp : 0 < s.length := by omega
  rw [idS_pos hp]
  by_cases h16 : 16 < s.length
  · simp [c_lexer_IsIdentifier, h0, h16, Nat.not_le.2 h16]
  have hl := isLetter_ok (s[0].toNat : Int)
  cases q : letC (s[0].toNat : Int) with
  | false =>
    rw [q] at hl
    simp [c_lexer_IsIdentifier, h0, hp, h16, hl]
  | true =>
    rw [q] at hl
    have he := extent_ok s hs
    have ht := takeWhile_len (fun b => idC b.toNat) s
    have e : (decide ((s.takeWhile fun b => idC b.toNat).length = s.length)) = (s.all fun b => idC b.toNat) := by
      cases h : (s.all fun b => idC b.toNat) with
      | true => exact decide_eq_true (ht.2 h)
      | false => exact decide_eq_false (fun h2 => by have := ht.1 h2; rw [h] at this; cases this)
    simp [c_lexer_IsIdentifier, h0, hp, h16, Nat.le_of_not_lt h16, hl, he, e]
end Go.Av
