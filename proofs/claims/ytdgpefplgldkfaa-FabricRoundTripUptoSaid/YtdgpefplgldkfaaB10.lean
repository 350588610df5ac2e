/-
  Lemmas for the law.
-/
import Derived.Test.YtdgpefplgldkfaaB09
set_option linter.unusedVariables false
set_option linter.unusedSimpArgs false
set_option linter.constructorNameAsVariable false
namespace Go.Av
set_option maxRecDepth 8000
theorem sweepL_eq_cons {p : Nat × AO} {r : List (Nat × AO)} (h : sweepL (p :: r) = p :: r) : p.2 ≠ .res ∧ sweepL r = r := by
  obtain ⟨u, x⟩ := p
  have hlen : ∀ l : List (Nat × AO), (sweepL l).length ≤ l.length := by
    intro l
    induction l with
    | nil => simp
    | cons q l ih =>
      obtain ⟨v, y⟩ := q
      cases y <;> simp <;> omega
  cases x with
  | res =>
    simp at h
    have := hlen r
    rw [h] at this
    simp at this
    omega
  | row z es => simp at h; exact ⟨by simp, h⟩
  | tok z f => simp at h; exact ⟨by simp, h⟩
  | map es => simp at h; exact ⟨by simp, h⟩
theorem sweepL_ne {u : Nat} {x : AO} {r : List (Nat × AO)} (hx : x ≠ .res) : sweepL ((u, x) :: r) = (u, x) :: sweepL r := by
  cases x <;> simp_all
theorem sweepL_setl {t : Nat} {y : AO} (hy : y ≠ .res) : ∀ {a : List (Nat × AO)}, sweepL a = a → sweepL (setl t y a) = setl t y a
  | [], _ => by simp
  | (u, x) :: r, h => by
    obtain ⟨h1, h2⟩ := sweepL_eq_cons h
    by_cases hu : u = t
    · subst hu; rw [setl_hit, sweepL_ne hy, h2]
    · rw [setl_miss _ _ _ _ _ hu, sweepL_ne h1, sweepL_setl hy h2]
theorem hH_sweep {data : List Int} {t q id n : Nat} {fs : Nat → List AV} {O : List (Nat × AO)} (h : sweepL O = O) : ∀ k, sweepL (hH data t q id n fs O k) = hH data t q id n fs O k
  | 0 => h
  | k + 1 => by
    rw [hH]
    apply sweepL_setl (by simp)
    apply sweepL_setl (by simp [rdr])
    rw [sweepL_app, hH_sweep h k]; simp
theorem header_Read_ex (objs : List (Nat × AO)) (n id t pos q : Nat) (data : List Int) (nm : List UInt8) (names : List (List UInt8)) (hT : Tail objs n) (hS : sweepL objs = objs) (hid : id < n) (hn : look id objs = some (rdr data t q)) (hq : q = 8 * pos)
    (hd : data.length ≤ 512) (hl : pos + names.length ≤ data.length) (hb : ∀ x ∈ data, 0 ≤ x ∧ x < 256)
    (hc : pureI Φ f_header_Check [.agg (hV nm names)] = some (.val (.int .i64 0)))
    (hbits : pureI Φ f_header_Bits [.agg (hV nm names)] = some (.val (.int .i64 ((8 * names.length : Nat) : Int)))) :
    ∃ O, callI Φ f_header_Read [.agg (hV nm names), .ptr id 3 0 0] ⟨objs, n⟩ = some (.val (.tup [.app 1 (((data.drop pos).take names.length).map c32) (n + 2), .int .i64 0]), ⟨O, n + 3 + names.length⟩) ∧
      look id O = some (rdr data t (q + 8 * names.length)) ∧ look (n + 2) O = some (.tok 1 names.length) ∧ Tail O (n + 3 + names.length) ∧ sweepL O = O ∧ ∀ j, j < n → j ≠ id → look j O = look j objs := by
  refine ⟨_, header_Read_ok objs n id t pos q data nm names hT hid hn hq hd hl hb hc hbits, ?_⟩
  obtain ⟨a, b, c, d⟩ := hH_facts (data := data) (t := t) (q := q) (id := id) (n := n + 1) (fs := fun k => [.str (names.getD k []), .int .i64 8]) (O := hO data pos n nm names objs) (look_head hn)
    (by have := hT (n + 2) (by omega); show look (n + 2) _ = _; simp [hO, look_append2, this])
    (by
      intro j hj
      have h0 := hT j (by omega)
      have h1 : ¬ (n = j) := by omega
      have h2 : ¬ (n + 1 = j) := by omega
      have h3 : ¬ (n + 2 = j) := by omega
      simp [hO, look_append2, h0, h1, h2, h3]) (by omega) names.length
  refine ⟨a, b, ?_, hH_sweep ?_ _, ?_⟩
  · intro j hj; exact c j (by omega)
  · rw [hO, sweepL_app, hS]; simp
  · intro j hj hji
    have h1 : ¬ (n = j) := by omega
    have h2 : ¬ (n + 1 = j) := by omega
    have h3 : ¬ (n + 2 = j) := by omega
    refine (d j (by omega) hji).trans ?_
    rw [hO, look_append2]
    cases look j objs <;> simp [h1, h2, h3]
end Go.Av
