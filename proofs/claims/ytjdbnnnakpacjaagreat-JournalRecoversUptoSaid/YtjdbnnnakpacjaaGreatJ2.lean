/-
  The reference's reading of an ID, a call.
-/
import Derived.Test.YtjdbnnnakpacjaaGreatJ1
set_option linter.unusedVariables false
set_option linter.unusedSimpArgs false
set_option linter.constructorNameAsVariable false
namespace Go.Av
set_option maxRecDepth 4000
theorem sweepL_append2 : ∀ a b : List (Nat × AO), sweepL (a ++ b) = sweepL a ++ sweepL b
  | [], b => by simp
  | (u, x) :: a, b => by
    have := sweepL_append2 a b
    cases x <;> simp [sweepL, this]
theorem wrapU32 {x : Int} (h : 0 ≤ x ∧ x ≤ 4294967295) : IntKind.wrap .u32 x = x := by
  unfold IntKind.wrap
  simp [IntKind.bits, IntKind.signed]
  omega
theorem rd1_rng {s : Stt} (hb : okB s.b) : 0 ≤ (rdN 1 s).2 ∧ (rdN 1 s).2 ≤ 255 := by
  by_cases h : (rdN 1 s).1.e = 0
  · exact (rd1_in hb h).2
  · have : (rdN 1 s).2 = 0 := by
      unfold rdN at h ⊢
      split
      · split
        · rfl
        · rename_i q1 q2; rw [if_pos q1, if_neg q2] at h; simp at h
      · rfl
    omega
theorem rd2_rng {s : Stt} (hb : okB s.b) : 0 ≤ (rdN 2 s).2 ∧ (rdN 2 s).2 ≤ 65535 := by
  by_cases h : (rdN 2 s).1.e = 0
  · have := (rd2_in hb h).2
    simp [shortI] at this
    exact this
  · have : (rdN 2 s).2 = 0 := by
      unfold rdN at h ⊢
      split
      · split
        · rfl
        · rename_i q1 q2; rw [if_pos q1, if_neg q2] at h; simp at h
      · rfl
    omega
theorem rd4_rng {s : Stt} (hb : okB s.b) : 0 ≤ (rdN 4 s).2 ∧ (rdN 4 s).2 ≤ 4294967295 := by
  by_cases h : (rdN 4 s).1.e = 0
  · exact (rd4_in hb h).2
  · have : (rdN 4 s).2 = 0 := by
      unfold rdN at h ⊢
      split
      · split
        · rfl
        · rename_i q1 q2; rw [if_pos q1, if_neg q2] at h; simp at h
      · rfl
    omega
theorem rreadID (s : Stt) (hb : okB s.b) : pureI Φ f_ref28_readID [.agg (cSt s)] = some (.val (.tup [.agg (cSt (rdI s).1), .int .i64 (rdI s).2])) := by
  rw [pureI_go (fn := c_ref28_readID) rfl rfl]
  have h4 := rread4 s hb
  simp only [cSt_e] at h4
  by_cases q : 2147483647 < (rdN 4 s).2
  · simp [c_ref28_readID, cSt_e, h4, rdI, q]
  · simp [c_ref28_readID, cSt_e, h4, rdI, q]
-- the first round of a loop
theorem loop_once {Φ : FuncId → Option AFun} {β : Type} {fin : Option (Ex × St) → Option β} {b : ACode} {K : List Fr} {s : St} {R : Option β}
    (h : ∀ L, (∀ j s, go Φ fin L (.exit j) s = go Φ fin K (.exit j) s) → (∀ s, go Φ fin L .normal s = go Φ fin (.c (.loop b) :: K) .normal s) → go Φ fin (.c b :: L) .normal s = R) :
    go Φ fin (.c (.loop b) :: K) .normal s = R := by
  rw [go_loop]
  exact h _ (fun j s => by simp) (fun s => rfl)
end Go.Av
