/-
  Comparison of configurations: both ways answer whether they are equal.
-/
import Derived.Test.YtjdbnnnakpacjaaGreatSK2
set_option linter.unusedVariables false
set_option linter.unusedSimpArgs false
set_option linter.constructorNameAsVariable false
namespace Go.Av
set_option maxRecDepth 4000
structure CfgS (a : Config) : Prop where
  rl : a.rows.length < 2 ^ 40
  rs : ∀ l ∈ a.rows, l.length < 2 ^ 40 ∧ ∀ r ∈ l, r.entry.sm
  nl : a.nextID.length < 2 ^ 40
  dl : a.defaults.length < 2 ^ 40
  ds : ∀ d ∈ a.defaults, d.args.length < 2 ^ 40
  gl : a.registers.length < 2 ^ 40
  gs : ∀ l ∈ a.registers, l.length < 2 ^ 40
theorem Config.eq_iff (a b : Config) : a = b ↔ a.rows = b.rows ∧ a.nextID = b.nextID ∧ a.defaults = b.defaults ∧ a.registers = b.registers := by
  constructor
  · rintro rfl; simp
  · rintro ⟨h1, h2, h3, h4⟩
    obtain ⟨x, y, z, u⟩ := a
    obtain ⟨x', y', z', u'⟩ := b
    simp only at h1 h2 h3 h4
    subst h1 h2 h3 h4; rfl
theorem rInts_ok (l m : List Int) (hb : l.length < 2 ^ 40) : pureI Φ f_ref02_EqualInts [.slice 1 (l.map cI), .slice 1 (m.map cI)] = some (.val (.bool (decide (l = m)))) := by
  rw [pureI_go (fn := c_ref02_EqualInts) rfl rfl]
  by_cases q1 : l.length = m.length
  rotate_left
  · have : l ≠ m := fun h => q1 (by rw [h])
    simp [c_ref02_EqualInts, q1, this]
  simp [c_ref02_EqualInts, q1]
  refine (loop_nat0 l.length (fun i e => look 0 e = some (.slice 1 (l.map cI)) ∧ look 1 e = some (.slice 1 (m.map cI)) ∧ look 5 e = some (.int .i64 i))
    (fun i => some (Rt.val (AV.bool (eqFrom l m i)))) ?_ ?_ 0 _ (Nat.zero_le _) ?_).trans (by simp [eqFrom])
  · rintro i e L hi hL ⟨h0, h1, h5⟩ ih
    have hi2 : i < m.length := by omega
    have hw : IntKind.wrap .i64 ((i : Int) + 1) = ((i + 1 : Nat) : Int) := wrap64 (by omega) (by omega)
    by_cases c : l[i] = m[i]
    · rw [eqFrom_hit hi hi2 c]
      simp [c_ref02_EqualInts_l0, cIe, hi, hi2, h0, h1, h5, hw, c]
      exact ih _ ⟨by simp [h0], by simp [h1], by simp⟩
    · rw [eqFrom_miss hi hi2 c]
      simp [c_ref02_EqualInts_l0, cIe, hi, hi2, h0, h1, h5, c]
  · rintro e L hL ⟨h0, h1, h5⟩
    rw [eqFrom_end q1]
    simp [c_ref02_EqualInts_l0, c_ref02_EqualInts_k1, *]
  · simp
theorem rVals_ok (l m : List Int) (hb : l.length < 2 ^ 40) : pureI Φ f_ref12_EqualValues [.slice 1 (l.map c32), .slice 1 (m.map c32)] = some (.val (.bool (decide (l = m)))) := by
  rw [pureI_go (fn := c_ref12_EqualValues) rfl rfl]
  by_cases q1 : l.length = m.length
  rotate_left
  · have : l ≠ m := fun h => q1 (by rw [h])
    simp [c_ref12_EqualValues, q1, this]
  simp [c_ref12_EqualValues, q1]
  refine (loop_nat0 l.length (fun i e => look 0 e = some (.slice 1 (l.map c32)) ∧ look 1 e = some (.slice 1 (m.map c32)) ∧ look 5 e = some (.int .i64 i))
    (fun i => some (Rt.val (AV.bool (eqFrom l m i)))) ?_ ?_ 0 _ (Nat.zero_le _) ?_).trans (by simp [eqFrom])
  · rintro i e L hi hL ⟨h0, h1, h5⟩ ih
    have hi2 : i < m.length := by omega
    have hw : IntKind.wrap .i64 ((i : Int) + 1) = ((i + 1 : Nat) : Int) := wrap64 (by omega) (by omega)
    by_cases c : l[i] = m[i]
    · rw [eqFrom_hit hi hi2 c]
      simp [c_ref12_EqualValues_l0, c32e, hi, hi2, h0, h1, h5, hw, c]
      exact ih _ ⟨by simp [h0], by simp [h1], by simp⟩
    · rw [eqFrom_miss hi hi2 c]
      simp [c_ref12_EqualValues_l0, c32e, hi, hi2, h0, h1, h5, c]
  · rintro e L hL ⟨h0, h1, h5⟩
    rw [eqFrom_end q1]
    simp [c_ref12_EqualValues_l0, c_ref12_EqualValues_k1, *]
  · simp
theorem rRegs_ok (l m : List (List Int)) (hb : l.length < 2 ^ 40) (hf : ∀ x ∈ l, x.length < 2 ^ 40) : pureI Φ f_ref15_Equal [.slice 1 (l.map (cS 1 c32)), .slice 1 (m.map (cS 1 c32))] = some (.val (.bool (decide (l = m)))) := by
  rw [pureI_go (fn := c_ref15_Equal) rfl rfl]
  by_cases q1 : l.length = m.length
  rotate_left
  · have : l ≠ m := fun h => q1 (by rw [h])
    simp [c_ref15_Equal, q1, this]
  simp [c_ref15_Equal, q1]
  refine (loop_nat0 l.length (fun i e => look 0 e = some (.slice 1 (l.map (cS 1 c32))) ∧ look 1 e = some (.slice 1 (m.map (cS 1 c32))) ∧ look 5 e = some (.int .i64 i))
    (fun i => some (Rt.val (AV.bool (eqFrom l m i)))) ?_ ?_ 0 _ (Nat.zero_le _) ?_).trans (by simp [eqFrom])
  · rintro i e L hi hL ⟨h0, h1, h5⟩ ih
    have hi2 : i < m.length := by omega
    have hw : IntKind.wrap .i64 ((i : Int) + 1) = ((i + 1 : Nat) : Int) := wrap64 (by omega) (by omega)
    have hee := rVals_ok l[i] m[i] (hf _ (List.getElem_mem hi))
    by_cases c : l[i] = m[i]
    · rw [decide_eq_true c] at hee
      rw [eqFrom_hit hi hi2 c]
      simp [c_ref15_Equal_l0, cSe, hi, hi2, h0, h1, h5, hw, hee]
      refine (ih _ ⟨by simp [h0], by simp [h1], by simp⟩).trans (by simp)
    · rw [decide_eq_false c] at hee
      rw [eqFrom_miss hi hi2 c]
      simp [c_ref15_Equal_l0, cSe, hi, hi2, h0, h1, h5, hee]
  · rintro e L hL ⟨h0, h1, h5⟩
    rw [eqFrom_end q1]
    simp [c_ref15_Equal_l0, c_ref15_Equal_k1, *]
  · simp
theorem rRows_ok (l m : List Rw) (hb : l.length < 2 ^ 40) (hs : ∀ r ∈ l, r.entry.sm) : pureI Φ f_ref25_EqualRows [.slice 5 (l.map Rw.c), .slice 5 (m.map Rw.c)] = some (.val (.bool (decide (l = m)))) := by
  rw [pureI_go (fn := c_ref25_EqualRows) rfl rfl]
  by_cases q1 : l.length = m.length
  rotate_left
  · have : l ≠ m := fun h => q1 (by rw [h])
    simp [c_ref25_EqualRows, q1, this]
  simp [c_ref25_EqualRows, q1]
  refine (loop_nat0 l.length (fun i e => look 0 e = some (.slice 5 (l.map Rw.c)) ∧ look 1 e = some (.slice 5 (m.map Rw.c)) ∧ look 5 e = some (.int .i64 i))
    (fun i => some (Rt.val (AV.bool (eqFrom l m i)))) ?_ ?_ 0 _ (Nat.zero_le _) ?_).trans (by simp [eqFrom])
  · rintro i e L hi hL ⟨h0, h1, h5⟩ ih
    have hi2 : i < m.length := by omega
    have hw : IntKind.wrap .i64 ((i : Int) + 1) = ((i + 1 : Nat) : Int) := wrap64 (by omega) (by omega)
    have hee := rEqual_ok l[i].entry m[i].entry (hs _ (List.getElem_mem hi))
    simp only [Entry.ce] at hee
    by_cases c1 : l[i].id = m[i].id
    rotate_left
    · rw [eqFrom_miss hi hi2 (fun h => c1 (by rw [h]))]
      simp [c_ref25_EqualRows_l0, Rw.ce, hi, hi2, h0, h1, h5, c1]
    by_cases c2 : l[i].entry.priority = m[i].entry.priority
    rotate_left
    · rw [eqFrom_miss hi hi2 (fun h => c2 (by rw [h]))]
      simp [c_ref25_EqualRows_l0, Rw.ce, hi, hi2, h0, h1, h5, c1, c2]
    by_cases c : l[i].entry = m[i].entry
    · rw [decide_eq_true c, c2] at hee
      rw [eqFrom_hit hi hi2 ((Rw.eq_iff _ _).2 ⟨c1, c⟩)]
      simp [c_ref25_EqualRows_l0, Rw.ce, hi, hi2, h0, h1, h5, hw, c1, c2, hee]
      refine (ih _ ⟨by simp [h0], by simp [h1], by simp⟩).trans (by simp)
    · rw [decide_eq_false c, c2] at hee
      rw [eqFrom_miss hi hi2 (fun h => c (by rw [h]))]
      simp [c_ref25_EqualRows_l0, Rw.ce, hi, hi2, h0, h1, h5, c1, c2, hee]
  · rintro e L hL ⟨h0, h1, h5⟩
    rw [eqFrom_end q1]
    simp [c_ref25_EqualRows_l0, c_ref25_EqualRows_k1, *]
  · simp
theorem rCalls_ok (x y : ActionCall) (h : x.args.length < 2 ^ 40) : pureI Φ f_ref23_EqualCalls [.agg (ActionCall.c x), .agg (ActionCall.c y)] = some (.val (.bool (decide (x = y)))) := by
  rw [decide_eq_decide.2 (ActionCall.eq_iff x y)]
  exact EqualCalls_ok x.action y.action x.args y.args h
theorem rEqualC_ok (a b : Config) (f : CfgS a) : pureI Φ f_ref25_Equal [.agg (Config.c a), .agg (Config.c b)] = some (.val (.bool (decide (a = b)))) := by
  have ee : decide (a = b) = decide (a.rows = b.rows ∧ a.nextID = b.nextID ∧ a.defaults = b.defaults ∧ a.registers = b.registers) := decide_eq_decide.2 (Config.eq_iff a b)
  rw [ee, pureI_go (fn := c_ref25_Equal) rfl rfl]
  have g2 := rInts_ok a.nextID b.nextID f.nl
  have g4 := rRegs_ok a.registers b.registers f.gl f.gs
  by_cases q1 : a.rows.length = b.rows.length
  rotate_left
  · have : a.rows ≠ b.rows := fun h => q1 (by rw [h])
    simp [c_ref25_Equal, Config.ce, q1, this]
  by_cases q2 : a.nextID = b.nextID
  rotate_left
  · simp [c_ref25_Equal, Config.ce, q1, q2, g2]
  by_cases q3 : a.defaults.length = b.defaults.length
  rotate_left
  · have : a.defaults ≠ b.defaults := fun h => q3 (by rw [h])
    rw [q2] at g2
    simp [c_ref25_Equal, Config.ce, q1, q2, g2, q3, this]
  by_cases q4 : a.registers = b.registers
  rotate_left
  · rw [q2] at g2
    simp [c_ref25_Equal, Config.ce, q1, q2, q3, g2, g4, q4]
  rw [q2] at g2
  rw [q4] at g4
  simp [c_ref25_Equal, Config.ce, q1, q2, q3, q4, g2, g4]
  refine (loop_nat0 a.rows.length (fun i e => look 2 e = some (.ptr 0 4 0 0) ∧ look 3 e = some (.ptr 1 4 0 0) ∧ look 5 e = some (.int .i64 i))
    (fun i => some (Rt.val (AV.bool (eqFrom a.rows b.rows i && decide (a.defaults = b.defaults))))) ?_ ?_ 0 _ (Nat.zero_le _) ?_).trans (by simp [eqFrom])
  · rintro i e L hi hL ⟨h2, h3, h5⟩ ih
    have hi2 : i < b.rows.length := by omega
    have hw : IntKind.wrap .i64 ((i : Int) + 1) = ((i + 1 : Nat) : Int) := wrap64 (by omega) (by have := f.rl; omega)
    obtain ⟨u1, u2⟩ := f.rs _ (List.getElem_mem hi)
    have hee := rRows_ok a.rows[i] b.rows[i] u1 u2
    by_cases c : a.rows[i] = b.rows[i]
    · rw [decide_eq_true c] at hee
      rw [eqFrom_hit hi hi2 c]
      simp [c_ref25_Equal_l0, cSe, hi, hi2, h2, h3, h5, hee, hw]
      refine (ih _ ⟨by simp [h2], by simp [h3], by simp⟩).trans (by simp)
    · rw [decide_eq_false c] at hee
      rw [eqFrom_miss hi hi2 c]
      simp [c_ref25_Equal_l0, cSe, hi, hi2, h2, h3, h5, hee]
  · rintro e L hL ⟨h2, h3, h5⟩
    rw [eqFrom_end q1]
    simp [c_ref25_Equal_l0, c_ref25_Equal_k3, h2, h5, hL]
    refine (loop_nat0 a.defaults.length (fun i e => look 2 e = some (.ptr 0 4 0 0) ∧ look 3 e = some (.ptr 1 4 0 0) ∧ look 6 e = some (.int .i64 i))
      (fun i => some (Rt.val (AV.bool (eqFrom a.defaults b.defaults i)))) ?_ ?_ 0 _ (Nat.zero_le _) ?_).trans (by simp [eqFrom])
    · rintro i e L' hi hL' ⟨h2, h3, h6⟩ ih
      have hi2 : i < b.defaults.length := by omega
      have hw : IntKind.wrap .i64 ((i : Int) + 1) = ((i + 1 : Nat) : Int) := wrap64 (by omega) (by have := f.dl; omega)
      have hee := rCalls_ok a.defaults[i] b.defaults[i] (f.ds _ (List.getElem_mem hi))
      simp only [ActionCall.ce] at hee
      by_cases c : a.defaults[i] = b.defaults[i]
      · rw [decide_eq_true c] at hee
        rw [eqFrom_hit hi hi2 c]
        simp [c_ref25_Equal_l1, ActionCall.ce, hi, hi2, h2, h3, h6, hee, hw]
        refine (ih _ ⟨by simp [h2], by simp [h3], by simp⟩).trans (by simp)
      · rw [decide_eq_false c] at hee
        rw [eqFrom_miss hi hi2 c]
        simp [c_ref25_Equal_l1, ActionCall.ce, hi, hi2, h2, h3, h6, hee]
    · rintro e L' hL' ⟨h2, h3, h6⟩
      rw [eqFrom_end q3]
      simp [c_ref25_Equal_l1, c_ref25_Equal_k2, h2, h6, hL']
    · simp [h2, h3]
  · simp
end Go.Av
