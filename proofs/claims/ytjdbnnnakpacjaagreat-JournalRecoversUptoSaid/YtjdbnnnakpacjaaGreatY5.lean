/-
  The bound of layer 20.
-/
import Derived.Test.YtjdbnnnakpacjaaGreatY4
set_option linter.unusedVariables false
set_option linter.unusedSimpArgs false
set_option linter.constructorNameAsVariable false
namespace Go.Av
set_option maxRecDepth 4000
def SizeQ (l : List ControlNode) (lim : Int) (x : Option Rt) : Prop := ∃ r : Int, x = some (.val (.int .i64 r)) ∧ 0 ≤ r ∧ r ≤ lim + 1 ∧ (r ≤ lim → ((pre l).length : Int) ≤ r)
theorem size_ok : ∀ (d : Nat) (l : List ControlNode) (lim : Int), d ≤ 12 → -1 ≤ lim → lim ≤ 1000 → l.length < 2 ^ 40 → (∀ x ∈ l, ControlNode.Ok bulkMax x) → SizeQ l lim (pureI Φ f_law20_size [.slice 5 (l.map ControlNode.c), .int .i64 lim, .int .i64 d]) := by
  intro d
  induction d with
  | zero =>
    intro l lim _ h1 h2 hl ho
    rw [pureI_go (fn := c_law20_size) rfl rfl]
    have w1 : IntKind.wrap .i64 (lim + 1) = lim + 1 := wrap64 (by omega) (by omega)
    simp [c_law20_size]
    rw [go_loop]
    by_cases z0 : l.length = 0
    · have : l = [] := List.eq_nil_of_length_eq_zero z0
      subst this
      simp [c_law20_size_l0, c_law20_size_k1]
      exact ⟨0, rfl, by omega, by omega, by simp [pre]⟩
    have hp : 0 < l.length := by omega
    by_cases z : 0 ≤ lim
    · obtain ⟨k, t, c, a, b, hx⟩ := node_mk l[0]
      by_cases y : 40 < c.length
      · simp [c_law20_size_l0, hp, z, hx, ControlNode.e, y, w1]
        exact ⟨lim + 1, rfl, by omega, by omega, by omega⟩
      · simp [c_law20_size_l0, hp, z, hx, ControlNode.e, y, w1]
        exact ⟨lim + 1, rfl, by omega, by omega, by omega⟩
    · simp [c_law20_size_l0, c_law20_size_k1, hp, z]
      exact ⟨0, rfl, by omega, by omega, by omega⟩
  | succ d ihd =>
    intro l lim hd h1 h2 hl ho
    rw [pureI_go (fn := c_law20_size) rfl rfl]
    have w1 : IntKind.wrap .i64 (lim + 1) = lim + 1 := wrap64 (by omega) (by omega)
    simp [c_law20_size]
    refine loop_ex l.length (fun i e => look 0 e = some (.slice 5 (l.map ControlNode.c)) ∧ look 1 e = some (.int .i64 lim) ∧ look 2 e = some (.int .i64 ((d : Int) + 1)) ∧ look 8 e = some (.int .i64 i) ∧ ∃ q : Int, look 7 e = some (.int .i64 q) ∧ 0 ≤ q ∧ q ≤ lim + 1 ∧ (q ≤ lim → ((pre (l.take i)).length : Int) ≤ q))
      (SizeQ l lim) ?_ ?_ 0 _ (Nat.zero_le _) ?_
    · rintro i e L hi hL ⟨g0, g1, g2, g8, q, g7, q0, q1, q2⟩ ih
      have hw : IntKind.wrap .i64 ((i : Int) + 1) = ((i + 1 : Nat) : Int) := wrap64 (by omega) (by omega)
      by_cases z : q ≤ lim
      rotate_left
      · simp [c_law20_size_l0, c_law20_size_k1, g0, g1, g7, g8, hi, hL, z]
        exact ⟨q, rfl, q0, q1, fun h => absurd h z⟩
      obtain ⟨k, t, c, a, b, hx⟩ := node_mk l[i]
      have ho' := ho _ (List.getElem_mem hi)
      rw [hx] at ho'
      simp only [ControlNode.Ok] at ho'
      obtain ⟨_, _, hc, ⟨ha1, ha2⟩, hb1, hb2⟩ := ho'
      rw [ControlNode.oks_eq] at ha2 hb2
      rw [bulkMax_eq] at ha1 hb1
      have hdn : ¬ ((d : Int) + 1 = 0) := by omega
      have hsub : IntKind.wrap .i64 (d : Int) = (d : Int) := wrap64 (by omega) (by omega)
      have wq : IntKind.wrap .i64 (q + 1) = q + 1 := wrap64 (by omega) (by omega)
      by_cases y : 40 < c.length
      · simp [c_law20_size_l0, g0, g1, g7, g8, hi, z, hx, ControlNode.e, y, w1, wq]
        exact ⟨lim + 1, rfl, by omega, by omega, by omega⟩
      obtain ⟨u, hu, u0, u1, u2⟩ := ihd a (lim - (q + 1)) (by omega) (by omega) (by omega) (by omega) ha2
      have ws : IntKind.wrap .i64 (lim - (q + 1)) = lim - (q + 1) := wrap64 (by omega) (by omega)
      have wu : IntKind.wrap .i64 (q + 1 + u) = q + 1 + u := wrap64 (by omega) (by omega)
      have ht := congrArg List.length (pre_take hi)
      rw [hx, pre1_mk] at ht
      simp at ht
      have hq := q2 z
      by_cases y2 : q + 1 + u ≤ lim
      · obtain ⟨v, hv, v0, v1, v2⟩ := ihd b (lim - (q + 1 + u)) (by omega) (by omega) (by omega) (by omega) hb2
        have wt : IntKind.wrap .i64 (lim - (q + 1 + u)) = lim - (q + 1 + u) := wrap64 (by omega) (by omega)
        have wv : IntKind.wrap .i64 (q + 1 + u + v) = q + 1 + u + v := wrap64 (by omega) (by omega)
        simp [c_law20_size_l0, g0, g1, g2, g7, g8, hi, z, hdn, hx, ControlNode.e, y, hsub, wq, ws, hu, wu, y2, wt, hv, wv, hw]
        refine ih _ ⟨by simp [g0], by simp [g1], by simp [g2], by simp, q + 1 + u + v, by simp, by omega, by omega, ?_⟩
        intro hlt
        have := u2 (by omega)
        have := v2 (by omega)
        rw [ht]
        simp
        omega
      · simp [c_law20_size_l0, g0, g1, g2, g7, g8, hi, z, hdn, hx, ControlNode.e, y, hsub, wq, ws, hu, wu, y2, hw]
        refine ih _ ⟨by simp [g0], by simp [g1], by simp [g2], by simp, q + 1 + u, by simp, by omega, by omega, ?_⟩
        intro hlt
        omega
    · rintro e L hL ⟨g0, g1, g2, g8, q, g7, q0, q1, q2⟩
      simp [c_law20_size_l0, c_law20_size_k1, g0, g7, g8, hL]
      exact ⟨q, rfl, q0, q1, by simpa using q2⟩
    · simp [pre]
      omega
theorem small20_ok (l : List ControlNode) (hl : l.length < 2 ^ 40) (ho : ∀ x ∈ l, ControlNode.Ok bulkMax x) : ∃ b, pureI Φ f_law20_Small [.slice 5 (l.map ControlNode.c), .int .i64 40] = some (.val (.bool b)) ∧ (b = true → (pre l).length ≤ 40) := by
  obtain ⟨r, hr, r0, r1, r2⟩ := size_ok 12 l 40 (by omega) (by omega) (by omega) hl ho
  rw [show ((12 : Nat) : Int) = 12 from rfl] at hr
  rw [pureI_go (fn := c_law20_Small) rfl rfl]
  simp [c_law20_Small, hr]
  intro h
  have := r2 h
  omega
theorem smallS_ok (p : Prg) (c : Config) (op : p.Ok bulkMax) : ∃ b, pureI Φ f_law27_SmallState [.agg (Prg.c p), .agg (Config.c c)] = some (.val (.bool b)) ∧ (b = true → (pre p.control).length ≤ 40 ∧ smallC c = true) := by
  have f := PrgB_of op
  obtain ⟨b1, h1⟩ := s17_ok p
  obtain ⟨b2, h2, k2⟩ := small20_ok p.control f.c f.co
  have h3 := SmallConfig_ok c
  rw [pureI_go (fn := c_law27_SmallState) rfl rfl]
  simp only [Prg.e, Config.ce] at h1 h3
  cases b1 <;> cases b2 <;> cases h : smallC c <;> rw [h] at h3 <;> simp [c_law27_SmallState, Prg.e, Config.ce, h1, h2, h3]
  exact k2 rfl
end Go.Av
