/-
  Answers that are only bounded: whatever they are, they are there.
-/
import Derived.Test.YtjdbnnnakpacjaaGreatL12
set_option linter.unusedVariables false
set_option linter.unusedSimpArgs false
set_option linter.constructorNameAsVariable false
namespace Go.Av
set_option maxRecDepth 4000
def IsB (x : Option Rt) : Prop := ∃ b, x = some (.val (.bool b))
@[simp] theorem IsB_some (b : Bool) : IsB (some (.val (.bool b))) := ⟨b, rfl⟩
theorem loop_ex {Φ : FuncId → Option AFun} {β : Type} {fin : Option (Ex × St) → Option β} {h : AH} (N : Nat) (Inv : Nat → Env → Prop) (Q : Option β → Prop) {b : ACode} {K : List Fr}
    (step : ∀ i e L, i < N → (∀ j s, go Φ fin L (.exit j) s = go Φ fin K (.exit j) s) → Inv i e → (∀ e', Inv (i + 1) e' → Q (go Φ fin L .normal ⟨e', h⟩)) → Q (go Φ fin (.c b :: L) .normal ⟨e, h⟩))
    (last : ∀ e L, (∀ j s, go Φ fin L (.exit j) s = go Φ fin K (.exit j) s) → Inv N e → Q (go Φ fin (.c b :: L) .normal ⟨e, h⟩)) :
    ∀ i e, i ≤ N → Inv i e → Q (go Φ fin (.c (.loop b) :: K) .normal ⟨e, h⟩) := by
  intro i e hi hv
  refine loop_exH N (fun i e H => H = h ∧ Inv i e) Q ?_ ?_ i e h hi ⟨rfl, hv⟩
  · rintro i e _ L hi hL ⟨rfl, hv⟩ ih
    exact step i e L hi hL hv fun e' hv' => ih e' _ ⟨rfl, hv'⟩
  · rintro e _ L hL ⟨rfl, hv⟩
    exact last e L hL hv
-- the number of control nodes, as the law bounds it
def NodeQ (l : List ControlNode) (d : Nat) (x : Option Rt) : Prop := ∃ r : Int, x = some (.val (.int .i64 r)) ∧ 0 ≤ r ∧ r ≤ 2 ^ (41 + 2 * d) ∧ (r < 100 → ((pre l).length : Int) ≤ r)
theorem pow_le (d : Nat) (hd : d ≤ 10) : (2 : Int) ^ (41 + 2 * d) ≤ 2305843009213693952 := by
  have := Nat.pow_le_pow_right (n := 2) (by omega) (show 41 + 2 * d ≤ 61 by omega)
  have e : (2 : Nat) ^ 61 = 2305843009213693952 := by decide
  rw [e] at this
  rw [show (2 : Int) ^ (41 + 2 * d) = ((2 ^ (41 + 2 * d) : Nat) : Int) from by rw [Int.natCast_pow]; rfl]
  omega
theorem pow_41 (d : Nat) : (2199023255552 : Int) ≤ 2 ^ (41 + 2 * d) := by
  have := Nat.pow_le_pow_right (n := 2) (by omega) (show 41 ≤ 41 + 2 * d by omega)
  have e : (2 : Nat) ^ 41 = 2199023255552 := by decide
  rw [e] at this
  rw [show (2 : Int) ^ (41 + 2 * d) = ((2 ^ (41 + 2 * d) : Nat) : Int) from by rw [Int.natCast_pow]; rfl]
  omega
theorem pow_step (d : Nat) : (2 : Int) ^ (41 + 2 * (d + 1)) = 4 * 2 ^ (41 + 2 * d) := by
  rw [show 41 + 2 * (d + 1) = (41 + 2 * d) + 1 + 1 by omega, Int.pow_succ, Int.pow_succ]
  omega
theorem nodes_ok : ∀ (d : Nat) (l : List ControlNode), d ≤ 10 → l.length < 2 ^ 40 → (∀ x ∈ l, ControlNode.Ok bulkMax x) → NodeQ l d (pureI Φ f_law21_nodes [.slice 5 (l.map ControlNode.c), .int .i64 d]) := by
  intro d
  induction d with
  | zero =>
    intro l _ hl ho
    rw [pureI_go (fn := c_law21_nodes) rfl rfl]
    simp [c_law21_nodes]
    rw [go_loop]
    by_cases z0 : l.length = 0
    · have : l = [] := List.eq_nil_of_length_eq_zero z0
      subst this
      simp [c_law21_nodes_l0, c_law21_nodes_k1]
      exact ⟨0, rfl, by omega, by decide, by simp [pre]⟩
    have hp : 0 < l.length := by omega
    by_cases z1 : l.length < 100
    · simp [c_law21_nodes_l0, hp, z1]
      exact ⟨100, rfl, by omega, by decide, by omega⟩
    · simp [c_law21_nodes_l0, c_law21_nodes_k1, hp, z1]
      exact ⟨l.length, rfl, by omega, by simp; omega, by omega⟩
  | succ d ihd =>
    intro l hd hl ho
    rw [pureI_go (fn := c_law21_nodes) rfl rfl]
    have p1 := pow_le (d + 1) hd
    have p2 := pow_41 d
    have p3 := pow_step d
    have p4 := pow_41 (d + 1)
    simp [c_law21_nodes]
    refine loop_ex l.length (fun i e => look 0 e = some (.slice 5 (l.map ControlNode.c)) ∧ look 1 e = some (.int .i64 ((d : Int) + 1)) ∧ look 6 e = some (.int .i64 i) ∧ ∃ q : Int, look 5 e = some (.int .i64 q) ∧ 0 ≤ q ∧ q ≤ 2 ^ (41 + 2 * (d + 1)) ∧ (q < 100 → ((pre (l.take i)).length : Int) + (l.length - i) ≤ q))
      (NodeQ l (d + 1)) ?_ ?_ 0 _ (Nat.zero_le _) ?_
    · rintro i e L hi hL ⟨h0, h1, h6, q, h5, q0, q1, q2⟩ ih
      have hw : IntKind.wrap .i64 ((i : Int) + 1) = ((i + 1 : Nat) : Int) := wrap64 (by omega) (by omega)
      by_cases z : q < 100
      rotate_left
      · simp [c_law21_nodes_l0, c_law21_nodes_k1, h0, h5, h6, hi, hL, z]
        exact ⟨q, rfl, q0, q1, fun h => absurd h z⟩
      obtain ⟨k, t, c, a, b, hx⟩ := node_mk l[i]
      have ho' := ho _ (List.getElem_mem hi)
      rw [hx] at ho'
      simp only [ControlNode.Ok] at ho'
      obtain ⟨_, _, hc, ⟨ha1, ha2⟩, hb1, hb2⟩ := ho'
      rw [ControlNode.oks_eq] at ha2 hb2
      rw [bulkMax_eq] at ha1 hb1
      have hdn : ¬ ((d : Int) + 1 = 0) := by omega
      have hsub : IntKind.wrap .i64 (d : Int) = (d : Int) := wrap64 (by omega) (by omega)
      by_cases y : 40 < c.length
      · simp [c_law21_nodes_l0, h0, h1, h5, h6, hi, z, hdn, hx, ControlNode.e, y]
        exact ⟨100, rfl, by omega, by omega, by omega⟩
      obtain ⟨u, hu, u0, u1, u2⟩ := ihd a (by omega) (by omega) ha2
      obtain ⟨v, hv, v0, v1, v2⟩ := ihd b (by omega) (by omega) hb2
      have wu : IntKind.wrap .i64 (q + u) = q + u := wrap64 (by omega) (by omega)
      have wv : IntKind.wrap .i64 (q + u + v) = q + u + v := wrap64 (by omega) (by omega)
      simp [c_law21_nodes_l0, h0, h1, h5, h6, hi, z, hdn, hx, ControlNode.e, y, hsub, hu, hv, wu, wv, hw]
      refine ih _ ⟨by simp [h0], by simp [h1], by simp, q + u + v, by simp, by omega, by omega, ?_⟩
      intro hlt
      have ht := congrArg List.length (pre_take hi)
      rw [hx, pre1_mk] at ht
      simp at ht
      have := q2 z
      have := u2 (by omega)
      have := v2 (by omega)
      rw [ht]
      simp
      omega
    · rintro e L hL ⟨h0, h1, h6, q, h5, q0, q1, q2⟩
      simp [c_law21_nodes_l0, c_law21_nodes_k1, h0, h5, h6, hL]
      refine ⟨q, rfl, q0, q1, fun h => ?_⟩
      have := q2 h
      rw [List.take_length] at this
      omega
    · simp [pre]
      omega
end Go.Av
