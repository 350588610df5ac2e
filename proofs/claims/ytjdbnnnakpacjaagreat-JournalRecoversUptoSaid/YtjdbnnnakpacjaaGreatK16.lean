/-
  Nesting and number of control nodes: the program's answers.
-/
import Derived.Test.YtjdbnnnakpacjaaGreatK15
set_option linter.unusedVariables false
set_option linter.unusedSimpArgs false
set_option linter.constructorNameAsVariable false
namespace Go.Av
set_option maxRecDepth 4000
theorem pre_append : ∀ a b : List ControlNode, pre (a ++ b) = pre a ++ pre b
  | [], b => by simp [pre]
  | x :: a, b => by simp [pre, pre_append a b]
theorem pre_take {l : List ControlNode} {i : Nat} (hi : i < l.length) : pre (l.take (i + 1)) = pre (l.take i) ++ pre1 l[i] := by
  rw [List.take_succ_eq_append_getElem hi, pre_append]
  simp [pre]
theorem pre1_mk (k t : Int) (c : List ExprNode) (a b : List ControlNode) : pre1 (.mk k t c a b) = .mk k t c a b :: (pre a ++ pre b) := by simp [pre1]
theorem pre1_len (x : ControlNode) : 1 ≤ (pre1 x).length := by
  cases x; rw [pre1_mk]; simp
theorem pre_len : ∀ l : List ControlNode, l.length ≤ (pre l).length
  | [] => by simp
  | x :: r => by
    have := pre_len r
    have := pre1_len x
    simp [pre]; omega
theorem pre_mem {l : List ControlNode} {i : Nat} (hi : i < l.length) : (pre1 l[i]).length ≤ (pre l).length := by
  have h : pre l = pre (l.take i) ++ (pre1 l[i] ++ pre (l.drop (i + 1))) := by
    conv => lhs; rw [← List.take_append_drop i l, pre_append, List.drop_eq_getElem_cons hi]
    simp [pre]
  rw [h]; simp; omega
def nestM (l : List ControlNode) : Nat := match l with
  | [] => 0
  | x :: r => max (nest1 x) (nestM r)
theorem nest_eq : ∀ l : List ControlNode, l ≠ [] → nest l = nestM l + 1
  | [], h => absurd rfl h
  | [x], _ => by simp [nest, nestM]; omega
  | x :: y :: r, _ => by
    have := nest_eq (y :: r) (by simp)
    rw [nest, nestM, this]; omega
theorem nestM_append : ∀ a b : List ControlNode, nestM (a ++ b) = max (nestM a) (nestM b)
  | [], b => by simp [nestM]
  | x :: a, b => by rw [List.cons_append, nestM, nestM_append a b, nestM]; omega
theorem nestM_take {l : List ControlNode} {i : Nat} (hi : i < l.length) : nestM (l.take (i + 1)) = max (nestM (l.take i)) (nest1 l[i]) := by
  rw [List.take_succ_eq_append_getElem hi, nestM_append]
  simp [nestM]
theorem nest1_mk (k t : Int) (c : List ExprNode) (a b : List ControlNode) : nest1 (.mk k t c a b) = max (nest a) (nest b) := by simp [nest1]
mutual
theorem nest1_le : ∀ x : ControlNode, nest1 x < (pre1 x).length
  | .mk k t c a b => by
    have h1 := nest_le a
    have h2 := nest_le b
    rw [nest1_mk, pre1_mk]; simp; omega
theorem nest_le : ∀ l : List ControlNode, nest l ≤ (pre l).length
  | [] => by simp [nest]
  | x :: r => by
    have h1 := nest1_le x
    have h2 := nest_le r
    rw [nest, pre]; simp; omega
end
theorem nestM_le (l : List ControlNode) : nestM l ≤ (pre l).length := by
  cases l with
  | nil => simp [nestM]
  | cons x r => have := nest_eq (x :: r) (by simp); have := nest_le (x :: r); omega
theorem node_mk (x : ControlNode) : ∃ k t c a b, x = .mk k t c a b := by
  cases x with
  | mk k t c a b => exact ⟨k, t, c, a, b, rfl⟩
theorem nest_ok : ∀ (n : Nat) (l : List ControlNode), SizeOf.sizeOf l ≤ n → (pre l).length < 2 ^ 40 → pureI Φ f_control_Nesting [.slice 5 (l.map ControlNode.c)] = some (.val (.int .i64 (nest l : Nat)))
  | 0, l, h, hb => by cases l <;> simp at h
  | n + 1, l, h, hb => by
    rw [pureI_go (fn := c_control_Nesting) rfl rfl]
    have hll := pre_len l
    by_cases z : l.length = 0
    · have : l = [] := List.eq_nil_of_length_eq_zero z
      subst this
      simp [c_control_Nesting, nest]
    have hne : l ≠ [] := by intro h; subst h; simp at z
    rw [nest_eq l hne]
    simp [c_control_Nesting, z]
    refine loop_nx l.length (fun _ => []) 0 (fun i e => look 3 e = some (.int .i64 (nestM (l.take i) : Nat)) ∧ look 9 e = some (.slice 5 (l.map ControlNode.c)) ∧ look 10 e = some (.int .i64 l.length) ∧ look 11 e = some (.int .i64 i))
      (fun i => some (Rt.val (.int .i64 ((nestM l : Nat) + 1)))) ?_ ?_ 0 _ 0 (Nat.zero_le _) (Nat.le_refl _) ?_
    · rintro i e m L hi hL _ ⟨h3, h9, h10, h11⟩ ih
      have hw : IntKind.wrap .i64 ((i : Int) + 1) = ((i + 1 : Nat) : Int) := wrap64 (by omega) (by omega)
      obtain ⟨k, t, c, a, b, hx⟩ := node_mk l[i]
      have hm : l[i] ∈ l := List.getElem_mem hi
      have hs : SizeOf.sizeOf l[i] < SizeOf.sizeOf l := List.sizeOf_lt_of_mem hm
      have hp := pre_mem hi
      rw [hx] at hs hp
      rw [pre1_mk] at hp
      simp at hs hp
      have i1 := nest_ok n a (by omega) (by omega)
      have i2 := nest_ok n b (by omega) (by omega)
      have hM := nestM_take hi
      rw [hx, nest1_mk] at hM
      simp [c_control_Nesting_l0, h3, h9, h10, h11, hi, hw, hx, ControlNode.e, i1, i2]
      refine ih _ _ (Nat.zero_le _) ⟨?_, by simp [h9], by simp [h10], by simp⟩
      simp [hM]
      split <;> split <;> omega
    · rintro e m L hL _ ⟨h3, h9, h10, h11⟩
      rw [List.take_length] at h3
      have := nestM_le l
      have hw : IntKind.wrap .i64 ((nestM l : Int) + 1) = (nestM l : Int) + 1 := wrap64 (by omega) (by omega)
      simp [c_control_Nesting_l0, c_control_Nesting_k1, h3, h10, h11, hL, hw]
    · simp [nestM]
-- a loop over the heap, with a predicate on the outcome
theorem loop_exH {Φ : FuncId → Option AFun} {β : Type} {fin : Option (Ex × St) → Option β} (N : Nat) (Inv : Nat → Env → AH → Prop) (Q : Option β → Prop) {b : ACode} {K : List Fr}
    (step : ∀ i e h L, i < N → (∀ j s, go Φ fin L (.exit j) s = go Φ fin K (.exit j) s) → Inv i e h → (∀ e' h', Inv (i + 1) e' h' → Q (go Φ fin L .normal ⟨e', h'⟩)) → Q (go Φ fin (.c b :: L) .normal ⟨e, h⟩))
    (last : ∀ e h L, (∀ j s, go Φ fin L (.exit j) s = go Φ fin K (.exit j) s) → Inv N e h → Q (go Φ fin (.c b :: L) .normal ⟨e, h⟩)) :
    ∀ i e h, i ≤ N → Inv i e h → Q (go Φ fin (.c (.loop b) :: K) .normal ⟨e, h⟩) := by
  have key : ∀ n i e h, N - i ≤ n → i ≤ N → Inv i e h → Q (go Φ fin (.c (.loop b) :: K) .normal ⟨e, h⟩) := by
    intro n
    induction n with
    | zero =>
      intro i e h hn hi hv
      have : i = N := by omega
      subst this
      rw [go_loop]
      exact last e h _ (fun j s => by simp) hv
    | succ n ih =>
      intro i e h hn hi hv
      rcases Nat.lt_or_ge i N with hlt | hge
      · rw [go_loop]
        exact step i e h _ hlt (fun j s => by simp) hv fun e' h' hv' => ih (i + 1) e' h' (by omega) (by omega) hv'
      · have : i = N := by omega
        subst this
        rw [go_loop]
        exact last e h _ (fun j s => by simp) hv
  intro i e h hi hv
  exact key (N - i) i e h (Nat.le_refl _) hi hv
-- the count
def cntF : AV := .func (.func f_control_Count_1) [] [.ptr 0 1 0 0]
def cntH (c : Int) (m : Nat) : AH := ⟨[(0, .row 1 [[.int .i64 c]])], m⟩
theorem count1_ok (k t : Int) (cd : List ExprNode) (a b : List ControlNode) (c : Int) (m : Nat) (hc : 0 ≤ c ∧ c < 2 ^ 60) : callI Φ f_control_Count_1 [.agg (ControlNode.c (.mk k t cd a b)), .ptr 0 1 0 0] (cntH c m) = some (.val (.bool true), cntH (c + 1) m) := by
  rw [callI_go (fn := c_control_Count_1) rfl rfl]
  have hw : IntKind.wrap .i64 (c + 1) = c + 1 := wrap64 (by omega) (by omega)
  simp [c_control_Count_1, cntH, ControlNode.e, hw]
theorem preC_ok : ∀ (n : Nat) (l : List ControlNode) (c : Int) (m : Nat), 1 ≤ m → SizeOf.sizeOf l ≤ n → 0 ≤ c → c + (pre l).length < 2 ^ 60 → (pre l).length < 2 ^ 40 →
    ∃ m', m ≤ m' ∧ callI Φ f_control_preorder [.slice 5 (l.map ControlNode.c), cntF] (cntH c m) = some (.val (.bool true), cntH (c + (pre l).length) m')
  | 0, l, c, m, _, h, _, _, _ => by cases l <;> simp at h
  | n + 1, l, c, m, h1m, h, hc0, hb, hl => by
    rw [callI_go (fn := c_control_preorder) rfl rfl]
    have hll := pre_len l
    simp [c_control_preorder, cntF]
    refine loop_exH l.length (fun i e H => look 1 e = some cntF ∧ look 7 e = some (.slice 5 (l.map ControlNode.c)) ∧ look 8 e = some (.int .i64 l.length) ∧ look 9 e = some (.int .i64 i) ∧ ∃ m1, m ≤ m1 ∧ H = cntH (c + (pre (l.take i)).length) m1)
      (fun r => ∃ m', m ≤ m' ∧ r = some (Rt.val (.bool true), cntH (c + (pre l).length) m')) ?_ ?_ 0 _ _ (Nat.zero_le _) ?_
    · rintro i e _ L hi hL ⟨h1, h7, h8, h9, m1, hm1, rfl⟩ ih
      have hw : IntKind.wrap .i64 ((i : Int) + 1) = ((i + 1 : Nat) : Int) := wrap64 (by omega) (by omega)
      obtain ⟨k, t, cd, a, b, hx⟩ := node_mk l[i]
      have hm : l[i] ∈ l := List.getElem_mem hi
      have hs : SizeOf.sizeOf l[i] < SizeOf.sizeOf l := List.sizeOf_lt_of_mem hm
      have hp := pre_mem hi
      have ht := pre_take hi
      have htl : (pre (l.take (i + 1))).length ≤ (pre l).length := by
        have : pre l = pre (l.take (i + 1)) ++ pre (l.drop (i + 1)) := by rw [← pre_append, List.take_append_drop]
        rw [this]; simp
      rw [hx] at hs hp ht
      rw [pre1_mk] at hp ht
      simp at hs hp
      have htl2 := htl
      rw [ht] at htl2
      simp at htl2
      obtain ⟨c', hc'⟩ : ∃ c' : Int, c' = c + (pre (l.take i)).length := ⟨_, rfl⟩
      rw [← hc']
      have e1 := count1_ok k t cd a b c' (m1 + 1) (by omega)
      obtain ⟨m2, hm2, e2⟩ := preC_ok n a (c' + 1) (m1 + 1) (by omega) (by omega) (by omega) (by omega) (by omega)
      obtain ⟨m3, hm3, e3⟩ := preC_ok n b (c' + 1 + (pre a).length) m2 (by omega) (by omega) (by omega) (by omega) (by omega)
      simp only [cntH, cntF, ControlNode.e] at e1 e2 e3
      have hn0 : ¬ (0 = m1) := by omega
      have hn1 : ¬ (m1 = 0) := by omega
      simp only [cntF] at h1
      simp [c_control_preorder_l0, h1, h7, h8, h9, hi, hw, hx, ControlNode.e, cntH, hn0, e1, e2, e3]
      refine ih _ _ ⟨by simp [h1, cntF], by simp [h7], by simp [h8], by simp, m3, by omega, ?_⟩
      rw [ht, hc']
      simp [cntH]
      omega
    · rintro e _ L hL ⟨h1, h7, h8, h9, m1, hm1, rfl⟩
      rw [List.take_length]
      refine ⟨m1, hm1, ?_⟩
      simp [c_control_preorder_l0, c_control_preorder_k1, h8, h9, hL]
    · simp [cntF, pre]
      exact ⟨m, Nat.le_refl _, rfl⟩
theorem count_ok (l : List ControlNode) (hl : (pre l).length < 2 ^ 40) : pureI Φ f_control_Count [.slice 5 (l.map ControlNode.c)] = some (.val (.int .i64 (pre l).length)) := by
  rw [pureI_go (fn := c_control_Count) rfl rfl]
  obtain ⟨m', hm, e⟩ := preC_ok _ l 0 1 (Nat.le_refl _) (Nat.le_refl _) (by omega) (by omega) hl
  simp only [cntH, cntF] at e
  simp [c_control_Count, e]
end Go.Av
