/-
  The control flow: the program's answer, whole.
-/
import Derived.Test.YtjdbnnnakpacjaaGreatK17
set_option linter.unusedVariables false
set_option linter.unusedSimpArgs false
set_option linter.constructorNameAsVariable false
namespace Go.Av
set_option maxRecDepth 4000
theorem ChkH_obj {w : Wk} {m : Nat} {H : AH} (h : ChkH w m H) : ∃ O, H = ⟨O, m⟩ ∧ look m O = none ∧ ∀ m', m ≤ m' → ChkH w m' ⟨O, m'⟩ := by
  obtain ⟨h3, ⟨hus, rfl⟩ | ⟨q, hq, hqm, rfl⟩⟩ := h
  · refine ⟨_, rfl, ?_, fun m' hm => ⟨by omega, .inl ⟨hus, rfl⟩⟩⟩
    have a0 : ¬ (0 = m) := by omega
    have a1 : ¬ (1 = m) := by omega
    have a2 : ¬ (2 = m) := by omega
    simp [a0, a1, a2]
  · refine ⟨_, rfl, ?_, fun m' hm => ⟨by omega, .inr ⟨q, hq, by omega, rfl⟩⟩⟩
    have a0 : ¬ (0 = m) := by omega
    have a1 : ¬ (1 = m) := by omega
    have a2 : ¬ (2 = m) := by omega
    have a3 : ¬ (q = m) := by omega
    simp [a0, a1, a2, a3]
def PK (p : Prg) (l : List ControlNode) (w : Wk) (m : Nat) (r : Option (Rt × AH)) : Prop := ∃ m' H', m ≤ m' ∧ ChkH (wk p w (pre l)) m' H' ∧ r = some (.val (.bool (decide ((wk p w (pre l)).e = 0))), H')
theorem preK_ok (p : Prg) : ∀ (n : Nat) (l : List ControlNode) (w : Wk) (m : Nat) (H : AH), ChkH w m H → w.e = 0 → SizeOf.sizeOf l ≤ n → 0 ≤ w.n → w.n + (pre l).length < 2 ^ 60 → w.us.length + (pre l).length < 2 ^ 40 - 1 →
    ∃ m' H', m ≤ m' ∧ ChkH (wk p w (pre l)) m' H' ∧ callI Φ f_control_preorder [.slice 5 (l.map ControlNode.c), chkF p] H = some (.val (.bool (decide ((wk p w (pre l)).e = 0))), H')
  | 0, l, w, m, H, _, _, h, _, _, _ => by cases l <;> simp at h
  | n + 1, l, w, m, H, hH, he, h, hn0, hn1, hu => by
    have hll := pre_len l
    obtain ⟨O, rfl, hO, hup⟩ := ChkH_obj hH
    have goal : PK p l w m (go Φ (finC c_control_preorder.results) [.c c_control_preorder.body] .normal ⟨bindE 0 [.slice 5 (l.map ControlNode.c), chkF p], ⟨O, m⟩⟩) := by
      simp [c_control_preorder, chkF]
      refine loop_exH l.length (fun i e H => look 1 e = some (chkF p) ∧ look 7 e = some (.slice 5 (l.map ControlNode.c)) ∧ look 8 e = some (.int .i64 l.length) ∧ look 9 e = some (.int .i64 i) ∧ (wk p w (pre (l.take i))).e = 0 ∧ ∃ m1, m ≤ m1 ∧ ChkH (wk p w (pre (l.take i))) m1 H)
        (PK p l w m) ?_ ?_ 0 _ _ (Nat.zero_le _) ?_
      · rintro i e H1 L hi hL ⟨h1, h7, h8, h9, hw0, m1, hm1, hH1⟩ ih
        have hw : IntKind.wrap .i64 ((i : Int) + 1) = ((i + 1 : Nat) : Int) := wrap64 (by omega) (by omega)
        obtain ⟨k, t, cd, a, b, hx⟩ := node_mk l[i]
        have hm : l[i] ∈ l := List.getElem_mem hi
        have hs : SizeOf.sizeOf l[i] < SizeOf.sizeOf l := List.sizeOf_lt_of_mem hm
        have ht := pre_take hi
        have hpl : pre l = pre (l.take (i + 1)) ++ pre (l.drop (i + 1)) := by rw [← pre_append, List.take_append_drop]
        have htl : (pre (l.take (i + 1))).length ≤ (pre l).length := by rw [hpl]; simp
        rw [hx] at hs ht
        rw [pre1_mk] at ht
        simp at hs
        have htl2 := htl
        rw [ht] at htl2
        simp at htl2
        obtain ⟨O1, rfl, hO1, hup1⟩ := ChkH_obj hH1
        have r1 := wk_n p (pre (l.take i)) w
        have al := pre_len a
        have bl := pre_len b
        have e2 : wk p w (pre (l.take (i + 1))) = wk p (wk p (wk1 p (wk p w (pre (l.take i))) (.mk k t cd a b)) (pre a)) (pre b) := by
          rw [ht, wk_append]
          show wk p (wk1 p (wk p w (pre (l.take i))) (.mk k t cd a b)) (pre a ++ pre b) = _
          rw [wk_append]
        generalize hW : wk p w (pre (l.take i)) = W at *
        obtain ⟨m2, H2, hm2, hH2, c1⟩ := check1_ok p k t cd a b W (m1 + 1) _ (hup1 (m1 + 1) (by omega)) hw0 ⟨by omega, by omega⟩ (by omega) (by omega) (by omega)
        have r2 : (wk1 p W (.mk k t cd a b)).n ≤ W.n + 1 ∧ (wk1 p W (.mk k t cd a b)).us.length ≤ W.us.length + 1 ∧ W.n ≤ (wk1 p W (.mk k t cd a b)).n := by
          have := wk_n p [.mk k t cd a b] W
          simp [wk] at this
          omega
        simp only [ControlNode.e, Prg.e] at c1
        simp only [chkF, Prg.e] at h1
        by_cases y1 : (wk1 p W (.mk k t cd a b)).e = 0
        rotate_left
        · -- the node is bad
          have e3 : wk p w (pre l) = wk1 p W (.mk k t cd a b) := by
            rw [hpl, wk_append, e2, wk_stop p _ y1, wk_stop p _ y1, wk_stop p _ y1]
          refine ⟨m2, H2, by omega, by rw [e3]; exact hH2, ?_⟩
          simp [c_control_preorder_l0, h1, h7, h8, h9, hi, hx, ControlNode.e, hO1, c1, y1, e3]
        obtain ⟨m3, H3, hm3, hH3, c2⟩ := preK_ok p n a _ m2 H2 hH2 y1 (by omega) (by omega) (by omega) (by omega)
        have r3 := wk_n p (pre a) (wk1 p W (.mk k t cd a b))
        simp only [chkF, Prg.e] at c2
        generalize hW2 : wk p (wk1 p W (.mk k t cd a b)) (pre a) = W2 at *
        by_cases y2 : W2.e = 0
        rotate_left
        · have e3 : wk p w (pre l) = W2 := by
            rw [hpl, wk_append, e2, wk_stop p _ y2, wk_stop p _ y2]
          refine ⟨m3, H3, by omega, by rw [e3]; exact hH3, ?_⟩
          simp [c_control_preorder_l0, h1, h7, h8, h9, hi, hx, ControlNode.e, hO1, c1, c2, y1, y2, e3]
        obtain ⟨m4, H4, hm4, hH4, c3⟩ := preK_ok p n b _ m3 H3 hH3 y2 (by omega) (by omega) (by omega) (by omega)
        simp only [chkF, Prg.e] at c3
        generalize hW3 : wk p W2 (pre b) = W3 at *
        by_cases y3 : W3.e = 0
        rotate_left
        · have e3 : wk p w (pre l) = W3 := by
            rw [hpl, wk_append, e2, wk_stop p _ y3]
          refine ⟨m4, H4, by omega, by rw [e3]; exact hH4, ?_⟩
          simp [c_control_preorder_l0, h1, h7, h8, h9, hi, hx, ControlNode.e, hO1, c1, c2, c3, y1, y2, y3, e3]
        simp [c_control_preorder_l0, h1, h7, h8, h9, hi, hx, ControlNode.e, hO1, c1, c2, c3, y1, y2, y3, hw]
        exact ih _ _ ⟨by simp [h1, chkF, Prg.e], by simp [h7], by simp [h8], by simp, by rw [e2]; exact y3, m4, by omega, by rw [e2]; exact hH4⟩
      · rintro e H1 L hL ⟨h1, h7, h8, h9, hw0, m1, hm1, hH1⟩
        rw [List.take_length] at hw0 hH1
        obtain ⟨O1, rfl, hO1, hup1⟩ := ChkH_obj hH1
        refine ⟨m1, _, hm1, hH1, ?_⟩
        simp [c_control_preorder_l0, c_control_preorder_k1, h8, h9, hL, hw0]
      · simp [chkF, pre, wk, he]
        exact ⟨m, Nat.le_refl _, hH⟩
    obtain ⟨m', H', k1, k2, k3⟩ := goal
    exact ⟨m', H', k1, k2, by rw [callI_go (fn := c_control_preorder) rfl rfl]; exact k3⟩
end Go.Av
