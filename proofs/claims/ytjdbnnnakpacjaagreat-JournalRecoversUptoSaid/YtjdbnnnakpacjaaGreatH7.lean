/-
  store.cloneConfig makes a mutable copy of what it reads, and changes nothing else.
-/
import Derived.Test.YtjdbnnnakpacjaaGreatH6
set_option linter.unusedVariables false
set_option linter.unusedSimpArgs false
set_option linter.constructorNameAsVariable false
namespace Go.Av
set_option maxRecDepth 4000
structure CfgR (O : List (Nat × AO)) (v1 v2 v3 v4 : AV) (A : List AV) (c : Config) : Prop where
  r : RowsR O v1 A c.rows
  n : Re O 1 v2 (c.nextID.map cI)
  d : Re O 2 v3 (c.defaults.map ActionCall.c)
  g : Im 1 v4 (c.registers.map (cS 1 c32))
structure CfgU (c : Config) : Prop where
  t : CfgT c
  u : ∀ l ∈ c.rows, l.length < 2 ^ 39
theorem CfgR.kp {O O' : List (Nat × AO)} {v1 v2 v3 v4 : AV} {A : List AV} {c : Config} {N : Nat} {X : Nat → Prop} (h : CfgR O v1 v2 v3 v4 A c) (hT : Tail O N) (hk : Kp X N O O') (hx : ∀ j, X j → look j O = none ∨ N ≤ j) : CfgR O' v1 v2 v3 v4 A c :=
  ⟨⟨h.r.v.kp hT hk hx, h.r.len, fun k x l ha hl => (h.r.at_ k x l ha hl).kp hT hk hx⟩, h.n.kp hT hk hx, h.d.kp hT hk hx, h.g⟩
def CCpost (N : Nat) (O : List (Nat × AO)) (c : Config) (r : Option (Rt × AH)) : Prop :=
  ∃ w1 w2 w3 w4 V O' N', r = some (.val (.agg [w1, w2, w3, w4]), ⟨O', N'⟩) ∧ CfgM O' w1 w2 w3 w4 V c ∧ (∀ j, CfgM.own w1 w2 w3 V j → N ≤ j) ∧ Kp (fun _ => False) N O O' ∧ Tail O' N' ∧ N ≤ N'
theorem cloneConfig_ok (c : Config) (s : CfgU c) {v1 v2 v3 v4 : AV} {A : List AV} {O : List (Nat × AO)} {N : Nat} (hT : Tail O N) (h : CfgR O v1 v2 v3 v4 A c) : CCpost N O c (callI Φ f_store_cloneConfig [.agg [v1, v2, v3, v4]] ⟨O, N⟩) := by
  rw [callI_go (fn := c_store_cloneConfig) rfl rfl]
  have t0 := hT N (Nat.le_refl _)
  have t1 := hT (N + 1) (by omega)
  have hT1 : Tail (O ++ [(N, AO.row 4 [[v1, v2, v3, v4]]), (N + 1, AO.row 4 [[.fslice 1 [], .fslice 1 [], .fslice 2 [], .fslice 1 []]])]) (N + 1 + 1) := by
    rw [Tail_append_iff, Tail_cons_iff, Tail_cons_iff]
    exact ⟨hT.mono (by omega), by omega, by omega, Tail.nil _⟩
  have hk1 : Kp (fun _ => False) N O (O ++ [(N, AO.row 4 [[v1, v2, v3, v4]]), (N + 1, AO.row 4 [[.fslice 1 [], .fslice 1 [], .fslice 2 [], .fslice 1 []]])]) := Kp.appL (fun _ _ _ => rfl) (by simp)
  have hR1 := h.kp hT hk1 (by simp)
  have hc1 := hR1.n.cells
  have c1 := h.r.v.cells
  have c2 := h.n.cells
  have c3 := h.d.cells
  have c4 : AV.cells v4 = some [v4] := by rcases h.g with e | e | ⟨t, e⟩ <;> subst e <;> rfl
  simp [c_store_cloneConfig, t0, t1]
  generalize hO1 : O ++ [(N, AO.row 4 [[v1, v2, v3, v4]]), (N + 1, AO.row 4 [[.fslice 1 [], .fslice 1 [], .fslice 2 [], .fslice 1 []]])] = O1 at hT1 hk1 hR1 ⊢
  have lb1 : look N O1 = some (.row 4 [[v1, v2, v3, v4]]) := by rw [← hO1]; simp [t0]
  have lb2 : look (N + 1) O1 = some (.row 4 [[.fslice 1 [], .fslice 1 [], .fslice 2 [], .fslice 1 []]]) := by rw [← hO1]; simp [t1]
  obtain ⟨w2, o2, e2, m2, fw2⟩ := cl_ints hT1 hR1.n s.t.nl
  rw [e2]
  have n1 : ¬ N + 1 + 1 = N := by omega
  have t2 := hT1 (N + 1 + 1) (Nat.le_refl _)
  have t3 := hT1 (N + 1 + 1 + 1) (by omega)
  have m2c := m2.cells
  have l1 := h.r.v.len
  rw [List.length_map, h.r.len] at l1
  simp [t3, lk_app, lb1, m2c, l1, -AV.cells, -lenOf]
  have hT2 : Tail (O1 ++ [(N + 1 + 1, o2), (N + 1 + 1 + 1, AO.row 4 [[.fslice 1 [], w2, .fslice 2 [], .fslice 1 []]])]) (N + 1 + 1 + 1 + 1) := by
    rw [Tail_append_iff, Tail_cons_iff, Tail_cons_iff]
    exact ⟨hT1.mono (by omega), by omega, by omega, Tail.nil _⟩
  have hk2 : Kp (fun _ => False) (N + 1 + 1) O1 (O1 ++ [(N + 1 + 1, o2), (N + 1 + 1 + 1, AO.row 4 [[.fslice 1 [], w2, .fslice 2 [], .fslice 1 []]])]) := Kp.appL (fun _ _ _ => rfl) (by simp)
  have hR2 := hR1.kp hT1 hk2 (by simp)
  have lb3 : look (N + 1 + 1 + 1) (O1 ++ [(N + 1 + 1, o2), (N + 1 + 1 + 1, AO.row 4 [[.fslice 1 [], w2, .fslice 2 [], .fslice 1 []]])]) = some (.row 4 [[.fslice 1 [], w2, .fslice 2 [], .fslice 1 []]]) := by
    have : ¬ N + 1 + 1 = N + 1 + 1 + 1 := by omega
    rw [lk_app, t3]; simp
  have m2' : Mu (O1 ++ [(N + 1 + 1, o2), (N + 1 + 1 + 1, AO.row 4 [[.fslice 1 [], w2, .fslice 2 [], .fslice 1 []]])]) 1 w2 (c.nextID.map cI) := by
    refine m2.fr fun j hj => ?_
    obtain ⟨es0, hl⟩ := m2.own hj
    have hlt := (hT1.app1 (o := o2) (Nat.le_refl _)).lt hl
    have : ¬ N + 1 + 1 + 1 = j := by omega
    rw [show O1 ++ [(N + 1 + 1, o2), (N + 1 + 1 + 1, AO.row 4 [[.fslice 1 [], w2, .fslice 2 [], .fslice 1 []]])] = (O1 ++ [(N + 1 + 1, o2)]) ++ [(N + 1 + 1 + 1, AO.row 4 [[.fslice 1 [], w2, .fslice 2 [], .fslice 1 []]])] by simp]
    rw [lk_app (b := [(N + 1 + 1 + 1, _)])]
    simp [this]
  have lc1 : look N (O1 ++ [(N + 1 + 1, o2), (N + 1 + 1 + 1, AO.row 4 [[.fslice 1 [], w2, .fslice 2 [], .fslice 1 []]])]) = some (.row 4 [[v1, v2, v3, v4]]) := by rw [lk_app, lb1]; rfl
  have lc2 : look (N + 1) (O1 ++ [(N + 1 + 1, o2), (N + 1 + 1 + 1, AO.row 4 [[.fslice 1 [], w2, .fslice 2 [], .fslice 1 []]])]) = some (.row 4 [[.fslice 1 [], .fslice 1 [], .fslice 2 [], .fslice 1 []]]) := by rw [lk_app, lb2]; rfl
  have hk12 := hk1.trans hk2 (by omega)
  generalize O1 ++ [(N + 1 + 1, o2), (N + 1 + 1 + 1, AO.row 4 [[.fslice 1 [], w2, .fslice 2 [], .fslice 1 []]])] = O2 at hT2 hR2 lb3 m2' lc1 lc2 hk12 ⊢
  refine cc_tabs c.rows s.t.rl (fun l hl => ⟨s.u l hl, (s.t.rs l hl).2⟩) v1 w2 A (N + 1 + 1 + 1) _ _ _ O2 _ hT2 hR2.r lb3 ?_ ?_ ?_ ?_ ?_
  · simp
  · simp
  · simp
  · simp
  intro e3 O3 N3 w1 V mw1 fw1 hV hk3 hT3 hN3 lb3' g1 g2 g3
  simp at g1 g2 g3
  have hx : ∀ j, j = N + 1 + 1 + 1 → look j O1 = none ∨ N + 1 + 1 ≤ j := fun j hj => .inr (by omega)
  have ld1 : look N O3 = some (.row 4 [[v1, v2, v3, v4]]) := hk3.lk hT2 lc1 (by omega)
  have ld2 : look (N + 1) O3 = some (.row 4 [[.fslice 1 [], .fslice 1 [], .fslice 2 [], .fslice 1 []]]) := hk3.lk hT2 lc2 (by omega)
  have hk13 : Kp (fun _ => False) N O O3 := fun j hj _ => (hk3 j (by omega) (by omega)).trans (hk12 j hj (by simp))
  have hR3 := h.kp hT hk13 (by simp)
  have m23 : Mu O3 1 w2 (c.nextID.map cI) := by
    refine m2'.fr fun j hj => ?_
    obtain ⟨es0, hl⟩ := m2'.own hj
    exact hk3 j (hT2.lt hl) (lk_ne hl lb3 (by simp))
  have l3 := h.d.len
  simp [c_store_cloneConfig_k8, g1, ld1, l3, -lenOf]
  refine cc_defs c.defaults s.t.dl (fun d hd => (s.t.ds d hd).1) v3 w1 w2 (N + 1 + 1 + 1) _ _ _ O3 N3 hT3 hR3.d lb3' ?_ ?_ ?_ ?_ ?_
  · simp [g3]
  · simp
  · simp
  · simp
  intro e4 O4 N4 w3 mw3 fw3 hk4 hT4 hN4 lb4 f1 f2 f3
  simp at f1 f2 f3
  have le1 : look N O4 = some (.row 4 [[v1, v2, v3, v4]]) := hk4.lk hT3 ld1 (by omega)
  have le2 : look (N + 1) O4 = some (.row 4 [[.fslice 1 [], .fslice 1 [], .fslice 2 [], .fslice 1 []]]) := hk4.lk hT3 ld2 (by omega)
  have m24 : Mu O4 1 w2 (c.nextID.map cI) := by
    refine m23.fr fun j hj => ?_
    obtain ⟨es0, hl⟩ := m23.own hj
    exact hk4 j (hT3.lt hl) (lk_ne hl lb3' (by simp))
  have m14 : Mu O4 1 w1 (V.map fun x => [x]) := by
    refine mw1.fr fun j hj => ?_
    obtain ⟨es0, hl⟩ := mw1.own hj
    exact hk4 j (hT3.lt hl) (lk_ne hl lb3' (by simp))
  have hV4 : RowsW O4 (N + 1 + 1 + 1 + 1) V c.rows := hV.fr fun j es0 hl => hk4 j (hT3.lt hl) (lk_ne hl lb3' (by simp))
  have l4 : lenOf v4 = some c.registers.length := by have := h.g.len; rw [List.length_map] at this; exact this
  simp [c_store_cloneConfig_k7, f1, g1, le1, l4, -lenOf]
  refine cc_regs c.registers s.t.gl (fun l hl => (s.t.gs l hl).1) v4 w1 w2 w3 (N + 1 + 1 + 1) _ _ _ O4 N4 hT4 h.g lb4 ?_ ?_ ?_ ?_ ?_
  · simp [f3, g3]
  · simp
  · simp
  · simp
  intro e5 O5 N5 w4 mw4 hk5 hT5 hN5 lb5 d1 d2 d3
  simp at d1 d2 d3
  have lf2 : look (N + 1) O5 = some (.row 4 [[.fslice 1 [], .fslice 1 [], .fslice 2 [], .fslice 1 []]]) := hk5.lk hT4 le2 (by omega)
  simp [c_store_cloneConfig_k6, d2, d3, f2, f3, g2, g3, lb5, lf2, lk_setl]
  refine ⟨w1, w2, w3, w4, V, _, N5, rfl, ?_, ?_, ?_, Tail_setl2 hT5, by omega⟩
  · have keep : ∀ j z es0, z ≠ 4 → look j O4 = some (.row z es0) → look j (setl (N + 1) (.row 4 [[w1, w2, w3, w4]]) O5) = look j O4 := by
      intro j z es0 hz hl
      have h5 := hk5 j (hT4.lt hl) (lk_ne hl lb4 (by simp [hz]))
      have hl5 : look j O5 = some (.row z es0) := by rw [h5, hl]
      rw [lk_setl, if_neg (lk_ne hl5 lf2 (by simp [hz])), h5]
    refine ⟨m14.fr fun j hj => ?_, hV4.len, ?_, m24.fr fun j hj => ?_, mw3.fr fun j hj => ?_, mw4, ?_, hV4.inj, hV4.na⟩
    · obtain ⟨es0, hl⟩ := m14.own hj
      exact keep j 1 es0 (by decide) hl
    · intro k v l hv hl
      refine (hV4.mu k v l hv hl).fr fun j hj => ?_
      obtain ⟨es0, hl⟩ := (hV4.mu k v l hv hl).own hj
      exact keep j 5 es0 (by decide) hl
    · obtain ⟨es0, hl⟩ := m24.own hj
      exact keep j 1 es0 (by decide) hl
    · obtain ⟨es0, hl⟩ := mw3.own hj
      exact keep j 2 es0 (by decide) hl
    · intro i h1 h2
      have := fw1 i h1
      obtain ⟨es0, hl⟩ := m2'.own h2
      have := hT2.lt hl
      omega
  · intro j hj
    rcases hj with hj | hj | hj | ⟨v, hv, hj⟩
    · have := fw1 j hj; omega
    · have := fw2 j hj; omega
    · have := fw3 j hj; omega
    · have := hV4.fresh v hv j hj; omega
  · intro j hj _
    rw [lk_setl, if_neg (by omega), hk5 j (by omega) (by omega), hk4 j (by omega) (by omega), hk3 j (by omega) (by omega)]
    exact hk12 j hj (by simp)
end Go.Av
