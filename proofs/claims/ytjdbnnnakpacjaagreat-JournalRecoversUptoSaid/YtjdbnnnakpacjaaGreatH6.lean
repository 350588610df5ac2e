/-
  store.cloneConfig: the default actions and the registers.
-/
import Derived.Test.YtjdbnnnakpacjaaGreatH5
set_option linter.unusedVariables false
set_option linter.unusedSimpArgs false
set_option linter.constructorNameAsVariable false
namespace Go.Av
set_option maxRecDepth 4000
theorem get_tkG {α : Type} {f : α → List AV} {l : List α} {i : Nat} {es0 : List (List AV)} (hi : i < l.length) (ht : es0.take (l.map f).length = l.map f) : es0[i]? = some (f l[i]) := by
  have h : (es0.take (l.map f).length)[i]? = (l.map f)[i]? := by rw [ht]
  rw [List.getElem?_take_of_lt (by simpa using hi)] at h
  rw [h]
  simp [hi]
-- immutable slices
def Im (z : Nat) (v : AV) (es : List (List AV)) : Prop := v = .slice z es ∨ v = .fslice z es ∨ ∃ t, v = .app z es t
theorem Im.len {z : Nat} {v : AV} {es : List (List AV)} (h : Im z v es) : lenOf v = some es.length := by
  rcases h with rfl | rfl | ⟨t, rfl⟩ <;> rfl
section
variable {β : Type} {fin : Option (Ex × St) → Option β}
theorem cc_defs (D : List ActionCall) (hD : D.length < 2 ^ 40) (hs : ∀ d ∈ D, d.args.length < 2 ^ 40) (v w1 w2 : AV) (b : Nat) (K : List Fr) (Q : Option β → Prop) (e : Env) (O : List (Nat × AO)) (N : Nat) (hT : Tail O N) (hv : Re O 2 v (D.map ActionCall.c))
    (hb : look b O = some (.row 4 [[w1, w2, .fslice 2 [], .fslice 1 []]])) (h3 : look 3 e = some (.ptr b 4 0 0)) (h44 : look 44 e = some v) (h45 : look 45 e = some (.int .i64 D.length)) (h46 : look 46 e = some (.int .i64 0))
    (hK : ∀ e' O' N' w, Mu O' 2 w (D.map ActionCall.c) → (∀ j, vid w = some j → N ≤ j) → Kp (fun j => j = b) N O O' → Tail O' N' → N ≤ N' → look b O' = some (.row 4 [[w1, w2, w, .fslice 1 []]]) →
      look 1 e' = look 1 e → look 2 e' = look 2 e → look 3 e' = look 3 e → Q (go Φ fin K .normal ⟨e', ⟨O', N'⟩⟩)) :
    Q (go Φ fin (.c (.loop c_store_cloneConfig_l4) :: .b 4 :: K) .normal ⟨e, ⟨O, N⟩⟩) := by
  have hvb : ∀ j, vid v = some j → j ≠ b := by
    intro j hj
    cases hv with
    | sl => cases hj
    | fs => cases hj
    | ap => cases hj
    | row id _ es0 n hn hl hle ht => cases hj; exact lk_ne hl hb (by simp)
  refine loopNQ D.length (fun i e' h => ∃ O' N' w, h = ⟨O', N'⟩ ∧ ((i = 0 ∧ w = .fslice 2 []) ∨ ∃ id, w = .row id 2 0 i ∧ look id O' = some (.row 2 ((D.map ActionCall.c).take i)) ∧ N ≤ id) ∧ Kp (fun j => j = b) N O O' ∧ Tail O' N' ∧ N ≤ N' ∧
      look b O' = some (.row 4 [[w1, w2, w, .fslice 1 []]]) ∧ look 3 e' = some (.ptr b 4 0 0) ∧ look 44 e' = some v ∧ look 45 e' = some (.int .i64 D.length) ∧ look 46 e' = some (.int .i64 i) ∧
      look 1 e' = look 1 e ∧ look 2 e' = look 2 e) Q ?_ ?_ 0 _ _ (Nat.zero_le _) ?_
  · rintro i e' _ L hi hL ⟨O', N', w, rfl, hw, hk, hT', hN, hb', h3, h44, h45, h46, g1, g2⟩ ih
    have hw1 : IntKind.wrap .i64 ((i : Int) + 1) = ((i + 1 : Nat) : Int) := wrap64 (by omega) (by omega)
    have hbN : b < N := hT.lt hb
    have hc := ccall_ok D[i] (hs _ (List.getElem_mem hi))
    simp only [ActionCall.ce] at hc
    have t0 := hT' N' (Nat.le_refl _)
    have t1 := hT' (N' + 1) (by omega)
    have q1 : ¬ N' + 1 = b := by omega
    have hm : min i D.length = i := by omega
    have hbd : (i + 1) * 32 ≤ 70368744177664 := by omega
    have htk : (D.map ActionCall.c).take (i + 1) = (D.map ActionCall.c).take i ++ [ActionCall.c D[i]] := take_map_succ hi
    rw [ActionCall.ce] at htk
    have hv' : Re O' 2 v (D.map ActionCall.c) := by
      refine hv.fr fun j hj => ?_
      obtain ⟨x, hl⟩ := hv.own hj
      exact hk j (hT.lt hl) (hvb j hj)
    rcases hw with ⟨rfl, rfl⟩ | ⟨id, rfl, hlk, hid⟩
    · have htk1 : (D.map ActionCall.c).take 1 = [[.int .i64 D[0].action, .slice 1 (D[0].args.map c32)]] := by simpa using htk
      cases hv' with
      | row id' _ es0 n hn hl' hle ht =>
        have h0 := get_tkG hi ht
        simp [c_store_cloneConfig_l4, ActionCall.ce, h3, h44, h45, h46, hi, hc, t0, t1, hn, hl', h0, wr1, lk_app, hb']
        refine ih _ _ ⟨_, _, .row (N' + 1) 2 0 (0 + 1), rfl, .inr ⟨N' + 1, rfl, ?_, by omega⟩, Kp.setl (Kp.app hk (by omega)) (.inr rfl), Tail_setl2 (hT'.app1 (by omega)), by omega, ?_, ?_, ?_, ?_, ?_, ?_, ?_⟩
        · simp [lk_setl, q1, t1, htk1]
        · simp [lk_setl, lk_app, hb']
        all_goals simp [*]
      | _ =>
        simp [c_store_cloneConfig_l4, ActionCall.ce, h3, h44, h45, h46, hi, hc, t0, t1, wr1, lk_app, hb']
        refine ih _ _ ⟨_, _, .row (N' + 1) 2 0 (0 + 1), rfl, .inr ⟨N' + 1, rfl, ?_, by omega⟩, Kp.setl (Kp.app hk (by omega)) (.inr rfl), Tail_setl2 (hT'.app1 (by omega)), by omega, ?_, ?_, ?_, ?_, ?_, ?_, ?_⟩
        · simp [lk_setl, q1, t1, htk1]
        · simp [lk_setl, lk_app, hb']
        all_goals simp [*]
    · have hbi := lk_ne hb' hlk (by simp)
      have hd1 : look (N' + 1) (dropl id O') = none := lk_dropl_none _ t1
      have hd2 : look b (dropl id O') = some (.row 4 [[w1, w2, .row id 2 0 i, .fslice 1 []]]) := by rw [lk_dropl hbi, hb']
      cases hv' with
      | row id' _ es0 n hn hl' hle ht =>
        have h0 := get_tkG hi ht
        simp [c_store_cloneConfig_l4, ActionCall.ce, h3, h44, h45, h46, hi, hc, t0, hn, hl', h0, hw1, lk_app, hb', hlk, hm, hbd, hd1, hd2]
        refine ih _ _ ⟨_, _, .row (N' + 1) 2 0 (i + 1), rfl, .inr ⟨N' + 1, rfl, ?_, by omega⟩, Kp.setl (Kp.app (Kp.drop hk (.inl hid)) (by omega)) (.inr rfl), Tail_setl2 ((Tail_dropl2 hT').app1 (by omega)), by omega, ?_, ?_, ?_, ?_, ?_, ?_, ?_⟩
        · simp [lk_setl, q1, hd1, htk]
        · simp [lk_setl, lk_app, hd2]
        all_goals simp [*]
      | _ =>
        simp [c_store_cloneConfig_l4, ActionCall.ce, h3, h44, h45, h46, hi, hc, t0, hw1, lk_app, hb', hlk, hm, hbd, hd1, hd2]
        refine ih _ _ ⟨_, _, .row (N' + 1) 2 0 (i + 1), rfl, .inr ⟨N' + 1, rfl, ?_, by omega⟩, Kp.setl (Kp.app (Kp.drop hk (.inl hid)) (by omega)) (.inr rfl), Tail_setl2 ((Tail_dropl2 hT').app1 (by omega)), by omega, ?_, ?_, ?_, ?_, ?_, ?_, ?_⟩
        · simp [lk_setl, q1, hd1, htk]
        · simp [lk_setl, lk_app, hd2]
        all_goals simp [*]
  · rintro e' _ L hL ⟨O', N', w, rfl, hw, hk, hT', hN, hb', h3, h44, h45, h46, g1, g2⟩
    simp [c_store_cloneConfig_l4, h45, h46, hL]
    refine hK _ O' N' w ?_ ?_ hk hT' hN hb' ?_ ?_ ?_
    · rcases hw with ⟨hz, rfl⟩ | ⟨id, rfl, hlk, hid⟩
      · have : D = [] := List.eq_nil_of_length_eq_zero hz
        subst this; exact .nilF
      · rw [List.take_of_length_le (by simp)] at hlk
        exact .row id _ _ _ (by simp) hlk (Nat.le_refl _) (by rw [List.take_length])
    · rcases hw with ⟨hz, rfl⟩ | ⟨id, rfl, hlk, hid⟩
      · intro j hj; cases hj
      · intro j hj; cases hj; exact hid
    · simp [g1]
    · simp [g2]
    · simp [*]
  · exact ⟨O, N, .fslice 2 [], rfl, .inl ⟨rfl, rfl⟩, fun _ _ _ => rfl, hT, Nat.le_refl _, hb, h3, h44, h45, h46, rfl, rfl⟩
theorem cc_regs (G : List (List Int)) (hG : G.length < 2 ^ 40) (hs : ∀ l ∈ G, l.length < 2 ^ 40) (v w1 w2 w3 : AV) (b : Nat) (K : List Fr) (Q : Option β → Prop) (e : Env) (O : List (Nat × AO)) (N : Nat) (hT : Tail O N) (hv : Im 1 v (G.map (cS 1 c32)))
    (hb : look b O = some (.row 4 [[w1, w2, w3, .fslice 1 []]])) (h3 : look 3 e = some (.ptr b 4 0 0)) (h59 : look 59 e = some v) (h60 : look 60 e = some (.int .i64 G.length)) (h61 : look 61 e = some (.int .i64 0))
    (hK : ∀ e' O' N' w, (w = .fslice 1 (G.map (cS 1 c32)) ∨ ∃ t, w = .app 1 (G.map (cS 1 c32)) t) → Kp (fun j => j = b) N O O' → Tail O' N' → N ≤ N' → look b O' = some (.row 4 [[w1, w2, w3, w]]) →
      look 1 e' = look 1 e → look 2 e' = look 2 e → look 3 e' = look 3 e → Q (go Φ fin K .normal ⟨e', ⟨O', N'⟩⟩)) :
    Q (go Φ fin (.c (.loop c_store_cloneConfig_l5) :: .b 6 :: K) .normal ⟨e, ⟨O, N⟩⟩) := by
  refine loopNQ G.length (fun i e' h => ∃ O' N' w, h = ⟨O', N'⟩ ∧ ((i = 0 ∧ w = .fslice 1 []) ∨ ∃ id, w = .app 1 ((G.map (cS 1 c32)).take i) id ∧ look id O' = some (.tok 1 i) ∧ N ≤ id) ∧ Kp (fun j => j = b) N O O' ∧ Tail O' N' ∧ N ≤ N' ∧
      look b O' = some (.row 4 [[w1, w2, w3, w]]) ∧ look 3 e' = some (.ptr b 4 0 0) ∧ look 59 e' = some v ∧ look 60 e' = some (.int .i64 G.length) ∧ look 61 e' = some (.int .i64 i) ∧
      look 1 e' = look 1 e ∧ look 2 e' = look 2 e) Q ?_ ?_ 0 _ _ (Nat.zero_le _) ?_
  · rintro i e' _ L hi hL ⟨O', N', w, rfl, hw, hk, hT', hN, hb', h3, h59, h60, h61, g1, g2⟩ ih
    have hw1 : IntKind.wrap .i64 ((i : Int) + 1) = ((i + 1 : Nat) : Int) := wrap64 (by omega) (by omega)
    have hbN : b < N := hT.lt hb
    have hc := clU_ok G[i] (hs _ (List.getElem_mem hi))
    have t0 := hT' N' (Nat.le_refl _)
    have q0 : ¬ N' = b := by omega
    have q1 : ¬ b = N' := by omega
    have hm : min i G.length = i := by omega
    have hbd : (i + 1) * 24 ≤ 70368744177664 := by omega
    have htk : (G.map (cS 1 c32)).take (i + 1) = (G.map (cS 1 c32)).take i ++ [cS 1 c32 G[i]] := take_map_succ hi
    rw [cSe] at htk
    rcases hw with ⟨rfl, rfl⟩ | ⟨id, rfl, hlk, hid⟩
    · have htk1 : (G.map (cS 1 c32)).take 1 = [[.slice 1 (G[0].map c32)]] := by simpa using htk
      rcases hv with rfl | rfl | ⟨t, rfl⟩
      all_goals
        simp [c_store_cloneConfig_l5, cSe, h3, h59, h60, h61, hi, hc, t0, wr1, lk_app, hb']
        refine ih _ _ ⟨_, _, .app 1 [[.slice 1 (G[0].map c32)]] N', rfl, .inr ⟨N', by rw [htk1], ?_, by omega⟩, Kp.setl (Kp.app hk (by omega)) (.inr rfl), Tail_setl2 (hT'.app1 (by omega)), by omega, ?_, ?_, ?_, ?_, ?_, ?_, ?_⟩
        · simp [lk_setl, q0, t0]
        · simp [lk_setl, lk_app, hb']
        all_goals simp [*]
    · have hbi := lk_ne hb' hlk (by simp)
      have hib : ¬ id = b := fun h => hbi h.symm
      rcases hv with rfl | rfl | ⟨t, rfl⟩
      all_goals
        simp [c_store_cloneConfig_l5, cSe, h3, h59, h60, h61, hi, hc, hw1, lk_setl, hb', hbi, hlk, hm, hbd]
        refine ih _ _ ⟨_, _, .app 1 ((G.map (cS 1 c32)).take i ++ [[.slice 1 (G[i].map c32)]]) id, rfl, .inr ⟨id, by rw [htk], ?_, hid⟩, Kp.setl (Kp.setl hk (.inl hid)) (.inr rfl), Tail_setl2 (Tail_setl2 hT'), by omega, ?_, ?_, ?_, ?_, ?_, ?_, ?_⟩
        · simp [lk_setl, hlk, hib]
        · simp [lk_setl, hbi, hb']
        all_goals simp [*]
  · rintro e' _ L hL ⟨O', N', w, rfl, hw, hk, hT', hN, hb', h3, h59, h60, h61, g1, g2⟩
    simp [c_store_cloneConfig_l5, h60, h61, hL]
    refine hK _ O' N' w ?_ hk hT' hN hb' ?_ ?_ ?_
    · rcases hw with ⟨hz, rfl⟩ | ⟨id, rfl, hlk, hid⟩
      · have : G = [] := List.eq_nil_of_length_eq_zero hz
        subst this; exact .inl rfl
      · right; exact ⟨id, by rw [List.take_of_length_le (by simp)]⟩
    · simp [g1]
    · simp [g2]
    · simp [*]
  · exact ⟨O, N, .fslice 1 [], rfl, .inl ⟨rfl, rfl⟩, fun _ _ _ => rfl, hT, Nat.le_refl _, hb, h3, h59, h60, h61, rfl, rfl⟩
end
end Go.Av
