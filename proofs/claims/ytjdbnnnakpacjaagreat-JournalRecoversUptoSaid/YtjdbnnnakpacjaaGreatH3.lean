/-
  store.cloneConfig over memory of which little is known: the rows of one table.
-/
import Derived.Test.YtjdbnnnakpacjaaGreatH2
import Derived.Test.YtjdbnnnakpacjaaGreatQ20
set_option linter.unusedVariables false
set_option linter.unusedSimpArgs false
set_option linter.constructorNameAsVariable false
namespace Go.Av
set_option maxRecDepth 4000
theorem hp_new {O O' : List (Nat × AO)} {N N' k : Nat} {X : Nat → Prop} (hK : Kp X N O O') (hT : Tail O' N') (hN : N ≤ N') (o : AO) : Kp X N O (O' ++ [(N' + k, o)]) ∧ Tail (O' ++ [(N' + k, o)]) (N' + k + 1) ∧ look (N' + k) (O' ++ [(N' + k, o)]) = some o := by
  refine ⟨?_, ?_, ?_⟩
  · intro j hj hx
    have : ¬ N' + k = j := by omega
    rw [lk_app, hK j hj hx]
    simp [this]
  · rw [Tail_append_iff, Tail_cons_iff]
    exact ⟨hT.mono (by omega), by omega, Tail.nil _⟩
  · rw [lk_app, hT _ (by omega)]; simp
theorem hp_mv {O O' : List (Nat × AO)} {N N' k id : Nat} {X : Nat → Prop} (hK : Kp X N O O') (hT : Tail O' N') (hN : N ≤ N') (hid : N ≤ id) (o : AO) : Kp X N O (dropl id O' ++ [(N' + k, o)]) ∧ Tail (dropl id O' ++ [(N' + k, o)]) (N' + k + 1) ∧ look (N' + k) (dropl id O' ++ [(N' + k, o)]) = some o := by
  have h1 : Kp X N O (dropl id O') := by
    intro j hj hx
    rw [lk_dropl (by omega), hK j hj hx]
  exact hp_new h1 (Tail_dropl2 hT) hN o
theorem get_tk {l : List Rw} {i : Nat} {es0 : List (List AV)} (hi : i < l.length) (ht : es0.take (l.map Rw.c).length = l.map Rw.c) : es0[i]? = some (Rw.c l[i]) := by
  have h : (es0.take (l.map Rw.c).length)[i]? = (l.map Rw.c)[i]? := by rw [ht]
  rw [List.getElem?_take_of_lt (by simpa using hi)] at h
  rw [h]
  simp [hi]
section
variable {β : Type} {fin : Option (Ex × St) → Option β}
theorem cc_rows (l : List Rw) (hs : ∀ r ∈ l, rowS r) (hl : l.length < 2 ^ 39) (v : AV) (K : List Fr) (Q : Option β → Prop) (e : Env) (O : List (Nat × AO)) (N : Nat) (hT : Tail O N) (hv : Re O 5 v (l.map Rw.c))
    (h6 : look 6 e = some (.fslice 5 [])) (h24 : look 24 e = some v) (h25 : look 25 e = some (.int .i64 l.length)) (h26 : look 26 e = some (.int .i64 0))
    (hK : ∀ e' O' N' w, Mu O' 5 w (l.map Rw.c) → (∀ j, vid w = some j → N ≤ j) → (∀ z es t, w ≠ .app z es t) → Kp (fun _ => False) N O O' → Tail O' N' → N ≤ N' → look 6 e' = some w →
      look 1 e' = look 1 e → look 2 e' = look 2 e → look 3 e' = look 3 e → look 18 e' = look 18 e → look 19 e' = look 19 e → look 20 e' = look 20 e → Q (go Φ fin K .normal ⟨e', ⟨O', N'⟩⟩)) :
    Q (go Φ fin (.c (.loop c_store_cloneConfig_l0) :: .b 2 :: K) .normal ⟨e, ⟨O, N⟩⟩) := by
  refine loopNQ l.length (fun i e' h => ∃ O' N' w, h = ⟨O', N'⟩ ∧ ((i = 0 ∧ w = .fslice 5 []) ∨ ∃ id, w = .row id 5 0 i ∧ look id O' = some (.row 5 ((l.take i).map Rw.c)) ∧ N ≤ id) ∧ Kp (fun _ => False) N O O' ∧ Tail O' N' ∧ N ≤ N' ∧ look 6 e' = some w ∧ look 24 e' = some v ∧ look 25 e' = some (.int .i64 l.length) ∧ look 26 e' = some (.int .i64 i) ∧
      look 1 e' = look 1 e ∧ look 2 e' = look 2 e ∧ look 3 e' = look 3 e ∧ look 18 e' = look 18 e ∧ look 19 e' = look 19 e ∧ look 20 e' = look 20 e) Q ?_ ?_ 0 _ _ (Nat.zero_le _) ?_
  · rintro i e' _ L hi hL ⟨O', N', w, rfl, hw, hk, hT', hN, h6, h24, h25, h26, g1, g2, g3, g18, g19, g20⟩ ih
    have hw1 : IntKind.wrap .i64 ((i : Int) + 1) = ((i + 1 : Nat) : Int) := wrap64 (by omega) (by omega)
    have hc := crow_ok l[i] (hs _ (List.getElem_mem hi))
    have hT0 := hT' N' (Nat.le_refl _)
    have hT1 := hT' (N' + 1) (by omega)
    have hm : min i l.length = i := by omega
    have hd1 : ∀ id, look (N' + 1) (dropl id O') = none := fun id => lk_dropl_none _ hT1
    have htk : (l.map Rw.c).take (i + 1) = (l.map Rw.c).take i ++ [Rw.c l[i]] := take_map_succ hi
    rw [Rw.ce] at htk
    have hb : (i + 1) * 72 ≤ 70368744177664 := by omega
    simp only [Rw.ce] at hc
    have hv' : Re O' 5 v (l.map Rw.c) := by
      refine hv.fr fun j hj => ?_
      cases hv with
      | row id _ es0 n hn hl hle ht => cases hj; exact hk j (hT.lt hl) (by simp)
      | sl => cases hj
      | fs => cases hj
      | ap => cases hj
    have hw0 : min i (l.map Rw.c).length = i := by simp; omega
    rcases hw with ⟨rfl, rfl⟩ | ⟨id, rfl, hlk, hid⟩
    · obtain ⟨a1, a2, a3⟩ := hp_new (k := 1) hk hT' hN (.row 5 ((l.take (0 + 1)).map Rw.c))
      cases hv' with
      | row id' _ es0 n hn hl' hle ht =>
        have h0 := get_tk hi ht
        simp [c_store_cloneConfig_l0, Rw.ce, h6, h24, h25, h26, hi, hc, hT0, hT1, hn, hl', h0, wr1]
        refine ih _ _ ⟨_, N' + 1 + 1, .row (N' + 1) 5 0 (0 + 1), by simp at htk; simp [htk], .inr ⟨N' + 1, rfl, a3, by omega⟩, a1, a2, by omega, ?_, ?_, ?_, ?_, ?_, ?_, ?_, ?_, ?_, ?_⟩ <;> simp [*]
      | _ =>
        simp [c_store_cloneConfig_l0, Rw.ce, h6, h24, h25, h26, hi, hc, hT0, hT1, wr1]
        refine ih _ _ ⟨_, N' + 1 + 1, .row (N' + 1) 5 0 (0 + 1), by simp at htk; simp [htk], .inr ⟨N' + 1, rfl, a3, by omega⟩, a1, a2, by omega, ?_, ?_, ?_, ?_, ?_, ?_, ?_, ?_, ?_, ?_⟩ <;> simp [*]
    · obtain ⟨a1, a2, a3⟩ := hp_mv (k := 1) hk hT' hN hid (.row 5 ((l.take (i + 1)).map Rw.c))
      cases hv' with
      | row id' _ es0 n hn hl' hle ht =>
        have h0 := get_tk hi ht
        simp [c_store_cloneConfig_l0, Rw.ce, h6, h24, h25, h26, hi, hc, hT0, hn, hl', h0, hw1, hlk, hb, hm, hd1]
        refine ih _ _ ⟨_, N' + 1 + 1, .row (N' + 1) 5 0 (i + 1), by simp [htk], .inr ⟨N' + 1, rfl, a3, by omega⟩, a1, a2, by omega, ?_, ?_, ?_, ?_, ?_, ?_, ?_, ?_, ?_, ?_⟩ <;> simp [*]
      | _ =>
        simp [c_store_cloneConfig_l0, Rw.ce, h6, h24, h25, h26, hi, hc, hT0, hw1, hlk, hb, hm, hd1]
        refine ih _ _ ⟨_, N' + 1 + 1, .row (N' + 1) 5 0 (i + 1), by simp [htk], .inr ⟨N' + 1, rfl, a3, by omega⟩, a1, a2, by omega, ?_, ?_, ?_, ?_, ?_, ?_, ?_, ?_, ?_, ?_⟩ <;> simp [*]
  · rintro e' _ L hL ⟨O', N', w, rfl, hw, hk, hT', hN, h6, h24, h25, h26, g1, g2, g3, g18, g19, g20⟩
    simp [c_store_cloneConfig_l0, h25, h26, hL]
    refine hK _ O' N' w ?_ ?_ ?_ hk hT' hN ?_ ?_ ?_ ?_ ?_ ?_ ?_ <;> try simp [h6, g1, g2, g3, g18, g19, g20]
    · rcases hw with ⟨hz, rfl⟩ | ⟨id, rfl, hlk, hid⟩
      · have : l = [] := List.eq_nil_of_length_eq_zero hz
        subst this
        exact .nilF
      · rw [List.take_length] at hlk
        exact .row id _ _ _ (by simp) hlk (Nat.le_refl _) (by rw [List.take_length])
    · rcases hw with ⟨hz, rfl⟩ | ⟨id, rfl, hlk, hid⟩
      · intro j hj; cases hj
      · intro j hj; cases hj; exact hid
    · rcases hw with ⟨hz, rfl⟩ | ⟨id, rfl, hlk, hid⟩ <;> intro z es t ht <;> cases ht
  · exact ⟨O, N, .fslice 5 [], rfl, .inl ⟨rfl, rfl⟩, fun _ _ _ => rfl, hT, Nat.le_refl _, h6, h24, h25, h26, rfl, rfl, rfl, rfl, rfl, rfl⟩
end
end Go.Av
