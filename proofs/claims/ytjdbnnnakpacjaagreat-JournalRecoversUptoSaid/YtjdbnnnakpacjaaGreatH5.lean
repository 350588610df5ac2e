/-
  store.cloneConfig: the rows of all tables.
-/
import Derived.Test.YtjdbnnnakpacjaaGreatH4
set_option linter.unusedVariables false
set_option linter.unusedSimpArgs false
set_option linter.constructorNameAsVariable false
namespace Go.Av
set_option maxRecDepth 4000
theorem Kp.appL {O O' : List (Nat × AO)} {N : Nat} {X : Nat → Prop} (h : Kp X N O O') {r : List (Nat × AO)} (hr : ∀ p ∈ r, N ≤ p.1) : Kp X N O (O' ++ r) := by
  intro j hj hx
  have : look j r = none := by
    induction r with
    | nil => rfl
    | cons p r ih =>
      have h1 := hr p (by simp)
      have : ¬ p.1 = j := by omega
      simp only [look, if_neg this]
      exact ih fun q hq => hr q (by simp [hq])
  rw [lk_app, h j hj hx, this]
  simp
-- row lists that can be read
structure RowsR (O : List (Nat × AO)) (v : AV) (A : List AV) (R : List (List Rw)) : Prop where
  v : Re O 1 v (A.map fun x => [x])
  len : A.length = R.length
  at_ : ∀ (k : Nat) (x : AV) (l : List Rw), A[k]? = some x → R[k]? = some l → Re O 5 x (l.map Rw.c)
theorem Re.own {O : List (Nat × AO)} {z j : Nat} {v : AV} {es : List (List AV)} (h : Re O z v es) (hj : vid v = some j) : ∃ x, look j O = some x := by
  cases h with
  | sl => cases hj
  | fs => cases hj
  | ap => cases hj
  | row id _ es0 n hn hl hle ht => cases hj; exact ⟨_, hl⟩
theorem Re.kp {O O' : List (Nat × AO)} {z N : Nat} {v : AV} {es : List (List AV)} {X : Nat → Prop} (h : Re O z v es) (hT : Tail O N) (hk : Kp X N O O') (hx : ∀ j, X j → look j O = none ∨ N ≤ j) : Re O' z v es := by
  refine h.fr fun j hj => ?_
  obtain ⟨x, hl⟩ := h.own hj
  refine hk j (hT.lt hl) fun hc => ?_
  rcases hx j hc with h1 | h1
  · rw [hl] at h1; cases h1
  · have := hT.lt hl; omega
theorem Mu.own {O : List (Nat × AO)} {z j : Nat} {v : AV} {es : List (List AV)} (h : Mu O z v es) (hj : vid v = some j) : ∃ es0, look j O = some (.row z es0) := by
  cases h with
  | nilF => cases hj
  | nilA => cases hj
  | row id _ es0 n hn hl hle ht => cases hj; exact ⟨_, hl⟩
-- lists of new rows
structure RowsW (O : List (Nat × AO)) (N : Nat) (V : List AV) (R : List (List Rw)) : Prop where
  len : V.length = R.length
  mu : ∀ (k : Nat) (v : AV) (l : List Rw), V[k]? = some v → R[k]? = some l → Mu O 5 v (l.map Rw.c)
  fresh : ∀ v ∈ V, ∀ j, vid v = some j → N ≤ j
  inj : ∀ (k k' : Nat) (v v' : AV) (i : Nat), V[k]? = some v → V[k']? = some v' → vid v = some i → vid v' = some i → k = k'
  na : ∀ v ∈ V, ∀ z es t, v ≠ .app z es t
theorem RowsW.nil {O : List (Nat × AO)} {N : Nat} : RowsW O N [] [] := ⟨rfl, by simp, by simp, by simp, by simp⟩
theorem RowsW.own {O : List (Nat × AO)} {N : Nat} {V : List AV} {R : List (List Rw)} (h : RowsW O N V R) {v : AV} {j : Nat} (hv : v ∈ V) (hj : vid v = some j) : ∃ es0, look j O = some (.row 5 es0) := by
  obtain ⟨k, hk, rfl⟩ := List.mem_iff_getElem.1 hv
  have hk2 : k < R.length := by rw [← h.len]; exact hk
  exact (h.mu k _ _ (List.getElem?_eq_getElem hk) (List.getElem?_eq_getElem hk2)).own hj
theorem RowsW.fr {O O' : List (Nat × AO)} {N : Nat} {V : List AV} {R : List (List Rw)} (h : RowsW O N V R) (hf : ∀ j es0, look j O = some (.row 5 es0) → look j O' = look j O) : RowsW O' N V R := by
  refine ⟨h.len, ?_, h.fresh, h.inj, h.na⟩
  intro k v l hv hl
  have hm := h.mu k v l hv hl
  refine hm.fr fun j hj => ?_
  obtain ⟨es0, h0⟩ := hm.own hj
  exact hf j es0 h0
theorem RowsW.snoc {O O' : List (Nat × AO)} {N N' : Nat} {V : List AV} {R : List (List Rw)} {w : AV} {l : List Rw} (h : RowsW O N V R) (hT : Tail O N') (hN : N ≤ N') (hf : ∀ j es0, look j O = some (.row 5 es0) → look j O' = look j O) (hw : Mu O' 5 w (l.map Rw.c)) (hn : ∀ j, vid w = some j → N' ≤ j) (ha : ∀ z es t, w ≠ .app z es t) : RowsW O' N (V ++ [w]) (R ++ [l]) := by
  have h' := h.fr hf
  have hlt : ∀ v ∈ V, ∀ j, vid v = some j → j < N' := by
    intro v hv j hj
    obtain ⟨es0, h0⟩ := h.own hv hj
    exact hT.lt h0
  have hlen := h.len
  refine ⟨by simp [hlen], ?_, ?_, ?_, fun v hv => by rcases List.mem_append.1 hv with hv | hv; exact h.na v hv; simp at hv; subst hv; exact ha⟩
  · intro k v l' hv hl
    by_cases hk : k < V.length
    · rw [List.getElem?_append_left hk] at hv
      rw [List.getElem?_append_left (by omega)] at hl
      exact h'.mu k v l' hv hl
    · have hk' : k = V.length := by
        have := (List.getElem?_eq_some_iff.1 hv).1
        simp at this; omega
      subst hk'
      rw [List.getElem?_append_right (by omega)] at hv
      rw [List.getElem?_append_right (by omega), hlen] at hl
      simp at hv hl
      subst hv hl
      exact hw
  · intro v hv j hj
    rcases List.mem_append.1 hv with hv | hv
    · exact h.fresh v hv j hj
    · simp at hv; subst hv; have := hn j hj; omega
  · intro k k' v v' i hv hv' hi hi'
    have hb := (List.getElem?_eq_some_iff.1 hv).1
    have hb' := (List.getElem?_eq_some_iff.1 hv').1
    simp at hb hb'
    by_cases hk : k < V.length
    · by_cases hk' : k' < V.length
      · rw [List.getElem?_append_left hk] at hv
        rw [List.getElem?_append_left hk'] at hv'
        exact h.inj k k' v v' i hv hv' hi hi'
      · rw [List.getElem?_append_left hk] at hv
        rw [List.getElem?_append_right (by omega)] at hv'
        have : k' - V.length = 0 := by omega
        rw [this] at hv'
        simp at hv'
        subst hv'
        have h1 := hlt v (List.mem_of_getElem? hv) i hi
        have h2 := hn i hi'
        omega
    · by_cases hk' : k' < V.length
      · rw [List.getElem?_append_left hk'] at hv'
        rw [List.getElem?_append_right (by omega)] at hv
        have : k - V.length = 0 := by omega
        rw [this] at hv
        simp at hv
        subst hv
        have h1 := hlt v' (List.mem_of_getElem? hv') i hi'
        have h2 := hn i hi
        omega
      · omega
section
variable {β : Type} {fin : Option (Ex × St) → Option β}
theorem cc_tabs (R : List (List Rw)) (hR : R.length < 2 ^ 40) (hs : ∀ l ∈ R, l.length < 2 ^ 39 ∧ ∀ r ∈ l, rowS r) (v w2 : AV) (A : List AV) (b : Nat) (K : List Fr) (Q : Option β → Prop) (e : Env) (O : List (Nat × AO)) (N : Nat) (hT : Tail O N) (hv : RowsR O v A R)
    (hb : look b O = some (.row 4 [[.fslice 1 [], w2, .fslice 2 [], .fslice 1 []]])) (h3 : look 3 e = some (.ptr b 4 0 0)) (h18 : look 18 e = some v) (h19 : look 19 e = some (.int .i64 R.length)) (h20 : look 20 e = some (.int .i64 0))
    (hK : ∀ e' O' N' w V, Mu O' 1 w (V.map fun x => [x]) → (∀ j, vid w = some j → N ≤ j) → RowsW O' N V R → Kp (fun j => j = b) N O O' → Tail O' N' → N ≤ N' → look b O' = some (.row 4 [[w, w2, .fslice 2 [], .fslice 1 []]]) →
      look 1 e' = look 1 e → look 2 e' = look 2 e → look 3 e' = look 3 e → Q (go Φ fin K .normal ⟨e', ⟨O', N'⟩⟩)) :
    Q (go Φ fin (.c (.loop c_store_cloneConfig_l3) :: .b 0 :: K) .normal ⟨e, ⟨O, N⟩⟩) := by
  have hAb : ∀ (k : Nat) (x : AV) j, A[k]? = some x → vid x = some j → j ≠ b := by
    intro k x j hx hj
    have hk : k < R.length := by
      have := (List.getElem?_eq_some_iff.1 hx).1
      rw [hv.len] at this; exact this
    have := hv.at_ k x _ hx (List.getElem?_eq_getElem hk)
    cases this with
    | sl => cases hj
    | fs => cases hj
    | ap => cases hj
    | row id _ es0 n hn hl hle ht => cases hj; exact lk_ne hl hb (by simp)
  have hvb : ∀ j, vid v = some j → j ≠ b := by
    intro j hj
    cases hv.v with
    | sl => cases hj
    | fs => cases hj
    | ap => cases hj
    | row id _ es0 n hn hl hle ht => cases hj; exact lk_ne hl hb (by simp)
  refine loopNQ R.length (fun i e' h => ∃ O' N' w V, h = ⟨O', N'⟩ ∧ ((i = 0 ∧ w = .fslice 1 [] ∧ V = []) ∨ ∃ id, w = .row id 1 0 i ∧ look id O' = some (.row 1 (V.map fun x => [x])) ∧ N ≤ id) ∧ RowsW O' N V (R.take i) ∧ Kp (fun j => j = b) N O O' ∧ Tail O' N' ∧ N ≤ N' ∧
      look b O' = some (.row 4 [[w, w2, .fslice 2 [], .fslice 1 []]]) ∧ look 3 e' = some (.ptr b 4 0 0) ∧ look 18 e' = some v ∧ look 19 e' = some (.int .i64 R.length) ∧ look 20 e' = some (.int .i64 i) ∧
      look 1 e' = look 1 e ∧ look 2 e' = look 2 e) Q ?_ ?_ 0 _ _ (Nat.zero_le _) ?_
  · rintro i e' _ L hi hL ⟨O', N', w, V, rfl, hw, hV, hk, hT', hN, hb', h3, h18, h19, h20, g1, g2⟩ ih
    have hw1 : IntKind.wrap .i64 ((i : Int) + 1) = ((i + 1 : Nat) : Int) := wrap64 (by omega) (by omega)
    have hA : i < A.length := by rw [hv.len]; exact hi
    have hlen := hV.len
    have hVl : V.length = i := by rw [hlen]; simp; omega
    have hri := hs _ (List.getElem_mem hi)
    have hbN : b < N := hT.lt hb
    have hx : Re O' 5 A[i] (R[i].map Rw.c) := by
      have h0 := hv.at_ i _ _ (List.getElem?_eq_getElem hA) (List.getElem?_eq_getElem hi)
      refine h0.fr fun j hj => ?_
      obtain ⟨x, hl⟩ := h0.own hj
      exact hk j (hT.lt hl) (hAb i _ j (List.getElem?_eq_getElem hA) hj)
    have hxl := hx.len
    have hxc := hx.cells
    have hv' : Re O' 1 v (A.map fun x => [x]) := by
      refine hv.v.fr fun j hj => ?_
      obtain ⟨x, hl⟩ := hv.v.own hj
      exact hk j (hT.lt hl) (hvb j hj)
    have after : ∀ e1, look 1 e1 = look 1 e → look 2 e1 = look 2 e → look 3 e1 = some (.ptr b 4 0 0) → look 18 e1 = some v → look 19 e1 = some (.int .i64 R.length) → look 20 e1 = some (.int .i64 i) →
        ∀ e2 O2 N2 w', Mu O2 5 w' (R[i].map Rw.c) → (∀ j, vid w' = some j → N' ≤ j) → (∀ z es t, w' ≠ .app z es t) → Kp (fun _ => False) N' O' O2 → Tail O2 N2 → N' ≤ N2 → look 6 e2 = some w' → look 1 e2 = look 1 e1 → look 2 e2 = look 2 e1 → look 3 e2 = look 3 e1 → look 18 e2 = look 18 e1 → look 19 e2 = look 19 e1 → look 20 e2 = look 20 e1 →
        Q (go Φ fin (.c c_store_cloneConfig_k1 :: .b 1 :: .c c_store_cloneConfig_k2 :: L) .normal ⟨e2, ⟨O2, N2⟩⟩) := by
      intro e1 f1 f2 f3 f18 f19 f20 e2 O2 N2 w' hmu hnew hna hk2 hT2 hN2 d6 d1 d2 d3 d18 d19 d20
      rw [f1] at d1; rw [f2] at d2; rw [f3] at d3; rw [f18] at d18; rw [f19] at d19; rw [f20] at d20
      have hb2 : look b O2 = some (.row 4 [[w, w2, .fslice 2 [], .fslice 1 []]]) := hk2.lk hT' hb' (by simp)
      have hmc := hmu.cells
      have t0 := hT2 N2 (Nat.le_refl _)
      have t1 := hT2 (N2 + 1) (by omega)
      have hbN2 : b < N2 := by omega
      have q0 : ¬ N2 = b := by omega
      have q1 : ¬ N2 + 1 = b := by omega
      have q2 : ¬ b = N2 := by omega
      have q3 : ¬ b = N2 + 1 := by omega
      have hkk : Kp (fun j => j = b) N O O2 := hk.trans (hk2.mono fun _ _ h => h.elim) hN
      have h5 : ∀ (j : Nat) (es0 : List (List AV)), look j O' = some (.row 5 es0) → look j O2 = some (.row 5 es0) := fun j es0 hj => hk2.lk hT' hj (by simp)
      rcases hw with ⟨rfl, rfl, rfl⟩ | ⟨id, rfl, hlk, hid⟩
      · simp [c_store_cloneConfig_k1, c_store_cloneConfig_k2, d3, d6, d20, t0, t1, lk_app, hb2, wr1, hmc, -AV.cells]
        refine ih _ _ ⟨_, _, .row (N2 + 1) 1 0 1, [w'], rfl, .inr ⟨N2 + 1, rfl, ?_, by omega⟩, ?_, ?_, ?_, by omega, ?_, ?_, ?_, ?_, ?_, ?_, ?_⟩
        · simp [lk_setl, q1, t1]
        · rw [List.take_succ_eq_append_getElem hi]
          refine RowsW.snoc (V := []) hV hT' hN ?_ (hmu.fr ?_) hnew hna
          · intro j es0 hj
            have hj2 := h5 j es0 hj
            have := lk_ne hj2 hb2 (by simp)
            simp [lk_setl, lk_app, this, hj2, hj]
          · intro j hj
            obtain ⟨es0, hj2⟩ := hmu.own hj
            have := lk_ne hj2 hb2 (by simp)
            simp [lk_setl, lk_app, this, hj2]
        · exact Kp.setl (Kp.appL hkk (by simp; omega)) (.inr rfl)
        · exact Tail_setl2 (by simp [Tail_append_iff, Tail_cons_iff, Tail_nil_iff]; exact ⟨hT2.mono (by omega), by omega⟩)
        · simp [lk_setl, lk_app, hb2]
        all_goals simp [*]
      · have hl2 : look id O2 = some (.row 1 (V.map fun x => [x])) := hk2.lk hT' hlk (by simp)
        have hbi := lk_ne hb2 hl2 (by simp)
        have hd1 : look (N2 + 1) (dropl id (O2 ++ [(N2, .row 1 [[w']])])) = none := lk_dropl_none _ (by simp [t1])
        have hd2 : look b (dropl id (O2 ++ [(N2, .row 1 [[w']])])) = some (.row 4 [[.row id 1 0 i, w2, .fslice 2 [], .fslice 1 []]]) := by rw [lk_dropl hbi, lk_app, hb2]; rfl
        have hc : (i + 1) * 24 ≤ 70368744177664 := by omega
        simp [c_store_cloneConfig_k1, c_store_cloneConfig_k2, d3, d6, d20, t0, lk_app, hb2, hw1, hl2, hVl, hd1, hd2, hc, hmc, -AV.cells]
        refine ih _ _ ⟨_, _, .row (N2 + 1) 1 0 (i + 1), V ++ [w'], rfl, .inr ⟨N2 + 1, rfl, ?_, by omega⟩, ?_, ?_, ?_, by omega, ?_, ?_, ?_, ?_, ?_, ?_, ?_⟩
        · simp [lk_setl, q1, hd1]
        · rw [List.take_succ_eq_append_getElem hi]
          refine RowsW.snoc hV hT' hN ?_ (hmu.fr ?_) hnew hna
          · intro j es0 hj
            have hj2 := h5 j es0 hj
            have n1 := lk_ne hj2 hb2 (by simp)
            have n2 := lk_ne hj2 hl2 (by simp)
            simp [lk_setl, lk_app, lk_dropl n2, n1, hj2, hj]
          · intro j hj
            obtain ⟨es0, hj2⟩ := hmu.own hj
            have n1 := lk_ne hj2 hb2 (by simp)
            have n2 := lk_ne hj2 hl2 (by simp)
            simp [lk_setl, lk_app, lk_dropl n2, n1, hj2]
        · exact Kp.setl (Kp.appL (Kp.drop (Kp.appL hkk (by simp; omega)) (.inl hid)) (by simp; omega)) (.inr rfl)
        · refine Tail_setl2 ?_
          rw [Tail_append_iff]
          exact ⟨Tail_dropl2 (by simp [Tail_append_iff, Tail_cons_iff, Tail_nil_iff]; exact ⟨hT2.mono (by omega), by omega⟩), by simp [Tail_cons_iff, Tail_nil_iff]⟩
        · simp [lk_setl, lk_app, hd2]
        all_goals simp [*]
    cases hv' with
    | row id' _ es0 n hn hl' hle ht =>
      have h0 : es0[i]? = some [A[i]] := by
        have h : (es0.take (A.map fun x => [x]).length)[i]? = (A.map fun x => [x])[i]? := by rw [ht]
        rw [List.getElem?_take_of_lt (by simpa using hA)] at h
        rw [h]; simp [hA]
      simp [c_store_cloneConfig_l3, h18, h19, h20, hi, hA, hn, hl', h0, hxl, -lenOf]
      refine cc_rows R[i] hri.2 hri.1 A[i] _ _ _ O' N' hT' hx ?_ ?_ ?_ ?_ (after _ ?_ ?_ ?_ ?_ ?_ ?_) <;> simp [*]
    | _ =>
      simp [c_store_cloneConfig_l3, h18, h19, h20, hi, hA, hxl, -lenOf]
      refine cc_rows R[i] hri.2 hri.1 A[i] _ _ _ O' N' hT' hx ?_ ?_ ?_ ?_ (after _ ?_ ?_ ?_ ?_ ?_ ?_) <;> simp [*]
  · rintro e' _ L hL ⟨O', N', w, V, rfl, hw, hV, hk, hT', hN, hb', h3, h18, h19, h20, g1, g2⟩
    simp [c_store_cloneConfig_l3, h19, h20, hL]
    rw [List.take_length] at hV
    refine hK _ O' N' w V ?_ ?_ hV hk hT' hN hb' ?_ ?_ ?_
    · rcases hw with ⟨hz, rfl, rfl⟩ | ⟨id, rfl, hlk, hid⟩
      · exact .nilF
      · exact .row id _ _ _ (by simp [hV.len]) hlk (Nat.le_refl _) (by rw [List.take_length])
    · rcases hw with ⟨hz, rfl, rfl⟩ | ⟨id, rfl, hlk, hid⟩
      · intro j hj; cases hj
      · intro j hj; cases hj; exact hid
    · simp [g1]
    · simp [g2]
    · simp [*]
  · exact ⟨O, N, .fslice 1 [], [], rfl, .inl ⟨rfl, rfl, rfl⟩, by simpa using RowsW.nil, fun _ _ _ => rfl, hT, Nat.le_refl _, hb, h3, h18, h19, h20, rfl, rfl⟩
end
end Go.Av
