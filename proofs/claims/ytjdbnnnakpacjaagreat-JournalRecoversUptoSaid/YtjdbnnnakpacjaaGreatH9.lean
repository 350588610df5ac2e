/-
  A store in memory; store.load.
-/
import Derived.Test.YtjdbnnnakpacjaaGreatH8
set_option linter.unusedVariables false
set_option linter.unusedSimpArgs false
set_option linter.constructorNameAsVariable false
namespace Go.Av
set_option maxRecDepth 4000
structure SV where
  s : Nat
  v1 : AV
  v2 : AV
  v3 : AV
  v4 : AV
  vi : AV
  V : List AV
  M : List Nat
def SV.cells (S : SV) (p : Prg) : List AV := S.v1 :: S.v2 :: S.v3 :: S.v4 :: (Prg.c p ++ [S.vi, .bool true])
structure IdxM (O : List (Nat × AO)) (vi : AV) (M : List Nat) (R : List (List Rw)) : Prop where
  i : Mu O 1 vi (M.map fun m => [.map m])
  len : M.length = R.length
  m : ∀ (k m : Nat) (l : List Rw), M[k]? = some m → R[k]? = some l → look m O = some (.map (ents l))
  nd : ∀ (k k' m : Nat), M[k]? = some m → M[k']? = some m → k = k'
structure StoreM (O : List (Nat × AO)) (S : SV) (p : Prg) (c : Config) : Prop where
  s : look S.s O = some (.row 15 [S.cells p])
  cm : CfgM O S.v1 S.v2 S.v3 S.v4 S.V c
  x : IdxM O S.vi S.M c.rows
  ri : ∀ i, vid S.v1 = some i → vid S.vi = some i → False
  ni : ∀ i, vid S.v2 = some i → vid S.vi = some i → False
def SV.own (S : SV) (j : Nat) : Prop := j = S.s ∨ CfgM.own S.v1 S.v2 S.v3 S.V j ∨ vid S.vi = some j ∨ j ∈ S.M
theorem IdxM.fr {O O' : List (Nat × AO)} {vi : AV} {M : List Nat} {R : List (List Rw)} (h : IdxM O vi M R) (hf : ∀ j, vid vi = some j ∨ j ∈ M → look j O' = look j O) : IdxM O' vi M R :=
  ⟨h.i.fr fun j hj => hf j (.inl hj), h.len, fun k m l hm hl => by rw [hf m (.inr (List.mem_of_getElem? hm))]; exact h.m k m l hm hl, h.nd⟩
theorem StoreM.fr {O O' : List (Nat × AO)} {S : SV} {p : Prg} {c : Config} (h : StoreM O S p c) (hf : ∀ j, S.own j → look j O' = look j O) : StoreM O' S p c :=
  ⟨by rw [hf _ (.inl rfl)]; exact h.s, h.cm.fr fun j hj => hf j (.inr (.inl hj)), h.x.fr fun j hj => hf j (.inr (.inr hj)), h.ri, h.ni⟩
theorem CfgM.own_lk {O : List (Nat × AO)} {v1 v2 v3 v4 : AV} {V : List AV} {c : Config} (h : CfgM O v1 v2 v3 v4 V c) {j : Nat} (hj : CfgM.own v1 v2 v3 V j) : ∃ z es, look j O = some (.row z es) ∧ (z = 1 ∨ z = 2 ∨ z = 5) := by
  rcases hj with hj | hj | hj | ⟨v, hv, hj⟩
  · obtain ⟨es, hl⟩ := h.r.own hj; exact ⟨1, es, hl, .inl rfl⟩
  · obtain ⟨es, hl⟩ := h.n.own hj; exact ⟨1, es, hl, .inl rfl⟩
  · obtain ⟨es, hl⟩ := h.d.own hj; exact ⟨2, es, hl, .inr (.inl rfl)⟩
  · obtain ⟨k, hk, rfl⟩ := List.mem_iff_getElem.1 hv
    have hk2 : k < c.rows.length := by rw [← h.rl]; exact hk
    obtain ⟨es, hl⟩ := (h.rv k _ _ (List.getElem?_eq_getElem hk) (List.getElem?_eq_getElem hk2)).own hj
    exact ⟨5, es, hl, .inr (.inr rfl)⟩
theorem IdxM.own_lk {O : List (Nat × AO)} {vi : AV} {M : List Nat} {R : List (List Rw)} (h : IdxM O vi M R) {j : Nat} (hj : j ∈ M) : ∃ es, look j O = some (.map es) := by
  obtain ⟨k, hk, rfl⟩ := List.mem_iff_getElem.1 hj
  have hk2 : k < R.length := by rw [← h.len]; exact hk
  exact ⟨_, h.m k _ _ (List.getElem?_eq_getElem hk) (List.getElem?_eq_getElem hk2)⟩
theorem StoreM.own_lk {O : List (Nat × AO)} {S : SV} {p : Prg} {c : Config} (h : StoreM O S p c) {j : Nat} (hj : S.own j) : ∃ x, look j O = some x ∧ x ≠ .res := by
  rcases hj with rfl | hj | hj | hj
  · exact ⟨_, h.s, by simp⟩
  · obtain ⟨z, es, hl, _⟩ := h.cm.own_lk hj; exact ⟨_, hl, by simp⟩
  · obtain ⟨es, hl⟩ := h.x.i.own hj; exact ⟨_, hl, by simp⟩
  · obtain ⟨es, hl⟩ := h.x.own_lk hj; exact ⟨_, hl, by simp⟩
theorem StoreM.kp {O O' : List (Nat × AO)} {N : Nat} {X : Nat → Prop} {S : SV} {p : Prg} {c : Config} (h : StoreM O S p c) (hT : Tail O N) (hk : Kp X N O O') (hx : ∀ j, S.own j → ¬ X j) : StoreM O' S p c := by
  refine h.fr fun j hj => ?_
  obtain ⟨x, hl, _⟩ := h.own_lk hj
  exact hk j (hT.lt hl) (hx j hj)
-- what is read of a store's configuration
theorem CfgM.re {O : List (Nat × AO)} {v1 v2 v3 v4 : AV} {V : List AV} {c : Config} (h : CfgM O v1 v2 v3 v4 V c) : CfgR O v1 v2 v3 v4 V c :=
  ⟨⟨h.r.re, h.rl, fun k x l hx hl => (h.rv k x l hx hl).re⟩, h.n.re, h.d.re, by rcases h.g with e | ⟨t, e⟩; exact .inr (.inl e); exact .inr (.inr ⟨t, e⟩)⟩
theorem CfgR.imm {O : List (Nat × AO)} (c : Config) : CfgR O (.slice 1 (c.rows.map (cS 5 Rw.c))) (.slice 1 (c.nextID.map cI)) (.slice 2 (c.defaults.map ActionCall.c)) (.slice 1 (c.registers.map (cS 1 c32))) (c.rows.map fun l => .slice 5 (l.map Rw.c)) c := by
  refine ⟨⟨?_, by simp, ?_⟩, .sl _, .sl _, .inl rfl⟩
  · have : (c.rows.map fun l => AV.slice 5 (l.map Rw.c)).map (fun x => [x]) = c.rows.map (cS 5 Rw.c) := by
      rw [List.map_map]; rfl
    rw [this]; exact .sl _
  · intro k x l hx hl
    rw [List.getElem?_map, hl] at hx
    cases hx
    exact .sl _
def Rs (O : List (Nat × AO)) (j : Nat) : Prop := look j O = some .res
def LDpost (N : Nat) (O : List (Nat × AO)) (p : Prg) (c : Config) (r : Option (Rt × AH)) : Prop :=
  ∃ S O' N', r = some (.val (.ptr S.s 15 0 0), ⟨O', N'⟩) ∧ StoreM O' S p c ∧ (∀ j, S.own j → N ≤ j) ∧ Kp (Rs O) N O O' ∧ Tail O' N' ∧ N ≤ N'
theorem load_ok (p : Prg) (op : p.Ok bulkMax) (c : Config) (u : CfgU c) (hinc : ∀ l ∈ c.rows, l.Pairwise fun a b => a.id < b.id) {v1 v2 v3 v4 : AV} {A : List AV} {O : List (Nat × AO)} {N : Nat} (hT : Tail O N) (h : CfgR O v1 v2 v3 v4 A c) :
    LDpost N O p c (callI Φ f_store_load [.agg (Prg.c p), .agg [v1, v2, v3, v4]] ⟨O, N⟩) := by
  rw [callI_go (fn := c_store_load) rfl rfl]
  have hcl := pclone_ok p op
  simp only [Prg.e] at hcl
  have t0 := hT N (Nat.le_refl _)
  have t13 := hT (N + 1 + 12) (by omega)
  have n13 : ¬ N = N + 1 + 12 := by omega
  simp [c_store_load, Prg.e, t0, lk_app]
  have hT1 : Tail (O ++ [(N, AO.row 4 [[v1, v2, v3, v4]]), (N + 1 + 12, AO.res)]) (N + 1 + 12 + 1) := by
    rw [Tail_append_iff, Tail_cons_iff, Tail_cons_iff]
    exact ⟨hT.mono (by omega), by omega, by omega, Tail.nil _⟩
  have hk1 : Kp (fun _ => False) N O (O ++ [(N, AO.row 4 [[v1, v2, v3, v4]]), (N + 1 + 12, AO.res)]) := Kp.appL (fun _ _ _ => rfl) (by simp; omega)
  have hres : look (N + 1 + 12) (O ++ [(N, AO.row 4 [[v1, v2, v3, v4]]), (N + 1 + 12, AO.res)]) = some .res := by simp [t13, n13]
  obtain ⟨w1, w2, w3, w4, V, O2, N2, e2, m2, f2, hk2, hT2, hN2⟩ := cloneConfig_ok c u hT1 (h.kp hT hk1 (by simp))
  have hres2 : look (N + 1 + 12) O2 = some .res := hk2.lk hT1 hres (by simp)
  rw [e2]
  have hs1 : ∀ cs, look (N + 1 + 12) (sweepL (setl (N + 1 + 12) (.row 15 cs) O2)) = some (.row 15 cs) := fun cs => by
    rw [lk_sweep (by simp [lk_setl, hres2])]; simp [lk_setl, hres2]
  have hs2 : ∀ cs, Tail (sweepL (setl (N + 1 + 12) (.row 15 cs) O2)) N2 := fun cs => Tail_sweep2 (Tail_setl2 hT2)
  have hs3 : ∀ cs, look N2 (sweepL (setl (N + 1 + 12) (.row 15 cs) O2)) = none := fun cs => hs2 cs _ (Nat.le_refl _)
  have hs4 : ∀ cs z es j, z ≠ 15 → look j O2 = some (.row z es) → look j (sweepL (setl (N + 1 + 12) (.row 15 cs) O2)) = some (.row z es) := fun cs z es j hz hl => by
    have hne : j ≠ N + 1 + 12 := lk_ne hl hres2 (by simp)
    rw [lk_sweep (by simp [lk_setl, hne, hl])]; simp [lk_setl, hne, hl]
  have hs5 : ∀ cs, Kp (Rs O) N O (sweepL (setl (N + 1 + 12) (.row 15 cs) O2)) := fun cs j hj hx => by
    have hne : j ≠ N + 1 + 12 := by omega
    have h2 : look j O2 = look j O := (hk2 j (by omega) (by simp)).trans (hk1 j hj (by simp))
    rw [lk_sweep (by rw [lk_setl, if_neg hne, h2]; exact hx), lk_setl, if_neg hne, h2]
  have n2 : ¬ N2 = N + 1 + 12 := by omega
  have l1 := m2.r.len
  rw [List.length_map, m2.rl] at l1
  have hrl := u.t.rl
  have b1 : (c.rows.length : Int) * 8 ≤ 140737488355328 := by omega
  have b2 : c.rows.length < 4611686018427387904 := by omega
  have w1c := m2.r.cells
  simp [hcl, hres2, hs1, hs3, lk_app, lk_setl, l1, n2, b1, b2, -lenOf, -AV.cells]
  generalize hO3 : setl (N + 1 + 12) _ (_ ++ [(N2, AO.row 1 (List.replicate c.rows.length [AV.nilmap]))]) = O3
  have hT3 : Tail O3 (N2 + 1) := by rw [← hO3]; exact Tail_setl2 ((hs2 _).app1 (Nat.le_refl _))
  have hk3 : Kp (Rs O) N O O3 := by rw [← hO3]; exact Kp.setl (Kp.app (hs5 _) (by omega)) (.inl (by omega))
  have ls : look (N + 1 + 12) O3 = some (.row 15 [w1 :: w2 :: w3 :: w4 :: (Prg.c p ++ [.row N2 1 0 c.rows.length, .bool true])]) := by
    rw [← hO3, lk_setl, if_pos rfl, lk_app, hs1, Prg.e]; rfl
  have li : look N2 O3 = some (.row 1 (List.replicate c.rows.length [AV.nilmap])) := by
    rw [← hO3, lk_setl, if_neg n2, lk_app, hs3]; simp
  have lo : ∀ z es j, z ≠ 15 → look j O2 = some (.row z es) → look j O3 = look j O2 := fun z es j hz hl => by
    have hne : j ≠ N + 1 + 12 := lk_ne hl hres2 (by simp)
    rw [← hO3, lk_setl, if_neg hne, lk_app, hs4 _ z es j hz hl, hl]; rfl
  have m3 : CfgM O3 w1 w2 w3 w4 V c := m2.fr fun j hj => by
    obtain ⟨z, es, hl, hz⟩ := m2.own_lk hj
    exact lo z es j (by omega) hl
  clear hO3
  have fo : ∀ j, CfgM.own w1 w2 w3 V j → j ≠ N2 := fun j hj => by
    obtain ⟨z, es, hl, hz⟩ := m2.own_lk hj
    have := hT2.lt hl; omega
  refine loopNQ c.rows.length (fun i e h => ∃ (O' : List (Nat × AO)) (N' : Nat) (M : List Nat), h = ⟨O', N'⟩ ∧ Kp (fun j => j = N2) (N2 + 1) O3 O' ∧ Tail O' N' ∧ N2 + 1 ≤ N' ∧ look N2 O' = some (.row 1 (M.map (fun m => [AV.map m]) ++ List.replicate (c.rows.length - i) [AV.nilmap])) ∧ M.length = i ∧
      (∀ (k m : Nat) (l : List Rw), M[k]? = some m → c.rows[k]? = some l → look m O' = some (.map (ents l))) ∧ (∀ m ∈ M, N2 + 1 ≤ m) ∧ (∀ (k k' m : Nat), M[k]? = some m → M[k']? = some m → k = k') ∧
      look 5 e = some (.ptr (N + 1 + 12) 15 0 0) ∧ look 28 e = some (.int .i64 c.rows.length) ∧ look 29 e = some (.int .i64 i)) (LDpost N O p c) ?_ ?_ 0 _ _ (Nat.zero_le _) ?_
  · rintro i e _ L hi hL ⟨O', N', M, rfl, hk', hT', hN', ln, hMl, hMe, hMf, hMn, e5, e28, e29⟩ ih
    have hw : IntKind.wrap .i64 ((i : Int) + 1) = ((i + 1 : Nat) : Int) := wrap64 (by omega) (by omega)
    have hVi : i < V.length := by rw [m2.rl]; exact hi
    have ls' := hk'.lk hT3 ls (by omega)
    have m3' : CfgM O' w1 w2 w3 w4 V c := m3.fr fun j hj => by
      obtain ⟨z, es, hl, hz⟩ := m3.own_lk hj
      exact hk' j (hT3.lt hl) (fo j hj)
    have hes : (M.map (fun m => [AV.map m]) ++ List.replicate (c.rows.length - i) [AV.nilmap]).length = c.rows.length := by simp [hMl]; omega
    have hr := reindex_ok (k := i) (n := c.rows.length) (V := V) (l := c.rows[i]) (R := Prg.c p) hT' (u.u _ (List.getElem_mem hi)) hi hVi ls' (by simp) ln (Nat.le_of_eq hes.symm) ?_ m3'.r (m3'.rv i _ _ (List.getElem?_eq_getElem hVi) (List.getElem?_eq_getElem hi)) ?_ (hinc _ (List.getElem_mem hi)) (by omega)
    rotate_left
    · refine ⟨.nilmap, ?_⟩
      rw [List.getElem?_append_right (by simp; omega), List.getElem?_replicate, if_pos (by simp [hMl]; omega)]
    · intro hc
      exact fo N2 (.inl hc) rfl
    obtain ⟨O4, N4, e4, r1, r2, hk4, hT4, hN4⟩ := hr
    simp [c_store_load_l0, e5, e28, e29, hi, e4, hw]
    refine ih _ _ ⟨O4, N4, M ++ [N'], rfl, ?_, hT4, by omega, ?_, by simp [hMl], ?_, ?_, ?_, ?_, ?_, ?_⟩
    · intro j hj hx
      rw [hk4 j (by omega) hx, hk' j hj hx]
    · rw [r1]
      congr 1
      have hd : c.rows.length - i = (c.rows.length - (i + 1)) + 1 := by omega
      rw [hd, List.replicate_succ, List.set_append_right _ _ (by simp [hMl])]
      simp [hMl]
    · intro k m l hm hl
      by_cases hk : k < M.length
      · rw [List.getElem?_append_left hk] at hm
        have h0 := hMe k m l hm hl
        exact hk4.lk hT' h0 (by have := hMf m (List.mem_of_getElem? hm); omega)
      · have hb := (List.getElem?_eq_some_iff.1 hm).1
        simp at hb
        have hk : k = M.length := by omega
        subst hk
        rw [List.getElem?_append_right (by omega)] at hm
        simp at hm
        subst hm
        rw [hMl, List.getElem?_eq_getElem hi] at hl
        cases hl
        exact r2
    · intro m hm
      rcases List.mem_append.1 hm with hm | hm
      · exact hMf m hm
      · simp at hm; omega
    · intro k k' m hm hm'
      have hb := (List.getElem?_eq_some_iff.1 hm).1
      have hb' := (List.getElem?_eq_some_iff.1 hm').1
      simp at hb hb'
      have hlt : ∀ m, m ∈ M → m < N' := fun m hm => by
        obtain ⟨q, hq, rfl⟩ := List.mem_iff_getElem.1 hm
        exact hT'.lt (hMe q _ _ (List.getElem?_eq_getElem hq) (List.getElem?_eq_getElem (by omega)))
      by_cases hk : k < M.length
      · by_cases hk' : k' < M.length
        · rw [List.getElem?_append_left hk] at hm
          rw [List.getElem?_append_left hk'] at hm'
          exact hMn k k' m hm hm'
        · rw [List.getElem?_append_left hk] at hm
          rw [List.getElem?_append_right (by omega), show k' - M.length = 0 by omega] at hm'
          simp at hm'
          have := hlt m (List.mem_of_getElem? hm)
          omega
      · by_cases hk' : k' < M.length
        · rw [List.getElem?_append_left hk'] at hm'
          rw [List.getElem?_append_right (by omega), show k - M.length = 0 by omega] at hm
          simp at hm
          have := hlt m (List.mem_of_getElem? hm')
          omega
        · omega
    · simp [e5]
    · simp [e28]
    · simp
  · rintro e _ L hL ⟨O', N', M, rfl, hk', hT', hN', ln, hMl, hMe, hMf, hMn, e5, e28, e29⟩
    simp [c_store_load_l0, c_store_load_k1, e5, e28, e29, hL]
    have ls' := hk'.lk hT3 ls (by omega)
    have m3' : CfgM O' w1 w2 w3 w4 V c := m3.fr fun j hj => by
      obtain ⟨z, es, hl, hz⟩ := m3.own_lk hj
      exact hk' j (hT3.lt hl) (fo j hj)
    refine ⟨⟨N + 1 + 12, w1, w2, w3, w4, .row N2 1 0 c.rows.length, V, M⟩, O', N', rfl, ⟨ls', m3', ⟨?_, hMl, hMe, hMn⟩, ?_, ?_⟩, ?_, ?_, hT', by omega⟩
    · rw [Nat.sub_self, List.replicate_zero, List.append_nil] at ln
      exact .row N2 _ _ _ (by simp [hMl]) ln (Nat.le_refl _) (by rw [List.take_length])
    · intro j h1 h2; cases h2; exact fo _ (.inl h1) rfl
    · intro j h1 h2; cases h2; exact fo _ (.inr (.inl h1)) rfl
    · intro j hj
      rcases hj with rfl | hj | hj | hj
      · simp only; omega
      · have := f2 j hj; omega
      · cases hj; omega
      · have := hMf j hj; omega
    · intro j hj hx
      rw [hk' j (by omega) (by omega)]
      exact hk3 j hj hx
  · exact ⟨O3, N2 + 1, [], rfl, fun _ _ _ => rfl, hT3, Nat.le_refl _, by simpa using li, rfl, by simp, by simp, by simp, by simp, by simp, by simp⟩
end Go.Av
