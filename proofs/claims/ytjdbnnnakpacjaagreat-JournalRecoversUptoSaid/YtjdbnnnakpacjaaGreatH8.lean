/-
  The index of a table: its entries; store.reindex.
-/
import Derived.Test.YtjdbnnnakpacjaaGreatH7
set_option linter.unusedVariables false
set_option linter.unusedSimpArgs false
set_option linter.constructorNameAsVariable false
namespace Go.Av
set_option maxRecDepth 4000
def entsF : List Rw → Nat → List (AV × AV)
  | [], _ => []
  | r :: l, n => (.int .i64 r.id, .int .i64 n) :: entsF l (n + 1)
def ents (l : List Rw) : List (AV × AV) := entsF l 0
theorem entsF_snoc (r : Rw) : ∀ (l : List Rw) (n : Nat), entsF (l ++ [r]) n = entsF l n ++ [(.int .i64 r.id, .int .i64 ((n + l.length : Nat) : Int))]
  | [], n => by simp [entsF]
  | a :: l, n => by
    have ih := entsF_snoc r l (n + 1)
    simp only [List.cons_append, entsF, ih, List.length_cons]
    rw [show n + 1 + l.length = n + (l.length + 1) by omega]
theorem ents_snoc (l : List Rw) (r : Rw) : ents (l ++ [r]) = ents l ++ [(.int .i64 r.id, .int .i64 (l.length : Nat))] := by
  unfold ents
  rw [entsF_snoc, Nat.zero_add]
theorem putA_new (x : Int) (v : AV) : ∀ (l : List Rw) (n : Nat), (∀ r ∈ l, r.id ≠ x) → putA .i (.int .i64 x) v (entsF l n) = some (entsF l n ++ [(.int .i64 x, v)])
  | [], n, _ => rfl
  | r :: l, n, h => by
    have ih := putA_new x v l (n + 1) fun r hr => h r (by simp [hr])
    have h1 : ¬ x = r.id := fun e => h r (by simp) e.symm
    simp only [entsF, putA, eqKd, if_true]
    have : (x == r.id) = false := by simpa using h1
    rw [this]
    simp only [ih, Option.map_some, List.cons_append]
theorem findA_ents (x : Int) : ∀ (l : List Rw) (n : Nat), findA .i (.int .i64 x) (entsF l n) = some ((rIdx l x).map fun i => .int .i64 ((i + n : Nat) : Int))
  | [], n => rfl
  | r :: l, n => by
    have ih := findA_ents x l (n + 1)
    unfold rIdx at ih ⊢
    simp only [entsF, findA, eqKd, if_true, List.findIdx?_cons]
    by_cases h : x = r.id
    · subst h
      simp
    · have h' : (x == r.id) = false := by simpa using h
      have h'' : ¬ r.id = x := fun e => h e.symm
      rw [h']
      simp only [ih, h'', decide_false, Option.map_map, Bool.false_eq_true, if_false]
      congr 2
      funext i
      simp only [Function.comp_apply]
      rw [show i + (n + 1) = i + 1 + n by omega]
theorem find_ents (x : Int) (l : List Rw) : findA .i (.int .i64 x) (ents l) = some ((rIdx l x).map fun (i : Nat) => .int .i64 (i : Int)) := findA_ents x l 0
def RIpost (N : Nat) (O : List (Nat × AO)) (iid k : Nat) (es : List (List AV)) (l : List Rw) (r : Option (Rt × AH)) : Prop :=
  ∃ O' N', r = some (.val (.tup []), ⟨O', N'⟩) ∧ look iid O' = some (.row 1 (es.set k [.map N])) ∧ look N O' = some (.map (ents l)) ∧ Kp (fun j => j = iid) N O O' ∧ Tail O' N' ∧ N < N'
theorem reindex_ok {O : List (Nat × AO)} {N sid iid k : Nat} {v1 v2 v3 v4 : AV} {R : List AV} {V : List AV} {l : List Rw} {es : List (List AV)} {n : Nat} (hT : Tail O N) (hl : l.length < 2 ^ 39) (hk : k < n) (hVk : k < V.length)
    (hs : look sid O = some (.row 15 [v1 :: v2 :: v3 :: v4 :: (R ++ [.row iid 1 0 n, .bool true])])) (hR : R.length = 9) (hi : look iid O = some (.row 1 es)) (hn : n ≤ es.length) (hes : ∃ x, es[k]? = some [x])
    (h1 : Mu O 1 v1 (V.map fun x => [x])) (h5 : Mu O 5 V[k] (l.map Rw.c)) (hri : vid v1 ≠ some iid) (hinc : l.Pairwise fun a b => a.id < b.id) (hk39 : k < 2 ^ 40) :
    RIpost N O iid k es l (callI Φ f_store_Store_reindex [.ptr sid 15 0 0, .int .i64 k] ⟨O, N⟩) := by
  rw [callI_go (fn := c_store_Store_reindex) rfl rfl]
  obtain ⟨r0, r1, r2, r3, r4, r5, r6, r7, r8, rfl⟩ : ∃ r0 r1 r2 r3 r4 r5 r6 r7 r8, R = [r0, r1, r2, r3, r4, r5, r6, r7, r8] := by
    match R, hR with
    | [r0, r1, r2, r3, r4, r5, r6, r7, r8], _ => exact ⟨_, _, _, _, _, _, _, _, _, rfl⟩
  obtain ⟨x, hx⟩ := hes
  have t0 := hT N (Nat.le_refl _)
  have hsi := lk_ne hs hi (by simp)
  have fi := lk_fresh hT hi (Nat.le_refl N)
  have fs := lk_fresh hT hs (Nat.le_refl N)
  obtain ⟨rid, es1, e1, hl1, hle1, ht1⟩ := h1.nonempty (by simp; omega)
  subst e1
  have hrid : ¬ rid = iid := fun e => hri (by rw [e]; rfl)
  have fr := lk_fresh hT hl1 (Nat.le_refl N)
  have g1 : es1[k]? = some [V[k]] := get_tkG hVk ht1
  have hkn : k < V.length := hVk
  have hken : k < es.length := by omega
  have h5l := h5.len
  rw [List.length_map] at h5l
  simp [c_store_Store_reindex, hs, hi, t0, lk_app, hk, hx, lk_setl, hsi, fi, fs, hl1, hrid, g1, hVk, h5l, -lenOf]
  have hT1 : Tail (setl iid (AO.row 1 (es.set k [.map N])) (O ++ [(N, AO.map [])])) (N + 1) := Tail_setl2 (hT.app1 (Nat.le_refl _))
  have hk1 : Kp (fun j => j = iid) N O (setl iid (AO.row 1 (es.set k [.map N])) (O ++ [(N, AO.map [])])) := Kp.setl (Kp.app (fun _ _ _ => rfl) (Nat.le_refl _)) (.inr rfl)
  have a1 : look iid (setl iid (AO.row 1 (es.set k [.map N])) (O ++ [(N, AO.map [])])) = some (.row 1 (es.set k [.map N])) := by simp [lk_setl, lk_app, hi]
  have a2 : look N (setl iid (AO.row 1 (es.set k [.map N])) (O ++ [(N, AO.map [])])) = some (.map []) := by simp [lk_setl, fi, t0]
  generalize setl iid (AO.row 1 (es.set k [.map N])) (O ++ [(N, AO.map [])]) = O1 at hT1 hk1 a1 a2 ⊢
  have a3 : look sid O1 = some (.row 15 [AV.row rid 1 0 V.length :: v2 :: v3 :: v4 :: ([r0, r1, r2, r3, r4, r5, r6, r7, r8] ++ [.row iid 1 0 n, .bool true])]) := by
    rw [hk1 sid (hT.lt hs) hsi, hs]; simp
  have h51 : Mu O1 5 V[k] (l.map Rw.c) := by
    refine h5.fr fun j hj => ?_
    obtain ⟨es0, hl0⟩ := h5.own hj
    exact hk1 j (hT.lt hl0) (lk_ne hl0 hi (by simp))
  refine loopNQ l.length (fun i e h => ∃ O' N', h = ⟨O', N'⟩ ∧ Kp (fun j => j = N) (N + 1) O1 O' ∧ Tail O' N' ∧ N + 1 ≤ N' ∧ look N O' = some (.map (ents (l.take i))) ∧ look 0 e = some (.ptr sid 15 0 0) ∧ look 1 e = some (.int .i64 k) ∧ look 20 e = some V[k] ∧ look 21 e = some (.int .i64 l.length) ∧ look 22 e = some (.int .i64 i)) (RIpost N O iid k es l) ?_ ?_ 0 _ _ (Nat.zero_le _) ?_
  · rintro i e _ L hi' hL ⟨O', N', rfl, hk', hT', hN', b2, e0, e1, e20, e21, e22⟩ ih
    have hw1 : IntKind.wrap .i64 ((i : Int) + 1) = ((i + 1 : Nat) : Int) := wrap64 (by omega) (by omega)
    have u0 := hT' N' (Nat.le_refl _)
    have fN : ¬ N' = N := by omega
    have b1 : look iid O' = some (.row 1 (es.set k [.map N])) := hk'.lk hT1 a1 (by omega)
    have b3 := hk'.lk hT1 a3 (by omega)
    have b4 : (es.set k [AV.map N])[k]? = some [.map N] := by rw [List.getElem?_set_self hken]
    have hne : ∀ r ∈ l.take i, r.id ≠ l[i].id := by
      intro r hr
      rw [List.mem_take_iff_getElem] at hr
      obtain ⟨m, hm, rfl⟩ := hr
      have := List.pairwise_iff_getElem.1 hinc m i (by omega) hi' (by omega)
      omega
    have hp := putA_new l[i].id (.int .i64 i) (l.take i) 0 hne
    have hml : min i l.length = i := by omega
    have hsn : ents (l.take (i + 1)) = ents (l.take i) ++ [(.int .i64 l[i].id, .int .i64 (i : Nat))] := by
      rw [List.take_succ_eq_append_getElem hi', ents_snoc, List.length_take, hml]
    rw [show entsF (l.take i) 0 = ents (l.take i) from rfl] at hp
    have h5' : Mu O' 5 V[k] (l.map Rw.c) := by
      refine h51.fr fun j hj => ?_
      obtain ⟨es0, hl0⟩ := h51.own hj
      exact hk' j (hT1.lt hl0) (lk_ne hl0 a2 (by simp))
    obtain ⟨r5', es5, ev, hl5, hle5, ht5⟩ := h5'.nonempty (by simp; omega)
    have g5 := get_tkG hi' ht5
    rw [ev] at e20
    have f1 := lk_fresh hT' b1 (Nat.le_refl N')
    have f3 := lk_fresh hT' b3 (Nat.le_refl N')
    simp [c_store_Store_reindex_l0, Rw.ce, e0, e1, e20, e21, e22, hi', hl5, g5, u0, b3, b1, hken, hk, b2, hp, hw1]
    refine ih _ _ ⟨_, _, rfl, Kp.setl hk' (.inr rfl), Tail_setl2 (hT'.mono (by omega)), by omega, ?_, ?_, ?_, ?_, ?_, ?_⟩
    · simp [lk_setl, b2, hsn]
    all_goals simp [*]
  · rintro e _ L hL ⟨O', N', rfl, hk', hT', hN', b2, e0, e1, e20, e21, e22⟩
    simp [c_store_Store_reindex_l0, e21, e22, hL]
    refine ⟨O', N', rfl, hk'.lk hT1 a1 (by omega), ?_, ?_, hT', by omega⟩
    · rw [b2, List.take_length]
    · intro j hj hx
      rw [hk' j (by omega) (by omega)]
      exact hk1 j hj hx
  · refine ⟨O1, N + 1, rfl, fun _ _ _ => rfl, hT1, Nat.le_refl _, a2, ?_, ?_, ?_, ?_, ?_⟩ <;> simp
end Go.Av
