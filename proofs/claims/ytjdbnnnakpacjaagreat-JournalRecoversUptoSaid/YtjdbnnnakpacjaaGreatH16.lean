/-
  Insert adds a row.
-/
import Derived.Test.YtjdbnnnakpacjaaGreatH15
set_option linter.unusedVariables false
set_option linter.unusedSimpArgs false
set_option linter.constructorNameAsVariable false
namespace Go.Av
set_option maxRecDepth 4000
theorem in1_ok (r : Rw) (x : Entry) (hb : r.entry.keys.length < 2 ^ 40) : pureI Φ f_store_Store_Insert_1 [.agg (Rw.c r), .iptr 4 [Entry.c x] 0 0] = some (.val (.bool (sk r.entry x))) := by
  rw [pureI_go (fn := c_store_Store_Insert_1) rfl rfl]
  have h := esk_ok r.entry x hb
  simp [c_store_Store_Insert_1, Rw.ce, Entry.ce, h]
theorem idxIn_ok (l : List Rw) (x : Entry) (hl : l.length < 2 ^ 40) (hs : ∀ r ∈ l, r.entry.keys.length < 2 ^ 40) : pureI Φ f_slices_IndexFunc_api_Row_api_Row [.slice 5 (l.map Rw.c), .func (.func f_store_Store_Insert_1) [] [.iptr 4 [Entry.c x] 0 0]] = some (.val (.int .i64 (ix (fun r => sk r.entry x) l 0))) := by
  rw [pureI_go (fn := c_slices_IndexFunc_api_Row_api_Row) rfl rfl]
  simp [c_slices_IndexFunc_api_Row_api_Row]
  refine (loop_nat0 l.length (fun i e => look 0 e = some (.slice 5 (l.map Rw.c)) ∧ look 1 e = some (.func (.func f_store_Store_Insert_1) [] [.iptr 4 [Entry.c x] 0 0]) ∧ look 7 e = some (.int .i64 l.length) ∧ look 8 e = some (.int .i64 i))
    (fun i => some (.val (.int .i64 (ix (fun r => sk r.entry x) l i)))) ?_ ?_ 0 _ (Nat.zero_le _) ?_).trans (by simp)
  · rintro i e L hi hL ⟨h0, h1, h7, h8⟩ ih
    have hw : IntKind.wrap .i64 ((i : Int) + 1) = ((i + 1 : Nat) : Int) := wrap64 (by omega) (by omega)
    have hd := in1_ok l[i] x (hs _ (List.getElem_mem hi))
    simp only [Rw.ce, Entry.ce] at hd h1
    cases z : sk l[i].entry x with
    | true =>
      rw [ix_hit hi (by simpa using z)]
      rw [z] at hd
      simp [c_slices_IndexFunc_api_Row_api_Row_l0, Rw.ce, h0, h1, h7, h8, hi, hd]
    | false =>
      rw [ix_miss hi (by simpa using z)]
      rw [z] at hd
      simp [c_slices_IndexFunc_api_Row_api_Row_l0, Rw.ce, h0, h1, h7, h8, hi, hd, hw]
      exact ih _ ⟨by simp [h0], by simp [h1, Entry.ce], by simp [h7], by simp⟩
  · rintro e L hL ⟨h0, h1, h7, h8⟩
    rw [ix_end]
    simp [c_slices_IndexFunc_api_Row_api_Row_l0, c_slices_IndexFunc_api_Row_api_Row_k1, h7, h8, hL]
  · simp
theorem conIn_ok (l : List Rw) (x : Entry) (hl : l.length < 2 ^ 40) (hs : ∀ r ∈ l, r.entry.keys.length < 2 ^ 40) : pureI Φ f_slices_ContainsFunc_api_Row_api_Row [.slice 5 (l.map Rw.c), .func (.func f_store_Store_Insert_1) [] [.iptr 4 [Entry.c x] 0 0]] = some (.val (.bool (l.any fun r => sk r.entry x))) := by
  rw [pureI_go (fn := c_slices_ContainsFunc_api_Row_api_Row) rfl rfl]
  have h := idxIn_ok l x hl hs
  simp only [Entry.ce] at h
  rw [← ix_any]
  simp [c_slices_ContainsFunc_api_Row_api_Row, Entry.ce, h]
theorem Insert_ok {O : List (Nat × AO)} {N : Nat} {S : SV} {p : Prg} {c : Config} (m : StoreM O S p c) (f : PrgS p) (v : CfgV p c) (s : CfgT c) (hT : Tail O N) (t : Int) (x : Entry) (hx : EntS x) :
    MDpost N O S p (if insE p c t x = 0 then insC c t x else c) (.tup [.int .i64 (if insE p c t x = 0 then nextAt c t else 0), .int .i64 (insE p c t x)]) (callI Φ f_store_Store_Insert [.ptr S.s 15 0 0, .int .i64 t, .agg (Entry.c x)] ⟨O, N⟩) := by
  rw [callI_go (fn := c_store_Store_Insert) rfl rfl]
  have t0 := hT N (Nat.le_refl _)
  have hl := v.rl
  have hk1 : Kp (fun j => S.own j ∨ Rs O j) N O (O ++ [(N, AO.row 4 [Entry.c x])]) := Kp.app (fun _ _ _ => rfl) (Nat.le_refl _)
  have hT1 := hT.app1 (o := AO.row 4 [Entry.c x]) (Nat.le_refl N)
  have m1 : StoreM (O ++ [(N, AO.row 4 [Entry.c x])]) S p c := m.kp (X := fun _ => False) hT (Kp.app (fun _ _ _ => rfl) (Nat.le_refl _)) (by simp)
  have b1 : look N (O ++ [(N, AO.row 4 [Entry.c x])]) = some (.row 4 [Entry.c x]) := by rw [lk_app, t0]; simp
  have same : insE p c t x ≠ 0 → MDpost N O S p (if insE p c t x = 0 then insC c t x else c) (.tup [.int .i64 (if insE p c t x = 0 then nextAt c t else 0), .int .i64 (insE p c t x)]) (some (.val (.tup [.int .i64 0, .int .i64 (insE p c t x)]), ⟨O ++ [(N, AO.row 4 [Entry.c x])], N + 1⟩)) := by
    intro h
    rw [if_neg h, if_neg h]
    exact ⟨S, _, _, rfl, m1, rfl, fun j hj => .inl hj, hk1, hT1, by omega⟩
  have hs := m1.se
  have ht := table_ok (N := N + 1) m1 hl t
  have he := entE_ok p f t x hx
  simp only [Prg.e] at he
  simp only [Entry.ce] at b1 hs ht he same
  cases z : inT p t with
  | false =>
    have hE : insE p c t x = 8 := by simp [insE, z]
    rw [z] at ht
    have same := same (by rw [hE]; decide)
    rw [hE] at same ⊢
    simp [c_store_Store_Insert, Entry.ce, t0, hs, ht]
    simpa using same
  | true =>
  obtain ⟨k, rfl, hk⟩ := inT_iff z
  have hk' : k < c.rows.length := by omega
  have hkn : k < c.nextID.length := by rw [v.nl]; exact hk
  have hrow : rowsAt c (k : Int) = c.rows[k] := rowsAt_nat hk'
  have hnx : nextAt c (k : Int) = c.nextID[k] := nextAt_nat hkn
  have hsz : sizeAt p (k : Int) = p.tables[k].size := sizeAt_nat hk
  have hE : insE p c k x = if entE p k x ≠ 0 then entE p k x else if (c.rows[k].any fun y => sk y.entry x) = true then 7 else if p.tables[k].size ≤ c.rows[k].length ∨ 1073741824 ≤ c.nextID[k] then 13 else 0 := by
    unfold insE
    rw [z, hrow, hnx, hsz]
    simp
  rw [z] at ht
  by_cases y : entE p k x = 0
  rotate_left
  · rw [if_pos y] at hE
    have same := same (by rw [hE]; exact y)
    rw [hE] at same ⊢
    simp [c_store_Store_Insert, Entry.ce, t0, hs, ht, b1, he, y]
    simpa [y] using same
  rw [if_neg (by simpa using y)] at hE
  rw [y] at he
  obtain ⟨rid, es1, e1, lr, hle1, ⟨hV, g1, g5⟩, ht1⟩ := m1.tab hk'
  have hsl := s.rs _ (List.getElem_mem hk')
  have hcon := conIn_ok c.rows[k] x hsl.1 fun r hr => (hsl.2 r hr).kl
  have hsnp := fun n => g5.snp (N := N + 1) (n := n)
  have hsn2 : ∀ n, snap (n + 2) ⟨O ++ [(N, AO.row 4 [Entry.c x])], N + 1⟩ S.V[k] = some (.slice 5 (c.rows[k].map Rw.c)) := fun n => by
    rw [hsnp (n + 1), mapO_mapid (n := n + 1) (fun x => snp_rw x)]; rfl
  have hsn3 := hsn2 38
  rw [e1] at hs
  simp only [Entry.ce] at hcon hsn3 lr
  cases w : c.rows[k].any fun y => sk y.entry x with
  | true =>
    rw [if_pos w] at hE
    have same := same (by rw [hE]; decide)
    rw [w] at hcon
    rw [hE] at same ⊢
    simp [c_store_Store_Insert, Entry.ce, t0, hs, ht, b1, he, lr, hk', g1, hsn3, hcon]
    simpa using same
  | false =>
  rw [if_neg (by rw [w]; decide)] at hE
  rw [w] at hcon
  have hvl := g5.len
  rw [List.length_map] at hvl
  obtain ⟨nid, esn, e2, ln, hle2, ht2⟩ := m1.cm.n.nonempty (by simp; omega)
  rw [List.length_map] at e2 hle2
  have gn := get_tkG hkn ht2
  rw [cIe] at gn
  rw [e2] at hs
  simp only [Entry.ce] at ln
  have hkt := hk
  by_cases u : p.tables[k].size ≤ c.rows[k].length
  · rw [if_pos (.inl u)] at hE
    have same := same (by rw [hE]; decide)
    rw [hE] at same ⊢
    simp [c_store_Store_Insert, Entry.ce, Tbl.e, t0, hs, ht, b1, he, lr, hk', g1, hsn3, hcon, hvl, ln, hkn, gn, hkt, u, -lenOf]
    simpa using same
  by_cases q : 1073741824 ≤ c.nextID[k]
  · rw [if_pos (.inr q)] at hE
    have same := same (by rw [hE]; decide)
    rw [hE] at same ⊢
    simp [c_store_Store_Insert, Entry.ce, Tbl.e, t0, hs, ht, b1, he, lr, hk', g1, hsn3, hcon, hvl, ln, hkn, gn, hkt, u, q, -lenOf]
    simpa using same
  rw [if_neg (by omega)] at hE
  rw [hE]
  have hM := m1.x.len
  obtain ⟨iid, esi, e3, li, hle3, hMk, gi, lm⟩ := m1.idx hk'
  rw [e3] at hs
  simp only [Entry.ce] at li lm
  have hv := v.at hk
  have hput := putA_new c.nextID[k] (.int .i64 (c.rows[k].length : Nat)) c.rows[k] 0 fun r hr => by have := hv.lt r hr; omega
  rw [show entsF c.rows[k] 0 = ents c.rows[k] from rfl] at hput
  have hce := centry_ok x hx.al hx.kl
  simp only [Entry.ce] at hce
  simp [c_store_Store_Insert, Entry.ce, Tbl.e, t0, hs, ht, b1, he, lr, hk', g1, hsn3, hcon, hvl, ln, hkn, gn, hkt, u, q, li, lm, gi, hput, -lenOf, -go_drawn]
  generalize hO2 : setl S.M[k] (AO.map (ents c.rows[k] ++ [(AV.int IntKind.i64 c.nextID[k], AV.int IntKind.i64 (c.rows[k].length : Nat))])) (O ++ [(N, AO.row 4 [[AV.slice 2 (List.map KeyMatch.c x.keys), AV.int IntKind.i64 x.priority, AV.int IntKind.i64 x.call.action, AV.slice 1 (List.map c32 x.call.args)]])]) = O2
  rw [← Entry.ce] at hO2
  have hlm : look S.M[k] (O ++ [(N, AO.row 4 [Entry.c x])]) = some (.map (ents c.rows[k])) := m1.x.m k _ _ (List.getElem?_eq_getElem hMk) (List.getElem?_eq_getElem hk')
  have k2 : ∀ j, j ≠ S.M[k] → look j O2 = look j (O ++ [(N, AO.row 4 [Entry.c x])]) := fun j hj => by rw [← hO2, lk_setl, if_neg hj]
  have hT2 : Tail O2 (N + 1) := by rw [← hO2]; exact Tail_setl2 hT1
  have kr : ∀ j z es, look j (O ++ [(N, AO.row 4 [Entry.c x])]) = some (.row z es) → look j O2 = some (.row z es) := fun j z es hj => by rw [k2 j (lk_ne hj hlm (by simp)), hj]
  have ls2 := kr S.s _ _ (by simp only [Entry.ce]; exact hs)
  have lr2 := kr rid _ _ (by simp only [Entry.ce]; exact lr)
  have ln2 := kr nid _ _ (by simp only [Entry.ce]; exact ln)
  have lb2 := kr N _ _ (by simp only [Entry.ce]; exact b1)
  have lm2 : look S.M[k] O2 = some (.map (ents c.rows[k] ++ [(AV.int IntKind.i64 c.nextID[k], AV.int IntKind.i64 (c.rows[k].length : Nat))])) := by rw [← hO2, lk_setl, if_pos rfl, hlm]; rfl
  clear hO2
  have u0 := hT2 (N + 1 + 112) (by omega)
  have fsx := lk_fresh (n := N + 1 + 112) hT2 ls2 (by omega)
  have frx := lk_fresh (n := N + 1 + 112) hT2 lr2 (by omega)
  have fnx := lk_fresh (n := N + 1 + 112) hT2 ln2 (by omega)
  have fnb : ¬ N = N + 1 + 112 ∧ ¬ N + 1 + 112 = N := by omega
  have hrn : ¬ rid = nid := fun e => m1.cm.rn rid (by rw [e1]; rfl) (by rw [e2, e]; rfl)
  have hnr : ¬ nid = rid := fun e => hrn e.symm
  have hwr : IntKind.wrap .i64 (c.nextID[k] + 1) = c.nextID[k] + 1 := wrap64 (by have := hv.nx0; omega) (by omega)
  have hsr := lk_ne ls2 lr2 (by simp)
  have hsn := lk_ne ls2 ln2 (by simp)
  have hrs := hsr.symm
  have hns := hsn.symm
  have hbeq : (S.s == N + 1 + 112) = false := by simp [fsx]
  have hkl1 : k < es1.length := by omega
  have hkln : k < esn.length := by omega
  have hci : insC c (k : Int) x = ⟨c.rows.set k (c.rows[k] ++ [⟨c.nextID[k], x⟩]), c.nextID.set k (c.nextID[k] + 1), c.defaults, c.registers⟩ := by
    unfold insC
    rw [hrow, hnx]
    simp
  have hsnoc : ents (c.rows[k] ++ [⟨c.nextID[k], x⟩]) = ents c.rows[k] ++ [(AV.int IntKind.i64 c.nextID[k], AV.int IntKind.i64 (c.rows[k].length : Nat))] := ents_snoc _ _
  have hVl := m1.cm.rl
  have fin : ∀ (O' : List (Nat × AO)) (N' : Nat) (v' : AV), Tail O' N' → N ≤ N' → look rid O' = some (.row 1 (es1.set k [v'])) → look nid O' = some (.row 1 (esn.set k [.int .i64 (c.nextID[k] + 1)])) →
      (∀ j, j < N + 1 → j ≠ rid → j ≠ nid → (∀ i, vid S.V[k] = some i → j ≠ i) → look j O2 ≠ some .res → look j O' = look j O2) → Mu O' 5 v' ((c.rows[k] ++ [Rw.mk c.nextID[k] x]).map Rw.c) → (∀ z es t, v' ≠ .app z es t) → (∀ i, vid v' = some i → vid S.V[k] = some i ∨ N + 1 ≤ i) →
      MDpost N O S p (insC c (k : Int) x) (.tup [.int .i64 (nextAt c (k : Int)), .int .i64 0]) (some (.val (.tup [.int .i64 c.nextID[k], .int .i64 0]), ⟨O', N'⟩)) := by
    intro O' N' v' hT' hN' a1 a2 a3 a4 a5 a6
    rw [hnx, hci]
    have own1 : S.own rid := .inr (.inl (.inl (by rw [e1]; rfl)))
    have own2 : S.own nid := .inr (.inl (.inr (.inl (by rw [e2]; rfl))))
    have own3 : S.own S.M[k] := .inr (.inr (.inr (List.getElem_mem hMk)))
    have own4 : ∀ i, vid S.V[k] = some i → S.own i := fun i hi => .inr (.inl (.inr (.inr (.inr ⟨_, List.getElem_mem hV, hi⟩))))
    have keep : ∀ j, S.own j → ¬ S.chg k j → look j O' = look j (O ++ [(N, AO.row 4 [Entry.c x])]) := by
      intro j hj hc
      obtain ⟨w, hw, hwn⟩ := m1.own_lk hj
      have h2 : look j O2 = some w := by
        rw [k2 j (fun e => hc (.inr (.inr (.inr (.inr (by rw [e]; exact List.getElem?_eq_getElem hMk)))))), hw]
      rw [a3 j (hT1.lt hw) (fun e => hc (.inr (.inl (by rw [e, e1]; rfl)))) (fun e => hc (.inr (.inr (.inl (by rw [e, e2]; rfl))))) (fun i hi e => hc (.inl ⟨_, List.getElem?_eq_getElem hV, by rw [e]; exact hi⟩)) (by rw [h2]; simpa using hwn), h2, hw]
    have h5no : ∀ i, vid S.V[k] = some i → ∃ es, look i (O ++ [(N, AO.row 4 [Entry.c x])]) = some (.row 5 es) := fun i hi => m1.vrow (List.getElem?_eq_getElem hV) hi
    have up := m1.upd (k := k) (v' := v') (m' := S.M[k]) (l' := c.rows[k] ++ [⟨c.nextID[k], x⟩]) (nx := c.nextID[k] + 1) (O' := O') hk' keep
      (by
        have hmu := Mu.upd (O' := O') (id := rid) (z := 1) (k := k) (es := S.V.map fun x => [x]) (es0 := es1) (y := [v']) a1 (by rw [List.length_map, hVl]; exact hle1) (by rw [List.length_map, hVl]; exact ht1)
        rw [List.length_map, hVl] at hmu
        rw [e1, List.map_set]
        exact hmu)
      (by
        have hmu := Mu.upd (O' := O') (id := nid) (z := 1) (k := k) (es := c.nextID.map cI) (es0 := esn) (y := [.int .i64 (c.nextID[k] + 1)]) a2 (by rw [List.length_map]; exact hle2) ht2
        rw [List.length_map] at hmu
        rw [e2, List.map_set, cIe]
        exact hmu)
      (by
        have hmm : S.M.set k S.M[k] = S.M := by simp
        rw [hmm]
        refine m1.x.i.fr fun i hi => ?_
        obtain ⟨es0, hl0⟩ := m1.x.i.own hi
        have h2 := kr i _ _ hl0
        rw [a3 i (hT1.lt hl0) (fun e => m1.ri i (by rw [e, e1]; rfl) hi) (fun e => m1.ni i (by rw [e, e2]; rfl) hi) (fun i' hi' e => by obtain ⟨es5, h5⟩ := h5no i' hi'; exact lk_ne hl0 h5 (by simp) e) (by rw [h2]; simp), h2, hl0])
      a4
      (by
        rw [hsnoc, ← lm2]
        refine a3 _ (hT1.lt hlm) (fun e => ?_) (fun e => ?_) (fun i hi e => ?_) (by rw [lm2]; simp)
        · exact lk_ne lm2 lr2 (by simp) e
        · exact lk_ne lm2 ln2 (by simp) e
        · obtain ⟨es5, h5⟩ := h5no i hi
          exact lk_ne lm2 (kr i _ _ h5) (by simp) e)
      a5
      (fun i hi => by
        rcases a6 i hi with h | h
        · exact .inl ⟨_, List.getElem?_eq_getElem hV, h⟩
        · exact .inr fun w hw => by have := hT1.lt hw; omega)
      (.inl (List.getElem?_eq_getElem hMk))
    refine ⟨S.tab k v' S.M[k], O', N', rfl, up, rfl, ?_, ?_, hT', hN'⟩
    · intro j hj
      rcases hj with hj | hj | hj | hj
      · exact .inl (.inl hj)
      · rcases hj with hj | hj | hj | ⟨w, hw, hj⟩
        · exact .inl (.inr (.inl (.inl hj)))
        · exact .inl (.inr (.inl (.inr (.inl hj))))
        · exact .inl (.inr (.inl (.inr (.inr (.inl hj)))))
        · rcases List.mem_or_eq_of_mem_set hw with hw | rfl
          · exact .inl (.inr (.inl (.inr (.inr (.inr ⟨w, hw, hj⟩)))))
          · rcases a6 j hj with h | h
            · exact .inl (own4 j h)
            · exact .inr (by omega)
      · exact .inl (.inr (.inr (.inl hj)))
      · simp only [SV.tab] at hj
        rcases List.mem_or_eq_of_mem_set hj with hj | rfl
        · exact .inl (.inr (.inr (.inr hj)))
        · exact .inl own3
    · intro j hj hx
      have hx1 : ¬ S.own j := fun h => hx (.inl h)
      have hx2 : ¬ look j O = some .res := fun h => hx (.inr h)
      have h1 := hk1 j hj hx
      have h2 := k2 j (fun e => hx1 (by rw [e]; exact own3))
      rw [a3 j (by omega) (fun e => hx1 (by rw [e]; exact own1)) (fun e => hx1 (by rw [e]; exact own2)) (fun i hi e => hx1 (by rw [e]; exact own4 i hi)) (by rw [h2, h1]; exact hx2), h2, h1]
  cases hVk : S.V[k] with
  | fslice z es =>
    rw [hVk] at g5 g1
    have hl0 : c.rows[k] = [] ∧ z = 5 ∧ es = [] := by
      generalize hgen : c.rows[k].map Rw.c = gl at g5
      cases g5
      exact ⟨by simpa using hgen, rfl, rfl⟩
    obtain ⟨hl0, rfl, rfl⟩ := hl0
    simp [ls2, lr2, ln2, lb2, u0, lk_app, lk_setl, lk_sweep, fsx, frx, fnx, fnb, hk', hkn, g1, hce, gn, hnr, hwr, hbeq, hsr]
    refine fin _ (N + 1 + 112 + 1) (.row (N + 1 + 112) 5 0 1) ?_ (by omega) ?_ ?_ ?_ ?_ (by simp) (by intro i hi; cases hi; right; omega)
    · refine Tail_setl2 (Tail_sweep2 (Tail_setl2 ?_))
      exact Tail_app2 (hT2.mono (by omega)) (Nat.lt_succ_self _)
    · simp [lk_setl, lk_sweep, lk_app, lr2, hrn]
    · simp [lk_setl, lk_sweep, lk_app, ln2, hnr]
    · intro j hj b1 b2 b3 b4
      have hj2 : ¬ N + 1 + 112 = j := by omega
      have hi : look j (setl rid (AO.row 1 (es1.set k [.row (N + 1 + 112) 5 0 1])) (O2 ++ [(N + 1 + 112, AO.row 5 [[AV.int IntKind.i64 c.nextID[k], AV.slice 2 (List.map KeyMatch.c x.keys), AV.int IntKind.i64 x.priority, AV.int IntKind.i64 x.call.action, AV.slice 1 (List.map c32 x.call.args)]])])) = look j O2 := by
        rw [lk_setl, if_neg b1, lk_app]
        simp [look, hj2]
      rw [lk_setl, if_neg b2, lk_sweep (by rw [hi]; exact b4), hi]
    · refine .row (N + 1 + 112) _ [Rw.c (Rw.mk c.nextID[k] x)] _ (by simp [hl0]) ?_ (by simp [hl0]) (by simp [hl0])
      simp [lk_setl, lk_sweep, fnx, frx, u0, Rw.ce]
  | row id5 z off n =>
    rw [hVk] at g5 g1
    have hg : z = 5 ∧ off = 0 ∧ n = c.rows[k].length ∧ ∃ es5, look id5 (O ++ [(N, AO.row 4 [Entry.c x])]) = some (.row 5 es5) ∧ c.rows[k].length ≤ es5.length ∧ es5.take c.rows[k].length = c.rows[k].map Rw.c := by
      generalize hgen : c.rows[k].map Rw.c = gl at g5
      have hlen : gl.length = c.rows[k].length := by rw [← hgen]; simp
      cases g5 with
      | row _ _ es5 _ hn hl5 hle5 ht5 => exact ⟨rfl, rfl, by omega, es5, hl5, by omega, by rw [← hlen]; exact ht5⟩
    obtain ⟨rfl, rfl, rfl, es5, hl5, hle5, ht5⟩ := hg
    have l52 := kr _ _ _ hl5
    have f5 := lk_fresh (n := N + 1 + 112) hT2 l52 (by omega)
    have h5s := lk_ne l52 ls2 (by simp)
    have h5r := lk_ne l52 lr2 (by simp)
    have h5n := lk_ne l52 ln2 (by simp)
    have hs5 := h5s.symm
    have hr5 := h5r.symm
    have hn5 := h5n.symm
    have h5b := lk_ne l52 lb2 (by simp)
    have hb5 := h5b.symm
    have hq5 : (S.s == id5) = false := by simpa using hs5
    have hbd : (c.rows[k].length + 1) * 72 ≤ 70368744177664 := by have := v.small _ (List.getElem_mem hk'); omega
    have hls := v.small _ (List.getElem_mem hk')
    have hres : look (N + 1 + 112) (O2 ++ [(N + 1 + 112, AO.res)]) = some .res := by rw [lk_app, u0]; simp
    have hdr : look (N + 1 + 112) (dropl id5 (O2 ++ [(N + 1 + 112, AO.res)])) = some .res := by rw [lk_dropl (fun e => f5.2 e), hres]
    by_cases hfull : c.rows[k].length = es5.length
    · have hbd2 : (es5.length + 1) * 72 ≤ 70368744177664 := by rw [← hfull]; exact hbd
      simp [ls2, lr2, ln2, lb2, u0, lk_app, lk_setl, lk_sweep, lk_dropl, fsx, frx, fnx, fnb, hk', hkn, g1, hce, gn, hnr, hwr, hbeq, hsr, l52, f5, hs5, hr5, hn5, hq5, hbd2, hfull, hdr]
      refine fin _ (N + 1 + 112 + 1) (.row (N + 1 + 112) 5 0 (es5.length + 1)) ?_ (by omega) ?_ ?_ ?_ ?_ (by simp) (by intro i hi; cases hi; right; omega)
      · refine Tail_setl2 (Tail_sweep2 (Tail_setl2 (Tail_setl2 (Tail_dropl2 ?_))))
        exact Tail_app2 (hT2.mono (by omega)) (Nat.lt_succ_self _)
      · simp [lk_setl, lk_sweep, lk_app, lk_dropl, lr2, hrn, frx, hr5]
      · simp [lk_setl, lk_sweep, lk_app, lk_dropl, ln2, hnr, fnx, hn5]
      · intro j hj b1 b2 b3 b4
        have hj2 : ¬ N + 1 + 112 = j := by omega
        have hj3 : ¬ j = N + 1 + 112 := by omega
        have hj5 : j ≠ id5 := b3 id5 (by rw [hVk]; rfl)
        have hi : ∀ A B, look j (setl rid A (setl (N + 1 + 112) B (dropl id5 (O2 ++ [(N + 1 + 112, AO.res)])))) = look j O2 := by
          intro A B
          rw [lk_setl, if_neg b1, lk_setl, if_neg hj3, lk_dropl hj5, lk_app]
          simp [look, hj2]
        rw [lk_setl, if_neg b2, lk_sweep (by rw [hi]; exact b4), hi]
      · have htk : es5 = c.rows[k].map Rw.c := by rw [← ht5, hfull, List.take_length]
        refine .row (N + 1 + 112) _ (es5 ++ [Rw.c (Rw.mk c.nextID[k] x)]) _ (by simp [hfull]) ?_ (by simp [htk]) (by simp [htk, List.take_of_length_le])
        simp [lk_setl, lk_sweep, hdr, fnx, frx, Rw.ce]
    · have hlt : c.rows[k].length < es5.length := by omega
      have hlt2 : c.rows[k].length + 1 ≤ es5.length := by omega
      have hne : ¬ es5.length = c.rows[k].length := by omega
      simp [ls2, lr2, ln2, lb2, u0, lk_app, lk_setl, lk_sweep, fsx, frx, fnx, fnb, hk', hkn, g1, hce, gn, hnr, hwr, hsr, l52, f5, hs5, hr5, hn5, hq5, hbd, hfull, hlt2]
      refine fin _ (N + 1 + 112 + 1) (.row id5 5 0 (c.rows[k].length + 1)) ?_ (by omega) ?_ ?_ ?_ ?_ (by simp) (by intro i hi; cases hi; left; rw [hVk]; rfl)
      · refine Tail_setl2 (Tail_sweep2 (Tail_setl2 (Tail_setl2 ?_)))
        exact Tail_app2 (hT2.mono (by omega)) (Nat.lt_succ_self _)
      · simp [lk_setl, lk_sweep, lk_app, lr2, hrn, hr5]
      · simp [lk_setl, lk_sweep, lk_app, ln2, hnr, hn5]
      · intro j hj b1 b2 b3 b4
        have hj2 : ¬ N + 1 + 112 = j := by omega
        have hj5 : j ≠ id5 := b3 id5 (by rw [hVk]; rfl)
        have hi : ∀ A B, look j (setl rid A (setl id5 B (O2 ++ [(N + 1 + 112, AO.res)]))) = look j O2 := by
          intro A B
          rw [lk_setl, if_neg b1, lk_setl, if_neg hj5, lk_app]
          simp [look, hj2]
        rw [lk_setl, if_neg b2, lk_sweep (by rw [hi]; exact b4), hi]
      · refine .row id5 _ (es5.take c.rows[k].length ++ Rw.c (Rw.mk c.nextID[k] x) :: es5.drop (c.rows[k].length + 1)) _ (by simp) ?_ (by simp; omega) ?_
        · simp [lk_setl, lk_sweep, lk_app, l52, h5r, h5n, Rw.ce]
        · rw [List.length_map, List.length_append, List.length_singleton, List.map_append, ht5]
          have hll : (c.rows[k].map Rw.c).length = c.rows[k].length := by simp
          rw [List.take_append, hll, List.take_of_length_le (by rw [hll]; omega), show c.rows[k].length + 1 - c.rows[k].length = 1 by omega]
          simp
  | app z es t => exact absurd hVk (m1.cm.va _ (List.getElem_mem hV) _ _ _)
  | _ => rw [hVk] at g5; cases g5
end Go.Av
