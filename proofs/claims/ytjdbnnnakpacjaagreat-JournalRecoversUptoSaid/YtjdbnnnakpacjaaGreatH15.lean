/-
  Modify replaces the call of a row.
-/
import Derived.Test.YtjdbnnnakpacjaaGreatH14
set_option linter.unusedVariables false
set_option linter.unusedSimpArgs false
set_option linter.constructorNameAsVariable false
namespace Go.Av
set_option maxRecDepth 4000
theorem rowX_mod {p : Prg} {c : Config} {t id : Int} {x : ActionCall} : modE p c t id x = if rowX p c t id = 0 then ckCall p t x else rowX p c t id := by
  unfold modE rowX
  split
  · simp
  split
  · simp
  · simp
theorem Modify_ok {O : List (Nat × AO)} {N : Nat} {S : SV} {p : Prg} {c : Config} (m : StoreM O S p c) (f : PrgS p) (hl : c.rows.length = p.tables.length) (hT : Tail O N) (t id : Int) (x : ActionCall) (hx : x.args.length < 2 ^ 40) :
    MDpost N O S p (if modE p c t id x = 0 then modC c t id x else c) (.int .i64 (modE p c t id x)) (callI Φ f_store_Store_Modify [.ptr S.s 15 0 0, .int .i64 t, .int .i64 id, .agg (ActionCall.c x)] ⟨O, N⟩) := by
  rw [callI_go (fn := c_store_Store_Modify) rfl rfl]
  have t0 := hT N (Nat.le_refl _)
  have hk1 : Kp (fun j => S.own j ∨ Rs O j) N O (O ++ [(N, AO.row 2 [ActionCall.c x])]) := Kp.app (fun _ _ _ => rfl) (Nat.le_refl _)
  have hT1 := hT.app1 (o := AO.row 2 [ActionCall.c x]) (Nat.le_refl N)
  have m1 : StoreM (O ++ [(N, AO.row 2 [ActionCall.c x])]) S p c := m.kp (X := fun _ => False) hT (Kp.app (fun _ _ _ => rfl) (Nat.le_refl _)) (by simp)
  have b1 : look N (O ++ [(N, AO.row 2 [ActionCall.c x])]) = some (.row 2 [ActionCall.c x]) := by rw [lk_app, t0]; simp
  have same : MDpost N O S p c (.int .i64 (modE p c t id x)) (some (.val (.int .i64 (modE p c t id x)), ⟨O ++ [(N, AO.row 2 [ActionCall.c x])], N + 1⟩)) :=
    ⟨S, _, _, rfl, m1, rfl, fun j hj => .inl hj, hk1, hT1, by omega⟩
  have hs := m1.se
  have hr := row_ok (N := N + 1) m1 hl t id
  have hc := scall_ok p f t x hx
  have hcl := ccall_ok x hx
  have hE := rowX_mod (p := p) (c := c) (t := t) (id := id) (x := x)
  simp only [Prg.e] at hc
  simp only [ActionCall.ce] at b1 hs hr hc hcl same
  by_cases z : rowX p c t id = 0
  rotate_left
  · rw [if_neg z] at hE
    rw [hE] at same ⊢
    simp [c_store_Store_Modify, ActionCall.ce, t0, hr, z]
    exact same
  rw [if_pos z] at hE
  by_cases q : ckCall p t x = 0
  rotate_left
  · rw [hE] at same ⊢
    simp [c_store_Store_Modify, ActionCall.ce, t0, hr, hs, z, b1, hc, q]
    exact same
  have hE0 : modE p c t id x = 0 := by rw [hE, q]
  rw [hE0] at same ⊢
  cases hi : inT p t with
  | false => simp [rowX, hi] at z
  | true =>
  obtain ⟨k, rfl, hk⟩ := inT_iff hi
  have hk' : k < c.rows.length := by omega
  have hrow : rowsAt c (k : Int) = c.rows[k] := rowsAt_nat hk'
  cases hx2 : rIdx c.rows[k] id with
  | none => simp [rowX, hi, hrow, hx2] at z
  | some i =>
  obtain ⟨hil, hid⟩ := rIdx_some hx2
  have hI : rowI p c k id = i := by simp [rowI, hi, hrow, hx2]
  have hM : modC c (k : Int) id x = ⟨c.rows.set k (c.rows[k].modify i (callRow x)), c.nextID, c.defaults, c.registers⟩ := by
    unfold modC
    rw [hrow, hx2]
    simp
  rw [z, hI] at hr
  obtain ⟨rid, es1, e1, lr, hle1, ⟨hV, g1, g5⟩, ht1⟩ := m1.tab hk'
  obtain ⟨r5, es5, e5, l5, hle5, ht5⟩ := g5.nonempty (by simp; omega)
  rw [List.length_map] at e5 hle5
  rw [e1] at hs
  rw [e5] at g1
  have g2 := get_tkG hil ht5
  have hi5 : i < es5.length := by omega
  have hlr := lr
  have hl5 := l5
  simp only [ActionCall.ce] at hlr hl5
  rw [q] at hc
  rw [if_pos rfl, hM]
  simp [c_store_Store_Modify, ActionCall.ce, t0, hr, hs, b1, hc, hcl, hlr, hk', g1, hl5, hil, g2, Rw.ce]
  simp only [← ActionCall.ce] at hl5 ⊢
  have ho : S.own r5 := .inr (.inl (.inr (.inr (.inr ⟨S.V[k], List.getElem_mem hV, by rw [e5]; rfl⟩))))
  have hch : ∀ j, ¬ S.chg k j → j ≠ r5 := fun j hj e => hj (.inl ⟨S.V[k], List.getElem?_eq_getElem hV, by rw [e5, e]; rfl⟩)
  have hMl := m1.x.len
  have hMk : k < S.M.length := by omega
  have hnx : k < c.nextID.length ∨ c.nextID.length ≤ k := by omega
  have keep : ∀ j, j ≠ r5 → look j (setl r5 (.row 5 (es5.set i [.int .i64 c.rows[k][i].id, .slice 2 (c.rows[k][i].entry.keys.map KeyMatch.c), .int .i64 c.rows[k][i].entry.priority, .int .i64 x.action, .slice 1 (x.args.map c32)])) (O ++ [(N, AO.row 2 [ActionCall.c x])])) = look j (O ++ [(N, AO.row 2 [ActionCall.c x])]) := fun j hj => by rw [lk_setl, if_neg hj]
  have kmu : ∀ z v es, z ≠ 5 → Mu (O ++ [(N, AO.row 2 [ActionCall.c x])]) z v es → Mu (setl r5 (.row 5 (es5.set i [.int .i64 c.rows[k][i].id, .slice 2 (c.rows[k][i].entry.keys.map KeyMatch.c), .int .i64 c.rows[k][i].entry.priority, .int .i64 x.action, .slice 1 (x.args.map c32)])) (O ++ [(N, AO.row 2 [ActionCall.c x])])) z v es := by
    intro z v es hz hm
    refine hm.fr fun j hj => ?_
    obtain ⟨es1, h1⟩ := hm.own hj
    exact keep j (lk_ne h1 l5 (by simp [hz]))
  have up := m1.upd (k := k) (v' := S.V[k]) (m' := S.M[k]) (l' := c.rows[k].modify i (callRow x)) (nx := (c.nextID[k]?).getD 0) (O' := setl r5 (.row 5 (es5.set i [.int .i64 c.rows[k][i].id, .slice 2 (c.rows[k][i].entry.keys.map KeyMatch.c), .int .i64 c.rows[k][i].entry.priority, .int .i64 x.action, .slice 1 (x.args.map c32)])) (O ++ [(N, AO.row 2 [ActionCall.c x])])) hk'
    (fun j _ hj => keep j (hch j hj)) (by simpa using kmu _ _ _ (by decide) m1.cm.r)
    (by
      have hset : c.nextID.set k ((c.nextID[k]?).getD 0) = c.nextID := by
        rcases hnx with h | h
        · rw [List.getElem?_eq_getElem h]; simp
        · rw [List.set_eq_of_length_le h]
      rw [hset]
      exact kmu _ _ _ (by decide) m1.cm.n)
    (by simpa using kmu _ _ _ (by decide) m1.x.i)
    (by
      have hmu := Mu.upd (O' := setl r5 (.row 5 (es5.set i [.int .i64 c.rows[k][i].id, .slice 2 (c.rows[k][i].entry.keys.map KeyMatch.c), .int .i64 c.rows[k][i].entry.priority, .int .i64 x.action, .slice 1 (x.args.map c32)])) (O ++ [(N, AO.row 2 [ActionCall.c x])])) (id := r5) (z := 5) (k := i) (es := c.rows[k].map Rw.c) (es0 := es5)
        (y := [.int .i64 c.rows[k][i].id, .slice 2 (c.rows[k][i].entry.keys.map KeyMatch.c), .int .i64 c.rows[k][i].entry.priority, .int .i64 x.action, .slice 1 (x.args.map c32)]) (by rw [lk_setl, if_pos rfl, l5]; rfl) (by simpa using hle5) ht5
      have hlist : (c.rows[k].map Rw.c).set i [.int .i64 c.rows[k][i].id, .slice 2 (c.rows[k][i].entry.keys.map KeyMatch.c), .int .i64 c.rows[k][i].entry.priority, .int .i64 x.action, .slice 1 (x.args.map c32)] = (c.rows[k].modify i (callRow x)).map Rw.c := by
        refine List.ext_getElem (by simp) fun j h1 h2 => ?_
        rw [List.getElem_set, List.getElem_map, List.getElem_map, List.getElem_modify]
        split
        · rename_i e; subst e; simp [Rw.ce, callRow]
        · simp
      rw [hlist, List.length_map] at hmu
      rw [e5]
      exact hmu)
    (by
      have h0 := m1.x.m k _ _ (List.getElem?_eq_getElem hMk) (List.getElem?_eq_getElem hk')
      have hents : ents (c.rows[k].modify i (callRow x)) = ents c.rows[k] := ents_ids (by simp) fun j h1 h2 => by
        rw [List.getElem_modify]
        split <;> rfl
      rw [keep _ (lk_ne h0 l5 (by simp)), h0, hents])
    (m1.cm.va _ (List.getElem_mem hV)) (fun i hi => .inl ⟨_, List.getElem?_eq_getElem hV, hi⟩) (.inl (List.getElem?_eq_getElem hMk))
  have htab : S.tab k S.V[k] S.M[k] = S := by
    cases S
    simp [SV.tab]
  rw [htab] at up
  have hset : c.nextID.set k ((c.nextID[k]?).getD 0) = c.nextID := by
    rcases hnx with h | h
    · rw [List.getElem?_eq_getElem h]; simp
    · rw [List.set_eq_of_length_le h]
  rw [hset] at up
  exact ⟨S, _, _, rfl, up, rfl, fun j hj => .inl hj, Kp.setl hk1 (.inr (.inl ho)), Tail_setl2 hT1, by omega⟩
end Go.Av
