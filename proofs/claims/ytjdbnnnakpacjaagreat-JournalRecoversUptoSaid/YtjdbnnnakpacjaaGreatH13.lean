/-
  Methods of a store: table, row, Len, SetDefault.
-/
import Derived.Test.YtjdbnnnakpacjaaGreatH11
set_option linter.unusedVariables false
set_option linter.unusedSimpArgs false
set_option linter.constructorNameAsVariable false
namespace Go.Av
set_option maxRecDepth 4000
section
variable {O : List (Nat × AO)} {N : Nat} {S : SV} {p : Prg} {c : Config}
theorem StoreM.se (m : StoreM O S p c) : look S.s O = some (.row 15 [[S.v1, S.v2, S.v3, S.v4, .str p.name, .slice 2 (p.headers.map Header.c), .slice 2 (p.metadata.map Fld.c), .slice 3 (p.registers.map Register.c), .slice 3 (p.actions.map Action.c), .slice 6 (p.tables.map Tbl.c), .slice 7 (p.states.map ParserState.c), .slice 5 (p.control.map ControlNode.c), .slice 1 (p.deparser.map cI), S.vi, .bool true]]) := by
  have hs := m.s
  simp only [SV.cells, Prg.e, List.cons_append, List.nil_append] at hs
  exact hs
theorem StoreM.l1 (m : StoreM O S p c) : lenOf S.v1 = some c.rows.length := by
  have := m.cm.r.len
  rw [List.length_map, m.cm.rl] at this
  exact this
theorem table_ok (m : StoreM O S p c) (hl : c.rows.length = p.tables.length) (t : Int) : callI Φ f_store_Store_table [.ptr S.s 15 0 0, .int .i64 t] ⟨O, N⟩ = some (.val (.bool (inT p t)), ⟨O, N⟩) := by
  rw [callI_go (fn := c_store_Store_table) rfl rfl]
  have hs := m.se
  have l1 := m.l1
  by_cases z : 0 ≤ t
  · simp [c_store_Store_table, hs, l1, z, inT, hl, -lenOf]
  · simp [c_store_Store_table, z, inT, -lenOf]
def rowI (p : Prg) (c : Config) (t id : Int) : Int := if inT p t then ((rIdx (rowsAt c t) id).map fun (j : Nat) => (j : Int)).getD 0 else 0
def rowX (p : Prg) (c : Config) (t id : Int) : Int := if inT p t = false then 8 else if rIdx (rowsAt c t) id = none then 8 else 0
theorem StoreM.idx (m : StoreM O S p c) {k : Nat} (hk : k < c.rows.length) : ∃ id es0, S.vi = .row id 1 0 c.rows.length ∧ look id O = some (.row 1 es0) ∧ c.rows.length ≤ es0.length ∧ ∃ hM : k < S.M.length, es0[k]? = some [.map (S.M[k])] ∧ look (S.M[k]) O = some (.map (ents c.rows[k])) := by
  have hl := m.x.len
  obtain ⟨id, es0, e, hl1, hle, ht⟩ := m.x.i.nonempty (by simp; omega)
  rw [List.length_map, hl] at e hle
  have hM : k < S.M.length := by omega
  refine ⟨id, es0, e, hl1, hle, hM, get_tkG hM ht, m.x.m k _ _ (List.getElem?_eq_getElem hM) (List.getElem?_eq_getElem hk)⟩
theorem StoreM.tab (m : StoreM O S p c) {k : Nat} (hk : k < c.rows.length) : ∃ id es0, S.v1 = .row id 1 0 c.rows.length ∧ look id O = some (.row 1 es0) ∧ c.rows.length ≤ es0.length ∧ (∃ hV : k < S.V.length, es0[k]? = some [S.V[k]] ∧ Mu O 5 S.V[k] (c.rows[k].map Rw.c)) ∧ es0.take c.rows.length = S.V.map fun x => [x] := by
  have hl := m.cm.rl
  obtain ⟨id, es0, e, hl1, hle, ht⟩ := m.cm.r.nonempty (by simp; omega)
  have ht' := ht
  rw [List.length_map, hl] at e hle ht'
  have hV : k < S.V.length := by omega
  refine ⟨id, es0, e, hl1, hle, ⟨hV, get_tkG hV ht, m.cm.rv k _ _ (List.getElem?_eq_getElem hV) (List.getElem?_eq_getElem hk)⟩, ht'⟩
theorem row_ok (m : StoreM O S p c) (hl : c.rows.length = p.tables.length) (t id : Int) : callI Φ f_store_Store_row [.ptr S.s 15 0 0, .int .i64 t, .int .i64 id] ⟨O, N⟩ = some (.val (.tup [.int .i64 (rowI p c t id), .int .i64 (rowX p c t id)]), ⟨O, N⟩) := by
  rw [callI_go (fn := c_store_Store_row) rfl rfl]
  have hs := m.se
  have ht := table_ok (N := N) m hl t
  cases z : inT p t with
  | false =>
    rw [z] at ht
    simp [c_store_Store_row, hs, ht, rowI, rowX, z]
  | true =>
    rw [z] at ht
    obtain ⟨k, rfl, hk⟩ := inT_iff z
    have hk' : k < c.rows.length := by omega
    obtain ⟨iid, es0, e, hi, hle, hM, g1, g2⟩ := m.idx hk'
    rw [e] at hs
    have hf := find_ents id c.rows[k]
    have hke : k < es0.length := by omega
    have hrow : rowsAt c (k : Int) = c.rows[k] := rowsAt_nat hk'
    cases hx : rIdx c.rows[k] id with
    | none =>
      rw [hx] at hf
      simp [c_store_Store_row, hs, ht, hi, hk', g1, g2, hf, rowI, rowX, z, hrow, hx]
    | some i =>
      rw [hx] at hf
      simp [c_store_Store_row, hs, ht, hi, hk', g1, g2, hf, rowI, rowX, z, hrow, hx]
end
-- the outcome of a method that changes a store
def MDpost (N : Nat) (O : List (Nat × AO)) (S : SV) (p : Prg) (c' : Config) (v : AV) (r : Option (Rt × AH)) : Prop :=
  ∃ S' O' N', r = some (.val v, ⟨O', N'⟩) ∧ StoreM O' S' p c' ∧ S'.s = S.s ∧ (∀ j, S'.own j → S.own j ∨ N ≤ j) ∧ Kp (fun j => S.own j ∨ Rs O j) N O O' ∧ Tail O' N' ∧ N ≤ N'
theorem Mu.upd {O' : List (Nat × AO)} {id z k : Nat} {es es0 : List (List AV)} {y : List AV} (hl : look id O' = some (.row z (es0.set k y))) (hle : es.length ≤ es0.length) (ht : es0.take es.length = es) : Mu O' z (.row id z 0 es.length) (es.set k y) :=
  .row id _ _ _ (by simp) hl (by simpa using hle) (by rw [List.length_set, List.take_set, ht])
theorem SetDefault_ok {O : List (Nat × AO)} {N : Nat} {S : SV} {p : Prg} {c : Config} (m : StoreM O S p c) (f : PrgS p) (hl : c.rows.length = p.tables.length) (hd : c.defaults.length = p.tables.length) (hT : Tail O N) (t : Int) (x : ActionCall) (hx : x.args.length < 2 ^ 40) :
    MDpost N O S p (if defE p t x = 0 then defC c t x else c) (.int .i64 (defE p t x)) (callI Φ f_store_Store_SetDefault [.ptr S.s 15 0 0, .int .i64 t, .agg (ActionCall.c x)] ⟨O, N⟩) := by
  rw [callI_go (fn := c_store_Store_SetDefault) rfl rfl]
  have t0 := hT N (Nat.le_refl _)
  have hk1 : Kp (fun j => S.own j ∨ Rs O j) N O (O ++ [(N, AO.row 2 [ActionCall.c x])]) := Kp.app (fun _ _ _ => rfl) (Nat.le_refl _)
  have hT1 := hT.app1 (o := AO.row 2 [ActionCall.c x]) (Nat.le_refl N)
  have m1 : StoreM (O ++ [(N, AO.row 2 [ActionCall.c x])]) S p c := m.kp (X := fun _ => False) hT (Kp.app (fun _ _ _ => rfl) (Nat.le_refl _)) (by simp)
  have b1 : look N (O ++ [(N, AO.row 2 [ActionCall.c x])]) = some (.row 2 [ActionCall.c x]) := by rw [lk_app, t0]; simp
  have same : MDpost N O S p c (.int .i64 (defE p t x)) (some (.val (.int .i64 (defE p t x)), ⟨O ++ [(N, AO.row 2 [ActionCall.c x])], N + 1⟩)) :=
    ⟨S, _, _, rfl, m1, rfl, fun j hj => .inl hj, hk1, hT1, by omega⟩
  have hs := m1.se
  have ht := table_ok (N := N + 1) m1 hl t
  have hc := scall_ok p f t x hx
  have hcl := ccall_ok x hx
  simp only [Prg.e] at hc
  simp only [ActionCall.ce] at b1 hs ht hc hcl same
  cases z : inT p t with
  | false =>
    have hE : defE p t x = 8 := by simp [defE, z]
    rw [z] at ht
    rw [hE] at same ⊢
    simp [c_store_Store_SetDefault, ActionCall.ce, t0, hs, ht]
    exact same
  | true =>
    have hE : defE p t x = ckCall p t x := by simp [defE, z]
    rw [z] at ht
    rw [hE] at same ⊢
    by_cases q : ckCall p t x = 0
    · obtain ⟨k, rfl, hk⟩ := inT_iff z
      have hk' : k < c.defaults.length := by omega
      obtain ⟨did, es0, e, hi, hle, htk⟩ := m1.cm.d.nonempty (by simp; omega)
      rw [List.length_map] at e hle
      rw [e] at hs
      have hke : k < es0.length := by omega
      have g1 := get_tkG hk' htk
      rw [q] at hc ⊢
      simp only [ActionCall.ce] at hi
      simp [c_store_Store_SetDefault, ActionCall.ce, t0, hs, ht, hc, hcl, b1, hk', hi, g1]
      have hown : S.own did := .inr (.inl (.inr (.inr (.inl (by rw [e]; rfl)))))
      refine ⟨S, _, _, rfl, ?_, rfl, fun j hj => .inl hj, Kp.setl (by simpa only [ActionCall.ce] using hk1) (.inr (.inl hown)), Tail_setl2 (by simpa only [ActionCall.ce] using hT1), by omega⟩
      simp only [← ActionCall.ce] at hi ⊢
      have keep : ∀ j o, look j (O ++ [(N, AO.row 2 [ActionCall.c x])]) = some o → (∀ es, o ≠ .row 2 es) → look j (setl did (.row 2 (es0.set k (ActionCall.c x))) (O ++ [(N, AO.row 2 [ActionCall.c x])])) = look j (O ++ [(N, AO.row 2 [ActionCall.c x])]) := by
        intro j o ho hne
        have hji := lk_ne ho hi (hne _)
        rw [lk_setl, if_neg hji]
      have kmu : ∀ z v es, z ≠ 2 → Mu (O ++ [(N, AO.row 2 [ActionCall.c x])]) z v es → Mu (setl did (.row 2 (es0.set k (ActionCall.c x))) (O ++ [(N, AO.row 2 [ActionCall.c x])])) z v es := by
        intro z v es hz hm
        refine hm.fr fun j hj => ?_
        obtain ⟨es1, h1⟩ := hm.own hj
        exact keep j _ h1 (by intro es2 h2; cases h2; exact hz rfl)
      refine ⟨?_, ⟨kmu _ _ _ (by decide) m1.cm.r, m1.cm.rl, fun a v l hv hl => kmu _ _ _ (by decide) (m1.cm.rv a v l hv hl), kmu _ _ _ (by decide) m1.cm.n, ?_, m1.cm.g, m1.cm.rn, m1.cm.vi, m1.cm.va⟩, ⟨kmu _ _ _ (by decide) m1.x.i, m1.x.len, ?_, m1.x.nd⟩, m1.ri, m1.ni⟩
      · rw [keep S.s _ m1.s (by simp)]
        exact m1.s
      · have hmu : Mu (setl did (.row 2 (es0.set k (ActionCall.c x))) (O ++ [(N, AO.row 2 [ActionCall.c x])])) 2 (.row did 2 0 (c.defaults.map ActionCall.c).length) ((c.defaults.map ActionCall.c).set k (ActionCall.c x)) :=
          Mu.upd (by rw [lk_setl, if_pos rfl, hi]; rfl) (by simpa using hle) htk
        rw [e]
        rw [← List.map_set, List.length_map] at hmu
        exact hmu
      · intro a b l ha hl2
        have h0 := m1.x.m a b l ha hl2
        rw [keep b _ h0 (by simp)]
        exact h0
    · simp [c_store_Store_SetDefault, ActionCall.ce, t0, hs, ht, hc, b1, q]
      exact same
end Go.Av
