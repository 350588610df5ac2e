/-
  Towards TxnInverse: txn.undo of an operation that succeeds, over a configuration in memory.
-/
import Derived.Test.YtjdbnnnakpacjaaGreatZ8
set_option linter.unusedVariables false
set_option linter.unusedSimpArgs false
set_option linter.constructorNameAsVariable false
namespace Go.Av
set_option maxRecDepth 4000
-- cells of an operation whose unused parts may be empty slices of their own
def Fl (z : Nat) (v : AV) (es : List (List AV)) : Prop := v = .slice z es ∨ (v = .fslice z [] ∧ es = [])
structure OpL (o : TableOp) (w : List AV) : Prop where
  ex : ∃ k a ca, w = [.int .i64 o.kind, .int .i64 o.table, .int .i64 o.id, k, .int .i64 o.entry.priority, .int .i64 o.entry.call.action, a, .int .i64 o.call.action, ca] ∧
    Fl 2 k (o.entry.keys.map KeyMatch.c) ∧ Fl 1 a (o.entry.call.args.map c32) ∧ Fl 1 ca (o.call.args.map c32) ∧
    (o.kind = 1 → k = .slice 2 (o.entry.keys.map KeyMatch.c) ∧ a = .slice 1 (o.entry.call.args.map c32)) ∧ (o.kind ≠ 1 → o.kind ≠ 3 → ca = .slice 1 (o.call.args.map c32))
theorem Fl.sl {z : Nat} {es : List (List AV)} : Fl z (.slice z es) es := .inl rfl
theorem Fl.nil {z : Nat} : Fl z (.fslice z []) [] := .inr ⟨rfl, rfl⟩
def UDpost (N : Nat) (O : List (Nat × AO)) (u : TableOp) (r : Option (Rt × AH)) : Prop :=
  ∃ w O' N', r = some (.val (.agg w), ⟨O', N'⟩) ∧ OpL u w ∧ Kp (Rs O) N O O' ∧ Tail O' N' ∧ N ≤ N'
theorem Kp.sweep {X : Nat → Prop} {N : Nat} {O O' : List (Nat × AO)} (h : Kp X N O O') (hx : ∀ j, look j O = some .res → X j) : Kp X N O (sweepL O') := fun j hj hn => by
  have e := h j hj hn
  rw [lk_sweep, e]
  rw [e]
  exact fun hr => hn (hx j hr)
theorem nbq (N : Nat) : (N + 1 == N) = false ∧ (N == N + 1) = false ∧ (N + 1 + 1 == N) = false ∧ (N == N + 1 + 1) = false ∧ (N + 1 + 1 == N + 1) = false ∧ (N + 1 == N + 1 + 1) = false ∧ (N + 1 + 1 + 1 == N) = false ∧ (N == N + 1 + 1 + 1) = false ∧ (N + 1 + 1 + 1 == N + 1) = false ∧ (N + 1 == N + 1 + 1 + 1) = false ∧ (N + 1 + 1 + 1 == N + 1 + 1) = false ∧ (N + 1 + 1 == N + 1 + 1 + 1) = false := by
  simp only [beq_eq_false_iff_ne]
  omega
theorem nne (N : Nat) : ¬ N + 1 = N ∧ ¬ N = N + 1 ∧ ¬ N + 1 + 1 = N ∧ ¬ N = N + 1 + 1 ∧ ¬ N + 1 + 1 = N + 1 ∧ ¬ N + 1 = N + 1 + 1 ∧ ¬ N + 1 + 1 + 1 = N ∧ ¬ N = N + 1 + 1 + 1 ∧ ¬ N + 1 + 1 + 1 = N + 1 ∧ ¬ N + 1 = N + 1 + 1 + 1 ∧ ¬ N + 1 + 1 + 1 = N + 1 + 1 ∧ ¬ N + 1 + 1 = N + 1 + 1 + 1 := by
  omega
theorem lk_ge {j : Nat} : ∀ {L : List (Nat × AO)}, (∀ x ∈ L, j < x.1) → look j L = none
  | [], _ => rfl
  | (u, w) :: r, h => by
    have := h (u, w) (by simp)
    have hr := lk_ge (L := r) fun x hx => h x (by simp [hx])
    have hu : ¬ u = j := by simp only at this; omega
    simp [look, hu, hr]
theorem lk_lt {j : Nat} : ∀ {L : List (Nat × AO)}, (∀ x ∈ L, x.1 < j) → look j L = none
  | [], _ => rfl
  | (u, w) :: r, h => by
    have := h (u, w) (by simp)
    have hr := lk_lt (L := r) fun x hx => h x (by simp [hx])
    have hu : ¬ u = j := by simp only at this; omega
    simp [look, hu, hr]
theorem Kp.apps {X : Nat → Prop} {N : Nat} {O L : List (Nat × AO)} (h : ∀ x ∈ L, N ≤ x.1) : Kp X N O (O ++ L) := fun j hj _ => by
  rw [lk_app, lk_ge (L := L) fun x hx => by have := h x hx; omega]
  cases look j O <;> rfl
theorem Tail.apps {N M : Nat} {O L : List (Nat × AO)} (hT : Tail O N) (hn : N ≤ M) (h : ∀ x ∈ L, x.1 < M) : Tail (O ++ L) M := fun j hj => by
  rw [lk_app, hT j (by omega), lk_lt (L := L) fun x hx => by have := h x hx; omega]
  rfl
theorem undoM1 {O : List (Nat × AO)} {N : Nat} (hT : Tail O N) (w1 w2 w3 w4 : AV) (o : TableOp) (id : Int) (h : o.kind = 1) :
    UDpost N O ⟨3, o.table, id, noE, noCl⟩ (callI Φ f_txn_undo [.agg [w1, w2, w3, w4], .agg (TableOp.c o), .int .i64 id] ⟨O, N⟩) := by
  rw [callI_go (fn := c_txn_undo) rfl rfl]
  have t0 := hT N (Nat.le_refl _)
  have t1 := hT (N + 1) (by omega)
  have t2 := hT (N + 1 + 1) (by omega)
  have t3 := hT (N + 1 + 1 + 1) (by omega)
  simp [c_txn_undo, c_txn_undo_k1, TableOp.ce2, h, t0, t1, t2, t3, nne N]
  refine ⟨_, _, _, rfl, ⟨⟨_, _, _, rfl, .nil, .nil, .nil, by simp, by simp⟩⟩, Kp.apps ?_, hT.apps (by omega) ?_, by omega⟩
  · simp only [List.mem_cons, List.not_mem_nil, or_false]; rintro x (rfl | rfl | rfl | rfl) <;> simp <;> omega
  · simp only [List.mem_cons, List.not_mem_nil, or_false]; rintro x (rfl | rfl | rfl | rfl) <;> simp <;> omega
theorem undoM4 {O : List (Nat × AO)} {N : Nat} (hT : Tail O N) {w1 w2 w3 w4 : AV} {V : List AV} {c : Config} (m : CfgM O w1 w2 w3 w4 V c) (o : TableOp) (id : Int) (h : o.kind = 4) {t : Nat} (ht : o.table = t) (hd : t < c.defaults.length) :
    UDpost N O ⟨4, o.table, 0, noE, c.defaults[t]⟩ (callI Φ f_txn_undo [.agg [w1, w2, w3, w4], .agg (TableOp.c o), .int .i64 id] ⟨O, N⟩) := by
  rw [callI_go (fn := c_txn_undo) rfl rfl]
  have t0 := hT N (Nat.le_refl _)
  have t1 := hT (N + 1) (by omega)
  have t2 := hT (N + 1 + 1) (by omega)
  have t3 := hT (N + 1 + 1 + 1) (by omega)
  obtain ⟨did, es0, e, hi, hle, htk⟩ := m.d.nonempty (by simp; omega)
  rw [List.length_map] at e hle
  subst e
  have hke : t < es0.length := by omega
  have g1 := get_tkG hd htk
  rw [ActionCall.ce] at g1
  have g2 : es0[t] = [.int .i64 c.defaults[t].action, .slice 1 (c.defaults[t].args.map c32)] := by rw [List.getElem?_eq_getElem hke] at g1; exact Option.some.inj g1
  have hlt := hT.lt hi
  have d0 : ¬ N = did := by omega
  have d1 : ¬ N + 1 = did := by omega
  have d2 : ¬ N + 1 + 1 = did := by omega
  have d3 : ¬ N + 1 + 1 + 1 = did := by omega
  have d0' : ¬ did = N := by omega
  have d1' : ¬ did = N + 1 := by omega
  have d2' : ¬ did = N + 1 + 1 := by omega
  have d3' : ¬ did = N + 1 + 1 + 1 := by omega
  have d4 : (did == N + 1 + 1 + 1) = false := by simpa using d3'
  have l2 : ∀ a b x y, look (N + 1 + 1) (sweepL (O ++ [(N, a), (N + 1, b), (N + 1 + 1, .row 9 x), (N + 1 + 1 + 1, .row 9 y)])) = some (.row 9 x) := fun a b x y => by
    have : look (N + 1 + 1) (O ++ [(N, a), (N + 1, b), (N + 1 + 1, .row 9 x), (N + 1 + 1 + 1, .row 9 y)]) = some (.row 9 x) := by simp [t2, nne N]
    rw [lk_sweep (by rw [this]; simp), this]
  have l3 : ∀ a b x y, look (N + 1 + 1 + 1) (sweepL (O ++ [(N, a), (N + 1, b), (N + 1 + 1, .row 9 x), (N + 1 + 1 + 1, .row 9 y)])) = some (.row 9 y) := fun a b x y => by
    have : look (N + 1 + 1 + 1) (O ++ [(N, a), (N + 1, b), (N + 1 + 1, .row 9 x), (N + 1 + 1 + 1, .row 9 y)]) = some (.row 9 y) := by simp [t3, nne N]
    rw [lk_sweep (by rw [this]; simp), this]
  simp [c_txn_undo, c_txn_undo_k1, TableOp.ce2, h, ht, hd, d4, l2, l3, hi, g2, hke, t0, t1, t2, t3, lk_app, lk_setl, nbq N, nne N, d0, d1, d2, d3]
  refine ⟨_, _, _, rfl, ⟨⟨_, _, _, rfl, .nil, .nil, .sl, by simp, fun _ _ => rfl⟩⟩, Kp.setl (Kp.sweep (Kp.apps ?_) fun j h => h) (.inl (by omega)), Tail_setl2 (Tail_sweep2 (hT.apps (by omega) ?_)), by omega⟩
  · simp only [List.mem_cons, List.not_mem_nil, or_false]; rintro x (rfl | rfl | rfl | rfl) <;> simp <;> omega
  · simp only [List.mem_cons, List.not_mem_nil, or_false]; rintro x (rfl | rfl | rfl | rfl) <;> simp <;> omega
theorem undoM2 {O : List (Nat × AO)} {N : Nat} (hT : Tail O N) {w1 w2 w3 w4 : AV} {V : List AV} {c : Config} (m : CfgM O w1 w2 w3 w4 V c) (o : TableOp) (id : Int) (h : o.kind = 2) {t : Nat} (ht : o.table = t) (hd : t < c.rows.length) (hl : c.rows[t].length < 2 ^ 40) {r : Rw} (hr : undoL c.rows[t] o = some r) :
    UDpost N O ⟨2, o.table, o.id, noE, r.entry.call⟩ (callI Φ f_txn_undo [.agg [w1, w2, w3, w4], .agg (TableOp.c o), .int .i64 id] ⟨O, N⟩) := by
  rw [callI_go (fn := c_txn_undo) rfl rfl]
  have t0 := hT N (Nat.le_refl _)
  have t1 := hT (N + 1) (by omega)
  have t2 := hT (N + 1 + 1) (by omega)
  have t3 := hT (N + 1 + 1 + 1) (by omega)
  have hV : t < V.length := by rw [m.rl]; exact hd
  obtain ⟨vid0, es0, e1, hi, hle, htk⟩ := m.r.nonempty (by simp; omega)
  rw [List.length_map] at e1 hle
  have hke : t < es0.length := by omega
  have g1 : es0[t]? = some [V[t]] := get_tkG hV htk
  have g2 : es0[t] = [V[t]] := by rw [List.getElem?_eq_getElem hke] at g1; exact Option.some.inj g1
  have hrv := m.rv t V[t] c.rows[t] (List.getElem?_eq_getElem hV) (List.getElem?_eq_getElem hd)
  have hvl := hrv.len
  rw [List.length_map] at hvl
  subst e1
  have hlt := hT.lt hi
  have d0 : ¬ vid0 = N := by omega
  have d1 : ¬ vid0 = N + 1 := by omega
  have d2 : ¬ vid0 = N + 1 + 1 := by omega
  have d3 : ¬ vid0 = N + 1 + 1 + 1 := by omega
  simp [c_txn_undo, TableOp.ce2, h, ht, hV, hi, g2, hke, hvl, t0, t1, t2, t3, lk_app, nne N, -lenOf]
  refine loopNQ c.rows[t].length (fun i e hp => ∃ O' N', hp = ⟨O', N'⟩ ∧ Kp (Rs O) N O O' ∧ Tail O' N' ∧ N + 4 ≤ N' ∧ look (N + 1) O' = some (.row 9 [TableOp.c o]) ∧ look (N + 1 + 1) O' = some (.row 9 [undoC ⟨0, 0, 0, noE, noCl⟩ none]) ∧ look (N + 1 + 1 + 1) O' = some (.row 9 [undoC o (undoL (c.rows[t].take i) o)]) ∧
    look 4 e = some (.ptr (N + 1) 9 0 0) ∧ look 6 e = some (.ptr (N + 1 + 1) 9 0 0) ∧ look 7 e = some (.ptr (N + 1 + 1 + 1) 9 0 0) ∧ look 20 e = some V[t] ∧ look 21 e = some (.int .i64 c.rows[t].length) ∧ look 22 e = some (.int .i64 i)) _ ?_ ?_ 0 _ _ (Nat.zero_le _) ?_
  · rintro i e _ L hi hL ⟨O', N', rfl, hk, hT', hN', k1, k2, k3, h4, h6, h7, h20, h21, h22⟩ ih
    have hw : IntKind.wrap .i64 ((i : Int) + 1) = ((i + 1 : Nat) : Int) := wrap64 (by omega) (by omega)
    have hs : undoL (c.rows[t].take (i + 1)) o = if c.rows[t][i].id = o.id then some c.rows[t][i] else undoL (c.rows[t].take i) o := by
      rw [List.take_succ_eq_append_getElem hi, undoL_snoc]
    have h5 : Mu O' 5 V[t] (c.rows[t].map Rw.c) := by
      refine hrv.fr fun j hj => ?_
      obtain ⟨es1, hl1⟩ := hrv.own hj
      exact hk j (hT.lt hl1) (fun hc => by have hc : look j O = some .res := hc; rw [hl1] at hc; cases hc)
    obtain ⟨rid, es1, ev, hl1, hle1, ht1⟩ := h5.nonempty (by simp; omega)
    have g5 := get_tkG hi ht1
    rw [ev, List.length_map] at h20
    have hr2 : rid < N := by
      have := hrv.own (j := rid) (by rw [ev]; rfl)
      obtain ⟨es2, hl2⟩ := this
      exact hT.lt hl2
    have d1 : ¬ rid = N + 1 := by omega
    have d2 : ¬ rid = N + 1 + 1 := by omega
    have d3 : ¬ rid = N + 1 + 1 + 1 := by omega
    have u0 := hT' N' (Nat.le_refl _)
    have f1 : ¬ N' = N + 1 := by omega
    have f2 : ¬ N' = N + 1 + 1 := by omega
    have f3 : ¬ N' = N + 1 + 1 + 1 := by omega
    simp only [TableOp.ce2] at k1
    by_cases z : c.rows[t][i].id = o.id
    · rw [if_pos z] at hs
      rw [show undoC o (undoL (c.rows[t].take i) o) = undoC o (undoL (c.rows[t].take i) o) from rfl] at k3
      cases hu : undoL (c.rows[t].take i) o <;> rw [hu] at k3 <;> simp only [undoC] at k3 <;>
      · simp [c_txn_undo_l0, Rw.ce, h4, h7, h20, h21, h22, hi, hl1, g5, z, h, k1, k3, lk_setl, u0, hw]
        refine ih _ _ ⟨_, _, rfl, Kp.sweep (Kp.setl (Kp.setl (Kp.setl hk (.inl (by omega))) (.inl (by omega))) (.inl (by omega))) fun j h => h, Tail_sweep2 (Tail_setl2 (Tail_setl2 (Tail_setl2 (hT'.mono (by omega))))), by omega, ?_, ?_, ?_, by simp [h4], by simp [h6], by simp [h7], by simp [h20, ev], by simp [h21], by simp⟩
        · rw [lk_sweep] <;> simp [lk_setl, k1, TableOp.ce2, h]
        · rw [lk_sweep] <;> simp [lk_setl, k2]
        · rw [lk_sweep] <;> simp [lk_setl, k3, hs, undoC]
    · rw [if_neg z] at hs
      simp [c_txn_undo_l0, Rw.ce, h4, h20, h21, h22, hi, hl1, g5, z, h, k1, u0, hw]
      refine ih _ _ ⟨_, _, rfl, hk, hT'.mono (by omega), by omega, by simp [k1, TableOp.ce2, h], k2, by rw [hs]; exact k3, by simp [h4], by simp [h6], by simp [h7], by simp [h20, ev], by simp [h21], by simp⟩
  · rintro e _ L hL ⟨O', N', rfl, hk, hT', hN', k1, k2, k3, h4, h6, h7, h20, h21, h22⟩
    rw [List.take_length, hr] at k3
    simp only [undoC] at k2 k3
    simp [c_txn_undo_l0, c_txn_undo_k1, h6, h7, h21, h22, hL, k2, k3, lk_setl]
    rw [← ht]
    exact ⟨_, _, _, rfl, ⟨⟨_, _, _, rfl, .nil, .nil, .sl, by simp, fun _ _ => rfl⟩⟩, Kp.setl hk (.inl (by omega)), Tail_setl2 hT', by omega⟩
  · refine ⟨_, _, rfl, Kp.apps ?_, hT.apps (by omega) ?_, by omega, ?_, ?_, ?_, by simp, by simp, by simp, by simp, by simp, by simp⟩
    · simp only [List.mem_cons, List.not_mem_nil, or_false]; rintro x (rfl | rfl | rfl | rfl) <;> simp <;> omega
    · simp only [List.mem_cons, List.not_mem_nil, or_false]; rintro x (rfl | rfl | rfl | rfl) <;> simp <;> omega
    all_goals simp [t1, t2, t3, nne N, TableOp.ce2, undoC, undoL, h, ht]
theorem undoM3 {O : List (Nat × AO)} {N : Nat} (hT : Tail O N) {w1 w2 w3 w4 : AV} {V : List AV} {c : Config} (m : CfgM O w1 w2 w3 w4 V c) (o : TableOp) (id : Int) (h : o.kind = 3) {t : Nat} (ht : o.table = t) (hd : t < c.rows.length) (hl : c.rows[t].length < 2 ^ 40) {r : Rw} (hr : undoL c.rows[t] o = some r) :
    UDpost N O ⟨1, o.table, o.id, r.entry, noCl⟩ (callI Φ f_txn_undo [.agg [w1, w2, w3, w4], .agg (TableOp.c o), .int .i64 id] ⟨O, N⟩) := by
  rw [callI_go (fn := c_txn_undo) rfl rfl]
  have t0 := hT N (Nat.le_refl _)
  have t1 := hT (N + 1) (by omega)
  have t2 := hT (N + 1 + 1) (by omega)
  have t3 := hT (N + 1 + 1 + 1) (by omega)
  have hV : t < V.length := by rw [m.rl]; exact hd
  obtain ⟨vid0, es0, e1, hi, hle, htk⟩ := m.r.nonempty (by simp; omega)
  rw [List.length_map] at e1 hle
  have hke : t < es0.length := by omega
  have g1 : es0[t]? = some [V[t]] := get_tkG hV htk
  have g2 : es0[t] = [V[t]] := by rw [List.getElem?_eq_getElem hke] at g1; exact Option.some.inj g1
  have hrv := m.rv t V[t] c.rows[t] (List.getElem?_eq_getElem hV) (List.getElem?_eq_getElem hd)
  have hvl := hrv.len
  rw [List.length_map] at hvl
  subst e1
  have hlt := hT.lt hi
  have d0 : ¬ vid0 = N := by omega
  have d1 : ¬ vid0 = N + 1 := by omega
  have d2 : ¬ vid0 = N + 1 + 1 := by omega
  have d3 : ¬ vid0 = N + 1 + 1 + 1 := by omega
  simp [c_txn_undo, TableOp.ce2, h, ht, hV, hi, g2, hke, hvl, t0, t1, t2, t3, lk_app, nne N, -lenOf]
  refine loopNQ c.rows[t].length (fun i e hp => ∃ O' N', hp = ⟨O', N'⟩ ∧ Kp (Rs O) N O O' ∧ Tail O' N' ∧ N + 4 ≤ N' ∧ look (N + 1) O' = some (.row 9 [TableOp.c o]) ∧ look (N + 1 + 1) O' = some (.row 9 [undoC3 ⟨0, 0, 0, noE, noCl⟩ none]) ∧ look (N + 1 + 1 + 1) O' = some (.row 9 [undoC3 o (undoL (c.rows[t].take i) o)]) ∧
    look 4 e = some (.ptr (N + 1) 9 0 0) ∧ look 6 e = some (.ptr (N + 1 + 1) 9 0 0) ∧ look 7 e = some (.ptr (N + 1 + 1 + 1) 9 0 0) ∧ look 20 e = some V[t] ∧ look 21 e = some (.int .i64 c.rows[t].length) ∧ look 22 e = some (.int .i64 i)) _ ?_ ?_ 0 _ _ (Nat.zero_le _) ?_
  · rintro i e _ L hi hL ⟨O', N', rfl, hk, hT', hN', k1, k2, k3, h4, h6, h7, h20, h21, h22⟩ ih
    have hw : IntKind.wrap .i64 ((i : Int) + 1) = ((i + 1 : Nat) : Int) := wrap64 (by omega) (by omega)
    have hs : undoL (c.rows[t].take (i + 1)) o = if c.rows[t][i].id = o.id then some c.rows[t][i] else undoL (c.rows[t].take i) o := by
      rw [List.take_succ_eq_append_getElem hi, undoL_snoc]
    have h5 : Mu O' 5 V[t] (c.rows[t].map Rw.c) := by
      refine hrv.fr fun j hj => ?_
      obtain ⟨es1, hl1⟩ := hrv.own hj
      exact hk j (hT.lt hl1) (fun hc => by have hc : look j O = some .res := hc; rw [hl1] at hc; cases hc)
    obtain ⟨rid, es1, ev, hl1, hle1, ht1⟩ := h5.nonempty (by simp; omega)
    have g5 := get_tkG hi ht1
    rw [ev, List.length_map] at h20
    have hr2 : rid < N := by
      have := hrv.own (j := rid) (by rw [ev]; rfl)
      obtain ⟨es2, hl2⟩ := this
      exact hT.lt hl2
    have d1 : ¬ rid = N + 1 := by omega
    have d2 : ¬ rid = N + 1 + 1 := by omega
    have d3 : ¬ rid = N + 1 + 1 + 1 := by omega
    have u0 := hT' N' (Nat.le_refl _)
    have f1 : ¬ N' = N + 1 := by omega
    have f2 : ¬ N' = N + 1 + 1 := by omega
    have f3 : ¬ N' = N + 1 + 1 + 1 := by omega
    simp only [TableOp.ce2] at k1
    by_cases z : c.rows[t][i].id = o.id
    · rw [if_pos z] at hs
      rw [show undoC3 o (undoL (c.rows[t].take i) o) = undoC3 o (undoL (c.rows[t].take i) o) from rfl] at k3
      cases hu : undoL (c.rows[t].take i) o <;> rw [hu] at k3 <;> simp only [undoC3] at k3 <;>
      · simp [c_txn_undo_l0, Rw.ce, h4, h7, h20, h21, h22, hi, hl1, g5, z, h, k1, k3, lk_setl, u0, hw]
        refine ih _ _ ⟨_, _, rfl, Kp.sweep (Kp.setl (Kp.setl (Kp.setl hk (.inl (by omega))) (.inl (by omega))) (.inl (by omega))) fun j h => h, Tail_sweep2 (Tail_setl2 (Tail_setl2 (Tail_setl2 (hT'.mono (by omega))))), by omega, ?_, ?_, ?_, by simp [h4], by simp [h6], by simp [h7], by simp [h20, ev], by simp [h21], by simp⟩
        · rw [lk_sweep] <;> simp [lk_setl, k1, TableOp.ce2, h]
        · rw [lk_sweep] <;> simp [lk_setl, k2]
        · rw [lk_sweep] <;> simp [lk_setl, k3, hs, undoC3]
    · rw [if_neg z] at hs
      simp [c_txn_undo_l0, Rw.ce, h4, h20, h21, h22, hi, hl1, g5, z, h, k1, u0, hw]
      refine ih _ _ ⟨_, _, rfl, hk, hT'.mono (by omega), by omega, by simp [k1, TableOp.ce2, h], k2, by rw [hs]; exact k3, by simp [h4], by simp [h6], by simp [h7], by simp [h20, ev], by simp [h21], by simp⟩
  · rintro e _ L hL ⟨O', N', rfl, hk, hT', hN', k1, k2, k3, h4, h6, h7, h20, h21, h22⟩
    rw [List.take_length, hr] at k3
    simp only [undoC3] at k2 k3
    simp [c_txn_undo_l0, c_txn_undo_k1, h6, h7, h21, h22, hL, k2, k3, lk_setl]
    rw [← ht]
    exact ⟨_, _, _, rfl, ⟨⟨_, _, _, rfl, .sl, .sl, .nil, fun _ => ⟨rfl, rfl⟩, by simp⟩⟩, Kp.setl hk (.inl (by omega)), Tail_setl2 hT', by omega⟩
  · refine ⟨_, _, rfl, Kp.apps ?_, hT.apps (by omega) ?_, by omega, ?_, ?_, ?_, by simp, by simp, by simp, by simp, by simp, by simp⟩
    · simp only [List.mem_cons, List.not_mem_nil, or_false]; rintro x (rfl | rfl | rfl | rfl) <;> simp <;> omega
    · simp only [List.mem_cons, List.not_mem_nil, or_false]; rintro x (rfl | rfl | rfl | rfl) <;> simp <;> omega
    all_goals simp [t1, t2, t3, nne N, TableOp.ce2, undoC3, undoL, h, ht]
end Go.Av
