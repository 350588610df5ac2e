/-
  Towards TxnInverse: a transaction's operation on a store, from cells with parts of their own.
-/
import Derived.Test.YtjdbnnnakpacjaaGreatZU
set_option linter.unusedVariables false
set_option linter.unusedSimpArgs false
set_option linter.constructorNameAsVariable false
namespace Go.Av
set_option maxRecDepth 4000
theorem Fl.snp {z n : Nat} {v : AV} {es : List (List AV)} {H : AH} (h : Fl z v es) (hs : snap (n + 1) H (.slice z es) = some (.slice z es)) : snap (n + 1) H v = some (.slice z es) := by
  rcases h with rfl | ⟨rfl, rfl⟩
  · exact hs
  · simp
theorem OpL.snp {o : TableOp} {w : List AV} (h : OpL o w) {n : Nat} {H : AH} : mapO (snap (n + 1) H) w = some (TableOp.c o) := by
  obtain ⟨k, a, ca, rfl, h1, h2, h3, -, -⟩ := h.ex
  have e1 := h1.snp (n := n) (H := H) (by simp)
  have e2 := h2.snp (n := n) (H := H) (by simp)
  have e3 := h3.snp (n := n) (H := H) (by simp)
  simp [TableOp.ce2, e1, e2, e3]
theorem OpL.bor {o : TableOp} {w : List AV} (h : OpL o w) {n : Nat} : anyL (bor (n + 1)) w = false := by
  obtain ⟨k, a, ca, rfl, h1, h2, h3, -, -⟩ := h.ex
  rcases h1 with rfl | ⟨rfl, -⟩ <;> rcases h2 with rfl | ⟨rfl, -⟩ <;> rcases h3 with rfl | ⟨rfl, -⟩ <;> simp
-- lists of such cells
def OpsL (l : List TableOp) (W : List (List AV)) : Prop := l.length = W.length ∧ ∀ (i : Nat) (o : TableOp) (w : List AV), l[i]? = some o → W[i]? = some w → OpL o w
theorem OpsL.nil : OpsL [] [] := ⟨rfl, by simp⟩
theorem OpsL.snoc {l : List TableOp} {W : List (List AV)} (h : OpsL l W) {o : TableOp} {w : List AV} (hw : OpL o w) : OpsL (l ++ [o]) (W ++ [w]) := by
  refine ⟨by simp [h.1], fun i o' w' h1 h2 => ?_⟩
  by_cases hi : i < l.length
  · rw [List.getElem?_append_left hi] at h1
    rw [List.getElem?_append_left (by rw [← h.1]; exact hi)] at h2
    exact h.2 i o' w' h1 h2
  · rw [List.getElem?_append_right (by omega)] at h1
    rw [List.getElem?_append_right (by have := h.1; omega)] at h2
    rw [h.1] at h1
    cases hk : i - W.length with
    | zero => rw [hk] at h1 h2; simp at h1 h2; subst h1; subst h2; exact hw
    | succ k => rw [hk] at h1; simp at h1
theorem OpsL.snp {l : List TableOp} {W : List (List AV)} (h : OpsL l W) {n : Nat} {H : AH} : mapO (mapO (snap (n + 1) H)) W = some (l.map TableOp.c) := by
  refine mapO_gets (by simp [h.1]) fun i w y hx hy => ?_
  rw [List.getElem?_map] at hy
  cases ho : l[i]? with
  | none => rw [ho] at hy; cases hy
  | some o => rw [ho] at hy; cases hy; exact (h.2 i o w ho hx).snp
theorem executeL_ok {O : List (Nat × AO)} {N : Nat} {S : SV} {p : Prg} {c : Config} (m : StoreM O S p c) (f : PrgS p) (v : CfgV p c) (s : CfgT c) (hT : Tail O N) (o : TableOp) (ho : OpS o) {w : List AV} (hw : OpL o w) :
    MDpost N O S p (xoC p c o) (.tup [.int .i64 (xoI p c o), .int .i64 (xoE p c o)]) (callI Φ f_txn_execute [.ptr S.s 15 0 0, .agg w] ⟨O, N⟩) := by
  obtain ⟨k, a, ca, rfl, -, -, -, q1, q2⟩ := hw.ex
  rw [callI_go (fn := c_txn_execute) rfl rfl]
  have t0 := hT N (Nat.le_refl _)
  have hk1 : Kp (fun _ => False) N O (O ++ [(N, AO.row 9 [[.int .i64 o.kind, .int .i64 o.table, .int .i64 o.id, k, .int .i64 o.entry.priority, .int .i64 o.entry.call.action, a, .int .i64 o.call.action, ca]])]) := Kp.app (fun _ _ _ => rfl) (Nat.le_refl _)
  have hT1 := hT.app1 (o := AO.row 9 [[.int .i64 o.kind, .int .i64 o.table, .int .i64 o.id, k, .int .i64 o.entry.priority, .int .i64 o.entry.call.action, a, .int .i64 o.call.action, ca]]) (Nat.le_refl N)
  have m1 : StoreM (O ++ [(N, AO.row 9 [[.int .i64 o.kind, .int .i64 o.table, .int .i64 o.id, k, .int .i64 o.entry.priority, .int .i64 o.entry.call.action, a, .int .i64 o.call.action, ca]])]) S p c := m.kp (X := fun _ => False) hT (Kp.app (fun _ _ _ => rfl) (Nat.le_refl _)) (by simp)
  have b1 : look N (O ++ [(N, AO.row 9 [[.int .i64 o.kind, .int .i64 o.table, .int .i64 o.id, k, .int .i64 o.entry.priority, .int .i64 o.entry.call.action, a, .int .i64 o.call.action, ca]])]) = some (.row 9 [[.int .i64 o.kind, .int .i64 o.table, .int .i64 o.id, k, .int .i64 o.entry.priority, .int .i64 o.entry.call.action, a, .int .i64 o.call.action, ca]]) := by rw [lk_app, t0]; simp
  by_cases z1 : o.kind = 1
  · obtain ⟨rfl, rfl⟩ := q1 z1
    simp only [z1] at b1 hk1 hT1 m1
    refine MDpost.pre hk1 (Nat.le_succ N) ?_
    obtain ⟨S', O', N', e, h1, h2, h3, h4, h5, h6⟩ := Insert_ok m1 f v s hT1 o.table o.entry ho.e
    have e1 : xoE p c o = insE p c o.table o.entry := by simp [xoE, z1]
    have e2 : (if insE p c o.table o.entry = 0 then insC c o.table o.entry else c) = xoC p c o := by simp [xoC, e1, xoD, z1]
    have e3 : (if insE p c o.table o.entry = 0 then nextAt c o.table else 0) = xoI p c o := by simp [xoI, e1, z1]
    rw [e2] at h1
    rw [e3, ← e1] at e
    simp only [Entry.ce] at e
    simp [c_txn_execute, z1, b1, t0, e]
    exact ⟨S', O', N', rfl, h1, h2, h3, h4, h5, h6⟩
  by_cases z2 : o.kind = 2
  · obtain rfl := q2 (by omega) (by omega)
    simp only [z2] at b1 hk1 hT1 m1
    refine MDpost.pre hk1 (Nat.le_succ N) ?_
    obtain ⟨S', O', N', e, h1, h2, h3, h4, h5, h6⟩ := Modify_ok m1 f v.rl hT1 o.table o.id o.call ho.c.al
    have e1 : xoE p c o = modE p c o.table o.id o.call := by simp [xoE, z2]
    have e2 : (if modE p c o.table o.id o.call = 0 then modC c o.table o.id o.call else c) = xoC p c o := by simp [xoC, e1, xoD, z2]
    have e3 : xoI p c o = 0 := by simp [xoI, z2]
    rw [e2] at h1
    rw [← e1] at e
    rw [e3]
    simp only [ActionCall.ce] at e
    simp [c_txn_execute, z2, b1, t0, e]
    exact ⟨S', O', N', rfl, h1, h2, h3, h4, h5, h6⟩
  by_cases z3 : o.kind = 3
  · simp only [z3] at b1 hk1 hT1 m1
    refine MDpost.pre hk1 (Nat.le_succ N) ?_
    obtain ⟨S', O', N', e, h1, h2, h3, h4, h5, h6⟩ := Delete_ok m1 v hT1 o.table o.id
    have e1 : xoE p c o = delE p c o.table o.id := by simp [xoE, z3]
    have e2 : (if delE p c o.table o.id = 0 then delC c o.table o.id else c) = xoC p c o := by simp [xoC, e1, xoD, z3]
    have e3 : xoI p c o = 0 := by simp [xoI, z3]
    rw [e2] at h1
    rw [← e1] at e
    rw [e3]
    simp [c_txn_execute, z3, b1, t0, e]
    exact ⟨S', O', N', rfl, h1, h2, h3, h4, h5, h6⟩
  by_cases z4 : o.kind = 4
  · obtain rfl := q2 (by omega) (by omega)
    simp only [z4] at b1 hk1 hT1 m1
    refine MDpost.pre hk1 (Nat.le_succ N) ?_
    obtain ⟨S', O', N', e, h1, h2, h3, h4, h5, h6⟩ := SetDefault_ok m1 f v.rl v.dl hT1 o.table o.call ho.c.al
    have e1 : xoE p c o = defE p o.table o.call := by simp [xoE, z4]
    have e2 : (if defE p o.table o.call = 0 then defC c o.table o.call else c) = xoC p c o := by simp [xoC, e1, xoD, z4]
    have e3 : xoI p c o = 0 := by simp [xoI, z4]
    rw [e2] at h1
    rw [← e1] at e
    rw [e3]
    simp only [ActionCall.ce] at e
    simp [c_txn_execute, z4, b1, t0, e]
    exact ⟨S', O', N', rfl, h1, h2, h3, h4, h5, h6⟩
  · have e1 : xoE p c o = 11 := by simp [xoE, z1, z2, z3, z4]
    have e2 : xoC p c o = c := by simp [xoC, e1]
    have e3 : xoI p c o = 0 := by simp [xoI, z1]
    rw [e1, e2, e3]
    refine MDpost.pre hk1 (Nat.le_succ N) ?_
    simp [c_txn_execute, z1, z2, z3, z4, b1, t0]
    exact ⟨S, _, _, rfl, m1, rfl, fun j hj => .inl hj, Kp.refl, hT1, Nat.le_refl _⟩
end Go.Av
