/-
  A transaction's operation on a store.
-/
import Derived.Test.YtjdbnnnakpacjaaGreatH19
import Derived.Test.YtjdbnnnakpacjaaGreatR7
set_option linter.unusedVariables false
set_option linter.unusedSimpArgs false
set_option linter.constructorNameAsVariable false
namespace Go.Av
set_option maxRecDepth 4000
theorem MDpost.pre {N N1 : Nat} {O O1 : List (Nat × AO)} {S : SV} {p : Prg} {c : Config} {v : AV} {r : Option (Rt × AH)} (hk : Kp (fun _ => False) N O O1) (hN : N ≤ N1) (h : MDpost N1 O1 S p c v r) : MDpost N O S p c v r := by
  obtain ⟨S', O', N', e, h1, h2, h3, h4, h5, h6⟩ := h
  refine ⟨S', O', N', e, h1, h2, fun j hj => (h3 j hj).imp id fun h => by omega, ?_, h5, by omega⟩
  intro j hj hx
  rw [h4 j (by omega) fun hc => hx (hc.imp id fun hc => ?_)]
  · exact hk j hj (by simp)
  · show look j O = some .res
    rw [← hk j hj (by simp)]; exact hc
theorem execute_ok {O : List (Nat × AO)} {N : Nat} {S : SV} {p : Prg} {c : Config} (m : StoreM O S p c) (f : PrgS p) (v : CfgV p c) (s : CfgT c) (hT : Tail O N) (o : TableOp) (ho : OpS o) :
    MDpost N O S p (xoC p c o) (.tup [.int .i64 (xoI p c o), .int .i64 (xoE p c o)]) (callI Φ f_txn_execute [.ptr S.s 15 0 0, .agg (TableOp.c o)] ⟨O, N⟩) := by
  rw [callI_go (fn := c_txn_execute) rfl rfl]
  have t0 := hT N (Nat.le_refl _)
  have hk1 : Kp (fun _ => False) N O (O ++ [(N, AO.row 9 [TableOp.c o])]) := Kp.app (fun _ _ _ => rfl) (Nat.le_refl _)
  have hT1 := hT.app1 (o := AO.row 9 [TableOp.c o]) (Nat.le_refl N)
  have m1 : StoreM (O ++ [(N, AO.row 9 [TableOp.c o])]) S p c := m.kp (X := fun _ => False) hT (Kp.app (fun _ _ _ => rfl) (Nat.le_refl _)) (by simp)
  have b1 : look N (O ++ [(N, AO.row 9 [TableOp.c o])]) = some (.row 9 [TableOp.c o]) := by rw [lk_app, t0]; simp
  simp only [TableOp.ce2] at b1 hk1 hT1 m1
  by_cases z1 : o.kind = 1
  · simp only [z1] at b1 hk1 hT1 m1
    refine MDpost.pre hk1 (Nat.le_succ N) ?_
    obtain ⟨S', O', N', e, h1, h2, h3, h4, h5, h6⟩ := Insert_ok m1 f v s hT1 o.table o.entry ho.e
    have e1 : xoE p c o = insE p c o.table o.entry := by simp [xoE, z1]
    have e2 : (if insE p c o.table o.entry = 0 then insC c o.table o.entry else c) = xoC p c o := by simp [xoC, e1, xoD, z1]
    have e3 : (if insE p c o.table o.entry = 0 then nextAt c o.table else 0) = xoI p c o := by simp [xoI, e1, z1]
    rw [e2] at h1
    rw [e3, ← e1] at e
    simp only [Entry.ce] at e
    simp [c_txn_execute, TableOp.ce2, z1, b1, t0, e]
    exact ⟨S', O', N', rfl, h1, h2, h3, h4, h5, h6⟩
  by_cases z2 : o.kind = 2
  · simp only [z2] at b1 hk1 hT1 m1
    refine MDpost.pre hk1 (Nat.le_succ N) ?_
    obtain ⟨S', O', N', e, h1, h2, h3, h4, h5, h6⟩ := Modify_ok m1 f v.rl hT1 o.table o.id o.call ho.c.al
    have e1 : xoE p c o = modE p c o.table o.id o.call := by simp [xoE, z2]
    have e2 : (if modE p c o.table o.id o.call = 0 then modC c o.table o.id o.call else c) = xoC p c o := by simp [xoC, e1, xoD, z2]
    have e3 : xoI p c o = 0 := by simp [xoI, z2]
    rw [e2] at h1
    rw [← e1] at e
    rw [e3]
    simp only [ActionCall.ce] at e
    simp [c_txn_execute, TableOp.ce2, z2, b1, t0, e]
    exact ⟨S', O', N', rfl, h1, h2, h3, h4, h5, h6⟩
  by_cases z3 : o.kind = 3
  · simp only [z3] at b1 hk1 hT1 m1
    refine MDpost.pre hk1 (Nat.le_succ N) ?_
    obtain ⟨S', O', N', e, h1, h2, h3, h4, h5, h6⟩ := Delete_ok m1 v hT1 o.table o.id
    have e1 : xoE p c o = delE p c o.table o.id := by simp [xoE, z3]
    have e2 : (if delE p c o.table o.id = 0 then delC c o.table o.id else c) = xoC p c o := by simp [xoC, e1, xoD, z3]
    have e3 : xoI p c o = 0 := by simp [xoI, z3]
    rw [e2] at h1
    rw [← e1] at e
    rw [e3]
    simp [c_txn_execute, TableOp.ce2, z3, b1, t0, e]
    exact ⟨S', O', N', rfl, h1, h2, h3, h4, h5, h6⟩
  by_cases z4 : o.kind = 4
  · simp only [z4] at b1 hk1 hT1 m1
    refine MDpost.pre hk1 (Nat.le_succ N) ?_
    obtain ⟨S', O', N', e, h1, h2, h3, h4, h5, h6⟩ := SetDefault_ok m1 f v.rl v.dl hT1 o.table o.call ho.c.al
    have e1 : xoE p c o = defE p o.table o.call := by simp [xoE, z4]
    have e2 : (if defE p o.table o.call = 0 then defC c o.table o.call else c) = xoC p c o := by simp [xoC, e1, xoD, z4]
    have e3 : xoI p c o = 0 := by simp [xoI, z4]
    rw [e2] at h1
    rw [← e1] at e
    rw [e3]
    simp only [ActionCall.ce] at e
    simp [c_txn_execute, TableOp.ce2, z4, b1, t0, e]
    exact ⟨S', O', N', rfl, h1, h2, h3, h4, h5, h6⟩
  · have e1 : xoE p c o = 11 := by simp [xoE, z1, z2, z3, z4]
    have e2 : xoC p c o = c := by simp [xoC, e1]
    have e3 : xoI p c o = 0 := by simp [xoI, z1]
    rw [e1, e2, e3]
    refine MDpost.pre hk1 (Nat.le_succ N) ?_
    simp [c_txn_execute, TableOp.ce2, z1, z2, z3, z4, b1, t0]
    exact ⟨S, _, _, rfl, m1, rfl, fun j hj => .inl hj, Kp.refl, hT1, Nat.le_refl _⟩
end Go.Av
