/-
  The reference's encoding: operations.
-/
import Derived.Test.YtjdbnnnakpacjaaGreatJ16
set_option linter.unusedVariables false
set_option linter.unusedSimpArgs false
set_option linter.constructorNameAsVariable false
namespace Go.Av
set_option maxRecDepth 4000
theorem callB_len {c : ActionCall} (hc : callEJ c = true) : (callB c).length ≤ 1100 := by
  simp [callEJ] at hc
  simp only [callB, be2, List.length_append, List.length_cons, List.length_nil, argsB_length]; omega
theorem rop_loop (o : TableOp) (E : List (List AV)) (hE : E.length ≤ 1000000) (hkl : o.entry.keys.length ≤ 255) (o1 : ∀ x ∈ o.entry.keys, okK x) (hca : callEJ o.entry.call = true) (o2 : okC o.entry.call) (e : Env) (N : Nat)
    (h1 : look 1 e = some (.ptr 0 9 0 0)) (h3 : look 3 e = some (.app 1 E 1)) (h4 : look 4 e = some (.int .i64 0)) :
    go Φ (finP [.tmp 2]) [.c (.loop c_ref28_operation_l0), .b 0, .c c_ref28_operation_k1, .c c_ref28_operation_k2] .normal ⟨e, ⟨[(0, .row 9 [TableOp.c o]), (1, .tok 1 E.length)], N⟩⟩ =
      some (.val (.slice 1 (E ++ ((keysB o.entry.keys).map c8 ++ (callB o.entry.call).map c8)))) := by
  refine loop_nat o.entry.keys.length (fun i e h => look 1 e = some (.ptr 0 9 0 0) ∧ look 3 e = some (.app 1 (E ++ (keysB (o.entry.keys.take i)).map c8) 1) ∧ look 4 e = some (.int .i64 i) ∧
    h = ⟨[(0, .row 9 [TableOp.c o]), (1, .tok 1 (E ++ (keysB (o.entry.keys.take i)).map c8).length)], N⟩) (fun _ => _) ?_ ?_ 0 _ _ (Nat.zero_le _) ⟨h1, by simp [h3, keysB], by simp [h4], by simp [keysB]⟩
  · rintro i e _ L hi hL ⟨h1, h3, h4, rfl⟩ ih
    have hwi : IntKind.wrap .i64 ((i : Int) + 1) = ((i + 1 : Nat) : Int) := wrap64 (by omega) (by omega)
    obtain ⟨hx, hy⟩ := o1 _ (List.getElem_mem hi)
    have hx64 : IntKind.wrap .i64 o.entry.keys[i].value = o.entry.keys[i].value := wrap64 (by omega) (by omega)
    have hy64 : IntKind.wrap .i64 o.entry.keys[i].mask = o.entry.keys[i].mask := wrap64 (by omega) (by omega)
    have hp := pnum4 hx
    have hq := pnum4 hy
    simp only [be4_c8] at hp hq
    have hlenT : (E ++ (keysB (o.entry.keys.take i)).map c8).length ≤ 1002040 := by
      rw [List.length_append, List.length_map, keysB_length, List.length_take]; omega
    have hE2 : E ++ (keysB (o.entry.keys.take (i + 1))).map c8 = (E ++ (keysB (o.entry.keys.take i)).map c8) ++ ((be4 o.entry.keys[i].value).map c8 ++ (be4 o.entry.keys[i].mask).map c8) := by
      rw [keysB_succ hi]; simp
    rw [hE2] at ih
    generalize E ++ (keysB (o.entry.keys.take i)).map c8 = D at *
    have l2 : D.length + 4 ≤ 70368744177664 := by omega
    have l3 : D.length + 4 + 4 ≤ 70368744177664 := by omega
    simp [c_ref28_operation_l0, TableOp.ce, KeyMatch.ceJ, h1, h3, h4, hi, hL, hx64, hy64, hp, hq, hwi, l2, l3]
    exact (ih _ _ ⟨by simp [h1], by simp [be4_c8], by simp, by simp [TableOp.ce, KeyMatch.ceJ, be4]⟩).trans (by simp)
  · rintro e _ L hL ⟨h1, h3, h4, rfl⟩
    rw [List.take_length] at h3 ⊢
    have hc := rcallB o.entry.call hca o2
    simp only [cC_e] at hc
    have hlen : E.length + (keysB o.entry.keys).length + (callB o.entry.call).length ≤ 70368744177664 := by
      have := callB_len hca
      rw [keysB_length]; omega
    simp [c_ref28_operation_l0, c_ref28_operation_k1, TableOp.ce, h1, h3, h4, hL, hc, hlen]
theorem ropB (o : TableOp) (he : opE o = true) (ho : okO o) : pureI Φ f_ref28_operation [.agg (TableOp.c o)] = some (.val (.slice 1 ((opB o).map c8))) := by
  have hk := opE_kind he
  obtain ⟨o1, o2, o3⟩ := ho
  unfold opE at he
  rw [Bool.and_eq_true] at he
  obtain ⟨he1, he2⟩ := he
  have he1' := he1
  simp [shortI] at he1'
  have hw : IntKind.wrap .u8 o.kind = o.kind := by rw [wr8u]; omega
  have h2 := pnum2 (v := o.table) (by omega)
  simp only [be2_c8] at h2
  rw [pureI_go (fn := c_ref28_operation) rfl rfl, opB_eq]
  by_cases c3 : o.kind = 3
  · simp [c3, idI] at he2
    have h4 := pnum4 (v := o.id) (by omega)
    simp only [be4_c8] at h4
    rw [c3] at hw
    simp [c_ref28_operation, c_ref28_operation_k2, TableOp.ce, c3, hw, h2, h4, opT, be2_c8, be4_c8, c8e]
  by_cases c4 : o.kind = 4
  · simp [c4] at he2
    have hc := rcallB o.call he2 o3
    simp only [cC_e] at hc
    rw [c4] at hw
    have hlen : 3 + (callB o.call).length ≤ 70368744177664 := by have := callB_len he2; omega
    simp [c_ref28_operation, c_ref28_operation_k2, TableOp.ce, c4, hw, h2, hc, opT, be2_c8, c8e, hlen]
  by_cases c2 : o.kind = 2
  · simp [c2, idI] at he2
    have hc := rcallB o.call he2.2 o3
    simp only [cC_e] at hc
    have h4 := pnum4 (v := o.id) (by omega)
    simp only [be4_c8] at h4
    rw [c2] at hw
    have hlen : 7 + (callB o.call).length ≤ 70368744177664 := by have := callB_len he2.2; omega
    simp [c_ref28_operation, c_ref28_operation_k2, TableOp.ce, c2, hw, h2, h4, hc, opT, be2_c8, be4_c8, c8e, hlen]
  have c1 : o.kind = 1 := by omega
  simp [c1] at he2
  obtain ⟨hpr, hkl, hca⟩ := he2
  simp [shortI] at hpr
  have hc := rcallB o.entry.call hca o2
  simp only [cC_e] at hc
  have h3 := pnum2 (v := o.entry.priority) (by omega)
  simp only [be2_c8] at h3
  rw [c1] at hw
  have hwl : IntKind.wrap .u8 (o.entry.keys.length : Int) = (o.entry.keys.length : Int) := by rw [wr8u]; omega
  simp [c_ref28_operation, TableOp.ce, c1, hw, h2, h3, hc, opT, be2_c8, be4_c8, c8e, hwl]
  have key := fun e N a b c => rop_loop o [[AV.int .u8 1], [AV.int .u8 (o.table / 256 % 256)], [AV.int .u8 (o.table % 256)], [AV.int .u8 (o.entry.priority / 256 % 256)], [AV.int .u8 (o.entry.priority % 256)], [AV.int .u8 o.entry.keys.length]] (by simp) hkl o1 hca o2 e N a b c
  simp only [TableOp.ce, c1] at key
  exact (key _ _ (by simp) (by simp) (by simp)).trans (by simp)
end Go.Av
