/-
  The reference's encoding: numbers, calls.
-/
import Derived.Test.YtjdbnnnakpacjaaGreatJ15
set_option linter.unusedVariables false
set_option linter.unusedSimpArgs false
set_option linter.constructorNameAsVariable false
namespace Go.Av
set_option maxRecDepth 4000
theorem rnum0 (v : Int) (O : List (Nat × AO)) (N : Nat) : callI Φ f_ref28_number [.int .i64 v, .int .i64 0] ⟨O, N⟩ = some (.val (.fslice 1 []), ⟨O, N⟩) := by
  rw [callI_go (fn := c_ref28_number) rfl rfl]
  simp [c_ref28_number]
theorem quo256 {v : Int} (h : 0 ≤ v ∧ v ≤ 4294967295) : IntKind.wrap .i64 (v.tdiv 256) = v / 256 := by
  rw [Int.tdiv_eq_ediv_of_nonneg h.1]
  exact wrap64 (by omega) (by omega)
theorem rem256 {v : Int} (h : 0 ≤ v ∧ v ≤ 4294967295) : IntKind.wrap .u8 (v.tmod 256) = v % 256 := by
  rw [Int.tmod_eq_emod_of_nonneg h.1, wr8u]
  omega
theorem rnum_step {v : Int} (h : 0 ≤ v ∧ v ≤ 4294967295) (n : Nat) (hn : n ≤ 3) (O : List (Nat × AO)) (N : Nat) (E : List (List AV)) (hT : Tail O N) (hE : E.length ≤ 10)
    (ih : callI Φ f_ref28_number [.int .i64 (v / 256), .int .i64 n] ⟨O, N⟩ = some (.val (.app 1 E N), ⟨O ++ [(N, .tok 1 E.length)], N + 1⟩)) :
    callI Φ f_ref28_number [.int .i64 v, .int .i64 ((n : Int) + 1)] ⟨O, N⟩ = some (.val (.app 1 (E ++ [[.int .u8 (v % 256)]]) N), ⟨O ++ [(N, .tok 1 (E.length + 1))], N + 1⟩) := by
  rw [callI_go (fn := c_ref28_number) rfl rfl]
  have hNN := hT N (Nat.le_refl _)
  have hw : IntKind.wrap .i64 (n : Int) = (n : Int) := wrap64 (by omega) (by omega)
  have hz : ¬ ((n : Int) + 1 = 0) := by omega
  have hl : E.length + 1 ≤ 70368744177664 := by omega
  simp [c_ref28_number, hz, quo256 h, rem256 h, ih, hw, hNN, hl]
theorem rnum1 {v : Int} (h : 0 ≤ v ∧ v ≤ 4294967295) (O : List (Nat × AO)) (N : Nat) (hT : Tail O N) : callI Φ f_ref28_number [.int .i64 v, .int .i64 1] ⟨O, N⟩ = some (.val (.app 1 [[.int .u8 (v % 256)]] N), ⟨O ++ [(N, .tok 1 1)], N + 1⟩) := by
  rw [callI_go (fn := c_ref28_number) rfl rfl]
  have hNN := hT N (Nat.le_refl _)
  have h0 := rnum0 (v / 256) O N
  have k0 : IntKind.wrap .i64 0 = 0 := by decide
  simp [c_ref28_number, quo256 h, rem256 h, h0, k0, hNN]
theorem rnum2 {v : Int} (h : 0 ≤ v ∧ v ≤ 4294967295) (O : List (Nat × AO)) (N : Nat) (hT : Tail O N) : callI Φ f_ref28_number [.int .i64 v, .int .i64 2] ⟨O, N⟩ = some (.val (.app 1 ((be2 v).map c8) N), ⟨O ++ [(N, .tok 1 2)], N + 1⟩) := by
  have h1 := rnum1 (v := v / 256) (by omega) O N hT
  have h2 := rnum_step h 1 (by omega) O N _ hT (by simp) h1
  have e : (be2 v).map c8 = [[AV.int .u8 (v / 256 % 256)]] ++ [[.int .u8 (v % 256)]] := by simp [be2, c8e]
  rw [e]
  exact h2
theorem rnum4 {v : Int} (h : 0 ≤ v ∧ v ≤ 4294967295) (O : List (Nat × AO)) (N : Nat) (hT : Tail O N) : callI Φ f_ref28_number [.int .i64 v, .int .i64 4] ⟨O, N⟩ = some (.val (.app 1 ((be4 v).map c8) N), ⟨O ++ [(N, .tok 1 4)], N + 1⟩) := by
  have h2 := rnum2 (v := v / 256 / 256) (by omega) O N hT
  have h3 := rnum_step (v := v / 256) (by omega) 2 (by omega) O N _ hT (by simp [be2]) h2
  have h4 := rnum_step h 3 (by omega) O N _ hT (by simp [be2]) h3
  have e : (be4 v).map c8 = (be2 (v / 256 / 256)).map c8 ++ [[AV.int .u8 (v / 256 % 256)]] ++ [[.int .u8 (v % 256)]] := by
    simp [be4, be2, c8e]; omega
  rw [e]
  exact h4
theorem pnum2 {v : Int} (h : 0 ≤ v ∧ v ≤ 4294967295) : pureI Φ f_ref28_number [.int .i64 v, .int .i64 2] = some (.val (.slice 1 ((be2 v).map c8))) := by
  unfold pureI
  have := rnum2 h [] 0 (Tail.nil 0)
  rw [show H0 = ⟨[], 0⟩ from rfl, this]
  simp [pureRt, snapFuel]
theorem pnum4 {v : Int} (h : 0 ≤ v ∧ v ≤ 4294967295) : pureI Φ f_ref28_number [.int .i64 v, .int .i64 4] = some (.val (.slice 1 ((be4 v).map c8))) := by
  unfold pureI
  have := rnum4 h [] 0 (Tail.nil 0)
  rw [show H0 = ⟨[], 0⟩ from rfl, this]
  simp [pureRt, snapFuel]
theorem rshort (n : Int) : pureI Φ f_ref28_short [.int .i64 n] = some (.val (.bool (shortI n))) := by
  rw [pureI_go (fn := c_ref28_short) rfl rfl]
  by_cases q : 0 ≤ n <;> simp [c_ref28_short, shortI, q]
theorem rcallE (c : ActionCall) : pureI Φ f_ref28_encodableCall [.agg (cC c)] = some (.val (.bool (callEJ c))) := by
  rw [pureI_go (fn := c_ref28_encodableCall) rfl rfl]
  have h := rshort c.action
  cases q : shortI c.action with
  | false => rw [q] at h; simp [c_ref28_encodableCall, cC_e, callEJ, h, q]
  | true => rw [q] at h; simp [c_ref28_encodableCall, cC_e, callEJ, h, q]
theorem rencodable (o : TableOp) : pureI Φ f_ref28_Encodable [.agg (TableOp.c o)] = some (.val (.bool (opE o))) := by
  rw [pureI_go (fn := c_ref28_Encodable) rfl rfl]
  have h1 := rshort o.table
  have h2 := rshort o.entry.priority
  have h3 := rcallE o.entry.call
  have h4 := rcallE o.call
  simp only [cC_e] at h3 h4
  have hid : idI o.id = (decide (0 ≤ o.id) && decide (o.id ≤ 2147483647)) := rfl
  cases q1 : shortI o.table with
  | false =>
    have e : opE o = false := by simp [opE, q1]
    rw [e]
    rw [q1] at h1
    simp [c_ref28_Encodable, TableOp.ce, h1]
  | true =>
  rw [q1] at h1
  by_cases c1 : o.kind = 1
  · have e : opE o = (shortI o.entry.priority && (decide (o.entry.keys.length ≤ 255) && callEJ o.entry.call)) := by simp [opE, c1, q1]
    rw [e]
    by_cases qi : 0 ≤ o.id <;> cases q2 : shortI o.entry.priority <;> by_cases q3 : o.entry.keys.length ≤ 255 <;> rw [q2] at h2 <;> simp [c_ref28_Encodable, TableOp.ce, c1, qi, h1, h2, h3, q3]
  by_cases c2 : o.kind = 2
  · have e : opE o = (idI o.id && callEJ o.call) := by simp [opE, c2, q1]
    rw [e, hid]
    by_cases qi : 0 ≤ o.id <;> by_cases qj : o.id ≤ 2147483647 <;> simp [c_ref28_Encodable, TableOp.ce, c2, qi, qj, h1, h4]
  by_cases c3 : o.kind = 3
  · have e : opE o = idI o.id := by simp [opE, c3, q1]
    rw [e, hid]
    by_cases qi : 0 ≤ o.id <;> by_cases qj : o.id ≤ 2147483647 <;> simp [c_ref28_Encodable, TableOp.ce, c3, qi, qj, h1]
  by_cases c4 : o.kind = 4
  · have e : opE o = callEJ o.call := by simp [opE, c4, q1]
    rw [e]
    by_cases qi : 0 ≤ o.id <;> simp [c_ref28_Encodable, TableOp.ce, c4, qi, h1, h4]
  · have e : opE o = false := by simp [opE, c1, c2, c3, c4]
    rw [e]
    by_cases qi : 0 ≤ o.id <;> simp [c_ref28_Encodable, TableOp.ce, c1, c2, c3, c4, qi, h1]
theorem aoEq_call (c : ActionCall) : aoEq (some (.row 2 [[.int .i64 c.action, .slice 1 (c.args.map c32)]])) (some (.row 2 [[.int .i64 c.action, .slice 1 (c.args.map c32)]])) = true := by
  apply aoEq_rowc
  intro x hx
  simp only [List.mem_cons, List.not_mem_nil, or_false] at hx
  rcases hx with rfl | rfl
  · exact avEq_int 39 _ _
  · refine avEq_sl 39 _ _ (eqL_refl _ _ ?_)
    intro x hx
    obtain ⟨y, _, rfl⟩ := List.mem_map.1 hx
    rw [c32eJ]
    exact eqL_refl _ _ (by simp; exact avEq_int 38 _ _)
theorem rcallB (c : ActionCall) (hc : callEJ c = true) (ho : okC c) : pureI Φ f_ref28_call [.agg (cC c)] = some (.val (.slice 1 ((callB c).map c8))) := by
  simp [callEJ, shortI] at hc
  rw [pureI_go (fn := c_ref28_call) rfl rfl]
  have h2 := rnum2 (v := c.action) (by omega)
  have hw : IntKind.wrap .u8 (c.args.length : Int) = (c.args.length : Int) := by rw [wr8u]; omega
  have ha := aoEq_call c
  have h2' := h2 [(0, .row 2 [[.int .i64 c.action, .slice 1 (c.args.map c32)]]), (14, .res)] 15 (by
    intro j hj
    have a : ¬ 0 = j := by omega
    have b : ¬ 14 = j := by omega
    simp [a, b])
  simp only [be2_c8] at h2'
  simp [c_ref28_call, cC_e, h2', hw, ha]
  have e2 : (callB c).map c8 = ([[AV.int .u8 (c.action / 256 % 256)], [AV.int .u8 (c.action % 256)], [AV.int .u8 c.args.length]] : List (List AV)) ++ (argsB c.args).map c8 := by simp [callB, be2, c8e]
  rw [e2]
  refine loop_nat c.args.length (fun i e h => look 1 e = some (.ptr 0 2 0 0) ∧ look 4 e = some (.int .i64 i) ∧ look 3 e = some (.app 1 (([[AV.int .u8 (c.action / 256 % 256)], [AV.int .u8 (c.action % 256)], [AV.int .u8 c.args.length]] : List (List AV)) ++ (argsB (c.args.take i)).map c8) 15) ∧
    ∃ T N, Tail T N ∧ 16 ≤ N ∧ h = ⟨(0, .row 2 [[.int .i64 c.action, .slice 1 (c.args.map c32)]]) :: (15, .tok 1 (3 + 4 * i)) :: T, N⟩) (fun _ => _) ?_ ?_ 0 _ _ (Nat.zero_le _) ?_
  · rintro i e _ L hi hL ⟨h1, h4, h3, T, N, hT, hN, rfl⟩ ih
    have hwi : IntKind.wrap .i64 ((i : Int) + 1) = ((i + 1 : Nat) : Int) := wrap64 (by omega) (by omega)
    have hx := ho _ (List.getElem_mem hi)
    have hx64 : IntKind.wrap .i64 c.args[i] = c.args[i] := wrap64 (by omega) (by omega)
    have hp := rnum4 hx ((0, .row 2 [[.int .i64 c.action, .slice 1 (c.args.map c32)]]) :: (15, .tok 1 (3 + 4 * i)) :: T) N (by
      intro j hj
      have a : ¬ 0 = j := by omega
      have b : ¬ 15 = j := by omega
      simp [a, b, hT j hj])
    simp only [be4_c8, List.cons_append] at hp
    have hlen : (argsB (c.args.take i)).length = 4 * i := by rw [argsB_length, List.length_take]; omega
    have e3 : 3 + 4 * i = 4 * i + 1 + 1 + 1 := by omega
    have l1 : 4 * i + 1 + 1 + 1 + 4 ≤ 70368744177664 := by omega
    have hE : (([[AV.int .u8 (c.action / 256 % 256)], [AV.int .u8 (c.action % 256)], [AV.int .u8 c.args.length]] : List (List AV)) ++ (argsB (c.args.take i)).map c8).length = 3 + 4 * i := by
      rw [List.length_append, List.length_map, hlen]; simp only [List.length_cons, List.length_nil]
    have hE2 : ([[AV.int .u8 (c.action / 256 % 256)], [AV.int .u8 (c.action % 256)], [AV.int .u8 c.args.length]] : List (List AV)) ++ (argsB (c.args.take (i + 1))).map c8 = (([[AV.int .u8 (c.action / 256 % 256)], [AV.int .u8 (c.action % 256)], [AV.int .u8 c.args.length]] : List (List AV)) ++ (argsB (c.args.take i)).map c8) ++ (be4 c.args[i]).map c8 := by
      rw [argsB_succ hi]; simp
    rw [hE2] at ih
    generalize ([[AV.int .u8 (c.action / 256 % 256)], [AV.int .u8 (c.action % 256)], [AV.int .u8 c.args.length]] : List (List AV)) ++ (argsB (c.args.take i)).map c8 = D at *
    have l2 : 3 + 4 * i + 4 ≤ 70368744177664 := by omega
    simp [c_ref28_call_l0, h1, h3, h4, hi, hL, c32eJ, hx64, hp, hwi, hE, l2]
    exact (ih _ _ ⟨by simp [h1], by simp, by simp [be4_c8], T ++ [(N, .tok 1 4)], N + 1, hT.app _, by omega, by simp [c32eJ]; omega⟩).trans (by simp)
  · rintro e _ L hL ⟨h1, h4, h3, T, N, hT, hN, rfl⟩
    rw [List.take_length] at h3
    simp [c_ref28_call_l0, c_ref28_call_k1, h1, h3, h4, hL]
  · simp [argsB]
    exact ⟨[], 16, Tail.nil 16, Nat.le_refl _, rfl, rfl⟩
end Go.Av
