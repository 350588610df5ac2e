/-
  The encoder's answer.
-/
import Derived.Test.YtjdbnnnakpacjaaGreatJ14
set_option linter.unusedVariables false
set_option linter.unusedSimpArgs false
set_option linter.constructorNameAsVariable false
namespace Go.Av
set_option maxRecDepth 4000
theorem jshort (n : Int) : pureI Φ f_journal_short [.int .i64 n] = some (.val (.bool (shortI n))) := by
  rw [pureI_go (fn := c_journal_short) rfl rfl]
  by_cases q : 0 ≤ n <;> simp [c_journal_short, shortI, q]
theorem jcallE (c : ActionCall) : pureI Φ f_journal_callEncodable [.agg (cC c)] = some (.val (.bool (callEJ c))) := by
  rw [pureI_go (fn := c_journal_callEncodable) rfl rfl]
  have h := jshort c.action
  cases q : shortI c.action with
  | false => rw [q] at h; simp [c_journal_callEncodable, cC_e, callEJ, h, q]
  | true => rw [q] at h; simp [c_journal_callEncodable, cC_e, callEJ, h, q]
theorem jencodable (o : TableOp) : pureI Φ f_journal_encodable [.agg (TableOp.c o)] = some (.val (.bool (opE o))) := by
  rw [pureI_go (fn := c_journal_encodable) rfl rfl]
  have h1 := jshort o.table
  have h2 := jshort o.entry.priority
  have h3 := jcallE o.entry.call
  have h4 := jcallE o.call
  simp only [cC_e] at h3 h4
  have hid : idI o.id = (decide (0 ≤ o.id) && decide (o.id ≤ 2147483647)) := rfl
  by_cases c1 : o.kind = 1
  · have e : opE o = (shortI o.table && (shortI o.entry.priority && (decide (o.entry.keys.length ≤ 255) && callEJ o.entry.call))) := by simp [opE, c1]
    rw [e]
    by_cases qi : 0 ≤ o.id <;> cases q1 : shortI o.table <;> cases q2 : shortI o.entry.priority <;> by_cases q3 : o.entry.keys.length ≤ 255 <;> rw [q1] at h1 <;> rw [q2] at h2 <;> simp [c_journal_encodable, TableOp.ce, c1, qi, h1, h2, h3, q3]
  by_cases c2 : o.kind = 2
  · have e : opE o = (shortI o.table && (idI o.id && callEJ o.call)) := by simp [opE, c2]
    rw [e, hid]
    by_cases qi : 0 ≤ o.id <;> by_cases qj : o.id ≤ 2147483647 <;> cases q1 : shortI o.table <;> rw [q1] at h1 <;> simp [c_journal_encodable, TableOp.ce, c2, qi, qj, h1, h4]
  by_cases c3 : o.kind = 3
  · have e : opE o = (shortI o.table && idI o.id) := by simp [opE, c3]
    rw [e, hid]
    by_cases qi : 0 ≤ o.id <;> by_cases qj : o.id ≤ 2147483647 <;> cases q1 : shortI o.table <;> rw [q1] at h1 <;> simp [c_journal_encodable, TableOp.ce, c3, qi, qj, h1]
  by_cases c4 : o.kind = 4
  · have e : opE o = (shortI o.table && callEJ o.call) := by simp [opE, c4]
    rw [e]
    by_cases qi : 0 ≤ o.id <;> cases q1 : shortI o.table <;> rw [q1] at h1 <;> simp [c_journal_encodable, TableOp.ce, c4, qi, h1, h4]
  · have e : opE o = false := by simp [opE, c1, c2, c3, c4]
    rw [e]
    by_cases qi : 0 ≤ o.id <;> simp [c_journal_encodable, TableOp.ce, c1, c2, c3, c4, qi]
theorem opB_len {o : TableOp} (h : opE o = true) : (opB o).length ≤ 4000 := by
  unfold opE at h
  rw [Bool.and_eq_true] at h
  obtain ⟨_, h⟩ := h
  have hcall : ∀ c : ActionCall, callEJ c = true → (callB c).length ≤ 1100 := by
    intro c hc
    simp [callEJ] at hc
    simp only [callB, be2, List.length_append, List.length_cons, List.length_nil, argsB_length]; omega
  unfold opB
  by_cases c1 : o.kind = 1
  · simp [c1] at h
    have := hcall _ h.2.2
    rw [if_pos c1]
    simp only [be2, List.length_append, List.length_cons, List.length_nil, keysB_length]
    omega
  by_cases c2 : o.kind = 2
  · simp [c2] at h
    have := hcall _ h.2
    rw [if_neg c1, if_pos c2]
    simp only [be2, be4, List.length_append, List.length_cons, List.length_nil]
    omega
  by_cases c3 : o.kind = 3
  · rw [if_neg c1, if_neg c2, if_pos c3]
    simp only [be2, be4, List.length_append, List.length_cons, List.length_nil]
    omega
  by_cases c4 : o.kind = 4
  · simp [c4] at h
    have := hcall _ h
    rw [if_neg c1, if_neg c2, if_neg c3]
    simp only [be2, List.length_append, List.length_cons, List.length_nil]
    omega
  · simp [c1, c2, c3, c4] at h
theorem opsB_succ {l : List TableOp} {i : Nat} (hi : i < l.length) : opsB (l.take (i + 1)) = opsB (l.take i) ++ opB l[i] := by
  unfold opsB
  rw [List.take_succ_eq_append_getElem hi, List.map_append, List.flatten_append]
  simp
theorem opsB_len : ∀ {l : List TableOp}, (∀ o ∈ l, opE o = true) → (opsB l).length ≤ 4000 * l.length
  | [], _ => by simp [opsB]
  | x :: l, h => by
    have h1 := opsB_len (l := l) (fun y hy => h y (List.mem_cons_of_mem _ hy))
    have h2 := opB_len (h x (List.mem_cons_self ..))
    have e : opsB (x :: l) = opB x ++ opsB l := by simp [opsB]
    rw [e, List.length_append, List.length_cons]
    omega
theorem encB_ok {l : List TableOp} (hl : l.length ≤ 64) (h : ∀ o ∈ l.take l.length, opE o = true) : encB l = (l.length : Int) :: opsB l := by
  rw [List.take_length] at h
  unfold encB
  rw [if_pos ⟨hl, h⟩]
theorem encB_bad {l : List TableOp} {i : Nat} (hi : i < l.length) (h : opE l[i] = false) : encB l = [] := by
  unfold encB
  rw [if_neg]
  intro q
  have := q.2 _ (List.getElem_mem hi)
  rw [h] at this; cases this
theorem jEncode (l : List TableOp) (ho : ∀ o ∈ l, okO o) : pureI Φ f_journal_Encode [.slice 9 (l.map TableOp.c)] = some (.val (.slice 1 ((encB l).map c8))) := by
  rw [pureI_go (fn := c_journal_Encode) rfl rfl]
  by_cases q : 64 < l.length
  · have : encB l = [] := by unfold encB; rw [if_neg (by omega)]
    simp [c_journal_Encode, q, this]
  have hl : l.length ≤ 64 := by omega
  have hw : IntKind.wrap .u8 (l.length : Int) = (l.length : Int) := by rw [wr8u]; omega
  simp [c_journal_Encode, q, hw]
  refine loop_recQ (fun i : Nat => l.length - i) (fun i e h => i ≤ l.length ∧ (∀ o ∈ l.take i, opE o = true) ∧ look 13 e = some (.slice 9 (l.map TableOp.c)) ∧ look 14 e = some (.int .i64 l.length) ∧ look 15 e = some (.int .i64 i) ∧
    ∃ B O N, look 3 e = some B ∧ BV B (([(l.length : Int)] ++ opsB (l.take i)).map c8) O ∧ Tail O N ∧ h = ⟨O, N⟩) (fun _ (r : Option Rt) => r = some (Rt.val (AV.slice 1 ((encB l).map c8)))) ?_ 0 _ _ ⟨Nat.zero_le _, by simp, by simp, by simp, by simp, .fslice 1 [[.int .u8 (l.length : Int)]], [], 0, by simp, .inl (by simp [opsB, c8e]), Tail.nil 0, rfl⟩
  rintro i e _ L hL ⟨hi, hp, h13, h14, h15, B, O, N, h3, hB, hT, rfl⟩ ih
  have hNN := hT N (Nat.le_refl _)
  rcases Nat.lt_or_ge i l.length with hlt | hge
  · have hwi : IntKind.wrap .i64 ((i : Int) + 1) = ((i + 1 : Nat) : Int) := wrap64 (by omega) (by omega)
    have hen := jencodable l[i]
    rw [TableOp.ce] at hen
    cases hq : opE l[i] with
    | false =>
      rw [hq] at hen
      simp [c_journal_Encode_l0, TableOp.ce, h3, h13, h14, h15, hL, hlt, hNN, hen, encB_bad hlt hq]
    | true =>
      rw [hq] at hen
      have hlen : ((([(l.length : Int)] ++ opsB (l.take i)).map c8).length) ≤ 274877906900 := by
        have := opsB_len hp
        rw [List.length_take] at this
        rw [List.length_map, List.length_append]
        simp only [List.length_cons, List.length_nil]
        omega
      have hB2 : BV B (([(l.length : Int)] ++ opsB (l.take i)).map c8) (O ++ [(N, .row 9 [TableOp.c l[i]])]) := by
        rcases hB with h | ⟨t, h, h2⟩
        · exact .inl h
        · exact .inr ⟨t, h, by rw [look_append2, h2]; rfl⟩
      obtain ⟨t, O', N', hc, g1, g2, g3⟩ := aop (N := N + 1) hB2 (hT.app _) hlen hq (ho _ (List.getElem_mem hlt))
      rw [TableOp.ce] at hc
      simp [c_journal_Encode_l0, TableOp.ce, h3, h13, h14, h15, hL, hlt, hNN, hen, hc, hwi]
      have hE2 : ([(l.length : Int)] ++ opsB (l.take (i + 1))).map c8 = ([(l.length : Int)] ++ opsB (l.take i)).map c8 ++ (opB l[i]).map c8 := by
        rw [opsB_succ hlt]; simp
      refine ih (i + 1) _ _ (by omega) ⟨hlt, ?_, by simp [h13, TableOp.ce], by simp [h14], by simp, .app 1 (([(l.length : Int)] ++ opsB (l.take i)).map c8 ++ (opB l[i]).map c8) t, O', N', by simp, by rw [hE2]; exact .inr ⟨t, rfl, g3⟩, g2, rfl⟩
      · intro o ho'
        rw [List.take_succ_eq_append_getElem hlt] at ho'
        rcases List.mem_append.1 ho' with h | h
        · exact hp o h
        · simp at h; rw [h]; exact hq
  · have hi' : i = l.length := by omega
    subst hi'
    rw [encB_ok hl hp]
    rw [List.take_length] at hB
    rcases hB with rfl | ⟨t, rfl, h2⟩
    · simp [c_journal_Encode_l0, c_journal_Encode_k1, h3, h13, h14, h15, hL]
    · simp [c_journal_Encode_l0, c_journal_Encode_k1, h3, h13, h14, h15, hL]
end Go.Av
