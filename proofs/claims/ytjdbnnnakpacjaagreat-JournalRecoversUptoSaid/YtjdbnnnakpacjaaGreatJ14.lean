/-
  The encoder's operations.
-/
import Derived.Test.YtjdbnnnakpacjaaGreatJ13
set_option linter.unusedVariables false
set_option linter.unusedSimpArgs false
set_option linter.constructorNameAsVariable false
namespace Go.Av
set_option maxRecDepth 4000
def opC1 : ACode := match c_journal_appendOp.body with | .seq a _ => a | c => c
def opC2 : ACode := match c_journal_appendOp.body with | .seq _ (.seq a _) => a | c => c
def opC3 : ACode := match c_journal_appendOp.body with | .seq _ (.seq _ a) => a | c => c
theorem opC_eq : c_journal_appendOp.body = .seq opC1 (.seq opC2 opC3) := rfl
theorem avEq_sl (n z : Nat) (es : List (List AV)) (h : eqL (eqL (avEq n)) es es = true) : avEq (n + 1) (.slice z es) (.slice z es) = true := by unfold avEq; simp [h]
theorem aoEq_op (o : TableOp) : aoEq (some (.row 9 [TableOp.c o])) (some (.row 9 [TableOp.c o])) = true := by
  apply aoEq_rowc
  intro x hx
  have hk : ∀ l : List KeyMatch, avEq 40 (.slice 2 (l.map KeyMatch.c)) (.slice 2 (l.map KeyMatch.c)) = true := by
    intro l
    refine avEq_sl 39 _ _ (eqL_refl _ _ ?_)
    intro x hx
    obtain ⟨y, _, rfl⟩ := List.mem_map.1 hx
    rw [KeyMatch.ceJ]
    exact eqL_refl _ _ (by simp; exact ⟨avEq_int 38 _ _, avEq_int 38 _ _⟩)
  have ha : ∀ l : List Int, avEq 40 (.slice 1 (l.map c32)) (.slice 1 (l.map c32)) = true := by
    intro l
    refine avEq_sl 39 _ _ (eqL_refl _ _ ?_)
    intro x hx
    obtain ⟨y, _, rfl⟩ := List.mem_map.1 hx
    rw [c32eJ]
    exact eqL_refl _ _ (by simp; exact avEq_int 38 _ _)
  rw [TableOp.ce] at hx
  simp only [List.mem_cons, List.not_mem_nil, or_false] at hx
  rcases hx with rfl | rfl | rfl | rfl | rfl | rfl | rfl | rfl | rfl
  case _ => exact avEq_int 39 _ _
  case _ => exact avEq_int 39 _ _
  case _ => exact avEq_int 39 _ _
  case _ => exact hk _
  case _ => exact avEq_int 39 _ _
  case _ => exact avEq_int 39 _ _
  case _ => exact ha _
  case _ => exact avEq_int 39 _ _
  case _ => exact ha _
def opT (o : TableOp) : List Int := be2 o.table ++ (if o.kind = 1 then be2 o.entry.priority ++ ((o.entry.keys.length : Int) :: (keysB o.entry.keys ++ callB o.entry.call)) else if o.kind = 2 then be4 o.id ++ callB o.call else if o.kind = 3 then be4 o.id else callB o.call)
theorem opB_eq (o : TableOp) : opB o = o.kind :: opT o := rfl
theorem look_sweepL {t z f : Nat} : ∀ {O : List (Nat × AO)}, look t O = some (.tok z f) → look t (sweepL O) = some (.tok z f)
  | [], h => by simp at h
  | (u, w) :: r, h => by
    by_cases hu : u = t
    · subst hu
      simp at h
      subst h
      simp
    · simp [hu] at h
      have := look_sweepL h
      cases w <;> simp [hu, this]
theorem Tail_sweepL {N : Nat} : ∀ {O : List (Nat × AO)}, Tail O N → Tail (sweepL O) N
  | [], h => by simpa using h
  | (u, w) :: r, h => by
    have hr : Tail r N := by
      intro j hj
      have := h j hj
      by_cases hu : u = j
      · subst hu; simp at this
      · simpa [hu] using this
    have ih := Tail_sweepL hr
    intro j hj
    have hu : ¬ u = j := by
      intro hu
      subst hu
      have := h u hj
      simp at this
    have := ih j hj
    cases w <;> simp [hu, this]
theorem keysB_succ {l : List KeyMatch} {i : Nat} (hi : i < l.length) : keysB (l.take (i + 1)) = keysB (l.take i) ++ (be4 l[i].value ++ be4 l[i].mask) := by
  unfold keysB
  rw [List.take_succ_eq_append_getElem hi, List.map_append, List.flatten_append]
  simp [keyB]
theorem keysB_length : ∀ l : List KeyMatch, (keysB l).length = 8 * l.length
  | [] => by simp [keysB]
  | x :: l => by
    have := keysB_length l
    have e : keysB (x :: l) = keyB x ++ keysB l := by simp [keysB]
    rw [e, List.length_append, this]
    simp [keyB, be4]; omega
theorem Tail.ltJ {O : List (Nat × AO)} {N t : Nat} {x : AO} (hT : Tail O N) (h : look t O = some x) : t < N := by
  rcases Nat.lt_or_ge t N with h1 | h1
  · exact h1
  · rw [hT t h1] at h; cases h
theorem aop_loop {N0 t p : Nat} {E : List (List AV)} {o : TableOp} (hpt : p ≠ t) (hE : E.length ≤ 274877916944) (hl : o.entry.keys.length ≤ 255) (ho : ∀ x ∈ o.entry.keys, okK x) (ha : o.entry.call.args.length ≤ 255) (ho2 : okC o.entry.call)
    (e : Env) (O : List (Nat × AO)) (N : Nat) (hN0 : N0 ≤ N) (hT : Tail O N) (h : look t O = some (.tok 1 E.length)) (hp : look p O = some (.row 9 [TableOp.c o]))
    (h0 : look 0 e = some (.app 1 E t)) (h3 : look 3 e = some (.ptr p 9 0 0)) (h36 : look 36 e = some (.slice 2 (o.entry.keys.map KeyMatch.c))) (h37 : look 37 e = some (.int .i64 o.entry.keys.length)) (h38 : look 38 e = some (.int .i64 0)) :
    AQ t N0 (E ++ ((keysB o.entry.keys).map c8 ++ (callB o.entry.call).map c8)) (go Φ (finC [.tmp 4]) [.c (.loop c_journal_appendOp_l0), .b 1, .c c_journal_appendOp_k1, .b 0, .c c_journal_appendOp_k2] .normal ⟨e, ⟨O, N⟩⟩) := by
  refine loop_recQ (fun i : Nat => o.entry.keys.length - i) (fun i e h => i ≤ o.entry.keys.length ∧ look 0 e = some (.app 1 (E ++ (keysB (o.entry.keys.take i)).map c8) t) ∧ look 3 e = some (.ptr p 9 0 0) ∧ look 36 e = some (.slice 2 (o.entry.keys.map KeyMatch.c)) ∧ look 37 e = some (.int .i64 o.entry.keys.length) ∧ look 38 e = some (.int .i64 i) ∧
    ∃ O N, N0 ≤ N ∧ Tail O N ∧ look t O = some (.tok 1 (E ++ (keysB (o.entry.keys.take i)).map c8).length) ∧ look p O = some (.row 9 [TableOp.c o]) ∧ h = ⟨O, N⟩) (fun _ => AQ t N0 (E ++ ((keysB o.entry.keys).map c8 ++ (callB o.entry.call).map c8))) ?_ 0 e _ ⟨Nat.zero_le _, by simp [h0, keysB], h3, h36, h37, by simp [h38], O, N, hN0, hT, by simp [h, keysB], hp, rfl⟩
  rintro i e _ L hL ⟨hi, h0, h3, h36, h37, h38, O, N, hN0, hT, h, hp, rfl⟩ ih
  have htN := hT.ltJ h
  have hpN := hT.ltJ hp
  have hlenT : (E ++ (keysB (o.entry.keys.take i)).map c8).length ≤ 274877926944 := by
    rw [List.length_append, List.length_map, keysB_length, List.length_take]; omega
  rcases Nat.lt_or_ge i o.entry.keys.length with hlt | hge
  · have hw : IntKind.wrap .i64 ((i : Int) + 1) = ((i + 1 : Nat) : Int) := wrap64 (by omega) (by omega)
    obtain ⟨hx, hy⟩ := ho _ (List.getElem_mem hlt)
    have hx64 : IntKind.wrap .i64 o.entry.keys[i].value = o.entry.keys[i].value := wrap64 (by omega) (by omega)
    have hy64 : IntKind.wrap .i64 o.entry.keys[i].mask = o.entry.keys[i].mask := wrap64 (by omega) (by omega)
    have hNN := hT N (Nat.le_refl _)
    have hNt : ¬ N = t := by omega
    have hNp : ¬ N = p := by omega
    have hD2 : E ++ (keysB (o.entry.keys.take (i + 1))).map c8 = (E ++ (keysB (o.entry.keys.take i)).map c8) ++ ((be4 o.entry.keys[i].value).map c8 ++ (be4 o.entry.keys[i].mask).map c8) := by
      rw [keysB_succ hlt]; simp
    generalize E ++ (keysB (o.entry.keys.take i)).map c8 = D at *
    have h4 := anum4 (O := O ++ [(N, .row 2 [[.int .u32 o.entry.keys[i].value, .int .u32 o.entry.keys[i].mask]])]) (N := N + 1) (v := o.entry.keys[i].value) (by rw [look_append2, h]; rfl) (by omega : D.length ≤ 1099511627776)
    have h5 := anum4 (O := setl t (.tok 1 (D.length + 4)) O ++ [(N, .row 2 [[.int .u32 o.entry.keys[i].value, .int .u32 o.entry.keys[i].mask]])]) (N := N + 1) (t := t) (v := o.entry.keys[i].mask)
      (E := D ++ [[.int .u8 (o.entry.keys[i].value / 16777216 % 256)], [.int .u8 (o.entry.keys[i].value / 65536 % 256)], [.int .u8 (o.entry.keys[i].value / 256 % 256)], [.int .u8 (o.entry.keys[i].value % 256)]])
      (by rw [look_append2, look_setl_eq h, List.length_append]; rfl) (by rw [List.length_append]; simp only [List.length_cons, List.length_nil]; omega)
    rw [setl_appL h] at h4
    rw [setl_appL (look_setl_eq h)] at h5
    simp only [setl_setl, List.append_assoc, List.cons_append, List.nil_append] at h5
    have hl2 : look N (setl t (.tok 1 (D.length + 4)) O) = none := by rw [look_setl_ne hNt]; exact hNN
    simp [c_journal_appendOp_l0, h0, h3, h36, h37, h38, hlt, hL, KeyMatch.ceJ, hx64, hy64, hw, hNN, h4, h5, hl2]
    refine ih (i + 1) _ _ (by omega) ⟨hlt, ?_, by simp [h3], by simp [h36, KeyMatch.ceJ], by simp [h37], by simp, _, N + 1, by omega, (Tail_setl hT htN).app _, ?_, ?_, rfl⟩
    · simp [hD2, be4_c8]
    · rw [look_append2, look_setl_eq h, hD2]
      simp [be4]
    · rw [look_append2, look_setl_ne hpt, hp]; rfl
  · have hi' : i = o.entry.keys.length := by omega
    subst hi'
    obtain ⟨O', N', hc, g1, g2, g3⟩ := acall (N := N) (c := o.entry.call) h hT htN (by omega) ha ho2
    simp only [cC_e, List.take_length] at hc
    rw [TableOp.ce] at hp
    rw [List.take_length] at h0
    simp [c_journal_appendOp_l0, c_journal_appendOp_k1, h0, h3, h36, h37, h38, hL, hp, hc]
    rw [List.take_length] at g3
    exact ⟨O', N', by simp, by omega, g2, by simpa using g3⟩
theorem aop_mid {O : List (Nat × AO)} {N0 N t p : Nat} {E : List (List AV)} {o : TableOp} (h : look t O = some (.tok 1 E.length)) (hp : look p O = some (.row 9 [TableOp.c o])) (hpt : p ≠ t) (hT : Tail O N) (ht : t < N) (hN0 : N0 ≤ N) (hE : E.length ≤ 274877906944) (he : opE o = true) (ho : okO o)
    (e : Env) (h0 : look 0 e = some (.app 1 E t)) (h3 : look 3 e = some (.ptr p 9 0 0)) :
    AQ t N0 (E ++ (opT o).map c8) (go Φ (finC [.tmp 4]) [.c opC3] .normal ⟨e, ⟨O, N⟩⟩) := by
  obtain ⟨o1, o2, o3⟩ := ho
  unfold opE at he
  rw [Bool.and_eq_true] at he
  obtain ⟨he1, he2⟩ := he
  have h2 := anum2 (N := N) (v := o.table) h (by omega)
  rw [TableOp.ce] at hp
  by_cases c3 : o.kind = 3
  · have h4 := anum4 (O := setl t (.tok 1 (E.length + 2)) O) (N := N) (t := t) (E := E ++ [[.int .u8 (o.table / 256 % 256)], [AV.int .u8 (o.table % 256)]]) (v := o.id) (by rw [look_setl_eq h]; simp) (by simp; omega)
    rw [c3] at hp
    simp [opC3, c_journal_appendOp, h0, h3, hp, h2, look_setl_ne hpt, h4, setl_setl]
    refine ⟨_, N, by simp [opT, c3, be2_c8, be4_c8]; rfl, hN0, Tail_setl hT ht, ?_⟩
    rw [look_setl_eq h]
    simp [opT, c3, be2, be4]
  have hlk2 : look t (setl t (.tok 1 (E.length + 2)) O) = some (.tok 1 (E ++ [[AV.int .u8 (o.table / 256 % 256)], [AV.int .u8 (o.table % 256)]]).length) := by rw [look_setl_eq h]; simp
  by_cases c4 : o.kind = 4
  · simp [c4] at he2
    simp [callEJ] at he2
    obtain ⟨O', N', hc, g1, g2, g3⟩ := acall (N := N) (c := o.call) hlk2 (Tail_setl hT ht) ht (by simp; omega) he2.2 o3
    simp only [cC_e] at hc
    rw [c4] at hp
    simp [opC3, c_journal_appendOp, c_journal_appendOp_k2, h0, h3, hp, h2, look_setl_ne hpt, hc]
    have e2 : E ++ (opT o).map c8 = (E ++ [[AV.int .u8 (o.table / 256 % 256)], [AV.int .u8 (o.table % 256)]]) ++ (callB o.call).map c8 := by simp [opT, c4, be2_c8]
    rw [e2]
    exact ⟨O', N', by simp, by omega, g2, g3⟩
  by_cases c2 : o.kind = 2
  · simp [c2] at he2
    obtain ⟨hi, he3⟩ := he2
    simp [callEJ] at he3
    have h4 := anum4 (N := N + 1) (v := o.id) hlk2 (by simp; omega)
    have hlk4 : look t (setl t (.tok 1 (E.length + 6)) O) = some (.tok 1 (E ++ [[AV.int .u8 (o.table / 256 % 256)], [AV.int .u8 (o.table % 256)], [AV.int .u8 (o.id / 16777216 % 256)], [AV.int .u8 (o.id / 65536 % 256)], [AV.int .u8 (o.id / 256 % 256)], [AV.int .u8 (o.id % 256)]]).length) := by rw [look_setl_eq h]; simp
    obtain ⟨O', N', hc, g1, g2, g3⟩ := acall (N := N + 1) (c := o.call) hlk4 ((Tail_setl hT ht).mono (Nat.le_succ N)) (Nat.lt_succ_of_lt ht) (by simp; omega) he3.2 o3
    simp only [cC_e] at hc
    have ha := aoEq_op o
    rw [TableOp.ce, c2] at ha
    rw [c2] at hp
    simp [opC3, c_journal_appendOp, h0, h3, hp, h2, look_setl_ne hpt, h4, setl_setl, hc, ha]
    have e2 : E ++ (opT o).map c8 = (E ++ [[AV.int .u8 (o.table / 256 % 256)], [AV.int .u8 (o.table % 256)], [AV.int .u8 (o.id / 16777216 % 256)], [AV.int .u8 (o.id / 65536 % 256)], [AV.int .u8 (o.id / 256 % 256)], [AV.int .u8 (o.id % 256)]]) ++ (callB o.call).map c8 := by simp [opT, c2, be2_c8, be4_c8]
    rw [e2]
    exact ⟨sweepL O', N', by simp, by omega, Tail_sweepL g2, look_sweepL g3⟩
  have c1 : o.kind = 1 := by
    by_cases c1 : o.kind = 1
    · exact c1
    · simp [c1, c2, c3, c4] at he2
  simp [c1] at he2
  obtain ⟨hpr, hkl, hca⟩ := he2
  simp [callEJ] at hca
  have h3' := anum2 (N := N) (v := o.entry.priority) hlk2 (by simp; omega)
  have hlk4 : look t (setl t (.tok 1 (E.length + 4)) O) = some (.tok 1 (E ++ [[AV.int .u8 (o.table / 256 % 256)], [AV.int .u8 (o.table % 256)], [AV.int .u8 (o.entry.priority / 256 % 256)], [AV.int .u8 (o.entry.priority % 256)]]).length) := by rw [look_setl_eq h]; simp
  have hw : IntKind.wrap .u8 (o.entry.keys.length : Int) = (o.entry.keys.length : Int) := by rw [wr8u]; omega
  have hl : E.length + 4 + 1 ≤ 70368744177664 := by omega
  have hE5 : E ++ (opT o).map c8 = (E ++ [[AV.int .u8 (o.table / 256 % 256)], [AV.int .u8 (o.table % 256)], [AV.int .u8 (o.entry.priority / 256 % 256)], [AV.int .u8 (o.entry.priority % 256)], [AV.int .u8 (o.entry.keys.length : Int)]]) ++ ((keysB o.entry.keys).map c8 ++ (callB o.entry.call).map c8) := by
    simp [opT, c1, be2_c8, c8e]
  have key := fun e O N a b c d f g k m n => aop_loop (N0 := N0) (t := t) (p := p) (E := E ++ [[AV.int .u8 (o.table / 256 % 256)], [AV.int .u8 (o.table % 256)], [AV.int .u8 (o.entry.priority / 256 % 256)], [AV.int .u8 (o.entry.priority % 256)], [AV.int .u8 (o.entry.keys.length : Int)]]) (o := o) hpt (by simp; omega) hkl o1 hca.2 o2 e O N a b c d f g k m n
  have hp' := hp
  rw [c1] at hp'
  rw [hE5]
  simp [opC3, c_journal_appendOp, h0, h3, hp', h2, look_setl_ne hpt, h3', setl_setl, look_setl_eq h, hl, hw]
  simp only [List.append_assoc, List.cons_append, List.nil_append] at key
  exact key _ _ N hN0 (Tail_setl hT ht) (by rw [look_setl_eq h]; simp) (by rw [look_setl_ne hpt]; exact hp) (by simp) (by simp [h3]) (by simp) (by simp) (by simp)
def BV (B : AV) (E : List (List AV)) (O : List (Nat × AO)) : Prop := B = .fslice 1 E ∨ ∃ t, B = .app 1 E t ∧ look t O = some (.tok 1 E.length)
theorem opE_kind {o : TableOp} (he : opE o = true) : 1 ≤ o.kind ∧ o.kind ≤ 4 := by
  by_cases k1 : o.kind = 1
  · omega
  by_cases k2 : o.kind = 2
  · omega
  by_cases k3 : o.kind = 3
  · omega
  by_cases k4 : o.kind = 4
  · omega
  · simp [opE, k1, k2, k3, k4] at he
theorem aop {O : List (Nat × AO)} {N : Nat} {B : AV} {E : List (List AV)} {o : TableOp} (hB : BV B E O) (hT : Tail O N) (hE : E.length ≤ 274877906900) (he : opE o = true) (ho : okO o) :
    ∃ t, AQ t N (E ++ (opB o).map c8) (callI Φ f_journal_appendOp [B, .agg (TableOp.c o)] ⟨O, N⟩) := by
  have hk := opE_kind he
  have hw : IntKind.wrap .u8 o.kind = o.kind := by rw [wr8u]; omega
  have hl : E.length + 1 ≤ 70368744177664 := by omega
  have hNN := hT N (Nat.le_refl _)
  have e2 : E ++ (opB o).map c8 = (E ++ [[AV.int .u8 o.kind]]) ++ (opT o).map c8 := by simp [opB_eq, c8e]
  rw [callI_go (fn := c_journal_appendOp) rfl rfl, e2, opC_eq]
  have hres : c_journal_appendOp.results = [.tmp 4] := rfl
  rw [hres]
  rcases hB with rfl | ⟨t, rfl, h⟩
  · refine ⟨N + 1, ?_⟩
    have hN1 := hT (N + 1) (by omega)
    have key := fun e a b => aop_mid (O := O ++ [(N, .row 9 [TableOp.c o]), (N + 1, .tok 1 (E.length + 1))]) (N0 := N) (N := N + 1 + 1) (t := N + 1) (p := N) (E := E ++ [[AV.int .u8 o.kind]]) (o := o) (by simp [look_append2, hN1]) (by simp [look_append2, hNN]) (by omega)
      (by have := (hT.app (.row 9 [TableOp.c o])).app (.tok 1 (E.length + 1)); simpa using this) (by omega) (by omega) (by simp; omega) he ho e a b
    simp [opC1, opC2, c_journal_appendOp, TableOp.ce, hNN, hN1, hw, hl]
    simp only [TableOp.ce, List.append_assoc, List.cons_append, List.nil_append] at key
    exact key _ (by simp) (by simp)
  · refine ⟨t, ?_⟩
    have htN := hT.ltJ h
    have hNt : ¬ N = t := by omega
    have key := fun e a b => aop_mid (O := setl t (.tok 1 (E.length + 1)) O ++ [(N, .row 9 [TableOp.c o])]) (N0 := N) (N := N + 1) (t := t) (p := N) (E := E ++ [[AV.int .u8 o.kind]]) (o := o) (by rw [look_append2, look_setl_eq h]; simp) (by rw [look_append2, look_setl_ne hNt, hNN]; simp) hNt
      ((Tail_setl hT htN).app _) (by omega) (by omega) (by simp; omega) he ho e a b
    simp [opC1, opC2, c_journal_appendOp, TableOp.ce, hNN, hw, hl, look_append2, h, setl_appL h]
    simp only [TableOp.ce, List.append_assoc, List.cons_append, List.nil_append] at key
    exact key _ (by simp) (by simp)
end Go.Av
