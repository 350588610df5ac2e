/-
  The encoder's calls.
-/
import Derived.Test.YtjdbnnnakpacjaaGreatJ12
set_option linter.unusedVariables false
set_option linter.unusedSimpArgs false
set_option linter.constructorNameAsVariable false
namespace Go.Av
set_option maxRecDepth 4000
def AQ (t N : Nat) (E : List (List AV)) (r : Option (Rt × AH)) : Prop :=
  ∃ O' N', r = some (.val (.app 1 E t), ⟨O', N'⟩) ∧ N ≤ N' ∧ Tail O' N' ∧ look t O' = some (.tok 1 E.length)
theorem argsB_succ {l : List Int} {i : Nat} (hi : i < l.length) : argsB (l.take (i + 1)) = argsB (l.take i) ++ be4 l[i] := by
  unfold argsB
  rw [List.take_succ_eq_append_getElem hi, List.map_append, List.flatten_append]
  simp
theorem argsB_length : ∀ l : List Int, (argsB l).length = 4 * l.length
  | [] => by simp [argsB]
  | x :: l => by
    have := argsB_length l
    have e : argsB (x :: l) = be4 x ++ argsB l := by simp [argsB]
    rw [e, List.length_append, this]
    simp [be4]; omega
theorem be4_c8 (v : Int) : (be4 v).map c8 = [[.int .u8 (v / 16777216 % 256)], [.int .u8 (v / 65536 % 256)], [.int .u8 (v / 256 % 256)], [.int .u8 (v % 256)]] := by simp [be4, c8e]
theorem be2_c8 (v : Int) : (be2 v).map c8 = [[.int .u8 (v / 256 % 256)], [.int .u8 (v % 256)]] := by simp [be2, c8e]
theorem acall_loop {N0 N t : Nat} {E : List (List AV)} {l : List Int} (ht : t < N) (hE : E.length ≤ 549755814900) (hl : l.length ≤ 255) (ho : ∀ x ∈ l, 0 ≤ x ∧ x ≤ 4294967295) (hN0 : N0 ≤ N)
    (e : Env) (O : List (Nat × AO)) (hT : Tail O N) (h : look t O = some (.tok 1 E.length)) (h0 : look 0 e = some (.app 1 E t)) (h19 : look 19 e = some (.slice 1 (l.map c32))) (h20 : look 20 e = some (.int .i64 l.length)) (h21 : look 21 e = some (.int .i64 0)) :
    AQ t N0 (E ++ (argsB l).map c8) (go Φ (finC [.tmp 4]) [.c (.loop c_journal_appendCall_l0), .b 0, .c c_journal_appendCall_k1] .normal ⟨e, ⟨O, N⟩⟩) := by
  refine loop_recQ (fun i : Nat => l.length - i) (fun i e h => i ≤ l.length ∧ look 0 e = some (.app 1 (E ++ (argsB (l.take i)).map c8) t) ∧ look 19 e = some (.slice 1 (l.map c32)) ∧ look 20 e = some (.int .i64 l.length) ∧ look 21 e = some (.int .i64 i) ∧
    ∃ O, Tail O N ∧ look t O = some (.tok 1 (E ++ (argsB (l.take i)).map c8).length) ∧ h = ⟨O, N⟩) (fun _ => AQ t N0 (E ++ (argsB l).map c8)) ?_ 0 e _ ⟨Nat.zero_le _, by simp [h0, argsB], h19, h20, by simp [h21], O, hT, by simp [h, argsB], rfl⟩
  rintro i e _ L hL ⟨hi, h0, h19, h20, h21, O, hT, h, rfl⟩ ih
  rcases Nat.lt_or_ge i l.length with hlt | hge
  · have hw : IntKind.wrap .i64 ((i : Int) + 1) = ((i + 1 : Nat) : Int) := wrap64 (by omega) (by omega)
    have hx := ho _ (List.getElem_mem hlt)
    have hx64 : IntKind.wrap .i64 l[i] = l[i] := wrap64 (by omega) (by omega)
    have hlen : (E ++ (argsB (l.take i)).map c8).length ≤ 1099511627776 := by
      rw [List.length_append, List.length_map, argsB_length, List.length_take]; omega
    have h4 := anum4 (N := N) (v := l[i]) h hlen
    simp [c_journal_appendCall_l0, h0, h19, h20, h21, hlt, hL, c32eJ, hx64, hw, h4]
    refine ih (i + 1) _ _ (by omega) ⟨hlt, ?_, by simp [h19, c32eJ], by simp [h20], by simp, _, Tail_setl hT ht, ?_, rfl⟩
    · simp [argsB_succ hlt, be4_c8]
    · rw [look_setl_eq h]
      simp [argsB_succ hlt, be4]; omega
  · have hi' : i = l.length := by omega
    subst hi'
    simp [c_journal_appendCall_l0, c_journal_appendCall_k1, h0, h19, h20, h21, hL]
    refine ⟨O, N, by simp, hN0, hT, ?_⟩
    rw [h]; simp
theorem acall {O : List (Nat × AO)} {N t : Nat} {E : List (List AV)} {c : ActionCall} (h : look t O = some (.tok 1 E.length)) (hT : Tail O N) (ht : t < N) (hE : E.length ≤ 549755813888) (ha : c.args.length ≤ 255) (ho : okC c) :
    AQ t N (E ++ (callB c).map c8) (callI Φ f_journal_appendCall [.app 1 E t, .agg (cC c)] ⟨O, N⟩) := by
  rw [callI_go (fn := c_journal_appendCall) rfl rfl]
  have hN := hT N (Nat.le_refl _)
  have hw : IntKind.wrap .u8 (c.args.length : Int) = (c.args.length : Int) := by rw [wr8u]; omega
  have h2 := anum2 (O := O ++ [(N, .row 2 [cC c])]) (N := N + 1) (t := t) (E := E) (v := c.action) (by rw [look_append2, h]; rfl) (by omega)
  have hl : E.length + 2 + 1 ≤ 70368744177664 := by omega
  have hne : ¬ N = t := by omega
  have hne' : ¬ t = N := by omega
  simp only [cC_e, setl_appL h] at h2
  simp [c_journal_appendCall, cC_e, hN, h2, look_append2, look_setl_eq h, look_setl_ne hne, setl_appL (look_setl_eq h), setl_setl, hl, hw]
  have hl := fun e h1 h2 h3 h4 => acall_loop (N0 := N) (N := N + 1) (t := t) (E := E ++ [[.int .u8 (c.action / 256 % 256)], [.int .u8 (c.action % 256)], [.int .u8 c.args.length]]) (l := c.args) (Nat.lt_succ_of_lt ht) (by rw [List.length_append]; simp only [List.length_cons, List.length_nil]; omega) ha ho (Nat.le_succ N) e
    (setl t (.tok 1 (E.length + 2 + 1)) O ++ [(N, .row 2 [[.int .i64 c.action, .slice 1 (c.args.map c32)]])]) ((Tail_setl hT ht).app _) (by rw [look_append2, look_setl_eq h]; simp) h1 h2 h3 h4
  have e : E ++ (callB c).map c8 = (E ++ [[.int .u8 (c.action / 256 % 256)], [.int .u8 (c.action % 256)], [.int .u8 c.args.length]]) ++ (argsB c.args).map c8 := by
    simp [callB, be2, c8e]
  rw [e]
  exact hl _ (by simp) (by simp) (by simp) (by simp)
end Go.Av
