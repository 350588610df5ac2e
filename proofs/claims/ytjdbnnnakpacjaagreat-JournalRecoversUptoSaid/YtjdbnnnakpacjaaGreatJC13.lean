/-
  The journal's Open.
-/
import Derived.Test.YtjdbnnnakpacjaaGreatJC12
set_option linter.unusedVariables false
set_option linter.unusedSimpArgs false
set_option linter.constructorNameAsVariable false
namespace Go.Av
set_option maxRecDepth 4000
theorem OpS_sm {o : TableOp} (h : smO o) : OpS o := by
  have c : ∀ v : Int, 0 ≤ v ∧ v ≤ 4294967295 → ok32 0 v := fun v h => by unfold ok32; omega
  exact ⟨⟨h.1.1, fun m hm => ⟨c _ (h.1.2.1 m hm).1, c _ (h.1.2.1 m hm).2⟩, h.1.2.2.1, fun v hv => c _ (h.1.2.2.2 v hv)⟩, ⟨h.2.1, fun v hv => c _ (h.2.2 v hv)⟩⟩
def RJ (N : Nat) (O : List (Nat × AO)) (t : Nat) (R : AV) (p : Prg) (g : LgV) (b : List Int) (r : Option (Rt × AH)) : Prop :=
  ∃ O' N' R', N ≤ N' ∧ Tail O' N' ∧ (∀ j, tid R' = some j → tid R = some j ∨ N ≤ j) ∧ Kp (fun j => j = t ∨ tid R = some j ∨ Rs O j) N O O' ∧
    (((decB b).2 ≠ 0 ∧ r = some (.val (.int .i64 (decB b).2), ⟨O', N'⟩) ∧ LogM O' t R' p g) ∨
     ((decB b).2 = 0 ∧ ∃ x, badA p g.c (decB b).1 = some x ∧ r = some (.val (.int .i64 x.2), ⟨O', N'⟩) ∧ LogM O' t R' p g) ∨
     ((decB b).2 = 0 ∧ badA p g.c (decB b).1 = none ∧ r = some (.val (.int .i64 0), ⟨O', N'⟩) ∧ LogM O' t R' p (cmt p g (decB b).1)))
theorem lreplay_ok (p : Prg) (op : p.Ok bulkMax) (hc : (pre p.control).length < 2 ^ 40 - 1) (hp : p.tables.length < 2 ^ 40) {g : LgV} (s : CfgT g.c) (hn : g.n < 2 ^ 40) (hb : g.b.length < 2 ^ 40) {b : List Int} (hbb : okB b)
    {O : List (Nat × AO)} {N t : Nat} {R : AV} (hT : Tail O N) (m : LogM O t R p g) : RJ N O t R p g b (callI Φ f_journal_Log_replay [.ptr t 16 0 0, .slice 1 (b.map c8)] ⟨O, N⟩) := by
  rw [callI_go (fn := c_journal_Log_replay) rfl rfl]
  have k1 := dDecode_ok b hbb
  obtain ⟨_, r2⟩ := decB_rng hbb
  by_cases z : (decB b).2 = 0
  rotate_left
  · simp [c_journal_Log_replay, k1, z]
    exact ⟨O, N, R, Nat.le_refl _, hT, fun j hj => .inl hj, Kp.refl, .inl ⟨z, rfl, m⟩⟩
  obtain ⟨O', N', R', hN', hT', hR', hk, hcj⟩ := lcommit_ok p op hc hp s hn hb (fun o ho => OpS_sm (r2 o ho)) (.inl rfl) hT m
  rw [z] at k1
  cases hA : badA p g.c (decB b).1 with
  | some x =>
    obtain ⟨k, x⟩ := x
    rw [hA] at hcj
    obtain ⟨hr, m'⟩ := hcj
    simp [c_journal_Log_replay, k1, hr]
    exact ⟨O', N', R', hN', hT', hR', hk, .inr (.inl ⟨z, (k, x), hA, rfl, m'⟩)⟩
  | none =>
    rw [hA] at hcj
    obtain ⟨hr, m'⟩ := hcj
    simp [c_journal_Log_replay, k1, hr]
    exact ⟨O', N', R', hN', hT', hR', hk, .inr (.inr ⟨z, hA, rfl, m'⟩)⟩
def OpQ (N0 : Nat) (O0 : List (Nat × AO)) (t : Nat) (p : Prg) (out : Option LgV × Int × Int) (r : Option (Rt × AH)) : Prop :=
  ∃ O' N', N0 ≤ N' ∧ Tail O' N' ∧ Kp (Rs O0) N0 O0 O' ∧
    match out.1 with
    | some g' => ∃ R', r = some (.val (.tup [.ptr t 16 0 0, .int .i64 out.2.1, .int .i64 out.2.2]), ⟨O', N'⟩) ∧ LogM O' t R' p g' ∧ (∀ j, tid R' = some j → N0 ≤ j) ∧ LgS p g' (2 ^ 21)
    | none => r = some (.val (.tup [.nilptr, .int .i64 out.2.1, .int .i64 out.2.2]), ⟨O', N'⟩)
structure OpI (N0 : Nat) (O0 : List (Nat × AO)) (t : Nat) (p : Prg) (b : List Int) (x : LgV × Nat) (e : Env) (h : AH) : Prop where
  ex : ∃ R O N, h = ⟨O, N⟩ ∧ N0 ≤ N ∧ Tail O N ∧ LogM O t R p x.1 ∧ Kp (Rs O0) N0 O0 O ∧ (∀ j, tid R = some j → N0 ≤ j)
  u : x.2 ≤ b.length
  s : ∃ i, 8 * i + (b.length - x.2) ≤ 2 ^ 24 ∧ LgS p x.1 i
  e1 : look 1 e = some (.slice 1 (b.map c8))
  e4 : look 4 e = some (.ptr t 16 0 0)
  e5 : look 5 e = some (.int .i64 (x.2 : Nat))
theorem open_loop (p : Prg) (op : p.Ok bulkMax) (hc : (pre p.control).length < 2 ^ 40 - 1) (hp : p.tables.length < 2 ^ 40) {b : List Int} (hbb : okB b) (hbl : b.length ≤ 2 ^ 24) {N0 t : Nat} {O0 : List (Nat × AO)} (ht : N0 ≤ t) :
    ∀ x e h, OpI N0 O0 t p b x e h → ∀ k, b.length - x.2 ≤ k → OpQ N0 O0 t p (opn p k x.1 x.2 (b.drop x.2)) (go Φ (finC [.tmp 4, .tmp 5, .tmp 6]) [.c (.loop c_journal_Open_l0), .b 0, .c c_journal_Open_k1] .normal ⟨e, h⟩) := by
  refine loopQ (fun x : LgV × Nat => b.length - x.2) (OpI N0 O0 t p b) (fun x r => ∀ k, b.length - x.2 ≤ k → OpQ N0 O0 t p (opn p k x.1 x.2 (b.drop x.2)) r) ?_
  rintro ⟨g, u⟩ e h L hL I ih k hk
  obtain ⟨⟨R, O, N, rfl, hN, hT, m, hkp, hR⟩, hu, ⟨i, hi, S⟩, e1, e4, e5⟩ := I
  simp only at *
  by_cases q : u < b.length
  rotate_left
  · have hu2 : u = b.length := by omega
    subst hu2
    have ho : opn p k g (b.length : Nat) (b.drop b.length) = (some g, ((b.length : Nat) : Int), 0) := by cases k <;> simp [opn]
    rw [ho]
    simp [c_journal_Open_l0, c_journal_Open_k1, e1, e4, e5, hL]
    exact ⟨O, N, hN, hT, hkp, R, rfl, m, hR, S.mono (by omega)⟩
  obtain ⟨k, rfl⟩ : ∃ n, k = n + 1 := ⟨k - 1, by omega⟩
  have hne : ¬ b.drop u = [] := by
    intro h
    have := congrArg List.length h
    simp at this; omega
  have hod : okB (b.drop u) := okB_drop hbb u
  have k1 := kunframe (b.drop u) hod (by simp; omega)
  rw [List.map_drop] at k1
  have x4 : ((b.map c8).drop u).take (b.length - u) = (b.map c8).drop u := List.take_of_length_le (by simp)
  have c1 : (u : Int) < (b.length : Int) := by omega
  have c2 : (0 : Int) ≤ (u : Int) ∧ (u : Int) ≤ (b.length : Int) := by omega
  rw [opn, if_neg hne]
  by_cases z1 : (unfB (b.drop u)).2.2 = 0
  rotate_left
  · rw [if_pos z1]
    simp [c_journal_Open_l0, c_journal_Open_k1, e1, e4, e5, c1, c2, x4, k1, z1, hL]
    exact ⟨O, N, hN, hT, hkp, R, rfl, m, hR, S.mono (by omega)⟩
  obtain ⟨body, n, hU⟩ : ∃ body n, unfB (b.drop u) = (body, n, 0) := ⟨(unfB (b.drop u)).1, (unfB (b.drop u)).2.1, by rw [← z1]⟩
  obtain ⟨n8, nl, nb, hob⟩ := unf_in hod hU
  rw [List.length_drop] at nl
  rw [hU] at k1
  rw [hU]
  simp only [ne_eq, not_true, if_false] at k1 ⊢
  have gn := S.n
  have gb := S.b
  obtain ⟨O', N', R', hN', hT', hR', hk', hcj⟩ := lreplay_ok p op hc hp S.s (by omega) (by omega) hob hT m
  have hkp' : Kp (Rs O0) N0 O0 O' := by
    intro j hj hx
    rw [hk' j (by omega) ?_, hkp j hj hx]
    rintro (h | h | h)
    · omega
    · have := hR j h; omega
    · unfold Rs at h
      rw [hkp j hj hx] at h
      exact hx h
  have hR2 : ∀ j, tid R' = some j → N0 ≤ j := fun j hj => by
    rcases hR' j hj with h | h
    · exact hR j h
    · omega
  rcases hcj with ⟨y1, hr, m'⟩ | ⟨y1, x, hA, hr, m'⟩ | ⟨y1, hA, hr, m'⟩
  · rw [if_pos y1]
    simp [c_journal_Open_l0, c_journal_Open_k1, e1, e4, e5, c1, c2, x4, k1, hr, y1, hL]
    exact ⟨O', N', by omega, hT', hkp', rfl⟩
  · rw [if_neg (by simpa using y1), hA]
    have hx : x.2 ≠ 0 := badA_ne (k := x.1) (e := x.2) hA
    simp [c_journal_Open_l0, c_journal_Open_k1, e1, e4, e5, c1, c2, x4, k1, hr, hx, hL]
    exact ⟨O', N', by omega, hT', hkp', rfl⟩
  · rw [if_neg (by simpa using y1), hA]
    have hw : IntKind.wrap .i64 ((u : Int) + n) = ((u + n.toNat : Nat) : Int) := (wrap64 (by omega) (by omega)).trans (by omega)
    have hd : (b.drop u).drop n.toNat = b.drop (u + n.toNat) := by rw [List.drop_drop]
    have hu2 : (u : Int) + n = ((u + n.toNat : Nat) : Int) := by omega
    simp only [hd, hu2]
    obtain ⟨u', hu'⟩ : ∃ u', u + n.toNat = u' := ⟨_, rfl⟩
    rw [hu'] at hw ⊢
    have S' := S.cmt hp (l := (decB body).1) (fun o ho => OpS_sm ((decB_rng hob).2 o ho))
    simp [c_journal_Open_l0, e1, e4, e5, c1, c2, x4, k1, hr, hw]
    exact ih (cmt p g (decB body).1, u') _ _ (by simp only; omega) ⟨⟨R', O', N', rfl, by omega, hT', m', hkp', hR2⟩, by simp only; omega, ⟨i + 1, by simp only; omega, S'⟩, by simp [e1], by simp [e4], by simp⟩ k (by simp only; omega)
theorem open_ok (p : Prg) (op : p.Ok bulkMax) (hc : (pre p.control).length < 2 ^ 40 - 1) {b : List Int} (hbb : okB b) (hbl : b.length ≤ 2 ^ 24) (z : (prgD p).1 = 0) {O : List (Nat × AO)} {N : Nat} (hT : Tail O N) :
    OpQ N O (N + 2) p (opn p b.length (lg0 p) 0 b) (callI Φ f_journal_Open [.agg (Prg.c p), .slice 1 (b.map c8)] ⟨O, N⟩) := by
  have f := PrgS_of op
  rw [callI_go (fn := c_journal_Open) rfl rfl]
  have t0 := hT N (Nat.le_refl _)
  have hT1 : Tail (O ++ [(N, .row 9 [Prg.c p])]) (N + 1) := hT.app1 (Nat.le_refl _)
  have k1 := newOk_ok p op hc z hT1
  have hT2 : Tail (O ++ [(N, AO.row 9 [Prg.c p]), (N + 1, .row 9 [Prg.c p]), (N + 1 + 1, .row 16 [lgRow p (emptyC p) (.fslice 1 []) 0])]) (N + 1 + 2) := Tail_append_iff.2 ⟨hT.mono (by omega), by simp [Tail_cons_iff, Tail_nil_iff]; omega⟩
  have t2 := hT (N + 2) (by omega)
  have hm : LogM (O ++ [(N, AO.row 9 [Prg.c p]), (N + 1, .row 9 [Prg.c p]), (N + 1 + 1, .row 16 [lgRow p (emptyC p) (.fslice 1 []) 0])]) (N + 2) (.fslice 1 []) p (lg0 p) := ⟨by simp [lk_app, t2, lg0], .inl ⟨rfl, rfl⟩⟩
  have hk : Kp (Rs O) N O (O ++ [(N, AO.row 9 [Prg.c p]), (N + 1, .row 9 [Prg.c p]), (N + 1 + 1, .row 16 [lgRow p (emptyC p) (.fslice 1 []) 0])]) := by
    intro j hj _
    rw [lk_app]
    have : look j [(N, AO.row 9 [Prg.c p]), (N + 1, .row 9 [Prg.c p]), (N + 1 + 1, .row 16 [lgRow p (emptyC p) (.fslice 1 []) 0])] = none := by
      have a1 : ¬ N = j := by omega
      have a2 : ¬ N + 1 = j := by omega
      have a3 : ¬ N + 1 + 1 = j := by omega
      simp [look, a1, a2, a3]
    rw [this]; simp
  have hl := open_loop p op hc f.t hbb hbl (N0 := N) (t := N + 2) (O0 := O) (by omega) (lg0 p, 0)
  simp only [Prg.e, List.append_assoc, List.cons_append, List.nil_append] at k1 hT2 hm hk
  simp [c_journal_Open, Prg.e, t0, k1]
  exact hl _ _ ⟨⟨_, _, _, rfl, by omega, hT2, hm, hk, by simp [tid]⟩, by simp, ⟨0, by simp; omega, lg0_s op z 0⟩, by simp, by simp, by simp⟩ b.length (by simp)
end Go.Av
