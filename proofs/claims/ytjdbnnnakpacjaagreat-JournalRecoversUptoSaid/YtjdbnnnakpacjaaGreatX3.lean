/-
  txn.Commit: the loop.
-/
import Derived.Test.YtjdbnnnakpacjaaGreatX2
set_option linter.unusedVariables false
set_option linter.unusedSimpArgs false
set_option linter.constructorNameAsVariable false
namespace Go.Av
set_option maxRecDepth 4000
-- the call that only asks whether the store is one
theorem modN_ok {O : List (Nat × AO)} {N : Nat} {S : SV} {p : Prg} {c : Config} (m : StoreM O S p c) (hl : c.rows.length = p.tables.length) (hT : Tail O N) :
    callI Φ f_store_Store_Modify [.ptr S.s 15 0 0, .int .i64 (-1), .int .i64 0, .agg [.int .i64 0, .fslice 1 []]] ⟨O, N⟩ = some (.val (.int .i64 8), ⟨O ++ [(N, .row 2 [[.int .i64 0, .fslice 1 []]])], N + 1⟩) := by
  rw [callI_go (fn := c_store_Store_Modify) rfl rfl]
  have t0 := hT N (Nat.le_refl _)
  have m1 : StoreM (O ++ [(N, .row 2 [[.int .i64 0, .fslice 1 []]])]) S p c := m.kp (X := fun _ => False) hT (Kp.app (fun _ _ _ => rfl) (Nat.le_refl _)) (by simp)
  have hr := row_ok (N := N + 1) m1 hl (-1) 0
  have hE : rowX p c (-1) 0 = 8 := by simp [rowX, inT]
  rw [hE] at hr
  simp [c_store_Store_Modify, t0, hr]
structure CmF (O : List (Nat × AO)) (M : Nat) (S : SV) (l : List TableOp) (b2 b6 w T : Nat) : Prop where
  fb2 : look b2 O = some (.row 1 [[.ptr S.s 15 0 0]])
  fb6 : look b6 O = some (.row 1 [[.int .i64 0]])
  fw : look w O = some (.row 9 (l.map TableOp.c))
  ft : look T O = some (.tok 1 0)
  n2 : ¬ S.own b2
  n6 : ¬ S.own b6
  nw : ¬ S.own w
  nt : ¬ S.own T
  tl : Tail O M
structure CmI (O0 : List (Nat × AO)) (M : Nat) (S : SV) (p : Prg) (c : Config) (l : List TableOp) (b2 b6 w T : Nat) (i : Nat) (e : Env) (O : List (Nat × AO)) (N : Nat) : Prop where
  tl : Tail O N
  hM : M ≤ N
  st : ∃ S', StoreM O S' p (cfgN p c l i) ∧ S'.s = S.s ∧ ∀ j, S'.own j → S.own j ∨ M ≤ j
  kp : Kp (fun j => S.own j ∨ Rs O0 j ∨ j = T ∨ j = b6) M O0 O
  tk : look T O = some (.tok 1 i)
  k6 : look b6 O = some (.row 1 [[.int .i64 0]])
  bad : badF p c l 0 = badF p (cfgN p c l i) (l.drop i) i
  e2 : look 2 e = some (.ptr b2 1 0 0)
  e6 : look 6 e = some (.ptr b6 1 0 0)
  e7 : look 34 e = some (.row w 9 0 l.length)
  e35 : look 35 e = some (.int .i64 l.length)
  e36 : look 36 e = some (.int .i64 i)
  e9 : look 9 e = some (.app 1 ((List.range i).map fun j => cI (idN p c l j)) T)
def CmQ (O0 : List (Nat × AO)) (M : Nat) (S : SV) (p : Prg) (c : Config) (l : List TableOp) (b6 T : Nat) (r : Option (Ex × St)) : Prop :=
  ∃ e' S' O' N', r = some (.ret, ⟨e', ⟨O', N'⟩⟩) ∧ Tail O' N' ∧ M ≤ N' ∧ S'.s = S.s ∧ (∀ j, S'.own j → S.own j ∨ M ≤ j) ∧ Kp (fun j => S.own j ∨ Rs O0 j ∨ j = T ∨ j = b6) M O0 O' ∧ look 6 e' = some (.ptr b6 1 0 0) ∧
    match badF p c l 0 with
    | some (k, x) => look 4 e' = some (.fslice 1 []) ∧ look 5 e' = some (.int .i64 k) ∧ look b6 O' = some (.row 1 [[.int .i64 x]]) ∧ ∃ d, StoreM O' S' p d
    | none => look 4 e' = some (.app 1 ((List.range l.length).map fun j => cI (idN p c l j)) T) ∧ look T O' = some (.tok 1 l.length) ∧ look 5 e' = some (.int .i64 0) ∧ look b6 O' = some (.row 1 [[.int .i64 0]]) ∧ StoreM O' S' p (cfgN p c l l.length)
theorem cmLoop (p : Prg) (f : PrgS p) (hp : p.tables.length < 2 ^ 40) {c : Config} (v : CfgV p c) (s : CfgT c) (l : List TableOp) (hl64 : l.length ≤ 64) (hl : ∀ o ∈ l, OpS o) {O0 : List (Nat × AO)} {M : Nat} {S : SV} {b2 b6 w T : Nat} (F : CmF O0 M S l b2 b6 w T)
    (e : Env) (O : List (Nat × AO)) (N : Nat) (h0 : CmI O0 M S p c l b2 b6 w T 0 e O N) :
    CmQ O0 M S p c l b6 T (go Φ (fun o => o) [.c (.loop c_txn_Commit_l0), .b 0, .c c_txn_Commit_k1] .normal ⟨e, ⟨O, N⟩⟩) := by
  refine loopNQ l.length (fun i e h => ∃ O N, h = ⟨O, N⟩ ∧ CmI O0 M S p c l b2 b6 w T i e O N) _ ?_ ?_ 0 e _ (Nat.zero_le _) ⟨O, N, rfl, h0⟩
  · rintro i e _ L hi hL ⟨O, N, rfl, I⟩ ih
    obtain ⟨S1, m1, es, ho⟩ := I.st
    obtain ⟨vi, si⟩ := cfgN_ok v s hp l hl i
    have t0 := I.tl N (Nat.le_refl _)
    have hnx : ∀ j x, look j O0 = some x → x ≠ .res → x ≠ .tok 1 0 → x ≠ .row 1 [[.int .i64 0]] → ¬ S.own j → look j O = some x := by
      intro j x hx h1 h2 h3 hn
      refine I.kp.lk F.tl hx ?_
      rintro (h | h | h | h)
      · exact hn h
      · have h : look j O0 = some .res := h
        rw [hx] at h; exact h1 (Option.some.inj h)
      · subst h; rw [F.ft] at hx; exact h2 (Option.some.inj hx).symm
      · subst h; rw [F.fb6] at hx; exact h3 (Option.some.inj hx).symm
    have bw := hnx w _ F.fw (by simp) (by simp) (by simp) F.nw
    have bb := hnx b2 _ F.fb2 (by simp) (by simp) (by simp) F.n2
    have hk1 : Kp (fun _ => False) N O (O ++ [(N, AO.row 9 [TableOp.c l[i]])]) := Kp.app (fun _ _ _ => rfl) (Nat.le_refl _)
    have m1' : StoreM (O ++ [(N, AO.row 9 [TableOp.c l[i]])]) S1 p (cfgN p c l i) := m1.kp (X := fun _ => False) I.tl (Kp.app (fun _ _ _ => rfl) (Nat.le_refl _)) (by simp)
    obtain ⟨S2, O2, N2, e2, x1, x2, x3, x4, x5, x6⟩ := execute_ok m1' f vi si (I.tl.app1 (o := AO.row 9 [TableOp.c l[i]]) (Nat.le_refl N)) l[i] (hl _ (List.getElem_mem hi))
    have hw : IntKind.wrap .i64 ((i : Int) + 1) = ((i + 1 : Nat) : Int) := wrap64 (by omega) (by omega)
    rw [es] at e2 x2
    have hM := I.hM
    have ho2 : ∀ j, S2.own j → S.own j ∨ M ≤ j := fun j hj => by
      rcases x3 j hj with h | h
      · exact ho j h
      · exact .inr (by omega)
    have hkp : Kp (fun j => S.own j ∨ Rs O0 j ∨ j = T ∨ j = b6) M O0 O2 := by
      intro j hj hx
      have h0 : look j O = look j O0 := I.kp j hj hx
      rw [x4 j (by omega), hk1 j (by omega) (by simp), h0]
      rintro (h | h)
      · rcases ho j h with h | h
        · exact hx (.inl h)
        · omega
      · have h' : look j (O ++ [(N, AO.row 9 [TableOp.c l[i]])]) = look j O := hk1 j (by omega) (by simp)
        exact hx (.inr (.inl (by show look j O0 = _; rw [← h0, ← h']; exact h)))
    have kpj : ∀ j x, look j O = some x → x ≠ .res → j < M → ¬ S.own j → look j O2 = some x := by
      intro j x hx hr hj hn
      rw [x4 j (by omega), hk1 j (by omega) (by simp), hx]
      rintro (h | h)
      · rcases ho j h with h | h
        · exact hn h
        · omega
      · have h' : look j (O ++ [(N, AO.row 9 [TableOp.c l[i]])]) = look j O := hk1 j (by omega) (by simp)
        have : look j (O ++ [(N, AO.row 9 [TableOp.c l[i]])]) = some .res := h
        rw [h', hx] at this
        exact hr (Option.some.inj this)
    have tM := F.tl.lt F.ft
    have wt := kpj T _ I.tk (by simp) tM F.nt
    have h6 : look b6 O2 = some (.row 1 [[.int .i64 0]]) := kpj b6 _ I.k6 (by simp) (F.tl.lt F.fb6) F.n6
    have hfr : ∀ t y, t < M → ¬ S.own t → StoreM (setl t y O2) S2 p (xoC p (cfgN p c l i) l[i]) := fun t y ht hn => x1.fr fun j hj => by
      rw [lk_setl, if_neg]
      rintro rfl
      rcases ho2 _ hj with h | h
      · exact hn h
      · omega
    have hb2 : badF p (cfgN p c l i) (l.drop i) i = if xoE p (cfgN p c l i) l[i] = 0 then badF p (xoC p (cfgN p c l i) l[i]) (l.drop (i + 1)) (i + 1) else some (i, xoE p (cfgN p c l i) l[i]) := by
      rw [List.drop_eq_getElem_cons hi, badF]
    have hb := I.bad
    rw [hb2] at hb
    simp only [TableOp.ce2] at e2
    by_cases zi : xoE p (cfgN p c l i) l[i] = 0
    · rw [if_pos zi, ← cfgN_succ p c l hi] at hb
      rw [zi] at e2
      have hr2' : List.map (fun j => cI (idN p c l j)) (List.range (i + 1)) = List.map (fun j => cI (idN p c l j)) (List.range i) ++ [[.int .i64 (xoI p (cfgN p c l i) l[i])]] := by
        rw [List.range_succ, List.map_append, List.map_singleton]
        simp [idN, hi, cI]
      generalize hil : List.map (fun j => cI (idN p c l j)) (List.range i) = il at hr2'
      have hill : il.length = i := by rw [← hil]; simp
      have e9 := I.e9
      rw [hil] at e9
      have h8 : (i + 1) * 8 ≤ 70368744177664 := by omega
      simp [c_txn_Commit_l0, I.e2, I.e7, I.e35, I.e36, e9, hi, bw, bb, t0, lk_app, TableOp.ce2, e2, wt, hill, h8, hw]
      have hbT : ¬ b6 = T := by
        intro h
        have h1 := F.fb6
        rw [h, F.ft] at h1
        cases h1
      have hcs : cfgN p c l (i + 1) = xoC p (cfgN p c l i) l[i] := cfgN_succ p c l hi
      refine ih _ _ ⟨_, _, rfl, ⟨Tail_setl2 x5, by omega, ⟨S2, ?_, x2, ho2⟩, ?_, ?_, ?_, hb, ?_, ?_, ?_, ?_, ?_, ?_⟩⟩
      · rw [hcs]; exact hfr T _ tM F.nt
      · exact hkp.setl (.inr (.inr (.inr (.inl rfl))))
      · simp [lk_setl, wt]
      · rw [lk_setl, if_neg hbT]; exact h6
      · simp [I.e2]
      · simp [I.e6]
      · simp [I.e7]
      · simp [I.e35]
      · simp
      · simp [hr2']
    · rw [if_neg zi] at hb
      simp [c_txn_Commit_l0, I.e2, I.e6, I.e7, I.e35, I.e36, hi, bw, bb, t0, lk_app, TableOp.ce2, e2, zi, h6]
      refine ⟨_, S2, _, _, rfl, Tail_setl2 x5, by omega, x2, ho2, hkp.setl (.inr (.inr (.inr (.inr rfl)))), by simp [I.e6], ?_⟩
      rw [hb]
      exact ⟨by simp, by simp, by simp [lk_setl, h6], _, hfr b6 _ (F.tl.lt F.fb6) F.n6⟩
  · rintro e _ L hL ⟨O, N, rfl, I⟩
    obtain ⟨S1, m1, es, ho⟩ := I.st
    have hb := I.bad
    rw [List.drop_length, badF] at hb
    have k6 := I.k6
    simp [c_txn_Commit_l0, c_txn_Commit_k1, I.e6, I.e35, I.e36, I.e9, hL, k6]
    have hbT : ¬ T = b6 := by
      intro h
      have h1 := F.fb6
      rw [← h, F.ft] at h1
      cases h1
    have hM := I.hM
    refine ⟨_, S1, _, _, rfl, Tail_setl2 I.tl, I.hM, es, ho, I.kp.setl (.inr (.inr (.inr (.inr rfl)))), by simp [I.e6], ?_⟩
    rw [hb]
    refine ⟨by simp, by rw [lk_setl, if_neg hbT]; exact I.tk, by simp, by simp [lk_setl, k6], m1.fr fun j hj => ?_⟩
    rw [lk_setl, if_neg]
    rintro rfl
    rcases ho _ hj with h | h
    · exact F.n6 h
    · have := F.tl.lt F.fb6
      omega
end Go.Av
