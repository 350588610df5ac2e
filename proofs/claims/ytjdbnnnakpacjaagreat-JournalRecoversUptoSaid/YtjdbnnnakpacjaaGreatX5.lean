/-
  txn.Commit, as a whole.
-/
import Derived.Test.YtjdbnnnakpacjaaGreatX4
set_option linter.unusedVariables false
set_option linter.unusedSimpArgs false
set_option linter.constructorNameAsVariable false
namespace Go.Av
set_option maxRecDepth 4000
def idsA (p : Prg) (c : Config) (l : List TableOp) : List (List AV) := (List.range l.length).map fun j => cI (idN p c l j)
def CMpost (N : Nat) (O : List (Nat × AO)) (S : SV) (p : Prg) (c : Config) (l : List TableOp) (r : Option (Rt × AH)) : Prop :=
  ∃ S' O' N', S'.s = S.s ∧ (∀ j, S'.own j → S.own j ∨ N ≤ j) ∧ Kp (fun j => S.own j ∨ Rs O j) N O O' ∧ Tail O' N' ∧ N ≤ N' ∧
    match badA p c l with
    | some (k, x) => r = some (.val (.tup [.fslice 1 [], .int .i64 k, .int .i64 x]), ⟨O', N'⟩) ∧ StoreM O' S' p c
    | none => ∃ T, r = some (.val (.tup [.app 1 (idsA p c l) T, .int .i64 0, .int .i64 0]), ⟨O', N'⟩) ∧ StoreM O' S' p (cfgN p c l l.length) ∧ look T O' = some (.tok 1 l.length) ∧ N ≤ T ∧ ¬ S'.own T
theorem Commit_ok (p : Prg) (op : p.Ok bulkMax) (hp : p.tables.length < 2 ^ 40) {c : Config} (v : CfgV p c) (s : CfgT c) (l : List TableOp) (hl : ∀ o ∈ l, OpS o) {O : List (Nat × AO)} {N : Nat} {S : SV} (hT : Tail O N) (m : StoreM O S p c) :
    CMpost N O S p c l (callI Φ f_txn_Commit [.ptr S.s 15 0 0, .slice 9 (l.map TableOp.c)] ⟨O, N⟩) := by
  have f := PrgS_of op
  have own : ∀ j, S.own j → j < N := fun j hj => by
    obtain ⟨x, hx, _⟩ := m.own_lk hj
    exact hT.lt hx
  rw [callI_dfr Φ (d := c_txn_Commit) rfl rfl, cm_code]
  obtain ⟨e1, a1, g1, g2, g6⟩ := cm1 (s := S.s) hT (.slice 9 (l.map TableOp.c))
  have t0 := hT N (Nat.le_refl _)
  have t1 := hT (N + 1) (by omega)
  have hT1 : Tail (O ++ [(N, .row 1 [[.ptr S.s 15 0 0]])] ++ [(N + 1, .row 1 [[.int .i64 0]])]) (N + 2) := (hT.app1 (Nat.le_refl N)).app1 (Nat.le_refl (N + 1))
  have hk1 : Kp (fun _ => False) N O (O ++ [(N, .row 1 [[.ptr S.s 15 0 0]])] ++ [(N + 1, .row 1 [[.int .i64 0]])]) := (Kp.app Kp.refl (Nat.le_refl _)).app (Nat.le_succ _)
  have m1 := m.kp hT hk1 (by simp)
  have q2 : look N (O ++ [(N, .row 1 [[.ptr S.s 15 0 0]])] ++ [(N + 1, .row 1 [[.int .i64 0]])]) = some (.row 1 [[.ptr S.s 15 0 0]]) := by simp [t0]
  have q6 : look (N + 1) (O ++ [(N, .row 1 [[.ptr S.s 15 0 0]])] ++ [(N + 1, .row 1 [[.int .i64 0]])]) = some (.row 1 [[.int .i64 0]]) := by simp [t1]
  have rs1 : ∀ j, j < N → Rs (O ++ [(N, .row 1 [[.ptr S.s 15 0 0]])] ++ [(N + 1, .row 1 [[.int .i64 0]])]) j → Rs O j := fun j hj h => by
    have := hk1 j hj (by simp)
    show look j O = _
    rw [← this]; exact h
  generalize O ++ [(N, .row 1 [[.ptr S.s 15 0 0]])] ++ [(N + 1, .row 1 [[.int .i64 0]])] = H1 at *
  obtain ⟨S2, O2, N2, a2, m2, w2, k2, hT2, n2⟩ := Clone_ok op m1 v s hT1
  obtain ⟨e2, a2', h1, h2, h6, h7⟩ := cm2 hT2 a2 g2 q2 g1 g6
  have t2 := hT2 N2 (Nat.le_refl _)
  have hk3 : Kp (Rs H1) (N + 2) H1 (O2 ++ [(N2, .row 1 [[.ptr S2.s 15 0 0]])]) := k2.app (by omega)
  have hT3 : Tail (O2 ++ [(N2, .row 1 [[.ptr S2.s 15 0 0]])]) (N2 + 1) := hT2.app1 (Nat.le_refl N2)
  have m3 := m1.kp hT1 hk3 fun j hj hr => by
    obtain ⟨x, hx, hne⟩ := m1.own_lk hj
    have hr : look j H1 = some .res := hr
    rw [hx] at hr; exact hne (Option.some.inj hr)
  have m23 := m2.kp (X := fun _ => False) hT2 (Kp.app Kp.refl (Nat.le_refl N2) (o := .row 1 [[.ptr S2.s 15 0 0]])) (by simp)
  have q7 : look N2 (O2 ++ [(N2, .row 1 [[.ptr S2.s 15 0 0]])]) = some (.row 1 [[.ptr S2.s 15 0 0]]) := by simp [t2]
  have r2 := hk3.lk hT1 q2 (by intro h; have h : look N H1 = some .res := h; rw [q2] at h; cases h)
  have r6 := hk3.lk hT1 q6 (by intro h; have h : look (N + 1) H1 = some .res := h; rw [q6] at h; cases h)
  have own2 : ∀ j, S2.own j → j < N2 := fun j hj => by
    obtain ⟨x, hx, _⟩ := m2.own_lk hj
    exact hT2.lt hx
  generalize O2 ++ [(N2, .row 1 [[.ptr S2.s 15 0 0]])] = H3 at *
  obtain ⟨e3, a3, h1, h2, h6, h7⟩ := cm3 m3 v.rl hT3 h2 h7 r2 q7 h1 h6
  have hk4 : Kp (fun _ => False) (N2 + 1) H3 (H3 ++ [(N2 + 1, .row 2 [[.int .i64 0, .fslice 1 []]])]) := Kp.app Kp.refl (Nat.le_refl _)
  have hT4 : Tail (H3 ++ [(N2 + 1, .row 2 [[.int .i64 0, .fslice 1 []]])]) (N2 + 2) := hT3.app1 (Nat.le_refl _)
  have m4 := m3.kp hT3 hk4 (by simp)
  have m24 := m23.kp hT3 hk4 (by simp)
  have q7 := hk4.lk hT3 q7 (by simp)
  have r2 := hk4.lk hT3 r2 (by simp)
  have r6 := hk4.lk hT3 r6 (by simp)
  have hkO : Kp (Rs O) N O (H3 ++ [(N2 + 1, .row 2 [[.int .i64 0, .fslice 1 []]])]) := by
    intro j hj hx
    rw [hk4 j (by omega) (by simp), hk3 j (by omega) (fun h => hx (rs1 j hj h)), hk1 j hj (by simp)]
  generalize H3 ++ [(N2 + 1, .row 2 [[.int .i64 0, .fslice 1 []]])] = H4 at *
  by_cases z : 64 < l.length
  · obtain ⟨e4, a4, i4, i5, i6⟩ := cm4b (N := N2 + 2) h1 h6 r6 z
    have hb : badA p c l = some (-1, 12) := by simp [badA, (cfgE_zero p c).2 v, z]
    simp only [dcodeI, a1, a2', a3, a4]
    refine ⟨S, setl (N + 1) (.row 1 [[.int .i64 12]]) H4, N2 + 2, rfl, fun j hj => .inl hj, (hkO.mono fun j _ h => .inr h).setl (.inl (Nat.le_succ N)), Tail_setl2 hT4, by omega, ?_⟩
    rw [hb]
    refine ⟨?_, m4.fr fun j hj => ?_⟩
    · simp [evRet, c_txn_Commit, i4, i5, i6, lk_setl, r6]
    · have := own j hj
      rw [lk_setl, if_neg (by omega)]
  · obtain ⟨e4, a4, h1, h2, h6, h7⟩ := cm4 (O := H4) (N := N2 + 2) h1 h2 h6 h7 z
    have a5 : evOps (callI Φ) none cmO ⟨e4, ⟨H4, N2 + 2⟩⟩ = some (.normal, ⟨(27, .func (.func f_txn_Commit_1) [] [.ptr (N + 1) 1 0 0, .ptr N2 1 0 0, .ptr N 1 0 0]) :: e4, ⟨H4, N2 + 2⟩⟩) := by
      simp [cmO, evOps, guardOn, h2, h6, h7]
    have B := cm5 p f hp v s l (by omega) hl (e := (27, .func (.func f_txn_Commit_1) [] [.ptr (N + 1) 1 0 0, .ptr N2 1 0 0, .ptr N 1 0 0]) :: e4) (b2 := N) (b6 := N + 1) hT4 m4 (by simp [h1]) (by simp [h2]) (by simp [h6]) r2 r6 (fun h => by have := own _ h; omega) (fun h => by have := own _ h; omega)
    have hk5 : Kp (fun _ => False) (N2 + 2) H4 (H4 ++ [(N2 + 2, .row 9 (l.map TableOp.c))] ++ [(N2 + 2 + 1, .tok 1 0)]) := (Kp.app Kp.refl (Nat.le_refl _)).app (Nat.le_succ _)
    have m25 := m24.kp hT4 hk5 (by simp)
    have q75 := hk5.lk hT4 q7 (by simp)
    have r25 := hk5.lk hT4 r2 (by simp)
    have hT5 : Tail (H4 ++ [(N2 + 2, .row 9 (l.map TableOp.c))] ++ [(N2 + 2 + 1, .tok 1 0)]) (N2 + 4) := (hT4.app1 (Nat.le_refl _)).app1 (Nat.le_refl _)
    have hkO5 : Kp (Rs O) N O (H4 ++ [(N2 + 2, .row 9 (l.map TableOp.c))] ++ [(N2 + 2 + 1, .tok 1 0)]) := by
      intro j hj hx
      rw [hk5 j (by omega) (by simp), hkO j hj hx]
    generalize H4 ++ [(N2 + 2, .row 9 (l.map TableOp.c))] ++ [(N2 + 2 + 1, .tok 1 0)] = H5 at *
    obtain ⟨e', S', O', N', hr, hT', hN', es, ho, hk, h6', hm⟩ := B
    simp only [dcodeI, a1, a2', a3, a4, a5]
    rw [hr]
    have hcl : (look 27 ((27, AV.func (.func f_txn_Commit_1) [] [.ptr (N + 1) 1 0 0, .ptr N2 1 0 0, .ptr N 1 0 0]) :: e4)).bind tgt = some (f_txn_Commit_1, [.ptr (N + 1) 1 0 0, .ptr N2 1 0 0, .ptr N 1 0 0]) := by simp
    rw [hcl]
    simp only [show c_txn_Commit.clo = f_txn_Commit_1 from rfl, show c_txn_Commit.ncaps = 3 from rfl, List.length_cons, List.length_nil, and_self, if_true, dEndI]
    have hbA : badA p c l = (badF p c l 0).map fun x => ((x.1 : Int), x.2) := by simp [badA, (cfgE_zero p c).2 v, z]
    have hkN : Kp (fun j => S.own j ∨ Rs O j) N O O' := by
      intro j hj hx
      rw [hk j (by omega) ?_, hkO5 j hj fun h => hx (.inr h)]
      rintro (h | h | h | h)
      · exact hx (.inl h)
      · have h : look j H5 = some .res := h
        rw [hkO5 j hj fun h => hx (.inr h)] at h
        exact hx (.inr h)
      · omega
      · omega
    cases hb : badF p c l 0 with
    | some x =>
      obtain ⟨k, x⟩ := x
      rw [hb] at hm hbA
      obtain ⟨j4, j5, j6, d, md⟩ := hm
      have hx := badF_ne hb
      have kp2 : ∀ j y, look j H5 = some y → y ≠ .res → N + 1 < j → j < N2 + 3 → look j O' = some y := fun j y hy hr h1 h2 => by
        refine hk.lk hT5 hy ?_
        rintro (h | h | h | h)
        · have := own j h; omega
        · have h : look j H5 = some .res := h
          rw [hy] at h; exact hr (Option.some.inj h)
        · omega
        · omega
      have y7 := kp2 N2 _ q75 (by simp) (by omega) (by omega)
      have y2 : look N O' = some (.row 1 [[.ptr S.s 15 0 0]]) := hk.lk hT5 r25 (by
        rintro (h | h | h | h)
        · have := own _ h; omega
        · have h : look N H5 = some .res := h
          rw [r25] at h; cases h
        · omega
        · omega)
      have m26 : StoreM O' S2 p c := m25.fr fun j hj => by
        obtain ⟨y, hy, hne⟩ := m25.own_lk hj
        have := w2 j hj
        have := own2 j hj
        rw [kp2 j y hy hne (by omega) (by omega), hy]
      have ys := md.s
      rw [es] at ys
      have hcl : ∀ S : SV, (S.cells p).length = 15 := fun S => by simp [SV.cells, Prg.e]
      have cl := cmClo1 (O := O') (N := N') hx j6 y7 y2 m26.s ys (hcl _) (hcl _)
      rw [cl]
      refine ⟨{ S2 with s := S.s }, setl S.s (.row 15 [S2.cells p]) O', N', rfl, ?_, ?_, Tail_setl2 hT', by omega, ?_⟩
      · rintro j (rfl | hj)
        · exact .inl (.inl rfl)
        · have := w2 j (.inr hj)
          exact .inr (by omega)
      · exact hkN.setl (.inr (.inl (.inl rfl)))
      · rw [hbA]
        refine ⟨?_, ?_⟩
        · have n1 : ¬ N + 1 = S.s := by have := own _ (.inl rfl); omega
          simp [evRet, c_txn_Commit, j4, j5, j6, h6', lk_setl, n1]
        · have n1 := own _ (Or.inl (rfl : S.s = S.s))
          refine ⟨by simp only [lk_setl, if_true, ys, Option.map_some]; rfl, m26.cm.fr fun j hj => ?_, m26.x.fr fun j hj => ?_, m26.ri, m26.ni⟩
          · have := w2 j (.inr (.inl hj))
            rw [lk_setl, if_neg (by omega)]
          · have := w2 j (.inr (.inr hj))
            rw [lk_setl, if_neg (by omega)]
    | none =>
      rw [hb] at hm hbA
      obtain ⟨j4, jT, j5, j6, md⟩ := hm
      rw [cmClo0 j6]
      refine ⟨S', O', N', es, fun j hj => (ho j hj).imp id fun h => by omega, hkN, hT', by omega, ?_⟩
      rw [hbA]
      refine ⟨N2 + 3, ?_, md, jT, by omega, fun h => ?_⟩
      · simp [evRet, c_txn_Commit, j4, j5, j6, h6', idsA]
      · rcases ho _ h with h | h
        · have := own _ h; omega
        · omega
end Go.Av
