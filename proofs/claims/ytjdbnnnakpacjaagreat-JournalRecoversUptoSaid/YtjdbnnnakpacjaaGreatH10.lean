/-
  store.EmptyConfig.
-/
import Derived.Test.YtjdbnnnakpacjaaGreatH9
set_option linter.unusedVariables false
set_option linter.unusedSimpArgs false
set_option linter.constructorNameAsVariable false
namespace Go.Av
set_option maxRecDepth 4000
theorem Tail_app2 {O : List (Nat × AO)} {n p : Nat} {o : AO} (h : Tail O n) (hp : p < n) : Tail (O ++ [(p, o)]) n := by
  rw [Tail_append_iff, Tail_cons_iff]
  exact ⟨h, hp, Tail.nil _⟩
theorem mapO_const {n : Nat} {H : AH} {β : Type} (x : List AV) (h : mapO (snap n H) x = some x) (l : List β) : mapO (mapO (snap n H)) (l.map fun _ => x) = some (l.map fun _ => x) := mapO_mapid (g := fun _ => x) (fun _ => h) l
theorem empty_ok (p : Prg) (f : PrgS p) (hd : ∀ t ∈ p.tables, t.dflt.args.length < 2 ^ 40) : pureI Φ f_store_EmptyConfig [.agg (Prg.c p)] = some (.val (.agg (Config.c (emptyC p)))) := by
  rw [pureI_go (fn := c_store_EmptyConfig) rfl rfl, emptyC_c]
  have ht := f.t
  have h := new_ok p f
  simp only [Prg.e] at h
  generalize (newR p).map (cS 1 c32) = W at h ⊢
  generalize hQ : (fun r : Option Rt => r = some (Rt.val (.agg [.slice 1 (p.tables.map fun _ => [.slice 5 []]), .slice 1 (p.tables.map fun _ => [.int .i64 1]), .slice 2 (p.tables.map fun t => [.int .i64 t.dflt.action, .slice 1 (t.dflt.args.map c32)]), .slice 1 W]))) = Q
  have hq : ∀ r, Q r = (r = some (Rt.val (.agg [.slice 1 (p.tables.map fun _ => [.slice 5 []]), .slice 1 (p.tables.map fun _ => [.int .i64 1]), .slice 2 (p.tables.map fun t => [.int .i64 t.dflt.action, .slice 1 (t.dflt.args.map c32)]), .slice 1 W]))) := fun r => by rw [← hQ]
  rw [← hq]
  clear hQ
  simp [c_store_EmptyConfig, Prg.e, h]
  refine loopNQ p.tables.length (fun i e h => ∃ (O' : List (Nat × AO)) (N' : Nat) (w1 w2 w3 : AV), h = ⟨O', N'⟩ ∧ Tail O' N' ∧ look 0 O' = some (.row 4 [[.fslice 1 [], .fslice 1 [], .fslice 2 [], .fslice 1 []]]) ∧ look 1 O' = some (.row 4 [[w1, w2, w3, .slice 1 W]]) ∧
      ((i = 0 ∧ w1 = .fslice 1 [] ∧ w2 = .fslice 1 [] ∧ w3 = .fslice 2 []) ∨ ∃ a b t, w1 = .row a 1 0 i ∧ look a O' = some (.row 1 ((p.tables.map fun _ => [AV.slice 5 []]).take i)) ∧ w2 = .row b 1 0 i ∧ look b O' = some (.row 1 ((p.tables.map fun _ => [AV.int .i64 1]).take i)) ∧ a ≠ b ∧
        w3 = .app 2 ((p.tables.map fun t => [AV.int .i64 t.dflt.action, .slice 1 (t.dflt.args.map c32)]).take i) t ∧ look t O' = some (.tok 2 i)) ∧
      look 2 e = some (.ptr 0 4 0 0) ∧ look 3 e = some (.ptr 1 4 0 0) ∧ look 10 e = some (.slice 6 (p.tables.map Tbl.c)) ∧ look 11 e = some (.int .i64 p.tables.length) ∧ look 12 e = some (.int .i64 i)) Q ?_ ?_ 0 _ _ (Nat.zero_le _) ?_
  · rintro i e _ L hi hL ⟨O', N', w1, w2, w3, rfl, hT', l0, l1, hw, e2, e3, e10, e11, e12⟩ ih
    have hw1 : IntKind.wrap .i64 ((i : Int) + 1) = ((i + 1 : Nat) : Int) := wrap64 (by omega) (by omega)
    have hc := ccall_ok p.tables[i].dflt (hd _ (List.getElem_mem hi))
    simp only [ActionCall.ce] at hc
    have t0 := hT' N' (Nat.le_refl _)
    have t1 := hT' (N' + 1) (by omega)
    have t2 := hT' (N' + 2) (by omega)
    have t3 := hT' (N' + 3) (by omega)
    have hTm : Tail O' (N' + 1 + 1 + 1 + 1) := hT'.mono (by omega)
    have nz : ¬ N' = 0 := by have := hT'.lt l1; omega
    have f0 := lk_fresh hT' l0 (Nat.le_refl N')
    have f1 := lk_fresh hT' l1 (Nat.le_refl N')
    have g1 : ¬ 1 = N' + 1 ∧ ¬ N' + 1 = 1 := by omega
    have g2 : ¬ 1 = N' + 2 ∧ ¬ N' + 2 = 1 := by omega
    have g3 : ¬ 1 = N' + 3 ∧ ¬ N' + 3 = 1 := by omega
    have g4 : ¬ 0 = N' + 1 ∧ ¬ 0 = N' + 2 ∧ ¬ 0 = N' + 3 := by omega
    have s1 : ∀ {β : Type} (g : Tbl → β), (p.tables.map g).take (i + 1) = (p.tables.map g).take i ++ [g p.tables[i]] := fun g => take_map_succ hi
    rcases hw with ⟨rfl, rfl, rfl, rfl⟩ | ⟨a, b, t, rfl, la, rfl, lb, hab, rfl, lt⟩
    · have s2 : ∀ {β : Type} (g : Tbl → β), (p.tables.map g).take 1 = [g p.tables[0]] := fun g => by simpa using s1 g
      simp [c_store_EmptyConfig_l0, Tbl.e, e3, e10, e11, e12, hi, hc, t0, t1, t2, t3, wr1, lk_app, lk_setl, l1]
      refine ih _ _ ⟨_, _, .row (N' + 1) 1 0 1, .row (N' + 1 + 1) 1 0 1, .app 2 _ (N' + 1 + 1 + 1), rfl, ?_, ?_, ?_, .inr ⟨N' + 1, N' + 1 + 1, N' + 1 + 1 + 1, rfl, ?_, rfl, ?_, by omega, by rw [s1], ?_⟩, ?_, ?_, ?_, ?_, ?_⟩
      · repeat' first | exact hTm | apply Tail_setl2 | apply Tail_dropl2 | apply Tail_app2 | omega
      · simp [lk_app, lk_setl, l0, nz]
      · simp [lk_app, lk_setl, l1]
      · simp [lk_app, lk_setl, t1, s2, nz]
      · simp [lk_app, lk_setl, t2, s2]
      · simp [lk_app, lk_setl, t3]
      all_goals simp [e2, e3, e10, e11]
    · have i0 : 0 ≠ a := lk_ne l0 la (by simp)
      have i1 : 1 ≠ a := lk_ne l1 la (by simp)
      have i2 : 0 ≠ b := lk_ne l0 lb (by simp)
      have i3 : 1 ≠ b := lk_ne l1 lb (by simp)
      have i4 : t ≠ a := lk_ne lt la (by simp)
      have i5 : t ≠ b := lk_ne lt lb (by simp)
      have i6 : 0 ≠ t := lk_ne l0 lt (by simp)
      have i7 : 1 ≠ t := lk_ne l1 lt (by simp)
      have fa := lk_fresh hT' la (Nat.le_refl N')
      have fa1 := lk_fresh (n := N' + 1) hT' la (by omega)
      have fb := lk_fresh hT' lb (Nat.le_refl N')
      have fb1 := lk_fresh (n := N' + 1) hT' lb (by omega)
      have fb2 := lk_fresh (n := N' + 1 + 1) hT' lb (by omega)
      have fc1 := lk_fresh (n := N' + 1) hT' lt (by omega)
      have fc2 := lk_fresh (n := N' + 1 + 1) hT' lt (by omega)
      have hm : min i p.tables.length = i := by omega
      have j0 := i0.symm
      have j1 := i1.symm
      have j2 := i2.symm
      have j3 := i3.symm
      have j4 := i4.symm
      have j5 := i5.symm
      have j6 := i6.symm
      have j7 := i7.symm
      have hba : b ≠ a := fun e => hab e.symm
      have c1 : (i + 1) * 24 ≤ 70368744177664 := by omega
      have c2 : (i + 1) * 8 ≤ 70368744177664 := by omega
      have c3 : (i + 1) * 32 ≤ 70368744177664 := by omega
      simp [c_store_EmptyConfig_l0, Tbl.e, e3, e10, e11, e12, hi, hc, t0, t1, t2, hw1, lk_app, lk_setl, lk_dropl, lk_dropl_none, l1, la, lb, lt, i1, i3, i4, i5, i7, j3, j7, nz, fa1, fb1, fb2, fc1, fc2, hba, hm, c1, c2, c3]
      refine ih _ _ ⟨_, _, .row (N' + 1) 1 0 (i + 1), .row (N' + 1 + 1) 1 0 (i + 1), .app 2 _ t, rfl, ?_, ?_, ?_, .inr ⟨N' + 1, N' + 1 + 1, t, rfl, ?_, rfl, ?_, by omega, by rw [s1], ?_⟩, ?_, ?_, ?_, ?_, ?_⟩
      · have hTn : Tail O' (N' + 1 + 1 + 1) := hT'.mono (by omega)
        repeat' first | exact hTm | exact hTn | apply Tail_setl2 | apply Tail_dropl2 | apply Tail_app2 | omega
      · simp [lk_app, lk_setl, lk_dropl, l0, nz, i0, i2, i6]
      · simp [lk_app, lk_setl, lk_dropl, l1, i1, i3, i7]
      · simp [lk_app, lk_setl, lk_dropl, lk_dropl_none, t1, s1, nz, fb1, fc1]
      · simp [lk_app, lk_setl, lk_dropl, lk_dropl_none, t2, s1, nz, fb2, fc2]
      · simp [lk_app, lk_setl, lk_dropl, lt, i4, i5, j7]
      all_goals simp [e2, e3, e10, e11]
  · rintro e _ L hL ⟨O', N', w1, w2, w3, rfl, hT', l0, l1, hw, e2, e3, e10, e11, e12⟩
    simp [c_store_EmptyConfig_l0, c_store_EmptyConfig_k1, e2, e3, e11, e12, hL, l1, l0, lk_setl]
    rw [hq]
    rcases hw with ⟨hz, rfl, rfl, rfl⟩ | ⟨a, b, t, rfl, la, rfl, lb, hab, rfl, lt⟩
    · have : p.tables = [] := List.eq_nil_of_length_eq_zero hz
      simp [this]
    · rw [List.take_of_length_le (by simp)] at la lb
      have i0 : ¬ a = 0 := fun e => lk_ne l0 la (by simp) e.symm
      have i2 : ¬ b = 0 := fun e => lk_ne l0 lb (by simp) e.symm
      have r1 := fun H => mapO_const (n := 38) (H := H) [AV.slice 5 []] (by simp) p.tables
      have r2 := fun H => mapO_const (n := 38) (H := H) [AV.int .i64 1] (by simp) p.tables
      have ht1 : ∀ {β : Type} (g : Tbl → β), (p.tables.map g).take p.tables.length = p.tables.map g := fun g => List.take_of_length_le (by simp)
      simp [la, lb, lk_setl, i0, i2, ht1, r1, r2]
  · refine ⟨_, _, .fslice 1 [], .fslice 1 [], .fslice 2 [], rfl, ?_, ?_, ?_, .inl ⟨rfl, rfl, rfl, rfl⟩, ?_, ?_, ?_, ?_, ?_⟩
    all_goals simp [Tail_cons_iff, Tail_nil_iff]
end Go.Av
