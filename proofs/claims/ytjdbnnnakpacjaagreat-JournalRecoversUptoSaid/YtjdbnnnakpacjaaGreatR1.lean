/-
  The reference's operations on configurations: index, replace.
-/
import Derived.Test.YtjdbnnnakpacjaaGreatH11
set_option linter.unusedVariables false
set_option linter.unusedSimpArgs false
set_option linter.constructorNameAsVariable false
namespace Go.Av
set_option maxRecDepth 4000
theorem ix_find {α : Type} {p : α → Bool} {l : List α} : ∀ n i, n + i = l.length → ix p l i = (((l.drop i).findIdx? p).map fun j => ((i + j : Nat) : Int)).getD (-1)
  | 0, i, h => by
    have : i = l.length := by omega
    subst this
    rw [ix_end]
    simp
  | n + 1, i, h => by
    have hi : i < l.length := by omega
    rw [List.drop_eq_getElem_cons hi, List.findIdx?_cons]
    cases hp : p l[i] with
    | true => rw [ix_hit hi hp]; simp
    | false =>
      rw [ix_miss hi hp, ix_find n (i + 1) (by omega)]
      cases (l.drop (i + 1)).findIdx? p with
      | none => rfl
      | some j => simp; omega
def rIx (l : List Rw) (id : Int) : Int := ((rIdx l id).map fun (j : Nat) => (j : Int)).getD (-1)
theorem ix_rIx (l : List Rw) (id : Int) : ix (fun r => decide (r.id = id)) l 0 = rIx l id := by
  rw [ix_find l.length 0 (by omega)]
  simp [rIx, rIdx]
theorem rfIndex_ok (l : List Rw) (id : Int) (hl : l.length < 2 ^ 40) : pureI Φ f_ref25_index [.slice 5 (l.map Rw.c), .int .i64 id] = some (.val (.int .i64 (rIx l id))) := by
  rw [pureI_go (fn := c_ref25_index) rfl rfl, ← ix_rIx]
  simp [c_ref25_index]
  refine loop_nat0 l.length (fun i e => look 0 e = some (.slice 5 (l.map Rw.c)) ∧ look 1 e = some (.int .i64 id) ∧ look 5 e = some (.int .i64 i))
    (fun i => some (Rt.val (.int .i64 (ix (fun r => decide (r.id = id)) l i)))) ?_ ?_ 0 _ (Nat.zero_le _) ?_
  · rintro i e L hi hL ⟨h0, h1, h5⟩ ih
    have hw : IntKind.wrap .i64 ((i : Int) + 1) = ((i + 1 : Nat) : Int) := wrap64 (by omega) (by omega)
    by_cases z : l[i].id = id
    · rw [ix_hit hi (by simpa using z)]
      simp [c_ref25_index_l0, Rw.ce, h0, h1, h5, hi, z]
    · rw [ix_miss hi (by simpa using z)]
      simp [c_ref25_index_l0, Rw.ce, h0, h1, h5, hi, z, hw]
      exact ih _ ⟨by simp [h0], by simp [h1], by simp⟩
  · rintro e L hL ⟨h0, h1, h5⟩
    rw [ix_end]
    simp [c_ref25_index_l0, c_ref25_index_k1, h0, h5, hL]
  · simp
theorem rreplace_ok (c : Config) (k : Nat) (l : List Rw) (nx : Int) (hk : k < c.rows.length) (hn : c.nextID.length = c.rows.length) (hl : c.rows.length < 2 ^ 40) :
    pureI Φ f_ref25_replace [.agg (Config.c c), .int .i64 k, .slice 5 (l.map Rw.c), .int .i64 nx] = some (.val (.agg (Config.c ⟨c.rows.set k l, c.nextID.set k nx, c.defaults, c.registers⟩))) := by
  rw [pureI_go (fn := c_ref25_replace) rfl rfl]
  generalize hR : c.rows.set k l = R
  generalize hNn : c.nextID.set k nx = M
  have hRl : R.length = c.rows.length := by rw [← hR]; simp
  have hMl : M.length = c.rows.length := by rw [← hNn]; simp [hn]
  generalize hQ : (fun r : Option Rt => r = some (Rt.val (.agg (Config.c ⟨R, M, c.defaults, c.registers⟩)))) = Q
  have hq : ∀ r, Q r = (r = some (Rt.val (.agg (Config.c ⟨R, M, c.defaults, c.registers⟩)))) := fun r => by rw [← hQ]
  rw [← hq]
  clear hQ
  simp [c_ref25_replace, Config.ce]
  refine loopNQ c.rows.length (fun i e h => ∃ (O' : List (Nat × AO)) (N' : Nat) (w1 w2 : AV), h = ⟨O', N'⟩ ∧ Tail O' N' ∧ look 0 O' = some (.row 4 [[.fslice 1 [], .fslice 1 [], .fslice 2 [], .fslice 1 []]]) ∧ look 1 O' = some (.row 4 [[w1, w2, .slice 2 (c.defaults.map ActionCall.c), .slice 1 (c.registers.map (cS 1 c32))]]) ∧
      ((i = 0 ∧ w1 = .fslice 1 [] ∧ w2 = .fslice 1 []) ∨ ∃ a b, w1 = .app 1 ((R.map (cS 5 Rw.c)).take i) a ∧ look a O' = some (.tok 1 i) ∧ w2 = .app 1 ((M.map cI).take i) b ∧ look b O' = some (.tok 1 i) ∧ a ≠ b) ∧
      look 1 e = some (.int .i64 k) ∧ look 2 e = some (.slice 5 (l.map Rw.c)) ∧ look 3 e = some (.int .i64 nx) ∧ look 4 e = some (.iptr 4 [Config.c c] 0 0) ∧ look 8 e = some (.ptr 0 4 0 0) ∧ look 9 e = some (.ptr 1 4 0 0) ∧ look 10 e = some (.int .i64 i)) Q ?_ ?_ 0 _ _ (Nat.zero_le _) ?_
  · rintro i e _ L hi hL ⟨O', N', w1, w2, rfl, hT', l0, l1, hw, e1, e2, e3, e4, e8, e9, e10⟩ ih
    have hw1 : IntKind.wrap .i64 ((i : Int) + 1) = ((i + 1 : Nat) : Int) := wrap64 (by omega) (by omega)
    have i2 : i < c.nextID.length := by omega
    have iR : i < R.length := by omega
    have iM : i < M.length := by omega
    have t0 := hT' N' (Nat.le_refl _)
    have t1 := hT' (N' + 1) (by omega)
    have nz : ¬ N' = 0 := by have := hT'.lt l1; omega
    have n1 : 1 < N' := hT'.lt l1
    have n2 : ¬ N' = 1 := by omega
    have n3 : ¬ 1 = N' := by omega
    have n4 : ¬ 0 = N' := by omega
    have hTm : Tail O' (N' + 1 + 1) := hT'.mono (by omega)
    have sR : (R.map (cS 5 Rw.c)).take (i + 1) = (R.map (cS 5 Rw.c)).take i ++ [cS 5 Rw.c R[i]] := take_map_succ iR
    have sM : (M.map cI).take (i + 1) = (M.map cI).take i ++ [cI M[i]] := take_map_succ iM
    rw [cSe] at sR
    rw [cIe] at sM
    rw [Config.ce] at e4
    have mR : min i R.length = i := by omega
    have mM : min i M.length = i := by omega
    have c1 : (i + 1) * 24 ≤ 70368744177664 := by omega
    have c2 : (i + 1) * 8 ≤ 70368744177664 := by omega
    by_cases hik : i = k
    · have vR : R[i] = l := by simp [← hR, hik]
      have vM : M[i] = nx := by simp [← hNn, hik]
      rw [vR] at sR
      rw [vM] at sM
      have d0 : (i = k) = True := eq_true hik
      rcases hw with ⟨rfl, rfl, rfl⟩ | ⟨a, b, rfl, la, rfl, lb, hab⟩
      · have hk0 : k = 0 := hik.symm
        simp [c_ref25_replace_l0, e1, e2, e3, e4, e9, e10, hi, hk0, t0, t1, wr1, lk_app, lk_setl, l1, n2, nz]
        refine ih _ _ ⟨_, _, _, _, rfl, ?_, ?_, ?_, .inr ⟨N', N' + 1, by rw [sR], ?_, by rw [sM], ?_, by omega⟩, ?_, ?_, ?_, ?_, ?_, ?_, ?_⟩
        · repeat' first | exact hTm | apply Tail_setl2 | apply Tail_app2 | omega
        · simp [lk_app, lk_setl, l0]
        · simp [lk_app, lk_setl, l1]
        · simp [lk_app, lk_setl, n2, t0]
        · simp [lk_setl, t1, nz]
        all_goals simp [e1, e2, e3, e4, e8, e9, Config.ce, hk0]
      · have i0 : 0 ≠ a := lk_ne l0 la (by simp)
        have i1 : 1 ≠ a := lk_ne l1 la (by simp)
        have i2 : 0 ≠ b := lk_ne l0 lb (by simp)
        have i3 : 1 ≠ b := lk_ne l1 lb (by simp)
        have j0 := i0.symm
        have j1 := i1.symm
        have j2 := i2.symm
        have j3 := i3.symm
        have hba := hab.symm
        simp [c_ref25_replace_l0, e1, e2, e3, e4, e9, e10, hi, d0, hw1, lk_setl, l1, la, lb, i1, i3, j3, hba, mR, mM, c1, c2]
        refine ih _ _ ⟨_, _, _, _, rfl, ?_, ?_, ?_, .inr ⟨a, b, by rw [sR], ?_, by rw [sM], ?_, hab⟩, ?_, ?_, ?_, ?_, ?_, ?_, ?_⟩
        · repeat' first | exact hT' | apply Tail_setl2
        · simp [lk_setl, l0, i0, i2]
        · simp [lk_setl, l1, i1, i3]
        · simp [lk_setl, la, j1, hab]
        · simp [lk_setl, lb, j3, hba]
        all_goals simp [e1, e2, e3, e4, e8, e9, Config.ce]
    · have vR : R[i] = c.rows[i] := by simp [← hR, show ¬ k = i by omega]
      have vM : M[i] = c.nextID[i] := by simp [← hNn, show ¬ k = i by omega]
      rw [vR] at sR
      rw [vM] at sM
      have d0 : ¬ (i : Int) = (k : Int) := by omega
      rcases hw with ⟨rfl, rfl, rfl⟩ | ⟨a, b, rfl, la, rfl, lb, hab⟩
      · have hk0 : ¬ k = 0 := fun h => hik h.symm
        have hk1 : ¬ 0 = k := fun h => hik h
        simp [c_ref25_replace_l0, cSe, cIe, e1, e4, e9, e10, hi, i2, hk1, t0, t1, wr1, lk_app, lk_setl, l1, n2, nz]
        refine ih _ _ ⟨_, _, _, _, rfl, ?_, ?_, ?_, .inr ⟨N', N' + 1, by rw [sR], ?_, by rw [sM], ?_, by omega⟩, ?_, ?_, ?_, ?_, ?_, ?_, ?_⟩
        · repeat' first | exact hTm | apply Tail_setl2 | apply Tail_app2 | omega
        · simp [lk_app, lk_setl, l0]
        · simp [lk_app, lk_setl, l1]
        · simp [lk_app, lk_setl, n2, t0]
        · simp [lk_setl, t1, nz]
        all_goals simp [e1, e2, e3, e4, e8, e9, Config.ce]
      · have i0 : 0 ≠ a := lk_ne l0 la (by simp)
        have i1 : 1 ≠ a := lk_ne l1 la (by simp)
        have i2' : 0 ≠ b := lk_ne l0 lb (by simp)
        have i3 : 1 ≠ b := lk_ne l1 lb (by simp)
        have j0 := i0.symm
        have j1 := i1.symm
        have j2 := i2'.symm
        have j3 := i3.symm
        have hba := hab.symm
        simp [c_ref25_replace_l0, cSe, cIe, e1, e4, e9, e10, hi, i2, d0, hw1, lk_setl, l1, la, lb, i1, i3, j3, hba, mR, mM, c1, c2]
        refine ih _ _ ⟨_, _, _, _, rfl, ?_, ?_, ?_, .inr ⟨a, b, by rw [sR], ?_, by rw [sM], ?_, hab⟩, ?_, ?_, ?_, ?_, ?_, ?_, ?_⟩
        · repeat' first | exact hT' | apply Tail_setl2
        · simp [lk_setl, l0, i0, i2']
        · simp [lk_setl, l1, i1, i3]
        · simp [lk_setl, la, j1, hab]
        · simp [lk_setl, lb, j3, hba]
        all_goals simp [e1, e2, e3, e4, e8, e9, Config.ce]
  · rintro e _ L hL ⟨O', N', w1, w2, rfl, hT', l0, l1, hw, e1, e2, e3, e4, e8, e9, e10⟩
    rw [Config.ce] at e4
    simp [c_ref25_replace_l0, c_ref25_replace_k1, e4, e8, e9, e10, hL, l0, l1, lk_setl]
    rw [hq]
    have tR : (R.map (cS 5 Rw.c)).take c.rows.length = R.map (cS 5 Rw.c) := List.take_of_length_le (by simp; omega)
    have tM : (M.map cI).take c.rows.length = M.map cI := List.take_of_length_le (by simp; omega)
    rcases hw with ⟨hz, rfl, rfl⟩ | ⟨a, b, rfl, la, rfl, lb, hab⟩
    · omega
    · rw [tR, tM]
      simp [Config.ce]
  · refine ⟨_, _, .fslice 1 [], .fslice 1 [], rfl, ?_, ?_, ?_, .inl ⟨rfl, rfl, rfl⟩, ?_, ?_, ?_, ?_, ?_, ?_, ?_⟩
    all_goals simp [Tail_cons_iff, Tail_nil_iff, Config.ce]
end Go.Av
