/-
  Delete removes a row.
-/
import Derived.Test.YtjdbnnnakpacjaaGreatH18
set_option linter.unusedVariables false
set_option linter.unusedSimpArgs false
set_option linter.constructorNameAsVariable false
namespace Go.Av
set_option maxRecDepth 4000
theorem Delete_ok {O : List (Nat × AO)} {N : Nat} {S : SV} {p : Prg} {c : Config} (m : StoreM O S p c) (v : CfgV p c) (hT : Tail O N) (t id : Int) :
    MDpost N O S p (if delE p c t id = 0 then delC c t id else c) (.int .i64 (delE p c t id)) (callI Φ f_store_Store_Delete [.ptr S.s 15 0 0, .int .i64 t, .int .i64 id] ⟨O, N⟩) := by
  rw [callI_go (fn := c_store_Store_Delete) rfl rfl]
  have hl := v.rl
  have hr := row_ok (N := N) m hl t id
  have hE : delE p c t id = rowX p c t id := rfl
  rw [hE]
  by_cases z : rowX p c t id = 0
  rotate_left
  · rw [if_neg z]
    simp [c_store_Store_Delete, hr, z]
    exact ⟨S, O, N, rfl, m, rfl, fun j hj => .inl hj, fun _ _ _ => rfl, hT, Nat.le_refl _⟩
  rw [if_pos z, z]
  cases hi : inT p t with
  | false => simp [rowX, hi] at z
  | true =>
  obtain ⟨k, rfl, hk⟩ := inT_iff hi
  have hk' : k < c.rows.length := by omega
  have hrow : rowsAt c (k : Int) = c.rows[k] := rowsAt_nat hk'
  cases hx2 : rIdx c.rows[k] id with
  | none => simp [rowX, hi, hrow, hx2] at z
  | some i =>
  obtain ⟨hil, hid⟩ := rIdx_some hx2
  have hI : rowI p c k id = i := by simp [rowI, hi, hrow, hx2]
  have hM : delC c (k : Int) id = ⟨c.rows.set k (c.rows[k].eraseIdx i), c.nextID, c.defaults, c.registers⟩ := by
    unfold delC
    rw [hrow, hx2]
    simp
  rw [z, hI] at hr
  rw [hM]
  have hv := v.at hk
  have hsm := v.small _ (List.getElem_mem hk')
  have hs := m.se
  obtain ⟨rid, es1, e1, lr, hle1, ⟨hV, g1, g5⟩, ht1⟩ := m.tab hk'
  obtain ⟨r5, es5, e5, l5, hle5, ht5⟩ := g5.nonempty (by simp; omega)
  rw [List.length_map] at e5 hle5 ht5
  rw [e1] at hs
  rw [e5] at g1
  have hao := aoEq_store m (PrgV_of v.prg)
  simp only [SV.cells, Prg.e, List.cons_append, List.nil_append, e1] at hao
  obtain ⟨N2, es', e6, n1, n2, h7, h8⟩ := sdel_ok (N := N + 1) l5 rfl hle5 ht5 hil (by omega)
  have hwi : IntKind.wrap .i64 ((i : Int) + 1) = (i : Int) + 1 := wrap64 (by omega) (by omega)
  have hsr := lk_ne hs lr (by simp)
  have hs5 := lk_ne hs l5 (by simp)
  have hr5 := lk_ne lr l5 (by simp)
  have h5r := hr5.symm
  have hrs := hsr.symm
  simp [c_store_Store_Delete, hr, hs, lr, hk', g1, hwi, e6, lk_setl, hs5, hr5, hao]
  have hMl := m.x.len
  have hVl := m.cm.rl
  obtain ⟨iid, esi, e3, li, hle3, hMk, gi, lm⟩ := m.idx hk'
  have own1 : S.own rid := .inr (.inl (.inl (by rw [e1]; rfl)))
  have own3 : S.own S.M[k] := .inr (.inr (.inr (List.getElem_mem hMk)))
  have own4 : S.own r5 := .inr (.inl (.inr (.inr (.inr ⟨_, List.getElem_mem hV, by rw [e5]; rfl⟩))))
  have own5 : S.own iid := .inr (.inr (.inl (by rw [e3]; rfl)))
  have k3 : ∀ A B j, j ≠ rid → j ≠ r5 → look j O ≠ some .res → look j (sweepL (setl rid A (setl r5 B O))) = look j O := by
    intro A B j h1 h2 h3
    have h0 : look j (setl rid A (setl r5 B O)) = look j O := by rw [lk_setl, if_neg h1, lk_setl, if_neg h2]
    rw [lk_sweep (by rw [h0]; exact h3), h0]
  have a1 : ∀ B es, look rid (sweepL (setl rid (.row 1 es) (setl r5 B O))) = some (.row 1 es) := by
    intro B es
    have h0 : look rid (setl rid (.row 1 es) (setl r5 B O)) = some (.row 1 es) := by rw [lk_setl, if_pos rfl, lk_setl, if_neg hr5, lr]; rfl
    rw [lk_sweep (by rw [h0]; simp), h0]
  have a2 : ∀ A es, look r5 (sweepL (setl rid A (setl r5 (.row 5 es) O))) = some (.row 5 es) := by
    intro A es
    have h0 : look r5 (setl rid A (setl r5 (.row 5 es) O)) = some (.row 5 es) := by rw [lk_setl, if_neg h5r, lk_setl, if_pos rfl, l5]; rfl
    rw [lk_sweep (by rw [h0]; simp), h0]
  have hT3 : ∀ A B, Tail (sweepL (setl rid A (setl r5 B O))) N2 := fun A B => Tail_sweep2 (Tail_setl2 (Tail_setl2 (hT.mono (by omega))))
  generalize hO3 : sweepL (setl rid (AO.row 1 (es1.set k [AV.row r5 5 0 (c.rows[k].length - 1)])) (setl r5 (AO.row 5 es') O)) = O3
  have k3' : ∀ j, j ≠ rid → j ≠ r5 → look j O ≠ some .res → look j O3 = look j O := fun j h1 h2 h3 => by rw [← hO3]; exact k3 _ _ j h1 h2 h3
  have a1' : look rid O3 = some (.row 1 (es1.set k [AV.row r5 5 0 (c.rows[k].length - 1)])) := by rw [← hO3]; exact a1 _ _
  have a2' : look r5 O3 = some (.row 5 es') := by rw [← hO3]; exact a2 _ _
  have hT3' : Tail O3 N2 := by rw [← hO3]; exact hT3 _ _
  clear hO3
  have hinc : (c.rows[k].eraseIdx i).Pairwise fun a b => a.id < b.id := hv.inc.sublist (List.eraseIdx_sublist _ _)
  have hll : (c.rows[k].eraseIdx i).length = c.rows[k].length - 1 := by rw [List.length_eraseIdx]; simp [hil]
  have m5 : Mu O3 5 (.row r5 5 0 (c.rows[k].length - 1)) ((c.rows[k].eraseIdx i).map Rw.c) := .row r5 _ es' _ (by simp [hll]) a2' (by simp [hll]; omega) (by rw [List.length_map, hll]; exact h8)
  have m1 : Mu O3 1 S.v1 ((S.V.set k (.row r5 5 0 (c.rows[k].length - 1))).map fun x => [x]) := by
    have hmu := Mu.upd (O' := O3) (id := rid) (z := 1) (k := k) (es := S.V.map fun x => [x]) (es0 := es1) (y := [.row r5 5 0 (c.rows[k].length - 1)]) a1' (by rw [List.length_map, hVl]; exact hle1) (by rw [List.length_map, hVl]; exact ht1)
    rw [List.length_map, hVl] at hmu
    rw [e1, List.map_set]
    exact hmu
  have ls3 : look S.s O3 = some (.row 15 [S.cells p]) := by rw [k3' S.s hsr hs5 (by rw [m.s]; simp), m.s]
  have li3 : look iid O3 = some (.row 1 esi) := by
    rw [k3' iid (fun e => m.ri rid (by rw [e1]; rfl) (by rw [e3, e]; rfl)) (lk_ne li l5 (by simp)) (by rw [li]; simp), li]
  have hri : vid S.v1 ≠ some iid := fun e => m.ri iid e (by rw [e3]; rfl)
  have hVs : k < (S.V.set k (AV.row r5 5 0 (c.rows[k].length - 1))).length := by simpa using hV
  have hVk : (S.V.set k (AV.row r5 5 0 (c.rows[k].length - 1)))[k] = AV.row r5 5 0 (c.rows[k].length - 1) := by simp
  have ls4 := ls3
  simp only [SV.cells, e3] at ls4
  have hrl : c.rows.length < 2 ^ 40 := by have := (PrgV_of v.prg).tabs; omega
  have hnv : c.nextID.set k ((c.nextID[k]?).getD 0) = c.nextID := by
    rw [List.getElem?_eq_getElem (by rw [v.nl]; exact hk)]; simp
  have hcz : esi.take c.rows.length = S.M.map fun x => [.map x] := by
    obtain ⟨iid', es0, e9, hl9, hle9, ht9⟩ := m.x.i.nonempty (by simp; omega)
    rw [e3] at e9
    simp only [AV.row.injEq] at e9
    obtain ⟨rfl, -⟩ := e9
    rw [li] at hl9
    cases hl9
    rw [List.length_map, hMl] at ht9
    exact ht9
  obtain ⟨O4, N4, e7, r1, r2, k4, hT4, hN4⟩ := reindex_ok (k := k) (n := c.rows.length) (V := S.V.set k (.row r5 5 0 (c.rows[k].length - 1))) (l := c.rows[k].eraseIdx i) (R := Prg.c p) (es := esi) hT3' (by omega) hk' hVs ls4 (by simp) li3 hle3 ⟨_, gi⟩ m1 (by rw [hVk]; exact m5) hri hinc (by omega)
  simp [e7]
  have keep : ∀ j, S.own j → ¬ S.chg k j → look j O4 = look j O := by
    intro j hj hc
    obtain ⟨w, hw, hwn⟩ := m.own_lk hj
    have h3 := k3' j (fun e => hc (.inr (.inl (by rw [e, e1]; rfl)))) (fun e => hc (.inl ⟨_, List.getElem?_eq_getElem hV, by rw [e5, e]; rfl⟩)) (by rw [hw]; simpa using hwn)
    rw [k4 j (by have := hT.lt hw; omega) (fun e => hc (.inr (.inr (.inr (.inl (by rw [e, e3]; rfl)))))), h3]
  have hfr : ∀ x, look N2 O = some x → x = .res := fun x hx => by have := hT.lt hx; omega
  have up := m.upd (k := k) (v' := .row r5 5 0 (c.rows[k].length - 1)) (m' := N2) (l' := c.rows[k].eraseIdx i) (nx := (c.nextID[k]?).getD 0) (O' := O4) hk' keep
    (m1.fr fun j hj => by
      obtain ⟨es0, h0⟩ := m1.own hj
      exact k4 j (hT3'.lt h0) (fun e => hri (by rw [hj, e])))
    (by
      rw [hnv]
      refine m.cm.n.fr fun j hj => ?_
      obtain ⟨es0, h0⟩ := m.cm.n.own hj
      have h3 := k3' j (fun e => m.cm.rn j (by rw [e1, e]; rfl) hj) (lk_ne h0 l5 (by simp)) (by rw [h0]; simp)
      rw [k4 j (by have := hT.lt h0; omega) (fun e => m.ni j hj (by rw [e3, e]; rfl)), h3])
    (by
      have hmu := Mu.upd (O' := O4) (id := iid) (z := 1) (k := k) (es := S.M.map fun x => [.map x]) (es0 := esi) (y := [.map N2]) r1 (by rw [List.length_map, hMl]; exact hle3) (by rw [List.length_map, hMl]; exact hcz)
      rw [List.length_map, hMl] at hmu
      rw [e3, List.map_set]
      exact hmu)
    (m5.fr fun j hj => by
      obtain ⟨es0, h0⟩ := m5.own hj
      exact k4 j (hT3'.lt h0) (lk_ne h0 li3 (by simp)))
    r2 (by simp) (fun j hj => .inl ⟨_, List.getElem?_eq_getElem hV, by rw [e5]; exact hj⟩) (.inr hfr)
  rw [hnv] at up
  refine ⟨S.tab k (.row r5 5 0 (c.rows[k].length - 1)) N2, O4, N4, rfl, up, rfl, ?_, ?_, hT4, by omega⟩
  · intro j hj
    rcases hj with hj | hj | hj | hj
    · exact .inl (.inl hj)
    · rcases hj with hj | hj | hj | ⟨w, hw, hj⟩
      · exact .inl (.inr (.inl (.inl hj)))
      · exact .inl (.inr (.inl (.inr (.inl hj))))
      · exact .inl (.inr (.inl (.inr (.inr (.inl hj)))))
      · rcases List.mem_or_eq_of_mem_set hw with hw | rfl
        · exact .inl (.inr (.inl (.inr (.inr (.inr ⟨w, hw, hj⟩)))))
        · cases hj; exact .inl own4
    · exact .inl (.inr (.inr (.inl hj)))
    · simp only [SV.tab] at hj
      rcases List.mem_or_eq_of_mem_set hj with hj | rfl
      · exact .inl (.inr (.inr (.inr hj)))
      · exact .inr (by omega)
  · intro j hj hx
    have hx1 : ¬ S.own j := fun h => hx (.inl h)
    have hx2 : ¬ look j O = some .res := fun h => hx (.inr h)
    rw [k4 j (by omega) (fun e => hx1 (by rw [e]; exact own5)), k3' j (fun e => hx1 (by rw [e]; exact own1)) (fun e => hx1 (by rw [e]; exact own4)) hx2]
end Go.Av
