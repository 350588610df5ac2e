/-
  Lemmas for the law.
-/
import Derived.Test.YtdgpefplgldkfaaT46
set_option linter.unusedVariables false
set_option linter.unusedSimpArgs false
set_option linter.constructorNameAsVariable false
namespace Go.Av
set_option maxRecDepth 4000
theorem ref46_InitialOps_ok (ports : List Int) (links : List Link) (hosts : List PortID) (sw : Int) : pureI Φ f_ref46_InitialOps [.agg [.slice 1 (ports.map cI), .slice 5 (links.map Link.c), .slice 2 (hosts.map PortID.c)], .int .i64 sw] =
    some (.val (.slice 9 ((initL ports links hosts sw).map opC))) := by
  rw [pureI_go (fn := c_ref46_InitialOps) rfl rfl]
  simp [c_ref46_InitialOps, ref40_Check_ok]
  by_cases q1 : topoChk ports links hosts = 0
  rotate_left
  · simp [q1, initL]
  by_cases q2 : sw < 0
  · have : ¬ 0 ≤ sw := by omega
    simp [q1, q2, initL, this]
  obtain ⟨s, rfl⟩ := Int.eq_ofNat_of_zero_le (show 0 ≤ sw by omega)
  by_cases q3 : ports.length ≤ s
  · have : ¬ s < ports.length := by omega
    simp [q1, q2, q3, initL, this]
  have q3' : s < ports.length := by omega
  obtain ⟨hl, hp⟩ := topoChk_zero q1
  obtain ⟨k1, k2⟩ := hp ports[s] (List.getElem_mem q3')
  obtain ⟨N, hN⟩ := Int.eq_ofNat_of_zero_le (show 0 ≤ ports[s] by omega)
  have hN2 : N ≤ 16 := by omega
  have hl' : links.length < 1099511627776 := by omega
  have hI : initL ports links hosts s = portsTo links s N := by
    simp [initL, q1, q3', List.getD_eq_getElem?_getD, hN]
  rw [hI]
  simp [q1, q2, q3, q3', cI, hN]
  refine (loop_nat N (fun i e h => look 1 e = some (.int .i64 s) ∧ look 2 e = some (.ptr 0 3 0 0) ∧ look 5 e = some (.app 9 ((portsTo links s i).map opC) 1) ∧ look 6 e = some (.int .i64 i) ∧
      h = ⟨[(0, AO.row 3 [[.slice 1 (ports.map cI), .slice 5 (links.map Link.c), .slice 2 (hosts.map PortID.c)]]), (1, AO.tok 9 (portsTo links s i).length)], 2⟩)
    (fun i => some (Rt.val (.slice 9 ((portsTo links s N).map opC)))) ?_ ?_ 0 _ _ (Nat.zero_le _) ?_).trans (by simp)
  · rintro i e _ L hi hL ⟨h1, h2, h5, h6, rfl⟩ ih
    have hw : IntKind.wrap .i64 ((i : Int) + 1) = ((i + 1 : Nat) : Int) := wrap64 (by omega) (by omega)
    have hb : ((portsTo links s i).length + 1) * 120 ≤ 70368744177664 := by have := portsTo_length links s i; omega
    cases c : anyFrom links (touch s i) 0 with
    | true =>
      simp [c_ref46_InitialOps_l0, cI, h1, h2, h5, h6, hi, hL, ref40_LinkAt_ok, hl', c, trk2, hw, hb, hN, q3']
      refine (ih _ _ ⟨by simp [h1], by simp [h2], by simp [portsTo_hit c, opC], by simp, ?_⟩).trans (by simp)
      rw [portsTo_hit c, List.length_append]
      rfl
    | false =>
      simp [c_ref46_InitialOps_l0, cI, h1, h2, h5, h6, hi, hL, ref40_LinkAt_ok, hl', c, hw, hN, q3']
      refine (ih _ _ ⟨by simp [h1], by simp [h2], by simp [portsTo_miss c, h5], by simp, ?_⟩).trans (by simp)
      rw [portsTo_miss c]
  · rintro e _ L hL ⟨h1, h2, h5, h6, rfl⟩
    simp [c_ref46_InitialOps_l0, c_ref46_InitialOps_k1, cI, h1, h2, h5, h6, hL, hN, q3']
  · simp [portsTo]

theorem FabricInitialOps_ok (ports : List Int) (links : List Link) (hosts : List PortID) (sw : Int) (hw : pureI Φ f_law46_works [] = some (.val (.bool true))) :
    pureI Φ f_law46_FabricInitialOps [.agg [.slice 1 (ports.map cI), .slice 5 (links.map Link.c), .slice 2 (hosts.map PortID.c)], .int .i64 sw] = some (.val (.bool true)) := by
  rw [pureI_go (fn := c_law46_FabricInitialOps) rfl rfl]
  simp [c_law46_FabricInitialOps]
  by_cases q1 : 20 < ports.length
  · simp [q1, hw]
  by_cases q2 : 40 < links.length
  · simp [q1, q2, hw]
  by_cases q3 : 20 < hosts.length
  · simp [q1, q2, q3, hw]
  simp [q1, q2, q3, fabric_InitialOps_ok, ref46_InitialOps_ok]
  have hlen : (initL ports links hosts sw).length ≤ 16 := by
    unfold initL
    split
    · rename_i hc
      refine Nat.le_trans (portsTo_length _ _ _) ?_
      have hm : (ports.getD sw.toNat 0) ∈ ports ∨ ports.getD sw.toNat 0 = 0 := by
        have : sw.toNat < ports.length := by omega
        left
        simp [List.getD_eq_getElem?_getD, this]
      rcases hm with hm | hm
      · have := (topoChk_zero hc.1).2 _ hm
        omega
      · rw [hm]; simp
    · simp
  generalize initL ports links hosts sw = l at hlen
  refine loop_nat l.length (fun i e h => look 5 e = some (.slice 9 (l.map opC)) ∧ look 6 e = some (.slice 9 (l.map opC)) ∧ look 7 e = some (.int .i64 i))
    (fun i => some (Rt.val (.bool true))) ?_ ?_ 0 _ _ (Nat.zero_le _) ?_
  · rintro i e h L hi hL ⟨h5, h6, h7⟩ ih
    have hwi : IntKind.wrap .i64 ((i : Int) + 1) = ((i + 1 : Nat) : Int) := wrap64 (by omega) (by omega)
    have e1 : ∀ p, (ks1 p).length < 1099511627776 := fun p => by simp [ks1]
    have e3 : nilI.length < 1099511627776 := by simp [nilI]
    simp [c_law46_FabricInitialOps_l0, opC, h5, h6, h7, hi, hL, Equal_ok, e1, e3, hwi]
    exact ih _ _ ⟨by simp [h5], by simp [h6], by simp⟩
  · rintro e h L hL ⟨h5, h6, h7⟩
    simp [c_law46_FabricInitialOps_l0, c_law46_FabricInitialOps_k1, h5, h6, h7, hL, hw]
  · simp
end Go.Av
