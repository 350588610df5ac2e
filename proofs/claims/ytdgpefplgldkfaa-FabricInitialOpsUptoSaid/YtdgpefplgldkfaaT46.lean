/-
  Lemmas for the law.
-/
import Derived.Test.YtdgpefplgldkfaaT40d
import Derived.Test.YtdgpefplgldkfaaE7
set_option linter.unusedVariables false
set_option linter.unusedSimpArgs false
set_option linter.constructorNameAsVariable false
namespace Go.Av
set_option maxRecDepth 4000
theorem topoChk_zero {ports : List Int} {links : List Link} {hosts : List PortID} (h : topoChk ports links hosts = 0) : links.length ≤ 32 ∧ ∀ n ∈ ports, 1 ≤ n ∧ n ≤ 16 := by
  unfold topoChk at h
  split at h
  · cases h
  split at h
  · cases h
  split at h
  · cases h
  split at h
  · cases h
  refine ⟨by omega, ?_⟩
  unfold chkA at h
  split at h
  · cases h
  rename_i hb
  intro n hn
  have := List.any_eq_false.1 (by simpa using hb) n hn
  simp [badN] at this
  omega
def opC (p : Int) : List AV := [.int .i64 1, .int .i64 1, .int .i64 0, .slice 2 ((ks1 p).map KeyMatch.c), .int .i64 0, .int .i64 1, .slice 1 (nilI.map c32), .int .i64 0, .slice 1 []]
def portsTo (links : List Link) (sw : Int) (i : Nat) : List Int := ((List.range i).filter (fun (k : Nat) => anyFrom links (touch sw k) 0)).map fun (k : Nat) => (k : Int)
theorem portsTo_hit {links : List Link} {sw : Int} {i : Nat} (h : anyFrom links (touch sw i) 0 = true) : portsTo links sw (i + 1) = portsTo links sw i ++ [(i : Int)] := by
  simp [portsTo, List.range_succ, h]
theorem portsTo_miss {links : List Link} {sw : Int} {i : Nat} (h : anyFrom links (touch sw i) 0 = false) : portsTo links sw (i + 1) = portsTo links sw i := by
  simp [portsTo, List.range_succ, h]
theorem portsTo_length (links : List Link) (sw : Int) (i : Nat) : (portsTo links sw i).length ≤ i := by
  unfold portsTo
  rw [List.length_map]
  exact Nat.le_trans (List.length_filter_le _ _) (by simp)
def initL (ports : List Int) (links : List Link) (hosts : List PortID) (sw : Int) : List Int :=
  if topoChk ports links hosts = 0 ∧ 0 ≤ sw ∧ sw < ports.length then portsTo links sw (ports.getD sw.toNat 0).toNat else []

theorem fabric_InitialOps_ok (ports : List Int) (links : List Link) (hosts : List PortID) (sw : Int) : pureI Φ f_fabric_InitialOps [.agg [.slice 1 (ports.map cI), .slice 5 (links.map Link.c), .slice 2 (hosts.map PortID.c)], .int .i64 sw] =
    some (.val (.slice 9 ((initL ports links hosts sw).map opC))) := by
  rw [pureI_go (fn := c_fabric_InitialOps) rfl rfl]
  simp [c_fabric_InitialOps, topology_Check_ok]
  by_cases q1 : topoChk ports links hosts = 0
  rotate_left
  · simp [q1, initL]
  by_cases q2 : sw < 0
  · have : ¬ 0 ≤ sw := by omega
    simp [q1, q2, initL, this]
  obtain ⟨s, rfl⟩ := Int.eq_ofNat_of_zero_le (show 0 ≤ sw by omega)
  by_cases q3 : ports.length ≤ s
  · have : ¬ s < ports.length := by omega
    simp [q1, q2, q3, initL, this]
  have q3' : s < ports.length := by omega
  obtain ⟨hl, hp⟩ := topoChk_zero q1
  obtain ⟨k1, k2⟩ := hp ports[s] (List.getElem_mem q3')
  obtain ⟨N, hN⟩ := Int.eq_ofNat_of_zero_le (show 0 ≤ ports[s] by omega)
  have hN2 : N ≤ 16 := by omega
  have hl' : links.length < 1099511627776 := by omega
  have hI : initL ports links hosts s = portsTo links s N := by
    simp [initL, q1, q3', List.getD_eq_getElem?_getD, hN]
  rw [hI]
  simp [q1, q2, q3, q3', cI, hN]
  refine (loop_nat N (fun i e h => look 1 e = some (.int .i64 s) ∧ look 2 e = some (.ptr 0 3 0 0) ∧ look 5 e = some (.app 9 ((portsTo links s i).map opC) 1) ∧ look 27 e = some (.int .i64 N) ∧ look 28 e = some (.int .i64 i) ∧
      h = ⟨[(0, AO.row 3 [[.slice 1 (ports.map cI), .slice 5 (links.map Link.c), .slice 2 (hosts.map PortID.c)]]), (1, AO.tok 9 (portsTo links s i).length)], 2⟩)
    (fun i => some (Rt.val (.slice 9 ((portsTo links s N).map opC)))) ?_ ?_ 0 _ _ (Nat.zero_le _) ?_).trans (by simp)
  · rintro i e _ L hi hL ⟨h1, h2, h5, h27, h28, rfl⟩ ih
    have hw : IntKind.wrap .i64 ((i : Int) + 1) = ((i + 1 : Nat) : Int) := wrap64 (by omega) (by omega)
    have hb : ((portsTo links s i).length + 1) * 120 ≤ 70368744177664 := by have := portsTo_length links s i; omega
    cases c : anyFrom links (touch s i) 0 with
    | true =>
      simp [c_fabric_InitialOps_l0, h1, h2, h5, h27, h28, hi, hL, topology_LinkAt_ok, hl', c, trk1, hw, hb]
      refine (ih _ _ ⟨by simp [h1], by simp [h2], by simp [portsTo_hit c, opC], by simp [h27], by simp, ?_⟩).trans (by simp)
      rw [portsTo_hit c, List.length_append]
      rfl
    | false =>
      simp [c_fabric_InitialOps_l0, h1, h2, h5, h27, h28, hi, hL, topology_LinkAt_ok, hl', c, hw]
      refine (ih _ _ ⟨by simp [h1], by simp [h2], by simp [portsTo_miss c, h5], by simp [h27], by simp, ?_⟩).trans (by simp)
      rw [portsTo_miss c]
  · rintro e _ L hL ⟨h1, h2, h5, h27, h28, rfl⟩
    simp [c_fabric_InitialOps_l0, c_fabric_InitialOps_k1, h1, h2, h5, h27, h28, hL]
  · simp [portsTo]
end Go.Av
