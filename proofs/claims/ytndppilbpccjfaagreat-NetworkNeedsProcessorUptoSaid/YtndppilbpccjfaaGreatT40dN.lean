/-
  Lemmas for the law.
-/
import Derived.Test.YtndppilbpccjfaaGreatT40cN
set_option linter.unusedVariables false
set_option linter.unusedSimpArgs false
set_option linter.constructorNameAsVariable false
namespace Go.Av
set_option maxRecDepth 4000
theorem ref40_Check_ok (ports : List Int) (links : List Link) (hosts : List PortID) : pureI Φ f_ref40_Check [.agg [.slice 1 (ports.map cI), .slice 5 (links.map Link.c), .slice 2 (hosts.map PortID.c)]] =
    some (.val (.int .i64 (topoChk ports links hosts))) := by
  rw [pureI_go (fn := c_ref40_Check) rfl rfl]
  simp [c_ref40_Check]
  unfold topoChk
  by_cases q1 : ports = []
  · simp [q1]
  by_cases q2 : 16 < ports.length
  · simp [q1, q2]
  by_cases q3 : 32 < links.length
  · simp [q1, q2, q3]
  by_cases q4 : 16 < hosts.length
  · simp [q1, q2, q3, q4]
  have f1 : ports.length ≤ 16 := by omega
  have f2 : links.length ≤ 32 := by omega
  have f3 : hosts.length ≤ 16 := by omega
  have fU := endsL_length links hosts
  simp [q1, q2, q3, q4]
  refine (loop_any ports badN (some (.val (.int .i64 9))) (some (.val (.int .i64 (chkB ports links hosts))))
    (fun i e h => look 1 e = some (.ptr 0 3 0 0) ∧ look 3 e = some (.int .i64 i) ∧
      h = ⟨[(0, AO.row 3 [[.slice 1 (ports.map cI), .slice 5 (links.map Link.c), .slice 2 (hosts.map PortID.c)]])], 1⟩) ?_ ?_ ?_ _ _ ?_).trans (by unfold chkA; split <;> rfl)
  · rintro i e _ L hi hL ⟨h1, h3, rfl⟩ hb
    cases c1 : decide (ports[i] < 1) with
    | true => simp [c_ref40_Check_l0, cI, h1, h3, hi, hL, c1]
    | false =>
      have c2 : decide (16 < ports[i]) = true := by simpa only [badN, c1, Bool.false_or] using hb
      simp [c_ref40_Check_l0, cI, h1, h3, hi, hL, c1, c2]
  · rintro i e _ L X hi hL ⟨h1, h3, rfl⟩ hb ih
    simp only [badN, Bool.or_eq_false_iff] at hb
    have hw : IntKind.wrap .i64 ((i : Int) + 1) = ((i + 1 : Nat) : Int) := wrap64 (by omega) (by omega)
    simp [c_ref40_Check_l0, cI, h1, h3, hi, hL, hb.1, hb.2, hw]
    exact ih _ _ ⟨by simp [h1], by simp, rfl⟩
  · rintro e _ L hL ⟨h1, h3, rfl⟩
    simp [c_ref40_Check_l0, c_ref40_Check_k9, h1, h3, hL, ref40_ends_ok _ _ _ f2 f3]
    refine (loop_any (endsL links hosts) (fun a => !exB ports a) (some (.val (.int .i64 9))) (some (.val (.int .i64 (chkC links hosts))))
      (fun i e h => look 1 e = some (.ptr 0 3 0 0) ∧ look 4 e = some (.slice 2 ((endsL links hosts).map PortID.c)) ∧ look 5 e = some (.int .i64 i) ∧
        h = ⟨[(0, AO.row 3 [[.slice 1 (ports.map cI), .slice 5 (links.map Link.c), .slice 2 (hosts.map PortID.c)]])], 1⟩) ?_ ?_ ?_ _ _ ?_).trans (by unfold chkB; split <;> rfl)
    · rintro i e _ L hi hL ⟨h1, h4, h5, rfl⟩ hb
      have hb' : exB ports ⟨(endsL links hosts)[i].switch, (endsL links hosts)[i].port⟩ = false := by simpa using hb
      simp [c_ref40_Check_l1, PortID.c, h1, h4, h5, hi, hL, ref40_port_ok, hb']
    · rintro i e _ L X hi hL ⟨h1, h4, h5, rfl⟩ hb ih
      have hb' : exB ports ⟨(endsL links hosts)[i].switch, (endsL links hosts)[i].port⟩ = true := by simpa using hb
      have hw : IntKind.wrap .i64 ((i : Int) + 1) = ((i + 1 : Nat) : Int) := wrap64 (by omega) (by omega)
      simp [c_ref40_Check_l1, PortID.c, h1, h4, h5, hi, hL, ref40_port_ok, hb', hw]
      exact ih _ _ ⟨by simp [h1], by simp [h4], by simp, rfl⟩
    · rintro e _ L hL ⟨h1, h4, h5, rfl⟩
      simp [c_ref40_Check_l1, c_ref40_Check_k8, h1, h4, h5, hL]
      refine (loop_any (List.range (endsL links hosts).length) (dupAt (endsL links hosts)) (some (.val (.int .i64 7))) (some (.val (.int .i64 (chkD links))))
        (fun i e h => look 1 e = some (.ptr 0 3 0 0) ∧ look 4 e = some (.slice 2 ((endsL links hosts).map PortID.c)) ∧ look 6 e = some (.int .i64 i) ∧
          h = ⟨[(0, AO.row 3 [[.slice 1 (ports.map cI), .slice 5 (links.map Link.c), .slice 2 (hosts.map PortID.c)]])], 1⟩) ?_ ?_ ?_ _ _ ?_).trans (by unfold chkC; split <;> rfl)
      · rintro i e _ L hi hL ⟨h1, h4, h6, rfl⟩ hb
        rw [List.length_range] at hi
        simp only [List.getElem_range] at hb
        have hd : ((endsL links hosts).take i).any (sameP (endsL links hosts)[i]) = true := by
          unfold dupAt at hb
          rwa [show (endsL links hosts).getD i default = (endsL links hosts)[i] by simp [List.getD_eq_getElem?_getD, hi]] at hb
        simp [c_ref40_Check_l4, PortID.c, h1, h4, h6, hi, hL]
        refine loop_hit ((endsL links hosts).take i) (sameP (endsL links hosts)[i]) hd (some (Rt.val (.int .i64 7)))
          (fun k e h => look 4 e = some (.slice 2 ((endsL links hosts).map PortID.c)) ∧ look 6 e = some (.int .i64 i) ∧ look 7 e = some (.int .i64 k)) ?_ ?_ _ _ ?_
        · rintro k e h L' hk hL' ⟨h4, h6, h7⟩ hb
          simp only [List.length_take] at hk
          have hk1 : k < i := by omega
          have hk2 : k < (endsL links hosts).length := by omega
          simp only [List.getElem_take, sameP, Bool.and_eq_true] at hb
          simp [c_ref40_Check_l2, PortID.c, h4, h6, h7, hk1, hk2, hi, hL', hb]
        · rintro k e h L' hk hL' ⟨h4, h6, h7⟩ hb ih
          simp only [List.length_take] at hk
          have hk1 : k < i := by omega
          have hk2 : k < (endsL links hosts).length := by omega
          have hw : IntKind.wrap .i64 ((k : Int) + 1) = ((k + 1 : Nat) : Int) := wrap64 (by omega) (by omega)
          simp only [List.getElem_take, sameP] at hb
          simp [c_ref40_Check_l2, PortID.c, h4, h6, h7, hk1, hk2, hi, hL', hb, hw]
          exact ih _ _ ⟨by simp [h4], by simp [h6], by simp⟩
        · simp [h4, h6]
      · rintro i e _ L X hi hL ⟨h1, h4, h6, rfl⟩ hb ihX
        rw [List.length_range] at hi
        simp only [List.getElem_range] at hb
        have hwi : IntKind.wrap .i64 ((i : Int) + 1) = ((i + 1 : Nat) : Int) := wrap64 (by omega) (by omega)
        have hd : ((endsL links hosts).take i).any (sameP (endsL links hosts)[i]) = false := by
          unfold dupAt at hb
          rwa [show (endsL links hosts).getD i default = (endsL links hosts)[i] by simp [List.getD_eq_getElem?_getD, hi]] at hb
        simp [c_ref40_Check_l4, PortID.c, h1, h4, h6, hi, hL]
        refine loop_miss ((endsL links hosts).take i) (sameP (endsL links hosts)[i]) hd X
          (fun k e h => look 1 e = some (.ptr 0 3 0 0) ∧ look 4 e = some (.slice 2 ((endsL links hosts).map PortID.c)) ∧ look 6 e = some (.int .i64 i) ∧ look 7 e = some (.int .i64 k) ∧
            h = ⟨[(0, AO.row 3 [[.slice 1 (ports.map cI), .slice 5 (links.map Link.c), .slice 2 (hosts.map PortID.c)]])], 1⟩) ?_ ?_ _ _ ?_
        · rintro k e _ L' hk hL' ⟨h1, h4, h6, h7, rfl⟩ hb ih
          simp only [List.length_take] at hk
          have hk1 : k < i := by omega
          have hk2 : k < (endsL links hosts).length := by omega
          have hw : IntKind.wrap .i64 ((k : Int) + 1) = ((k + 1 : Nat) : Int) := wrap64 (by omega) (by omega)
          simp only [List.getElem_take, sameP] at hb
          simp [c_ref40_Check_l2, PortID.c, h4, h6, h7, hk1, hk2, hi, hL', hb, hw]
          exact ih _ _ ⟨by simp [h1], by simp [h4], by simp [h6], by simp, rfl⟩
        · rintro e _ L' hL' ⟨h1, h4, h6, h7, rfl⟩
          have hm : min i (endsL links hosts).length = i := by omega
          simp [hm] at h7
          simp [c_ref40_Check_l2, c_ref40_Check_k3, PortID.c, h4, h6, h7, hL', hwi]
          exact ihX _ _ ⟨by simp [h1], by simp [h4], by simp, rfl⟩
        · simp [h1, h4, h6]
      · rintro e _ L hL ⟨h1, h4, h6, rfl⟩
        simp only [List.length_range] at h6
        simp [c_ref40_Check_l4, c_ref40_Check_k7, h1, h4, h6, hL]
        refine (loop_any links (fun l => decide (l.a.switch = l.b.switch)) (some (.val (.int .i64 2))) (some (.val (.int .i64 0)))
          (fun i e h => look 1 e = some (.ptr 0 3 0 0) ∧ look 8 e = some (.int .i64 i) ∧
            h = ⟨[(0, AO.row 3 [[.slice 1 (ports.map cI), .slice 5 (links.map Link.c), .slice 2 (hosts.map PortID.c)]])], 1⟩) ?_ ?_ ?_ _ _ ?_).trans (by unfold chkD; split <;> rfl)
        · rintro i e _ L hi hL ⟨h1, h8, rfl⟩ hb
          simp [c_ref40_Check_l5, Link.c, h1, h8, hi, hL, hb]
        · rintro i e _ L X hi hL ⟨h1, h8, rfl⟩ hb ih
          have hw : IntKind.wrap .i64 ((i : Int) + 1) = ((i + 1 : Nat) : Int) := wrap64 (by omega) (by omega)
          simp [c_ref40_Check_l5, Link.c, h1, h8, hi, hL, hb, hw]
          exact ih _ _ ⟨by simp [h1], by simp, rfl⟩
        · rintro e _ L hL ⟨h1, h8, rfl⟩
          simp [c_ref40_Check_l5, c_ref40_Check_k6, h1, h8, hL]
        · simp [h1]
      · simp [h1, h4]
    · simp [h1]
  · simp
end Go.Av
