/-
  Lemmas for the law.
-/
import Derived.Test.YtndppilbpccjfaaGreatT40bN
set_option linter.unusedVariables false
set_option linter.unusedSimpArgs false
set_option linter.constructorNameAsVariable false
namespace Go.Av
set_option maxRecDepth 4000
def sameP (a b : PortID) : Bool := decide (a.switch = b.switch) && decide (a.port = b.port)
def dupAt (U : List PortID) (i : Nat) : Bool := (U.take i).any (sameP (U.getD i default))
def badN (n : Int) : Bool := decide (n < 1) || decide (16 < n)
def chkD (links : List Link) : Int := if links.any (fun l => decide (l.a.switch = l.b.switch)) then 2 else 0
def chkC (links : List Link) (hosts : List PortID) : Int := if (List.range (endsL links hosts).length).any (dupAt (endsL links hosts)) then 7 else chkD links
def chkB (ports : List Int) (links : List Link) (hosts : List PortID) : Int := if (endsL links hosts).any (fun a => !exB ports a) then 9 else chkC links hosts
def chkA (ports : List Int) (links : List Link) (hosts : List PortID) : Int := if ports.any badN then 9 else chkB ports links hosts
def topoChk (ports : List Int) (links : List Link) (hosts : List PortID) : Int :=
  if ports = [] then 8 else if 16 < ports.length then 12 else if 32 < links.length then 12 else if 16 < hosts.length then 12 else chkA ports links hosts

theorem topology_Check_ok (ports : List Int) (links : List Link) (hosts : List PortID) : pureI Φ f_topology_Check [.agg [.slice 1 (ports.map cI), .slice 5 (links.map Link.c), .slice 2 (hosts.map PortID.c)]] =
    some (.val (.int .i64 (topoChk ports links hosts))) := by
  rw [pureI_go (fn := c_topology_Check) rfl rfl]
  simp [c_topology_Check]
  unfold topoChk
  by_cases q1 : ports = []
  · simp [q1]
  by_cases q2 : 16 < ports.length
  · simp [q1, q2]
  by_cases q3 : 32 < links.length
  · simp [q1, q2, q3]
  by_cases q4 : 16 < hosts.length
  · simp [q1, q2, q3, q4]
  have f1 : ports.length ≤ 16 := by omega
  have f2 : links.length ≤ 32 := by omega
  have f3 : hosts.length ≤ 16 := by omega
  have fU := endsL_length links hosts
  simp [q1, q2, q3, q4]
  -- the numbers of ports
  refine (loop_any ports badN (some (.val (.int .i64 9))) (some (.val (.int .i64 (chkB ports links hosts))))
    (fun i e h => look 1 e = some (.ptr 0 3 0 0) ∧ look 35 e = some (.slice 1 (ports.map cI)) ∧ look 36 e = some (.int .i64 ports.length) ∧ look 37 e = some (.int .i64 i) ∧
      HP [(0, AO.row 3 [[.slice 1 (ports.map cI), .slice 5 (links.map Link.c), .slice 2 (hosts.map PortID.c)]])] 1 h) ?_ ?_ ?_ _ _ ?_).trans (by unfold chkA; split <;> rfl)
  · rintro i e _ L hi hL ⟨h1, h35, h36, h37, T, n, hT, rfl⟩ hb
    cases c1 : decide (ports[i] < 1) with
    | true => simp [c_topology_Check_l0, cI, h1, h35, h36, h37, hi, hL, c1]
    | false =>
      have c2 : decide (16 < ports[i]) = true := by simpa only [badN, c1, Bool.false_or] using hb
      simp [c_topology_Check_l0, cI, h1, h35, h36, h37, hi, hL, c1, c2]
  · rintro i e _ L X hi hL ⟨h1, h35, h36, h37, T, n, hT, rfl⟩ hb ih
    simp only [badN, Bool.or_eq_false_iff] at hb
    have hw : IntKind.wrap .i64 ((i : Int) + 1) = ((i + 1 : Nat) : Int) := wrap64 (by omega) (by omega)
    simp [c_topology_Check_l0, cI, h1, h35, h36, h37, hi, hL, hb.1, hb.2, hw]
    exact ih _ _ ⟨by simp [h1], by simp [h35], by simp [h36], by simp, HP.same hT⟩
  · rintro e _ L hL ⟨h1, h35, h36, h37, T, n, hT, rfl⟩
    simp [c_topology_Check_l0, c_topology_Check_k9, h1, h35, h36, h37, hL, topology_ends_ok _ _ _ f2 f3]
    -- the ends
    refine (loop_any (endsL links hosts) (fun a => !exB ports a) (some (.val (.int .i64 9))) (some (.val (.int .i64 (chkC links hosts))))
      (fun i e h => look 1 e = some (.ptr 0 3 0 0) ∧ look 5 e = some (.slice 2 ((endsL links hosts).map PortID.c)) ∧ look 50 e = some (.slice 2 ((endsL links hosts).map PortID.c)) ∧ look 51 e = some (.int .i64 (endsL links hosts).length) ∧ look 52 e = some (.int .i64 i) ∧
        HP [(0, AO.row 3 [[.slice 1 (ports.map cI), .slice 5 (links.map Link.c), .slice 2 (hosts.map PortID.c)]])] 1 h) ?_ ?_ ?_ _ _ ?_).trans (by unfold chkB; split <;> rfl)
    · rintro i e _ L hi hL ⟨h1, h5, h50, h51, h52, T, n, hT, rfl⟩ hb
      have hT' := hT (n + 1) (Nat.le_refl _)
      have hb' : exB ports ⟨(endsL links hosts)[i].switch, (endsL links hosts)[i].port⟩ = false := by simpa using hb
      simp [c_topology_Check_l1, PortID.c, h1, h5, h50, h51, h52, hi, hL, hT', topology_exists_ok, hb']
    · rintro i e _ L X hi hL ⟨h1, h5, h50, h51, h52, T, n, hT, rfl⟩ hb ih
      have hT' := hT (n + 1) (Nat.le_refl _)
      have hb' : exB ports ⟨(endsL links hosts)[i].switch, (endsL links hosts)[i].port⟩ = true := by simpa using hb
      have hw : IntKind.wrap .i64 ((i : Int) + 1) = ((i + 1 : Nat) : Int) := wrap64 (by omega) (by omega)
      simp [c_topology_Check_l1, PortID.c, h1, h5, h50, h51, h52, hi, hL, hT', topology_exists_ok, hb', hw]
      exact ih _ _ ⟨by simp [h1], by simp [h5], by simp [h50], by simp [h51], by simp, HP.next hT⟩
    · rintro e _ L hL ⟨h1, h5, h50, h51, h52, T, n, hT, rfl⟩
      simp [c_topology_Check_l1, c_topology_Check_k8, h1, h5, h50, h51, h52, hL]
      -- no port twice
      refine (loop_any (List.range (endsL links hosts).length) (dupAt (endsL links hosts)) (some (.val (.int .i64 7))) (some (.val (.int .i64 (chkD links))))
        (fun i e h => look 1 e = some (.ptr 0 3 0 0) ∧ look 5 e = some (.slice 2 ((endsL links hosts).map PortID.c)) ∧ look 61 e = some (.slice 2 ((endsL links hosts).map PortID.c)) ∧ look 62 e = some (.int .i64 (endsL links hosts).length) ∧ look 63 e = some (.int .i64 i) ∧
          HP [(0, AO.row 3 [[.slice 1 (ports.map cI), .slice 5 (links.map Link.c), .slice 2 (hosts.map PortID.c)]])] 1 h) ?_ ?_ ?_ _ _ ?_).trans (by unfold chkC; split <;> rfl)
      · rintro i e _ L hi hL ⟨h1, h5, h61, h62, h63, T, n, hT, rfl⟩ hb
        rw [List.length_range] at hi
        simp only [List.getElem_range] at hb
        have hT' := hT (n + 1) (Nat.le_refl _)
        have hi' : i ≤ (endsL links hosts).length := by omega
        have hd : ((endsL links hosts).take i).any (sameP (endsL links hosts)[i]) = true := by
          unfold dupAt at hb
          rwa [show (endsL links hosts).getD i default = (endsL links hosts)[i] by simp [List.getD_eq_getElem?_getD, hi]] at hb
        simp [c_topology_Check_l4, PortID.c, h1, h5, h61, h62, h63, hi, hL, hT', hi']
        refine loop_hit ((endsL links hosts).take i) (sameP (endsL links hosts)[i]) hd (some (Rt.val (.int .i64 7)))
          (fun k e h => look 9 e = some (.ptr (n + 1) 2 0 0) ∧ look 70 e = some (.slice 2 (((endsL links hosts).map PortID.c).take i)) ∧ look 71 e = some (.int .i64 i) ∧ look 72 e = some (.int .i64 k) ∧
            HF (fun R => (0, AO.row 3 [[.slice 1 (ports.map cI), .slice 5 (links.map Link.c), .slice 2 (hosts.map PortID.c)]]) :: (T ++ (n + 1, AO.row 2 [[.int .i64 (endsL links hosts)[i].switch, .int .i64 (endsL links hosts)[i].port]]) :: R)) (n + 2) h) ?_ ?_ _ _ ?_
        · rintro k e _ L' hk hL' ⟨h9, h70, h71, h72, T2, n2, hT2, rfl⟩ hb
          simp only [List.length_take] at hk
          have hk1 : k < i := by omega
          have hk2 : k < (endsL links hosts).length := by omega
          have hT3 := hT (n2 + (n + 2)) (by omega)
          have hT4 := hT2 (n2 + (n + 2)) (Nat.le_refl _)
          have hne : n + 1 ≠ n2 + (n + 2) := by omega
          have hne2 : 0 ≠ n2 + (n + 2) := by omega
          have hm : min i (endsL links hosts).length = i := by omega
          simp only [List.getElem_take, sameP, Bool.and_eq_true] at hb
          simp [c_topology_Check_l2, PortID.c, h9, h70, h71, h72, hk1, hk2, hL', hT', hT3, hT4, hne, hne2, hb, hm]
        · rintro k e _ L' hk hL' ⟨h9, h70, h71, h72, T2, n2, hT2, rfl⟩ hb ih
          simp only [List.length_take] at hk
          have hk1 : k < i := by omega
          have hk2 : k < (endsL links hosts).length := by omega
          have hT3 := hT (n2 + (n + 2)) (by omega)
          have hT4 := hT2 (n2 + (n + 2)) (Nat.le_refl _)
          have hne : n + 1 ≠ n2 + (n + 2) := by omega
          have hne2 : 0 ≠ n2 + (n + 2) := by omega
          have hm : min i (endsL links hosts).length = i := by omega
          have hw : IntKind.wrap .i64 ((k : Int) + 1) = ((k + 1 : Nat) : Int) := wrap64 (by omega) (by omega)
          simp only [List.getElem_take, sameP] at hb
          simp [c_topology_Check_l2, PortID.c, h9, h70, h71, h72, hk1, hk2, hL', hT', hT3, hT4, hne, hne2, hb, hm, hw]
          exact ih _ _ ⟨by simp [h9], by simp [h70], by simp [h71], by simp, HF.next hT2⟩
        · simp
          exact HF.mk
      · rintro i e _ L X hi hL ⟨h1, h5, h61, h62, h63, T, n, hT, rfl⟩ hb ihX
        rw [List.length_range] at hi
        simp only [List.getElem_range] at hb
        have hT' := hT (n + 1) (Nat.le_refl _)
        have hi' : i ≤ (endsL links hosts).length := by omega
        have hwi : IntKind.wrap .i64 ((i : Int) + 1) = ((i + 1 : Nat) : Int) := wrap64 (by omega) (by omega)
        have hd : ((endsL links hosts).take i).any (sameP (endsL links hosts)[i]) = false := by
          unfold dupAt at hb
          rwa [show (endsL links hosts).getD i default = (endsL links hosts)[i] by simp [List.getD_eq_getElem?_getD, hi]] at hb
        simp [c_topology_Check_l4, PortID.c, h1, h5, h61, h62, h63, hi, hL, hT', hi']
        refine loop_miss ((endsL links hosts).take i) (sameP (endsL links hosts)[i]) hd X
          (fun k e h => look 1 e = some (.ptr 0 3 0 0) ∧ look 5 e = some (.slice 2 ((endsL links hosts).map PortID.c)) ∧ look 61 e = some (.slice 2 ((endsL links hosts).map PortID.c)) ∧ look 62 e = some (.int .i64 (endsL links hosts).length) ∧ look 63 e = some (.int .i64 i) ∧
            look 9 e = some (.ptr (n + 1) 2 0 0) ∧ look 70 e = some (.slice 2 (((endsL links hosts).map PortID.c).take i)) ∧ look 71 e = some (.int .i64 i) ∧ look 72 e = some (.int .i64 k) ∧
            HF (fun R => (0, AO.row 3 [[.slice 1 (ports.map cI), .slice 5 (links.map Link.c), .slice 2 (hosts.map PortID.c)]]) :: (T ++ (n + 1, AO.row 2 [[.int .i64 (endsL links hosts)[i].switch, .int .i64 (endsL links hosts)[i].port]]) :: R)) (n + 2) h) ?_ ?_ _ _ ?_
        · rintro k e _ L' hk hL' ⟨h1, h5, h61, h62, h63, h9, h70, h71, h72, T2, n2, hT2, rfl⟩ hb ih
          simp only [List.length_take] at hk
          have hk1 : k < i := by omega
          have hk2 : k < (endsL links hosts).length := by omega
          have hT3 := hT (n2 + (n + 2)) (by omega)
          have hT4 := hT2 (n2 + (n + 2)) (Nat.le_refl _)
          have hne : n + 1 ≠ n2 + (n + 2) := by omega
          have hne2 : 0 ≠ n2 + (n + 2) := by omega
          have hm : min i (endsL links hosts).length = i := by omega
          have hw : IntKind.wrap .i64 ((k : Int) + 1) = ((k + 1 : Nat) : Int) := wrap64 (by omega) (by omega)
          simp only [List.getElem_take, sameP] at hb
          simp [c_topology_Check_l2, PortID.c, h9, h70, h71, h72, hk1, hk2, hL', hT', hT3, hT4, hne, hne2, hb, hm, hw]
          exact ih _ _ ⟨by simp [h1], by simp [h5], by simp [h61], by simp [h62], by simp [h63], by simp [h9], by simp [h70], by simp [h71], by simp, HF.next hT2⟩
        · rintro e _ L' hL' ⟨h1, h5, h61, h62, h63, h9, h70, h71, h72, T2, n2, hT2, rfl⟩
          have hm : min i (endsL links hosts).length = i := by omega
          simp [hm] at h72
          simp [c_topology_Check_l2, c_topology_Check_k3, PortID.c, h9, h63, h70, h71, h72, hL', hwi]
          refine ihX _ _ ⟨by simp [h1], by simp [h5], by simp [h61], by simp [h62], by simp, ?_⟩
          exact ⟨_, n2 + (n + 1), (hT.two hT2 (by omega)).mono (by omega), rfl⟩
        · simp [h1, h5, h61, h62, h63]
          exact HF.mk
      · rintro e _ L hL ⟨h1, h5, h61, h62, h63, T, n, hT, rfl⟩
        simp only [List.length_range] at h63
        simp [c_topology_Check_l4, c_topology_Check_k7, h1, h5, h61, h62, h63, hL]
        refine (loop_any links (fun l => decide (l.a.switch = l.b.switch)) (some (.val (.int .i64 2))) (some (.val (.int .i64 0)))
          (fun i e h => look 82 e = some (.slice 5 (links.map Link.c)) ∧ look 83 e = some (.int .i64 links.length) ∧ look 84 e = some (.int .i64 i) ∧
            HP [(0, AO.row 3 [[.slice 1 (ports.map cI), .slice 5 (links.map Link.c), .slice 2 (hosts.map PortID.c)]])] 1 h) ?_ ?_ ?_ _ _ ?_).trans (by unfold chkD; split <;> rfl)
        · rintro i e _ L hi hL ⟨h82, h83, h84, T, n, hT, rfl⟩ hb
          have hT' := hT (n + 1) (Nat.le_refl _)
          simp [c_topology_Check_l5, Link.c, h82, h83, h84, hi, hL, hT', hb]
        · rintro i e _ L X hi hL ⟨h82, h83, h84, T, n, hT, rfl⟩ hb ih
          have hT' := hT (n + 1) (Nat.le_refl _)
          have hw : IntKind.wrap .i64 ((i : Int) + 1) = ((i + 1 : Nat) : Int) := wrap64 (by omega) (by omega)
          simp [c_topology_Check_l5, Link.c, h82, h83, h84, hi, hL, hT', hb, hw]
          exact ih _ _ ⟨by simp [h82], by simp [h83], by simp, HP.next hT⟩
        · rintro e _ L hL ⟨h82, h83, h84, T, n, hT, rfl⟩
          simp [c_topology_Check_l5, c_topology_Check_k6, h82, h83, h84, hL]
        · simp
          exact HP.same hT
      · simp [h1, h5]
        exact HP.same hT
    · simp [h1]
      exact HP.same hT
  · simp [HP.mk]
end Go.Av
