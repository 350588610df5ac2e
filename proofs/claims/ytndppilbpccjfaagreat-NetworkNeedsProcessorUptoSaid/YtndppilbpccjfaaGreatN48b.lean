/-
  The law NetworkNeedsProcessor.
-/
import Derived.Test.YtndppilbpccjfaaGreatT40dN
import Derived.Test.YtndppilbpccjfaaGreatW48N
set_option linter.unusedVariables false
set_option linter.unusedSimpArgs false
set_option linter.constructorNameAsVariable false
namespace Go.Av
set_option maxRecDepth 8000
def addW (n : Int) (r : List Rw) : Int := IntKind.wrap .i64 (n + (r.length : Int))
def rowsK (n : Int) (c : Config) : Int := c.rows.foldl addW n
theorem large_ok (ports : List Int) (links : List Link) (hosts : List PortID) (cs : List Config) (h1 : ports.length < 2 ^ 40) (h2 : links.length < 2 ^ 40) (h3 : hosts.length < 2 ^ 40) (h4 : cs.length < 2 ^ 40) (h5 : ∀ c ∈ cs, c.rows.length < 2 ^ 40) :
    ∃ b, pureI Φ f_law48_large [.agg [.slice 1 (ports.map cI), .slice 5 (links.map Link.c), .slice 2 (hosts.map PortID.c)], .slice 4 (cs.map Config.c), .slice 6 []] = some (.val (.bool b)) := by
  rw [pureI_go (fn := c_law48_large) rfl rfl]
  by_cases a1 : 20 < ports.length
  · exact ⟨true, by simp [c_law48_large, a1]⟩
  by_cases a2 : 40 < links.length
  · exact ⟨true, by simp [c_law48_large, a1, a2]⟩
  by_cases a3 : 20 < hosts.length
  · exact ⟨true, by simp [c_law48_large, a1, a2, a3]⟩
  by_cases a4 : 20 < cs.length
  · exact ⟨true, by simp [c_law48_large, a1, a2, a3, a4]⟩
  refine ⟨decide (100 < cs.foldl rowsK 0), ?_⟩
  simp [c_law48_large, a1, a2, a3, a4]
  refine (loop_nat0 cs.length (fun i e => look 1 e = some (.slice 4 (cs.map Config.c)) ∧ look 2 e = some (.slice 6 []) ∧ look 7 e = some (.int .i64 ((cs.take i).foldl rowsK 0)) ∧ look 8 e = some (.int .i64 i))
    (fun _ => some (Rt.val (.bool (decide (100 < cs.foldl rowsK 0))))) ?_ ?_ 0 _ (Nat.zero_le _) ?_)
  · rintro i e L hi hL ⟨q1, q2, q7, q8⟩ ih
    have hw : IntKind.wrap .i64 ((i : Int) + 1) = ((i + 1 : Nat) : Int) := wrap64 (by omega) (by omega)
    simp [c_law48_large_l2, q1, q2, q7, q8, hi, hL]
    obtain ⟨rows, hrows⟩ : ∃ rows, cs[i].rows = rows := ⟨_, rfl⟩
    have hrl : rows.length < 2 ^ 40 := by rw [← hrows]; exact h5 _ (List.getElem_mem hi)
    have hcell : (Config.c cs[i])[0]? = some (.slice 1 (rows.map fun r => cS 5 Rw.c r)) := by rw [← hrows]; simp [Config.c]
    have hstep : (cs.take (i + 1)).foldl rowsK 0 = rows.foldl addW ((cs.take i).foldl rowsK 0) := by
      rw [List.take_add_one, List.getElem?_eq_getElem hi, Option.toList_some, List.foldl_append]
      simp only [List.foldl_cons, List.foldl_nil, rowsK, hrows]
    refine (loop_nat0 rows.length (fun k e => look 1 e = some (.slice 4 (cs.map Config.c)) ∧ look 2 e = some (.slice 6 []) ∧ look 7 e = some (.int .i64 ((rows.take k).foldl addW ((cs.take i).foldl rowsK 0))) ∧ look 8 e = some (.int .i64 i) ∧ look 9 e = some (.int .i64 k))
      (fun _ => some (Rt.val (.bool (decide (100 < cs.foldl rowsK 0))))) ?_ ?_ 0 _ (Nat.zero_le _) ?_)
    · rintro k e' L' hk hL' ⟨p1, p2, p7, p8, p9⟩ ih'
      have hw' : IntKind.wrap .i64 ((k : Int) + 1) = ((k + 1 : Nat) : Int) := wrap64 (by omega) (by omega)
      have hgk : (rows.map fun r => cS 5 Rw.c r)[k]? = some [.slice 5 (rows[k].map Rw.c)] := by simp [hk, cS]
      simp [c_law48_large_l0, p1, p2, p7, p8, p9, hi, hk, hL', hw', Config.c, hrows, hgk, cS]
      refine ih' _ ?_
      refine ⟨by simp [p1], by simp [p2], ?_, by simp [p8], by simp⟩
      rw [List.take_add_one, List.getElem?_eq_getElem hk, Option.toList_some, List.foldl_append]
      simp [addW]
    · rintro e' L' hL' ⟨p1, p2, p7, p8, p9⟩
      simp [c_law48_large_l0, c_law48_large_k1, p1, p2, p7, p8, p9, hi, hL', Config.c, hrows, hw]
      refine ih _ ?_
      refine ⟨by simp [p1], by simp [p2], ?_, by simp⟩
      simp [p7, hstep]
    · simp [q1, q2, q7, q8]
  · rintro e L hL ⟨q1, q2, q7, q8⟩
    simp [c_law48_large_l2, c_law48_large_k5, c_law48_large_k4, q1, q2, q7, q8, hL]
    rw [go_loop]
    simp [c_law48_large_l3, q1, q2, q7, q8]
  · simp
theorem New_nil (ports : List Int) (links : List Link) (hosts : List PortID) (l : AV) (n : Nat) (hl : lenOf l = some n) (hn : n < 2 ^ 40) (h3 : ports.length < 2 ^ 40) (v : AO) (r : List (Nat × AO)) :
    ∃ H, callI Φ f_network_New [.agg [.slice 1 (ports.map cI), .slice 5 (links.map Link.c), .slice 2 (hosts.map PortID.c)], l, .nilfunc] ⟨[(0, v)], 1⟩ = some (.val (.tup [.nilptr, .int .i64 (if topoChk ports links hosts = 0 then 2 else topoChk ports links hosts)]), ⟨[(0, v), (1, .row 3 [[.slice 1 (ports.map cI), .slice 5 (links.map Link.c), .slice 2 (hosts.map PortID.c)]])], H⟩) := by
  refine ⟨2, ?_⟩
  rw [callI_go (fn := c_network_New) rfl rfl]
  by_cases h : topoChk ports links hosts = 0
  · simp [c_network_New, topology_Check_ok, h]
  · simp [c_network_New, topology_Check_ok, h]
theorem NeedsProcessor_ok (ports : List Int) (links : List Link) (hosts : List PortID) (cs : List Config) (h1 : ports.length < 2 ^ 40) (h2 : links.length < 2 ^ 40) (h3 : hosts.length < 2 ^ 40) (h4 : cs.length < 2 ^ 40) (h5 : ∀ c ∈ cs, c.rows.length < 2 ^ 40) :
    pureI Φ f_law48_NetworkNeedsProcessor [.agg [.slice 1 (ports.map cI), .slice 5 (links.map Link.c), .slice 2 (hosts.map PortID.c)], .slice 4 (cs.map Config.c)] = some (.val (.bool true)) := by
  obtain ⟨b, hb⟩ := large_ok ports links hosts cs h1 h2 h3 h4 h5
  obtain ⟨H, hnew⟩ := New_nil ports links hosts (.slice 4 (cs.map Config.c)) cs.length (by simp [lenOf]) h4 h1 (.row 3 [[.slice 1 (ports.map cI), .slice 5 (links.map Link.c), .slice 2 (hosts.map PortID.c)]]) []
  rw [pureI_go (fn := c_law48_NetworkNeedsProcessor) rfl rfl]
  cases b with
  | true => simp [c_law48_NetworkNeedsProcessor, hb, works48_ok]
  | false =>
    by_cases h : topoChk ports links hosts = 0
    · simp only [if_pos h] at hnew
      simp [c_law48_NetworkNeedsProcessor, hb, hnew, ref40_Check_ok, h, works48_ok]
    · simp only [if_neg h] at hnew
      simp [c_law48_NetworkNeedsProcessor, hb, hnew, ref40_Check_ok, h, works48_ok]
end Go.Av
