/-
  Lemmas for the law.
-/
import Derived.Test.YtdgpefplgldkfaaB17
set_option linter.unusedVariables false
set_option linter.unusedSimpArgs false
set_option linter.constructorNameAsVariable false
namespace Go.Av
set_option maxRecDepth 8000
def vs0 : List Bool := [false, false, false]
def fs0 : List AV := [.row 55 1 0 1, .row 90 1 0 2, .row 125 1 0 3]
def gs0 : List (List Int) := [[0], [0, 0], [0, 0, 0]]
section
variable {data : List Int}
theorem run_start (hd : data.length ≤ 512) {R : Option Rt} (h : ∀ e O, RunE e [] 0 → RunH O 130 data 0 vs0 fs0 gs0 0 → go Φ (finP rsRun) [.c (.loop c_parser_run_l0), .b 0, .c c_parser_run_k1] .normal ⟨e, ⟨O, 130⟩⟩ = R) :
    pureI Φ f_parser_run [.agg pvA, .slice 1 (data.map c8)] = R := by
  rw [pureI_go (fn := c_parser_run) rfl rfl]
  have hnew := env_New_ok [(0, .row 9 [pvA]), (1, .row 4 [z4])] 2 (by intro j hj; have h1 : ¬ (0 = j) := by omega
                                                                      have h2 : ¬ (1 = j) := by omega
                                                                      simp [look, h1, h2]) (by simp)
  have href := parser_refuse_ok data (by omega)
  rw [if_neg (by omega)] at href
  have hX1 : look 0 ([(0, AO.row 9 [pvA]), (1, .row 4 [z4])] ++ eO 2) = some (.row 9 [pvA]) := rfl
  have hT : Tail ([(0, AO.row 9 [pvA]), (1, .row 4 [z4])] ++ eO 2 ++ [(126, .row 4 [eV 2])]) 127 := by
    intro j hj
    have : ∀ k, k < 127 → ¬ (k = j) := by intro k hk; omega
    simp [eO, look, this]
  have hread := NewReader_ok ([(0, AO.row 9 [pvA]), (1, .row 4 [z4])] ++ eO 2 ++ [(126, .row 4 [eV 2])]) 127 data hT hd
  have hH : RunH (([(0, AO.row 9 [pvA]), (1, .row 4 [z4])] ++ eO 2 ++ [(126, .row 4 [eV 2])]) ++ [(127, .tok 1 data.length), (127 + 1, rdr data 127 0)] ++ [(129, .tok 1 0)]) 130 data 0 vs0 fs0 gs0 0 := by
    refine ⟨?_, ?_, by omega, rfl, rfl, rfl, rfl, rfl, rfl, rfl, rfl, ?_, rfl, rfl⟩
    · intro j hj
      have : ∀ k, k < 130 → ¬ (k = j) := by intro k hk; omega
      simp [eO, look, this]
    · simp [eO, rdr]
    · exact .cons (.inl ⟨55, rfl, rfl, by omega⟩) (.cons (.inl ⟨90, rfl, rfl, by omega⟩) (.cons (.inl ⟨125, rfl, rfl, by omega⟩) .nil))
  have r0 : look 0 ([(0, AO.row 9 [pvA]), (1, AO.row 4 [z4])] ++ eO 2) = some (.row 9 [pvA]) := rfl
  have r126 : look 126 ([(0, AO.row 9 [pvA]), (1, AO.row 4 [z4])] ++ eO 2) = none := rfl
  have r129 : look 129 (([(0, AO.row 9 [pvA]), (1, .row 4 [z4])] ++ eO 2 ++ [(126, .row 4 [eV 2])]) ++ [(127, .tok 1 data.length), (127 + 1, rdr data 127 0)]) = none := rfl
  generalize [(0, AO.row 9 [pvA]), (1, AO.row 4 [z4])] ++ eO 2 = Y at hnew hread hH r0 r126 r129
  have y0 : look 0 (Y ++ [(126, .row 4 [eV 2])]) = some (.row 9 [pvA]) := look_head r0
  have l4 : (eV 2).length = 4 := rfl
  have tk : (eV 2).take 4 = eV 2 := rfl
  generalize eV 2 = EV at *
  simp only [List.append_assoc] at hread hH r129
  generalize hZ : Y ++ ([(126, .row 4 [EV])] ++ [(127, .tok 1 data.length), (127 + 1, rdr data 127 0)]) = Z at hread hH r129
  simp only [pvA, z4] at hnew r0 y0
  simp only [pvA] at href ⊢
  simp [c_parser_run, hnew, r0, r126, y0, l4, tk, href, hread, r129]
  have hZ2 : Y ++ ([(126, AO.row 4 [EV])] ++ ([(127, AO.tok 1 data.length), (127 + 1, rdr data 127 0)] ++ [(129, AO.tok 1 0)])) = Z ++ [(129, .tok 1 0)] := by
    rw [← hZ]; simp only [List.append_assoc]
  rw [hZ2] at hH
  exact h _ _ (by simp [RunE]) hH
theorem run_long (hd : 512 < data.length) (hd2 : data.length ≤ 1048576) : pureI Φ f_parser_run [.agg pvA, .slice 1 (data.map c8)] = some (.val (.tup [eZ, .slice 1 [], .int .i64 4])) := by
  rw [pureI_go (fn := c_parser_run) rfl rfl]
  have hnew := env_New_ok [(0, .row 9 [pvA]), (1, .row 4 [z4])] 2 (by intro j hj; have h1 : ¬ (0 = j) := by omega
                                                                      have h2 : ¬ (1 = j) := by omega
                                                                      simp [look, h1, h2]) (by simp)
  have href := parser_refuse_ok data (by omega)
  rw [if_pos hd] at href
  have r0 : look 0 ([(0, AO.row 9 [pvA]), (1, AO.row 4 [z4])] ++ eO 2) = some (.row 9 [pvA]) := rfl
  have r1 : look 1 ([(0, AO.row 9 [pvA]), (1, AO.row 4 [z4])] ++ eO 2 ++ [(126, .row 4 [eV 2])]) = some (.row 4 [z4]) := rfl
  have r126 : look 126 ([(0, AO.row 9 [pvA]), (1, AO.row 4 [z4])] ++ eO 2) = none := rfl
  have sn : snap 39 ⟨setl 1 (.row 4 [eV 2]) ([(0, AO.row 9 [pvA]), (1, AO.row 4 [z4])] ++ eO 2 ++ [(126, .row 4 [eV 2])]), 127⟩ (.agg (eV 2)) = some eZ := by
    simp [eO, eV, eZ, z4, meta0]
  generalize [(0, AO.row 9 [pvA]), (1, AO.row 4 [z4])] ++ eO 2 = Y at hnew r0 r1 r126 sn
  have y0 : look 0 (Y ++ [(126, .row 4 [eV 2])]) = some (.row 9 [pvA]) := look_head r0
  have l4 : (eV 2).length = 4 := rfl
  have tk : (eV 2).take 4 = eV 2 := rfl
  have z4l : z4.length = 4 := rfl
  have z4d : z4.drop 4 = [] := rfl
  have st1 : ∀ y, look 1 (setl 1 y (Y ++ [(126, .row 4 [eV 2])])) = some y := fun y => look_setl_same r1
  have z126 : look 126 (Y ++ [(126, .row 4 [eV 2])]) = some (.row 4 [eV 2]) := by simp [r126]
  simp only [pvA] at hnew r0 y0
  rw [show ([.agg [pv0, pv1, pv2, pv3, pv4, pv5, pv6, pv7, pv8]] : List AV) = [.agg pvA] from rfl] at hnew
  generalize hEV : eV 2 = EV at *
  simp only [pvA, z4] at hnew
  simp only [pvA] at href ⊢
  simp only [snap_agg] at sn
  simp [c_parser_run, hnew, r0, r126, y0, l4, tk, href]
  generalize Y ++ [(126, AO.row 4 [EV])] = Z at *
  simp [z126, r1, z4l, z4d, l4, tk, st1, sn]
end
end Go.Av
