/-
  The journal's log as an immutable object; the law's comparison of a log with the reference's.
-/
import Derived.Test.YtjdbnnnakpacjaaGreatJC9
import Derived.Test.YtjdbnnnakpacjaaGreatS3U
set_option linter.unusedVariables false
set_option linter.unusedSimpArgs false
set_option linter.constructorNameAsVariable false
namespace Go.Av
set_option maxRecDepth 4000
def lgP (p : Prg) (g : LgV) : AV := .iptr 16 [lgRow p g.c (.slice 1 (g.b.map c8)) g.n] 0 0
theorem lgP_e (p : Prg) (g : LgV) : lgP p g = .iptr 16 [[.bool true, .str p.name, .slice 2 (p.headers.map Header.c), .slice 2 (p.metadata.map Fld.c), .slice 3 (p.registers.map Register.c), .slice 3 (p.actions.map Action.c), .slice 6 (p.tables.map Tbl.c), .slice 7 (p.states.map ParserState.c), .slice 5 (p.control.map ControlNode.c), .slice 1 (p.deparser.map cI),
    .slice 1 (g.c.rows.map (cS 5 Rw.c)), .slice 1 (g.c.nextID.map cI), .slice 2 (g.c.defaults.map ActionCall.c), .slice 1 (g.c.registers.map (cS 1 c32)), .slice 1 (g.b.map c8), .int .i64 g.n]] 0 0 := by
  simp only [lgP, lgRow_e]
theorem LogM.snp {O : List (Nat × AO)} {N t n : Nat} {R : AV} {p : Prg} {g : LgV} (m : LogM O t R p g) : snap (n + 2) ⟨O, N⟩ (.ptr t 16 0 0) = some (lgP p g) := by
  have h := m.row
  rw [lgRow_e] at h
  rw [lgP_e]
  rcases m.rcd with ⟨rfl, hz⟩ | ⟨T, rfl, hz⟩
  · simp [h, hz]
  · simp [h]
theorem lenI_ok {O : List (Nat × AO)} {N : Nat} {p : Prg} {g : LgV} : callI Φ f_journal_Log_Len [lgP p g] ⟨O, N⟩ = some (.val (.int .i64 g.n), ⟨O, N⟩) := by
  rw [callI_go (fn := c_journal_Log_Len) rfl rfl, lgP_e]
  simp [c_journal_Log_Len]
theorem frz8 {O : List (Nat × AO)} {N : Nat} (hT : Tail O N) (b : List Int) : frzRow ⟨O ++ [(N, AO.row 1 (b.map c8))], N + 1⟩ N 1 0 b.length = some (.slice 1 (b.map c8)) := by
  have t0 := hT N (Nat.le_refl _)
  have hg : AH.get ⟨O ++ [(N, AO.row 1 (b.map c8))], N + 1⟩ N = some (.row 1 (b.map c8)) := by simp [AH.get, t0]
  have hb : anyL (bor snapFuel) (b.map c8).flatten = false := by
    have : ∀ l : List Int, anyL (bor snapFuel) (l.map c8).flatten = false := by
      intro l
      induction l with
      | nil => simp
      | cons x l ih => simp [c8]; exact ih
    exact this _
  have hs : mapO (mapO (snap snapFuel ⟨O ++ [(N, AO.row 1 (b.map c8))], N + 1⟩)) (b.map c8) = some (b.map c8) := mapO_mapid (g := c8) (fun x => by simp [c8]) b
  have ht : ((b.map c8).drop 0).take b.length = b.map c8 := List.take_of_length_le (by simp)
  unfold frzRow
  rw [hg]
  simp only
  rw [if_pos ⟨trivial, by simp, hb⟩, ht, hs]
  rfl
theorem bytesI_ok {O : List (Nat × AO)} {N : Nat} {p : Prg} {g : LgV} (hT : Tail O N) (hb : g.b.length < 2 ^ 40) :
    callI Φ f_journal_Log_Bytes [lgP p g] ⟨O, N⟩ = some (.val (.slice 1 (g.b.map c8)), ⟨O, N + 1⟩) := by
  rw [callI_go (fn := c_journal_Log_Bytes) rfl rfl, lgP_e]
  have t0 := hT N (Nat.le_refl _)
  have k1 : g.b.length < 4611686018427387904 ∧ (g.b.length : Int) ≤ 140737488355328 := by omega
  have fz := frz8 hT g.b
  simp [c_journal_Log_Bytes, t0, k1, fz, lk_app]
theorem lconfigI_ok (p : Prg) (op : p.Ok bulkMax) (hc : (pre p.control).length < 2 ^ 40 - 1) {g : LgV} (v : CfgV p g.c) (s : CfgT g.c) {O : List (Nat × AO)} {N : Nat} (hT : Tail O N) :
    LCpost N O g.c (callI Φ f_journal_Log_Config [lgP p g] ⟨O, N⟩) := by
  rw [callI_go (fn := c_journal_Log_Config) rfl rfl, lgP_e]
  have t0 := hT N (Nat.le_refl _)
  have hk0 : Kp (fun _ => False) N O (O ++ [(N, AO.row 4 [[.fslice 1 [], .fslice 1 [], .fslice 2 [], .fslice 1 []]])]) := Kp.app (fun _ _ _ => rfl) (Nat.le_refl _)
  have hT0 := hT.app1 (o := AO.row 4 [[.fslice 1 [], .fslice 1 [], .fslice 2 [], .fslice 1 []]]) (Nat.le_refl N)
  have rN : look N (O ++ [(N, AO.row 4 [[.fslice 1 [], .fslice 1 [], .fslice 2 [], .fslice 1 []]])]) = some (.row 4 [[.fslice 1 [], .fslice 1 [], .fslice 2 [], .fslice 1 []]]) := by simp [t0]
  rcases Load_ok p op hc g.c s hT0 with ⟨z, _⟩ | ⟨_, S, O1, N1, e, m1, w1, hk1, hT1, hN1⟩
  · exact absurd ((cfgE_zero p g.c).2 v) z
  obtain ⟨u1, u2, u3, u4, U, O2, N2, e2, n2, w2, hk2, hT2, hN2⟩ := Config_ok (v.u s) hT1 m1
  have r1 := hk1.lk hT0 rN (by intro h; unfold Rs at h; rw [rN] at h; cases h)
  have r2 := hk2.lk hT1 r1 (by simp)
  simp only [Prg.e, Config.ce] at e
  simp [c_journal_Log_Config, t0, lk_app, e, e2, r2, lk_setl]
  refine ⟨u1, u2, u3, u4, U, _, N2, rfl, ?_, fun j hj => by have := w2 j hj; omega, ?_, Tail_setl2 hT2, by omega⟩
  · refine n2.fr fun j hj => ?_
    have := w2 j hj
    rw [lk_setl, if_neg (by omega)]
  · intro j hj hx
    rw [lk_setl, if_neg (by omega), hk2 j (by omega) (by simp), hk1 j (by omega) ?_, hk0 j hj (by simp)]
    intro hr
    unfold Rs at hr
    rw [hk0 j hj (by simp)] at hr
    exact hx hr
end Go.Av
