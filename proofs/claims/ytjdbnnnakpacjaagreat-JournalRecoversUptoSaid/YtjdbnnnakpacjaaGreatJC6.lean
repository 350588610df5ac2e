/-
  The journal's log in memory; New, Len, Bytes.
-/
import Derived.Test.YtjdbnnnakpacjaaGreatJC5
import Derived.Test.YtjdbnnnakpacjaaGreatJC4
set_option linter.unusedVariables false
set_option linter.unusedSimpArgs false
set_option linter.constructorNameAsVariable false
namespace Go.Av
set_option maxRecDepth 4000
def lgRow (p : Prg) (c : Config) (R : AV) (n : Nat) : List AV := .bool true :: (Prg.c p ++ (Config.c c ++ [R, .int .i64 n]))
theorem lgRow_e (p : Prg) (c : Config) (R : AV) (n : Nat) : lgRow p c R n = [.bool true, .str p.name, .slice 2 (p.headers.map Header.c), .slice 2 (p.metadata.map Fld.c), .slice 3 (p.registers.map Register.c), .slice 3 (p.actions.map Action.c), .slice 6 (p.tables.map Tbl.c), .slice 7 (p.states.map ParserState.c), .slice 5 (p.control.map ControlNode.c), .slice 1 (p.deparser.map cI),
    .slice 1 (c.rows.map (cS 5 Rw.c)), .slice 1 (c.nextID.map cI), .slice 2 (c.defaults.map ActionCall.c), .slice 1 (c.registers.map (cS 1 c32)), R, .int .i64 n] := by
  simp [lgRow, Prg.e, Config.ce]
def tid : AV → Option Nat
  | .app _ _ T => some T
  | _ => none
structure LogM (O : List (Nat × AO)) (t : Nat) (R : AV) (p : Prg) (g : LgV) : Prop where
  row : look t O = some (.row 16 [lgRow p g.c R g.n])
  rcd : (R = .fslice 1 [] ∧ g.b = []) ∨ ∃ T, R = .app 1 (g.b.map c8) T ∧ look T O = some (.tok 1 g.b.length)
theorem LogM.fr {O O' : List (Nat × AO)} {t : Nat} {R : AV} {p : Prg} {g : LgV} (m : LogM O t R p g) (h : look t O' = look t O) (h2 : ∀ j, tid R = some j → look j O' = look j O) : LogM O' t R p g := by
  refine ⟨by rw [h]; exact m.row, ?_⟩
  rcases m.rcd with h3 | ⟨T, rfl, h4⟩
  · exact .inl h3
  · exact .inr ⟨T, rfl, by rw [h2 T rfl]; exact h4⟩
theorem LogM.src {O : List (Nat × AO)} {t : Nat} {R : AV} {p : Prg} {g : LgV} (m : LogM O t R p g) (H : AH) : srcOf H R = some (g.b.map c8) ∧ lenOf R = some g.b.length ∧ snap 38 H R = some (.slice 1 (g.b.map c8)) := by
  rcases m.rcd with ⟨rfl, h⟩ | ⟨T, rfl, h⟩
  · rw [h]; exact ⟨rfl, rfl, by simp⟩
  · exact ⟨rfl, by simp, by simp⟩
theorem newOk_ok (p : Prg) (op : p.Ok bulkMax) (hc : (pre p.control).length < 2 ^ 40 - 1) (he : (prgD p).1 = 0) {O : List (Nat × AO)} {n : Nat} (hT : Tail O n) :
    callI Φ f_journal_New [.agg (Prg.c p)] ⟨O, n⟩ = some (.val (.tup [.ptr (n + 1) 16 0 0, .int .i64 0]), ⟨O ++ [(n, .row 9 [Prg.c p]), (n + 1, .row 16 [lgRow p (emptyC p) (.fslice 1 []) 0])], n + 2⟩) := by
  have f := PrgS_of op
  rw [callI_go (fn := c_journal_New) rfl rfl]
  have t0 := hT n (Nat.le_refl _)
  have t1 := hT (n + 1) (by omega)
  have h := progCheck_ok p f hc
  have sT := emptyT op
  have h2 := empty_ok p f fun t ht => (sT.ds t.dflt (by simp [emptyC]; exact ⟨t, ht, rfl⟩)).1
  have h3 := pclone_ok p op
  simp only [Prg.e, dgC, Config.ce] at h h2 h3
  simp [c_journal_New, Prg.e, lgRow_e, t0, t1, h, h2, h3, he]
theorem newErr_ok (p : Prg) (f : PrgS p) (hc : (pre p.control).length < 2 ^ 40 - 1) (he : ¬ (prgD p).1 = 0) (O : List (Nat × AO)) (n : Nat) (hO : look n O = none) :
    callI Φ f_journal_New [.agg (Prg.c p)] ⟨O, n⟩ = some (.val (.tup [.nilptr, .int .i64 (prgD p).1]), ⟨O ++ [(n, .row 9 [Prg.c p])], n + 1⟩) := by
  rw [callI_go (fn := c_journal_New) rfl rfl]
  have h := progCheck_ok p f hc
  simp only [Prg.e, dgC] at h
  simp [c_journal_New, Prg.e, hO, h, he]
theorem len_ok {O : List (Nat × AO)} {N t : Nat} {R : AV} {p : Prg} {g : LgV} (m : LogM O t R p g) : callI Φ f_journal_Log_Len [.ptr t 16 0 0] ⟨O, N⟩ = some (.val (.int .i64 g.n), ⟨O, N⟩) := by
  rw [callI_go (fn := c_journal_Log_Len) rfl rfl]
  have h := m.row
  rw [lgRow_e] at h
  simp [c_journal_Log_Len, h]
theorem bytes_ok {O : List (Nat × AO)} {N t : Nat} {R : AV} {p : Prg} {g : LgV} (hT : Tail O N) (hb : g.b.length < 2 ^ 40) (m : LogM O t R p g) :
    callI Φ f_journal_Log_Bytes [.ptr t 16 0 0] ⟨O, N⟩ = some (.val (.slice 1 (g.b.map c8)), ⟨O, N + 1⟩) := by
  rw [callI_go (fn := c_journal_Log_Bytes) rfl rfl]
  have h := m.row
  rw [lgRow_e] at h
  have t0 := hT N (Nat.le_refl _)
  have k1 : g.b.length < 4611686018427387904 ∧ (g.b.length : Int) ≤ 140737488355328 := by omega
  have hO : Tail (O ++ [(N, AO.row 1 (g.b.map c8))]) (N + 1) := hT.app1 (Nat.le_refl N)
  have fz : frzRow ⟨O ++ [(N, AO.row 1 (g.b.map c8))], N + 1⟩ N 1 0 g.b.length = some (.slice 1 (g.b.map c8)) := by
    have hg : AH.get ⟨O ++ [(N, AO.row 1 (g.b.map c8))], N + 1⟩ N = some (.row 1 (g.b.map c8)) := by simp [AH.get, t0]
    have hb : anyL (bor snapFuel) (g.b.map c8).flatten = false := by
      have : ∀ l : List Int, anyL (bor snapFuel) (l.map c8).flatten = false := by
        intro l
        induction l with
        | nil => simp
        | cons x l ih => simp [c8]; exact ih
      exact this _
    have hs : mapO (mapO (snap snapFuel ⟨O ++ [(N, AO.row 1 (g.b.map c8))], N + 1⟩)) (g.b.map c8) = some (g.b.map c8) := mapO_mapid (g := c8) (fun x => by simp [c8]) g.b
    have ht : ((g.b.map c8).drop 0).take g.b.length = g.b.map c8 := List.take_of_length_le (by simp)
    unfold frzRow
    rw [hg]
    simp only
    rw [if_pos ⟨trivial, by simp, hb⟩, ht, hs]
    rfl
  rcases m.rcd with ⟨rfl, hz⟩ | ⟨T, rfl, hz⟩
  · rw [hz] at k1 hO fz ⊢
    simp at fz
    simp [c_journal_Log_Bytes, h, t0, fz, lk_app]
  · simp [c_journal_Log_Bytes, h, t0, k1, fz, lk_app]
end Go.Av
