/-
  The law JournalOpens.
-/
import Derived.Test.YtjdbnnnakpacjaaGreatJC14
set_option linter.unusedVariables false
set_option linter.unusedSimpArgs false
set_option linter.constructorNameAsVariable false
namespace Go.Av
set_option maxRecDepth 4000
theorem oR_none {p : Prg} {out : Option LgV × Int × Int} (h : out.1 = none) : oR p out = .tup [.agg noLg, .int .i64 out.2.1, .int .i64 out.2.2] := by unfold oR; rw [h]
theorem oR_some {p : Prg} {out : Option LgV × Int × Int} {g : LgV} (h : out.1 = some g) : oR p out = .tup [.agg (rlC p g), .int .i64 out.2.1, .int .i64 out.2.2] := by unfold oR; rw [h]
theorem opn_e (p : Prg) : ∀ (k : Nat) (g : LgV) (u : Int) (r : List Int), ((opn p k g u r).1 = none → (opn p k g u r).2.2 ≠ 0) ∧ ((opn p k g u r).1 ≠ none → (opn p k g u r).2.2 = 0)
  | 0, g, u, r => by simp [opn]
  | k + 1, g, u, r => by
    rw [opn]
    split
    · simp
    split
    · simp
    split
    · rename_i h; simp; exact h
    cases hA : badA p g.c (decB (unfB r).1).1 with
    | some x => simp; exact badA_ne (k := x.1) (e := x.2) hA
    | none => exact opn_e p k _ _ _
theorem openErr2_ok (p : Prg) (f : PrgS p) (hc : (pre p.control).length < 2 ^ 40 - 1) (he : ¬ (prgD p).1 = 0) (b : List Int) (O : List (Nat × AO)) (n : Nat) (hO : look n O = none) (hO1 : look (n + 1) O = none) :
    callI Φ f_journal_Open [.agg (Prg.c p), .slice 1 (b.map c8)] ⟨O, n⟩ = some (.val (.tup [.nilptr, .int .i64 0, .int .i64 (prgD p).1]), ⟨O ++ [(n, .row 9 [Prg.c p]), (n + 1, .row 9 [Prg.c p])], n + 2⟩) := by
  rw [callI_go (fn := c_journal_Open) rfl rfl]
  have hl : look (n + 1) (O ++ [(n, .row 9 [Prg.c p])]) = none := by
    rw [look_append2, hO1]
    simp [look]
  have h := newErr_ok p f hc he (O ++ [(n, .row 9 [Prg.c p])]) (n + 1) hl
  simp only [Prg.e] at h
  simp [c_journal_Open, Prg.e, hO, h, he]
theorem ropenErr_ok (p : Prg) (f : PrgS p) (hv : ∀ t ∈ p.tables, ∀ v ∈ t.dflt.args, ok32 0 v) (hc : (pre p.control).length < 2 ^ 40 - 1) (he : ¬ (prgD p).1 = 0) (b : List Int) :
    pureI Φ f_ref28_Open [.agg (Prg.c p), .slice 1 (b.map c8)] = some (.val (.tup [.agg noLg, .int .i64 0, .int .i64 (prgD p).1])) := by
  rw [pureI_go (fn := c_ref28_Open) rfl rfl]
  have r0 := rlnew p f hv hc
  rw [if_neg he] at r0
  simp only [Prg.e, noLg] at r0
  simp [c_ref28_Open, Prg.e, r0, he, noLg]
theorem JournalOpens_all (p : Prg) (b : List Int) (op : p.Ok bulkMax) (ob : okL bulkMax (ok8 bulkMax) b) : pureI Φ f_law28_JournalOpens [.agg (Prg.c p), .slice 1 (b.map c8)] = some (.val (.bool true)) := by
  have f := PrgS_of op
  have hv := prgHv op
  have hbb : okB b := fun x hx => ob.2 x hx
  obtain ⟨w, hb, hb2⟩ := tooL28 p f [] (by simp) (by simp)
  rw [List.map_nil] at hb
  rw [pureI_go (fn := c_law28_JournalOpens) rfl rfl]
  cases w with
  | true =>
    simp only [Prg.e] at hb
    simp [c_law28_JournalOpens, Prg.e, hb, works28]
  | false =>
  obtain ⟨hpre, _, _⟩ := hb2 rfl
  have hc : (pre p.control).length < 2 ^ 40 - 1 := by omega
  by_cases q : 3000 < b.length
  · simp only [Prg.e] at hb
    simp [c_law28_JournalOpens, Prg.e, hb, q, works28]
  by_cases z : (prgD p).1 = 0
  rotate_left
  · have k1 := openErr2_ok p f hc z b [] 0 rfl rfl
    have k2 := ropenErr_ok p f hv hc z b
    simp only [Prg.e, noLg] at hb k1 k2
    simp [c_law28_JournalOpens, Prg.e, hb, q, k1, k2, z, works28]
  have k1 := open_ok p op hc hbb (by omega) z (Tail.nil 0)
  have k2 := ropen_ok p op hc hbb (by omega) z
  obtain ⟨e1, e2⟩ := opn_e p b.length (lg0 p) 0 b
  generalize opn p b.length (lg0 p) 0 b = out at *
  obtain ⟨og, u, e⟩ := out
  simp only at e1 e2
  obtain ⟨O, N, hN, hT, hk, hm⟩ := k1
  have t0 := hT N (Nat.le_refl _)
  cases og with
  | none =>
    have he := e1 rfl
    rw [oR_none rfl] at k2
    simp only at hm
    simp only [Prg.e, noLg] at hb hm k2
    simp [c_law28_JournalOpens, Prg.e, hb, q, hm, k2, he, works28, lk_app, lk_setl, lk_dropl, t0]
  | some g =>
    have he := e2 (by simp)
    subst he
    rw [oR_some rfl] at k2
    obtain ⟨R, hr, m, hR, S⟩ := hm
    have gb := S.b
    have ks := same_ok p op hc S.v S.s (by omega)
    have hrow := m.row
    rw [lgRow_e] at hrow
    simp only [lgP_e, rlC_e] at ks
    simp only [Prg.e, rlC_e] at hb hr k2
    rcases m.rcd with ⟨rfl, hz⟩ | ⟨T, rfl, hz⟩
    · simp only [hz, List.map_nil] at ks k2
      simp [c_law28_JournalOpens, Prg.e, hb, q, hr, k2, hrow, ks, works28, lk_app, lk_setl, lk_dropl, t0]
    · simp [c_law28_JournalOpens, Prg.e, hb, q, hr, k2, hrow, ks, works28, lk_app, lk_setl, lk_dropl, t0]
end Go.Av
