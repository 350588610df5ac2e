/-
 The law JournalNil returns true for every program and every list of bytes.
-/
import Derived.Test.YtakklbipljodeaaGreatM1
import Derived.Test.YtakklbipljodeaaGreatW28K
set_option linter.unusedVariables false
set_option linter.unusedSimpArgs false
set_option linter.constructorNameAsVariable false
namespace Go.Av
set_option maxRecDepth 4000
theorem newErr_ok (p : Prg) (f : PrgS p) (hc : (pre p.control).length < 2 ^ 40 - 1) (he : ¬ (prgD p).1 = 0) (O : List (Nat × AO)) (n : Nat) (hO : look n O = none) :
  callI Φ f_journal_New [.agg (Prg.c p)] ⟨O, n⟩ = some (.val (.tup [.nilptr, .int .i64 (prgD p).1]), ⟨O ++ [(n, .row 9 [Prg.c p])], n + 1⟩) := by
 rw [callI_go (fn := c_journal_New) rfl rfl]
 have h := progCheck_ok p f hc
 simp only [Prg.e, dgC] at h
 simp [c_journal_New, Prg.e, hO, h, he]
theorem openErr_ok (p : Prg) (f : PrgS p) (hc : (pre p.control).length < 2 ^ 40 - 1) (he : ¬ (prgD p).1 = 0) (b : List Int) (O : List (Nat × AO)) (n : Nat) (hO : look n O = none) (hO1 : look (n + 1) O = none) :
  callI Φ f_journal_Open [.agg (Prg.c p), .slice 1 (b.map c8)] ⟨O, n⟩ = some (.val (.tup [.nilptr, .int .i64 0, .int .i64 (prgD p).1]), ⟨O ++ [(n, .row 9 [Prg.c p]), (n + 1, .row 9 [Prg.c p])], n + 2⟩) := by
 rw [callI_go (fn := c_journal_Open) rfl rfl]
 have hl : look (n + 1) (O ++ [(n, .row 9 [Prg.c p])]) = none := by
  rw [look_append2, hO1]
  simp [look]
 have h := newErr_ok p f hc he (O ++ [(n, .row 9 [Prg.c p])]) (n + 1) hl
 simp only [Prg.e] at h
 simp [c_journal_Open, Prg.e, hO, h, he]
theorem JournalNil_all (p : Prg) (b : List Int) (op : p.Ok bulkMax) (_ob : okL bulkMax (ok8 bulkMax) b) : pureI Φ f_law28_JournalNil [.agg (Prg.c p), .slice 1 (b.map c8)] = some (.val (.bool true)) := by
 have f := PrgS_of op
 have hv : ∀ t ∈ p.tables, ∀ v ∈ t.dflt.args, ok32 0 v := by
  intro t ht v hv
  have := op.2.2.2.2.2.1.2 t ht
  simp only [Tbl.Ok, ActionCall.Ok] at this
  exact this.2.2.2.1.2.2 v hv
 obtain ⟨r, hr, hrb⟩ := tooLarge_ok p f
 rw [pureI_go (fn := c_law28_JournalNil) rfl rfl]
 simp only [Prg.e] at hr
 cases r with
 | true => simp [c_law28_JournalNil, Prg.e, hr, works28]
 | false =>
 by_cases z : 200 < b.length
 ·simp [c_law28_JournalNil, Prg.e, hr, z, works28]
 have hc : (pre p.control).length < 2 ^ 40 - 1 := by have := hrb rfl; omega
 have h1 := rprogCheck_ok p f hv hc
 simp only [Prg.e, dgC] at h1
 by_cases he : (prgD p).1 = 0
 ·simp [c_law28_JournalNil, Prg.e, hr, z, h1, he, works28]
 have h2 := newErr_ok p f hc he [] 0 rfl
 have h3 := openErr_ok p f hc he b [(0, .row 9 [Prg.c p])] 1 (by simp) (by simp)
 simp only [Prg.e, List.nil_append] at h2 h3
 simp [c_law28_JournalNil, Prg.e, hr, z, h1, he, h2, h3, empty_nil, empty_log, works28]
end Go.Av
