/-
  Valid configurations: what the check says, as a plain property.
-/
import Derived.Test.YtjdbnnnakpacjaaGreatQ13
set_option linter.unusedVariables false
set_option linter.unusedSimpArgs false
set_option linter.constructorNameAsVariable false
namespace Go.Av
structure TabV (p : Prg) (k : Nat) (tb : Tbl) (l : List Rw) (nx : Int) (d : ActionCall) : Prop where
  size : (l.length : Int) ≤ tb.size
  pos : ∀ r ∈ l, 0 < r.id
  lt : ∀ r ∈ l, r.id < nx
  inc : l.Pairwise (fun a b => a.id < b.id)
  nx0 : 0 < nx
  nx1 : nx ≤ 1073741824
  ent : ∀ r ∈ l, entE p k r.entry = 0
  uniq : l.Pairwise (fun a b => sk a.entry b.entry = false)
  dflt : ckCall p k d = 0
theorem ordL_iff (nx : Int) : ∀ (l : List Rw) (a : Int), (∃ b, ordL l a = some b ∧ b < nx) ↔ a < nx ∧ (∀ r ∈ l, a < r.id ∧ r.id < nx) ∧ l.Pairwise (fun a b => a.id < b.id)
  | [], a => by simp [ordL]
  | r :: l, a => by
    have ih := ordL_iff nx l r.id
    simp only [ordL]
    by_cases h : r.id ≤ a
    · rw [if_pos h]
      constructor
      · rintro ⟨b, hb, _⟩; cases hb
      · rintro ⟨_, h2, _⟩
        have := (h2 r (by simp)).1
        omega
    · rw [if_neg h, ih, List.pairwise_cons]
      constructor
      · rintro ⟨h1, h2, h3⟩
        refine ⟨by omega, ?_, fun x hx => (h2 x hx).1, h3⟩
        intro x hx
        rcases List.mem_cons.1 hx with rfl | hx
        · exact ⟨by omega, h1⟩
        · have := h2 x hx; exact ⟨by omega, this.2⟩
      · rintro ⟨h1, h2, h3, h4⟩
        exact ⟨(h2 r (by simp)).2, fun x hx => ⟨h3 x hx, (h2 x (by simp [hx])).2⟩, h4⟩
theorem rowG_none (p : Prg) (t : Int) (l : List Rw) : (∀ i, i < l.length → rowG p t l i = none) ↔ (∀ r ∈ l, entE p t r.entry = 0) ∧ l.Pairwise (fun a b => sk a.entry b.entry = false) := by
  have key : ∀ i (hi : i < l.length), rowG p t l i = none ↔ entE p t l[i].entry = 0 ∧ ∀ j (hj : j < i), sk l[j].entry l[i].entry = false := by
    intro i hi
    simp only [rowG, List.getElem?_eq_getElem hi, Option.bind_some]
    by_cases h : entE p t l[i].entry = 0
    · rw [if_neg (by simpa using h)]
      have : ((l.take i).any fun y => sk y.entry l[i].entry) = true ↔ ¬ ∀ j (hj : j < i), sk l[j].entry l[i].entry = false := by
        rw [List.any_eq_true]
        constructor
        · rintro ⟨y, hy, hs⟩ hc
          obtain ⟨j, hj, rfl⟩ := List.mem_iff_getElem.1 hy
          simp at hj
          have := hc j (by omega)
          simp only [List.getElem_take] at hs
          rw [this] at hs; cases hs
        · intro hc
          simp only [Classical.not_forall] at hc
          obtain ⟨j, hj, hs⟩ := hc
          refine ⟨l[j], ?_, by simpa using hs⟩
          rw [List.mem_take_iff_getElem]
          exact ⟨j, by omega, rfl⟩
      by_cases hu : ∀ j (hj : j < i), sk l[j].entry l[i].entry = false
      · rw [if_neg (by rw [this]; exact fun hc => hc hu)]
        simp [h]; exact hu
      · rw [if_pos (this.2 hu)]
        simp [h]; simpa using hu
    · rw [if_pos h]
      simp [h]
  constructor
  · intro h
    refine ⟨?_, ?_⟩
    · intro r hr
      obtain ⟨i, hi, rfl⟩ := List.mem_iff_getElem.1 hr
      exact ((key i hi).1 (h i hi)).1
    · rw [List.pairwise_iff_getElem]
      intro i j hi hj hij
      exact ((key j hj).1 (h j hj)).2 i hij
  · rintro ⟨h1, h2⟩ i hi
    rw [key i hi]
    refine ⟨h1 _ (List.getElem_mem hi), ?_⟩
    intro j hj
    exact List.pairwise_iff_getElem.1 h2 j i (by omega) hi hj
theorem rowG_ne (p : Prg) (t : Int) (l : List Rw) {i : Nat} {x : Int} (h : rowG p t l i = some x) : x ≠ 0 := by
  simp only [rowG, Option.bind_eq_some_iff] at h
  obtain ⟨r, _, hr⟩ := h
  split at hr
  · cases hr; assumption
  · split at hr
    · cases hr; decide
    · cases hr
theorem rowE_zero (p : Prg) (k : Nat) (tb : Tbl) (l : List Rw) (nx : Int) (d : ActionCall) : rowE p k tb l nx (ckCall p k d) = 0 ↔ TabV p k tb l nx d := by
  have hI := ordL_iff nx l 0
  have hG := rowG_none p k l
  rw [← fe_all] at hG
  unfold rowE
  by_cases h : tb.size < (l.length : Int)
  · rw [if_pos h]
    constructor
    · intro hc; cases hc
    · intro hv; have := hv.size; omega
  rw [if_neg h]
  cases ho : ordL l 0 with
  | none =>
    rw [ho] at hI
    simp only [tabK]
    constructor
    · intro hc; cases hc
    · intro hv
      obtain ⟨b, hb, _⟩ := hI.2 ⟨hv.nx0, fun r hr => ⟨hv.pos r hr, hv.lt r hr⟩, hv.inc⟩
      cases hb
  | some a =>
    rw [ho] at hI
    simp only [tabK]
    by_cases h1 : nx ≤ a
    · rw [if_pos h1]
      constructor
      · intro hc; cases hc
      · intro hv
        obtain ⟨b, hb, h2⟩ := hI.2 ⟨hv.nx0, fun r hr => ⟨hv.pos r hr, hv.lt r hr⟩, hv.inc⟩
        cases hb; omega
    rw [if_neg h1]
    have hJ := hI.1 ⟨a, rfl, by omega⟩
    by_cases h2 : 1073741824 < nx
    · rw [if_pos h2]
      constructor
      · intro hc; cases hc
      · intro hv; have := hv.nx1; omega
    rw [if_neg h2]
    cases hf : fe (rowG p k l) l.length 0 with
    | some x =>
      have hx : x ≠ 0 := by
        obtain ⟨i, _, hx⟩ := fe_some hf
        exact rowG_ne p k l hx
      rw [hf] at hG
      simp only [Option.getD_some]
      constructor
      · intro hc; exact absurd hc hx
      · intro hv; have := hG.2 ⟨hv.ent, hv.uniq⟩; cases this
    | none =>
      have hq := hG.1 hf
      simp only [Option.getD_none]
      constructor
      · intro hc
        exact ⟨by omega, fun r hr => (hJ.2.1 r hr).1, fun r hr => (hJ.2.1 r hr).2, hJ.2.2, hJ.1, by omega, hq.1, hq.2, hc⟩
      · intro hv; exact hv.dflt
structure CfgV (p : Prg) (c : Config) : Prop where
  prg : (prgD p).1 = 0
  rl : c.rows.length = p.tables.length
  nl : c.nextID.length = p.tables.length
  dl : c.defaults.length = p.tables.length
  tab : ∀ k tb l nx d, p.tables[k]? = some tb → c.rows[k]? = some l → c.nextID[k]? = some nx → c.defaults[k]? = some d → TabV p k tb l nx d
  con : conE p c.registers = 0
theorem stG_ne (p : Prg) (c : Config) {k : Nat} {x : Int} (h : stG p c k = some x) : x ≠ 0 := by
  unfold stG at h
  split at h
  · split at h
    · cases h
    · cases h; assumption
  · cases h
theorem cfgE_zero (p : Prg) (c : Config) : cfgE p c = 0 ↔ CfgV p c := by
  unfold cfgE
  by_cases h : (prgD p).1 = 0
  rotate_left
  · rw [if_pos h]
    exact ⟨fun hc => absurd hc h, fun hv => absurd hv.prg h⟩
  rw [if_neg (by simpa using h)]
  by_cases hl : c.rows.length ≠ p.tables.length ∨ c.nextID.length ≠ p.tables.length ∨ c.defaults.length ≠ p.tables.length
  · rw [if_pos hl]
    constructor
    · intro hc; cases hc
    · intro hv
      have := hv.rl; have := hv.nl; have := hv.dl
      omega
  rw [if_neg hl]
  have l1 : c.rows.length = p.tables.length := by omega
  have l2 : c.nextID.length = p.tables.length := by omega
  have l3 : c.defaults.length = p.tables.length := by omega
  cases hf : fe (stG p c) p.tables.length 0 with
  | some x =>
    obtain ⟨k, hk, hx⟩ := fe_some hf
    simp only [Option.getD_some]
    constructor
    · intro hc; exact absurd hc (stG_ne p c hx)
    · intro hv
      have hq : stG p c k = none := by
        unfold stG
        split
        · rename_i tb l nx d e1 e2 e3 e4
          rw [if_pos ((rowE_zero p k tb l nx d).2 (hv.tab k tb l nx d e1 e2 e3 e4))]
        · rfl
      rw [hq] at hx; cases hx
  | none =>
    simp only [Option.getD_none]
    have ha := fe_all.1 hf
    constructor
    · intro hc
      refine ⟨h, l1, l2, l3, ?_, hc⟩
      intro k tb l nx d e1 e2 e3 e4
      have hk := (List.getElem?_eq_some_iff.1 e1).1
      have hq := ha k hk
      simp only [stG, e1, e2, e3, e4] at hq
      split at hq
      · rename_i hz; exact (rowE_zero p k tb l nx d).1 hz
      · cases hq
    · intro hv; exact hv.con
end Go.Av
