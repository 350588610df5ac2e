/-
  Operations on configurations, as plain functions; they keep configurations valid.
-/
import Derived.Test.YtjdbnnnakpacjaaGreatV1
set_option linter.unusedVariables false
set_option linter.unusedSimpArgs false
set_option linter.constructorNameAsVariable false
namespace Go.Av
def rowsAt (c : Config) (t : Int) : List Rw := (at? c.rows t).getD []
def nextAt (c : Config) (t : Int) : Int := (at? c.nextID t).getD 0
def sizeAt (p : Prg) (t : Int) : Int := ((at? p.tables t).map Tbl.size).getD 0
def inT (p : Prg) (t : Int) : Bool := decide (0 ≤ t) && decide (t < p.tables.length)
def rIdx (l : List Rw) (id : Int) : Option Nat := l.findIdx? fun r => decide (r.id = id)
def insE (p : Prg) (c : Config) (t : Int) (x : Entry) : Int :=
  if inT p t = false then 8 else if entE p t x ≠ 0 then entE p t x else if (rowsAt c t).any (fun y => sk y.entry x) = true then 7
  else if sizeAt p t ≤ (rowsAt c t).length ∨ 1073741824 ≤ nextAt c t then 13 else 0
def insC (c : Config) (t : Int) (x : Entry) : Config := ⟨c.rows.set t.toNat (rowsAt c t ++ [⟨nextAt c t, x⟩]), c.nextID.set t.toNat (nextAt c t + 1), c.defaults, c.registers⟩
def modE (p : Prg) (c : Config) (t id : Int) (x : ActionCall) : Int :=
  if inT p t = false then 8 else if rIdx (rowsAt c t) id = none then 8 else ckCall p t x
def callRow (x : ActionCall) (r : Rw) : Rw := ⟨r.id, ⟨r.entry.keys, r.entry.priority, x⟩⟩
def modC (c : Config) (t id : Int) (x : ActionCall) : Config := match rIdx (rowsAt c t) id with
  | some i => ⟨c.rows.set t.toNat ((rowsAt c t).modify i (callRow x)), c.nextID, c.defaults, c.registers⟩
  | none => c
def delE (p : Prg) (c : Config) (t id : Int) : Int :=
  if inT p t = false then 8 else if rIdx (rowsAt c t) id = none then 8 else 0
def delC (c : Config) (t id : Int) : Config := match rIdx (rowsAt c t) id with
  | some i => ⟨c.rows.set t.toNat ((rowsAt c t).eraseIdx i), c.nextID, c.defaults, c.registers⟩
  | none => c
def defE (p : Prg) (t : Int) (x : ActionCall) : Int := if inT p t = false then 8 else ckCall p t x
def defC (c : Config) (t : Int) (x : ActionCall) : Config := ⟨c.rows, c.nextID, c.defaults.set t.toNat x, c.registers⟩
theorem inT_iff {p : Prg} {t : Int} (h : inT p t = true) : ∃ k : Nat, t = k ∧ k < p.tables.length := by
  unfold inT at h
  simp at h
  exact ⟨t.toNat, by omega, by omega⟩
theorem inT_nat {p : Prg} {k : Nat} (h : k < p.tables.length) : inT p (k : Int) = true := by
  unfold inT
  simp
  omega
section
variable {p : Prg} {c : Config} {k : Nat}
theorem rowsAt_nat (h : k < c.rows.length) : rowsAt c (k : Int) = c.rows[k] := by
  unfold rowsAt
  rw [at_nat, List.getElem?_eq_getElem h]; rfl
theorem nextAt_nat (h : k < c.nextID.length) : nextAt c (k : Int) = c.nextID[k] := by
  unfold nextAt
  rw [at_nat, List.getElem?_eq_getElem h]; rfl
theorem sizeAt_nat (h : k < p.tables.length) : sizeAt p (k : Int) = p.tables[k].size := by
  unfold sizeAt
  rw [at_nat, List.getElem?_eq_getElem h]; rfl
theorem CfgV.at (v : CfgV p c) (h : k < p.tables.length) : TabV p k p.tables[k] (c.rows[k]'(by rw [v.rl]; exact h)) (c.nextID[k]'(by rw [v.nl]; exact h)) (c.defaults[k]'(by rw [v.dl]; exact h)) :=
  v.tab k _ _ _ _ (List.getElem?_eq_getElem h) (List.getElem?_eq_getElem (by rw [v.rl]; exact h)) (List.getElem?_eq_getElem (by rw [v.nl]; exact h)) (List.getElem?_eq_getElem (by rw [v.dl]; exact h))
-- a configuration that differs in one table
theorem CfgV.upd (v : CfgV p c) (h : k < p.tables.length) {l : List Rw} {nx : Int} {d : ActionCall} {R : List (List Rw)} {N : List Int} {D : List ActionCall}
    (hR : R = c.rows.set k l) (hN : N = c.nextID.set k nx) (hD : D = c.defaults.set k d) (t : TabV p k p.tables[k] l nx d) : CfgV p ⟨R, N, D, c.registers⟩ := by
  subst hR hN hD
  refine ⟨v.prg, by simp [v.rl], by simp [v.nl], by simp [v.dl], ?_, v.con⟩
  intro j tb l' nx' d' h1 h2 h3 h4
  have hl1 := v.rl
  have hl2 := v.nl
  have hl3 := v.dl
  by_cases hj : k = j
  · subst hj
    rw [List.getElem?_set_self (by omega)] at h2 h3 h4
    rw [List.getElem?_eq_getElem h] at h1
    cases h1; cases h2; cases h3; cases h4
    exact t
  · simp only [List.getElem?_set_ne hj] at h2 h3 h4
    exact v.tab j _ _ _ _ h1 h2 h3 h4
end
theorem set_get_self {α : Type} {l : List α} {k : Nat} (h : k < l.length) : l = l.set k l[k] := by simp
theorem insC_ok {p : Prg} {c : Config} {t : Int} {x : Entry} (v : CfgV p c) (h : insE p c t x = 0) : CfgV p (insC c t x) := by
  unfold insE at h
  cases hi : inT p t with
  | false => rw [if_pos hi] at h; cases h
  | true =>
  obtain ⟨k, rfl, hk⟩ := inT_iff hi
  rw [if_neg (by rw [hi]; decide)] at h
  have l1 : k < c.rows.length := by rw [v.rl]; exact hk
  have l2 : k < c.nextID.length := by rw [v.nl]; exact hk
  have l3 : k < c.defaults.length := by rw [v.dl]; exact hk
  have hv := v.at hk
  rw [rowsAt_nat l1, nextAt_nat l2, sizeAt_nat hk] at h
  split at h
  · rename_i h1; exact absurd h h1
  rename_i h1
  split at h
  · cases h
  rename_i h2
  split at h
  · cases h
  rename_i h3
  unfold insC
  rw [rowsAt_nat l1, nextAt_nat l2]
  refine v.upd hk (l := c.rows[k] ++ [⟨c.nextID[k], x⟩]) (nx := c.nextID[k] + 1) (d := c.defaults[k]) (by simp) (by simp) (by simp) ?_
  have n0 := hv.nx0
  refine ⟨by simp; omega, ?_, ?_, ?_, by omega, by omega, ?_, ?_, hv.dflt⟩
  · intro r hr
    rcases List.mem_append.1 hr with hr | hr
    · exact hv.pos r hr
    · simp at hr; subst hr; exact n0
  · intro r hr
    rcases List.mem_append.1 hr with hr | hr
    · have := hv.lt r hr; omega
    · simp at hr; subst hr; simp; omega
  · rw [List.pairwise_append]
    exact ⟨hv.inc, by simp, fun a ha b hb => by simp at hb; subst hb; exact hv.lt a ha⟩
  · intro r hr
    rcases List.mem_append.1 hr with hr | hr
    · exact hv.ent r hr
    · simp at hr; subst hr
      simpa using h1
  · rw [List.pairwise_append]
    refine ⟨hv.uniq, by simp, fun a ha b hb => ?_⟩
    simp at hb; subst hb
    simp only [List.any_eq_true, not_exists, not_and, Bool.not_eq_true] at h2
    exact h2 a ha
theorem entE_call (p : Prg) (t : Int) (x : Entry) (y : ActionCall) (h : entE p t x = 0) (hc : ckCall p t y = 0) : entE p t ⟨x.keys, x.priority, y⟩ = 0 := by
  unfold entE at h ⊢
  split at h
  · exact absurd h (by assumption)
  rename_i h1
  rw [if_neg h1]
  cases ht : at? p.tables t with
  | none => rfl
  | some tb =>
    rw [ht] at h
    simp only at h ⊢
    split at h
    · cases h
    rename_i h2
    rw [if_neg h2]
    have he : entG p tb ⟨x.keys, x.priority, y⟩ = entG p tb x := rfl
    rw [he]
    cases hf : fe (entG p tb x) tb.keys.length 0 with
    | some e => rw [hf] at h; simpa using h
    | none =>
      rw [hf] at h
      simp only [Option.getD_none] at h ⊢
      unfold entF at h ⊢
      unfold ckCall at hc
      simp only
      split at h
      · cases h
      rename_i a1
      rw [if_neg a1]
      split at h
      · cases h
      rename_i a2
      rw [if_neg a2]
      split at h
      · cases h
      rename_i a3
      rw [if_neg a3]
      exact hc
theorem rIdx_some {l : List Rw} {id : Int} {i : Nat} (h : rIdx l id = some i) : ∃ hi : i < l.length, l[i].id = id := by
  unfold rIdx at h
  rw [List.findIdx?_eq_some_iff_getElem] at h
  obtain ⟨hi, h1, _⟩ := h
  exact ⟨hi, by simpa using h1⟩
theorem modC_ok {p : Prg} {c : Config} {t id : Int} {x : ActionCall} (v : CfgV p c) (h : modE p c t id x = 0) : CfgV p (modC c t id x) := by
  unfold modE at h
  cases hi : inT p t with
  | false => rw [if_pos hi] at h; cases h
  | true =>
  obtain ⟨k, rfl, hk⟩ := inT_iff hi
  rw [if_neg (by rw [hi]; decide)] at h
  have l1 : k < c.rows.length := by rw [v.rl]; exact hk
  have l2 : k < c.nextID.length := by rw [v.nl]; exact hk
  have l3 : k < c.defaults.length := by rw [v.dl]; exact hk
  have hv := v.at hk
  unfold modC
  rw [rowsAt_nat l1] at h ⊢
  cases hx : rIdx c.rows[k] id with
  | none => simp only; exact v
  | some i =>
    rw [hx, if_neg (by simp)] at h
    simp only
    obtain ⟨hil, hid⟩ := rIdx_some hx
    have hm : c.rows[k].modify i (callRow x) = c.rows[k].set i (callRow x c.rows[k][i]) := by
      refine List.ext_getElem (by simp) fun j h1 h2 => ?_
      rw [List.getElem_modify, List.getElem_set]
      split
      · rename_i e; subst e; rfl
      · rfl
    refine v.upd hk (l := c.rows[k].modify i (callRow x)) (nx := c.nextID[k]) (d := c.defaults[k]) (by simp) (by simp) (by simp) ?_
    have mem : ∀ r ∈ c.rows[k].modify i (callRow x), ∃ r' ∈ c.rows[k], r.id = r'.id ∧ entE p k r.entry = 0 := by
      intro r hr
      rw [hm] at hr
      rcases List.mem_or_eq_of_mem_set hr with hr | rfl
      · exact ⟨r, hr, rfl, hv.ent r hr⟩
      · exact ⟨_, List.getElem_mem hil, rfl, entE_call p k _ x (hv.ent _ (List.getElem_mem hil)) h⟩
    have get : ∀ j (hj : j < (c.rows[k].modify i (callRow x)).length), (c.rows[k].modify i (callRow x))[j].id = (c.rows[k][j]'(by simpa using hj)).id ∧ (c.rows[k].modify i (callRow x))[j].entry.keys = (c.rows[k][j]'(by simpa using hj)).entry.keys ∧ (c.rows[k].modify i (callRow x))[j].entry.priority = (c.rows[k][j]'(by simpa using hj)).entry.priority := by
      intro j hj
      rw [List.getElem_modify]
      split <;> simp [callRow]
    refine ⟨by simpa using hv.size, ?_, ?_, ?_, hv.nx0, hv.nx1, ?_, ?_, hv.dflt⟩
    · intro r hr
      obtain ⟨r', hr', e, _⟩ := mem r hr
      rw [e]; exact hv.pos r' hr'
    · intro r hr
      obtain ⟨r', hr', e, _⟩ := mem r hr
      rw [e]; exact hv.lt r' hr'
    · rw [List.pairwise_iff_getElem]
      intro a b ha hb hab
      rw [(get a ha).1, (get b hb).1]
      exact List.pairwise_iff_getElem.1 hv.inc a b _ _ hab
    · intro r hr
      obtain ⟨_, _, _, e⟩ := mem r hr
      exact e
    · rw [List.pairwise_iff_getElem]
      intro a b ha hb hab
      have := List.pairwise_iff_getElem.1 hv.uniq a b (by simpa using ha) (by simpa using hb) hab
      unfold sk at this ⊢
      rw [(get a ha).2.1, (get a ha).2.2, (get b hb).2.1, (get b hb).2.2]
      exact this
theorem delC_ok {p : Prg} {c : Config} {t id : Int} (v : CfgV p c) (h : delE p c t id = 0) : CfgV p (delC c t id) := by
  unfold delE at h
  cases hi : inT p t with
  | false => rw [if_pos hi] at h; cases h
  | true =>
  obtain ⟨k, rfl, hk⟩ := inT_iff hi
  have l1 : k < c.rows.length := by rw [v.rl]; exact hk
  have l2 : k < c.nextID.length := by rw [v.nl]; exact hk
  have l3 : k < c.defaults.length := by rw [v.dl]; exact hk
  have hv := v.at hk
  unfold delC
  rw [rowsAt_nat l1]
  cases hx : rIdx c.rows[k] id with
  | none => simp only; exact v
  | some i =>
    simp only
    refine v.upd hk (l := c.rows[k].eraseIdx i) (nx := c.nextID[k]) (d := c.defaults[k]) (by simp) (by simp) (by simp) ?_
    have hs := List.eraseIdx_sublist c.rows[k] i
    have hsz := hv.size
    have hle := hs.length_le
    exact ⟨by omega, fun r hr => hv.pos r (hs.subset hr), fun r hr => hv.lt r (hs.subset hr), hv.inc.sublist hs, hv.nx0, hv.nx1, fun r hr => hv.ent r (hs.subset hr), hv.uniq.sublist hs, hv.dflt⟩
theorem defC_ok {p : Prg} {c : Config} {t : Int} {x : ActionCall} (v : CfgV p c) (h : defE p t x = 0) : CfgV p (defC c t x) := by
  unfold defE at h
  cases hi : inT p t with
  | false => rw [if_pos hi] at h; cases h
  | true =>
  obtain ⟨k, rfl, hk⟩ := inT_iff hi
  rw [if_neg (by rw [hi]; decide)] at h
  have l1 : k < c.rows.length := by rw [v.rl]; exact hk
  have l2 : k < c.nextID.length := by rw [v.nl]; exact hk
  have l3 : k < c.defaults.length := by rw [v.dl]; exact hk
  have hv := v.at hk
  unfold defC
  exact v.upd hk (l := c.rows[k]) (nx := c.nextID[k]) (d := x) (by simp) (by simp) (by simp) ⟨hv.size, hv.pos, hv.lt, hv.inc, hv.nx0, hv.nx1, hv.ent, hv.uniq, h⟩
end Go.Av
