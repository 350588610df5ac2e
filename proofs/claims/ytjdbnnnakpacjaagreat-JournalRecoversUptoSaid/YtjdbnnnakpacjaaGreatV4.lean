/-
  Operations and transactions on configurations, as plain functions.
-/
import Derived.Test.YtjdbnnnakpacjaaGreatH11
set_option linter.unusedVariables false
set_option linter.unusedSimpArgs false
set_option linter.constructorNameAsVariable false
namespace Go.Av
def xoE (p : Prg) (c : Config) (o : TableOp) : Int := if o.kind = 1 then insE p c o.table o.entry else if o.kind = 2 then modE p c o.table o.id o.call else if o.kind = 3 then delE p c o.table o.id else if o.kind = 4 then defE p o.table o.call else 11
def xoD (c : Config) (o : TableOp) : Config := if o.kind = 1 then insC c o.table o.entry else if o.kind = 2 then modC c o.table o.id o.call else if o.kind = 3 then delC c o.table o.id else defC c o.table o.call
def xoC (p : Prg) (c : Config) (o : TableOp) : Config := if xoE p c o = 0 then xoD c o else c
def xoI (p : Prg) (c : Config) (o : TableOp) : Int := if xoE p c o = 0 ∧ o.kind = 1 then nextAt c o.table else 0
structure CallS (x : ActionCall) : Prop where
  al : x.args.length < 2 ^ 40
  ar : ∀ v ∈ x.args, ok32 0 v
structure OpS (o : TableOp) : Prop where
  e : EntS o.entry
  c : CallS o.call
theorem OpS_of {o : TableOp} (h : o.Ok bulkMax) : OpS o := by
  have e := bulkMax_eq
  simp only [TableOp.Ok, Entry.Ok, ActionCall.Ok] at h
  obtain ⟨_, _, _, ⟨h1, _, _, h2⟩, _, h3⟩ := h
  exact ⟨⟨by have := h1.1; omega, fun m hm => h1.2 m hm, by have := h2.1; omega, fun v hv => h2.2 v hv⟩, ⟨by have := h3.1; omega, fun v hv => h3.2 v hv⟩⟩
theorem xoC_ok {p : Prg} {c : Config} (v : CfgV p c) (o : TableOp) : CfgV p (xoC p c o) := by
  unfold xoC
  split
  · rename_i h
    unfold xoE at h
    unfold xoD
    split
    · rename_i h1; rw [if_pos h1] at h; exact insC_ok v h
    rename_i h1; rw [if_neg h1] at h
    split
    · rename_i h2; rw [if_pos h2] at h; exact modC_ok v h
    rename_i h2; rw [if_neg h2] at h
    split
    · rename_i h3; rw [if_pos h3] at h; exact delC_ok v h
    rename_i h3; rw [if_neg h3] at h
    by_cases h4 : o.kind = 4
    · rw [if_pos h4] at h; exact defC_ok v h
    · rw [if_neg h4] at h; cases h
  · exact v
theorem CfgT.mk_rows {p : Prg} {c c' : Config} (s : CfgT c) (v' : CfgV p c') (hp : p.tables.length < 2 ^ 40) (hr : ∀ l ∈ c'.rows, ∀ r ∈ l, rowS r) (hd : ∀ d ∈ c'.defaults, d.args.length < 2 ^ 40 ∧ ∀ v ∈ d.args, ok32 0 v) (hg : c'.registers = c.registers) : CfgT c' := by
  refine ⟨by rw [v'.rl]; exact hp, fun l hl => ⟨by have := v'.small l hl; omega, hr l hl⟩, by rw [v'.nl]; exact hp, by rw [v'.dl]; exact hp, hd, by rw [hg]; exact s.gl, by rw [hg]; exact s.gs⟩
theorem rowsAt_mem {c : Config} {t : Int} {r : Rw} (h : r ∈ rowsAt c t) : ∃ l ∈ c.rows, r ∈ l := by
  unfold rowsAt at h
  cases ha : at? c.rows t with
  | none => rw [ha] at h; cases h
  | some l =>
    rw [ha] at h
    refine ⟨l, ?_, h⟩
    unfold at? at ha
    split at ha
    · cases ha
    · exact List.mem_of_getElem? ha
theorem xoC_t {p : Prg} {c : Config} (v : CfgV p c) (s : CfgT c) (hp : p.tables.length < 2 ^ 40) (o : TableOp) (ho : OpS o) : CfgT (xoC p c o) := by
  have v' := xoC_ok v o
  unfold xoC at v' ⊢
  split
  rotate_left
  · exact s
  rename_i h
  rw [if_pos h] at v'
  have old : ∀ l ∈ c.rows, ∀ r ∈ l, rowS r := fun l hl => (s.rs l hl).2
  have oldA : ∀ r ∈ rowsAt c o.table, rowS r := fun r hr => by
    obtain ⟨l, hl, hr⟩ := rowsAt_mem hr
    exact old l hl r hr
  unfold xoD at v' ⊢
  split
  · rename_i h1
    rw [if_pos h1] at v'
    refine s.mk_rows v' hp ?_ s.ds rfl
    intro l hl r hr
    simp only [insC] at hl
    rcases List.mem_or_eq_of_mem_set hl with hl | rfl
    · exact old l hl r hr
    · rcases List.mem_append.1 hr with hr | hr
      · exact oldA r hr
      · simp at hr; subst hr; exact ho.e
  rename_i h1
  rw [if_neg h1] at v'
  split
  · rename_i h2
    rw [if_pos h2] at v'
    unfold modC at v' ⊢
    split
    · rename_i i hi
      rw [hi] at v'
      refine s.mk_rows v' hp ?_ s.ds rfl
      intro l hl r hr
      rcases List.mem_or_eq_of_mem_set hl with hl | rfl
      · exact old l hl r hr
      · obtain ⟨j, hj, rfl⟩ := List.mem_iff_getElem.1 hr
        rw [List.getElem_modify]
        have hj' : j < (rowsAt c o.table).length := by simpa using hj
        have h0 := oldA _ (List.getElem_mem hj')
        split
        · exact ⟨h0.kl, h0.ks, ho.c.al, ho.c.ar⟩
        · exact h0
    · exact s
  rename_i h2
  rw [if_neg h2] at v'
  split
  · rename_i h3
    rw [if_pos h3] at v'
    unfold delC at v' ⊢
    split
    · rename_i i hi
      rw [hi] at v'
      refine s.mk_rows v' hp ?_ s.ds rfl
      intro l hl r hr
      rcases List.mem_or_eq_of_mem_set hl with hl | rfl
      · exact old l hl r hr
      · exact oldA r ((List.eraseIdx_sublist _ _).subset hr)
    · exact s
  · rename_i h3
    rw [if_neg h3] at v'
    refine s.mk_rows v' hp old ?_ rfl
    intro d hd
    simp only [defC] at hd
    rcases List.mem_or_eq_of_mem_set hd with hd | rfl
    · exact s.ds d hd
    · exact ⟨ho.c.al, ho.c.ar⟩
-- a transaction: the configuration and the numbers, or the place and the error
inductive RunR where
  | ok (c : Config) (ids : List Int)
  | err (i : Nat) (e : Int)
def runF (p : Prg) : Config → List TableOp → Nat → RunR
  | c, [], _ => .ok c []
  | c, o :: l, i => if xoE p c o = 0 then (match runF p (xoC p c o) l (i + 1) with
      | .ok d ids => .ok d (xoI p c o :: ids)
      | .err j e => .err j e) else .err i (xoE p c o)
-- the configurations after each operation, as far as they go
def xoF (p : Prg) (c : Config) (l : List TableOp) : Config := l.foldl (xoC p) c
end Go.Av
