/-
  store.Load, store.New, Config: a store holds the configuration that it was given.
-/
import Derived.Test.YtjdbnnnakpacjaaGreatH10
set_option linter.unusedVariables false
set_option linter.unusedSimpArgs false
set_option linter.constructorNameAsVariable false
namespace Go.Av
set_option maxRecDepth 4000
theorem tblE_size {p : Prg} {t : Int} {tb : Tbl} (h : (tblE p t).2 = 0) (ht : at? p.tables t = some tb) : tb.size ≤ 256 := by
  unfold tblE at h
  rw [ht] at h
  simp only at h
  split at h
  · cases h
  split at h
  · cases h
  split at h
  · cases h
  · omega
theorem entE_tbl {p : Prg} {t : Int} {x : Entry} (h : entE p t x = 0) : (tblE p t).2 = 0 := by
  unfold entE at h
  refine Decidable.byContradiction fun hc => ?_
  rw [if_pos hc] at h
  exact hc h
theorem CfgV.small {p : Prg} {c : Config} (v : CfgV p c) : ∀ l ∈ c.rows, l.length ≤ 256 := by
  intro l hl
  obtain ⟨k, hk, rfl⟩ := List.mem_iff_getElem.1 hl
  have hkt : k < p.tables.length := by rw [← v.rl]; exact hk
  have hv := v.at hkt
  by_cases h0 : c.rows[k].length = 0
  · omega
  have he := hv.ent _ (List.getElem_mem (show 0 < c.rows[k].length by omega))
  have hs := tblE_size (entE_tbl he) (by rw [at_nat]; exact List.getElem?_eq_getElem hkt)
  have := hv.size
  omega
theorem CfgV.u {p : Prg} {c : Config} (v : CfgV p c) (s : CfgT c) : CfgU c := ⟨s, fun l hl => by have := v.small l hl; omega⟩
theorem CfgV.incs {p : Prg} {c : Config} (v : CfgV p c) : ∀ l ∈ c.rows, l.Pairwise fun a b => a.id < b.id := by
  intro l hl
  obtain ⟨k, hk, rfl⟩ := List.mem_iff_getElem.1 hl
  have hkt : k < p.tables.length := by rw [← v.rl]; exact hk
  exact (v.at hkt).inc
def LoadPost (N : Nat) (O : List (Nat × AO)) (p : Prg) (c : Config) (r : Option (Rt × AH)) : Prop :=
  (cfgE p c ≠ 0 ∧ r = some (.val (.tup [.nilptr, .int .i64 (cfgE p c)]), ⟨O, N⟩)) ∨
  (cfgE p c = 0 ∧ ∃ S O' N', r = some (.val (.tup [.ptr S.s 15 0 0, .int .i64 0]), ⟨O', N'⟩) ∧ StoreM O' S p c ∧ (∀ j, S.own j → N ≤ j) ∧ Kp (Rs O) N O O' ∧ Tail O' N' ∧ N ≤ N')
theorem Load_ok (p : Prg) (op : p.Ok bulkMax) (hc : (pre p.control).length < 2 ^ 40 - 1) (c : Config) (s : CfgT c) {O : List (Nat × AO)} {N : Nat} (hT : Tail O N) :
    LoadPost N O p c (callI Φ f_store_Load [.agg (Prg.c p), .agg (Config.c c)] ⟨O, N⟩) := by
  rw [callI_go (fn := c_store_Load) rfl rfl]
  have f := PrgS_of op
  have hk := cfgE_ok p f hc c s
  simp only [Prg.e, Config.ce] at hk
  by_cases z : cfgE p c = 0
  · have v := (cfgE_zero p c).1 z
    obtain ⟨S, O', N', e, h1, h2, h3, h4, h5⟩ := load_ok p op c (v.u s) v.incs hT (CfgR.imm (O := O) c)
    rw [z] at hk
    simp only [Prg.e] at e
    simp [c_store_Load, Prg.e, Config.ce, hk, e]
    exact .inr ⟨z, S, O', N', rfl, h1, h2, h3, h4, h5⟩
  · simp [c_store_Load, Prg.e, Config.ce, hk, z]
    exact .inl ⟨z, rfl⟩
-- the initial configuration
theorem emptyT {p : Prg} (op : p.Ok bulkMax) : CfgT (emptyC p) := by
  have f := PrgS_of op
  have e := bulkMax_eq
  have ht := f.t
  have hr := f.r
  obtain ⟨_, _, _, _, _, o5, _⟩ := op
  refine ⟨by simpa [emptyC] using ht, ?_, by simpa [emptyC] using ht, by simpa [emptyC] using ht, ?_, by simpa [emptyC, newR] using hr, ?_⟩
  · intro l hl
    simp [emptyC] at hl
    obtain ⟨_, _, rfl⟩ := hl
    simp
  · intro d hd
    simp [emptyC] at hd
    obtain ⟨t, ht, rfl⟩ := hd
    have := o5.2 t ht
    simp only [Tbl.Ok, ActionCall.Ok] at this
    exact ⟨by have := this.2.2.2.1.2.1; omega, fun v hv => this.2.2.2.1.2.2 v hv⟩
  · intro l hl
    simp [emptyC, newR] at hl
    obtain ⟨r, _, rfl⟩ := hl
    have := regN_le r
    refine ⟨by simp; omega, ?_⟩
    intro v hv
    have := List.eq_of_mem_replicate hv
    subst this
    exact ⟨by omega, by omega⟩
def NewPost (N : Nat) (O : List (Nat × AO)) (p : Prg) (r : Option (Rt × AH)) : Prop :=
  ((prgD p).1 ≠ 0 ∧ r = some (.val (.tup [.nilptr, .int .i64 (prgD p).1]), ⟨O, N + 1⟩)) ∨
  ((prgD p).1 = 0 ∧ ∃ S O' N', r = some (.val (.tup [.ptr S.s 15 0 0, .int .i64 0]), ⟨O', N'⟩) ∧ StoreM O' S p (emptyC p) ∧ (∀ j, S.own j → N ≤ j) ∧ Kp (Rs O) N O O' ∧ Tail O' N' ∧ N ≤ N')
-- what Config returns
theorem Config_ok {p : Prg} {c : Config} (u : CfgU c) {S : SV} {O : List (Nat × AO)} {N : Nat} (hT : Tail O N) (m : StoreM O S p c) : CCpost N O c (callI Φ f_store_Store_Config [.ptr S.s 15 0 0] ⟨O, N⟩) := by
  rw [callI_go (fn := c_store_Store_Config) rfl rfl]
  have t0 := hT N (Nat.le_refl _)
  have hs := m.s
  simp only [SV.cells, Prg.e, List.cons_append, List.nil_append] at hs
  have fs := lk_fresh hT hs (Nat.le_refl N)
  have hk1 : Kp (fun _ => False) N O (O ++ [(N, AO.row 4 [[.fslice 1 [], .fslice 1 [], .fslice 2 [], .fslice 1 []]])]) := Kp.app (fun _ _ _ => rfl) (Nat.le_refl _)
  have hT1 := hT.app1 (o := AO.row 4 [[.fslice 1 [], .fslice 1 [], .fslice 2 [], .fslice 1 []]]) (Nat.le_refl N)
  obtain ⟨w1, w2, w3, w4, V, O', N', e, h1, h2, h3, h4, h5⟩ := cloneConfig_ok c u hT1 (m.cm.re.kp hT hk1 (by simp))
  have ln : look N O' = some (.row 4 [[.fslice 1 [], .fslice 1 [], .fslice 2 [], .fslice 1 []]]) := h3.lk hT1 (by rw [lk_app, t0]; simp) (by simp)
  simp [c_store_Store_Config, t0, lk_app, hs, e, ln, lk_setl]
  refine ⟨w1, w2, w3, w4, V, _, N', rfl, ?_, fun j hj => by have := h2 j hj; omega, ?_, Tail_setl2 h4, by omega⟩
  · refine h1.fr fun j hj => ?_
    have := h2 j hj
    rw [lk_setl, if_neg (by omega)]
  · intro j hj hx
    rw [lk_setl, if_neg (by omega), h3 j (by omega) hx, lk_app, show look j [(N, AO.row 4 [[.fslice 1 [], .fslice 1 [], .fslice 2 [], .fslice 1 []]])] = none by simp [look]; omega]
    simp
end Go.Av
