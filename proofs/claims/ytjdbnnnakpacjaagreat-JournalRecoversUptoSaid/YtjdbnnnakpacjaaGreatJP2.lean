/-
  A log of transactions, as plain functions; operations that succeed can be encoded, and what is decoded has the same effect.
-/
import Derived.Test.YtjdbnnnakpacjaaGreatJP1
import Derived.Test.YtjdbnnnakpacjaaGreatCC1
set_option linter.unusedVariables false
set_option linter.unusedSimpArgs false
set_option linter.constructorNameAsVariable false
namespace Go.Av
set_option maxRecDepth 4000
structure LgV where
  c : Config
  b : List Int
  n : Nat
def cmt (p : Prg) (g : LgV) (l : List TableOp) : LgV := ⟨xoF p g.c l, g.b ++ frB (encB l), g.n + 1⟩
def opn (p : Prg) : Nat → LgV → Int → List Int → Option LgV × Int × Int
  | 0, g, u, _ => (some g, u, 0)
  | k + 1, g, u, r =>
    if r = [] then (some g, u, 0) else
    if (unfB r).2.2 ≠ 0 then (some g, u, 0) else
    if (decB (unfB r).1).2 ≠ 0 then (none, u, (decB (unfB r).1).2) else
    match badA p g.c (decB (unfB r).1).1 with
    | some x => (none, u, x.2)
    | none => opn p k (cmt p g (decB (unfB r).1).1) (u + (unfB r).2.1) (r.drop (unfB r).2.1.toNat)
-- an operation with the fields that it uses
def clnO (o : TableOp) : TableOp := if o.kind = 1 then ⟨1, o.table, 0, o.entry, call0⟩ else if o.kind = 2 then ⟨2, o.table, o.id, entry0, o.call⟩ else if o.kind = 3 then ⟨3, o.table, o.id, entry0, call0⟩ else ⟨o.kind, o.table, 0, entry0, o.call⟩
theorem rdOp_full {o : TableOp} (h : opE o = true) (ho : okO o) (r : List Int) : rdOp ⟨opB o ++ r, 0⟩ = (⟨r, 0⟩, clnO o) := by
  obtain ⟨o1, o2, o3⟩ := ho
  have hk : 1 ≤ o.kind ∧ o.kind ≤ 4 := by
    by_cases k1 : o.kind = 1
    · omega
    by_cases k2 : o.kind = 2
    · omega
    by_cases k3 : o.kind = 3
    · omega
    by_cases k4 : o.kind = 4
    · omega
    · simp [opE, k1, k2, k3, k4] at h
  have hs : ∀ s : Stt, s.e = 0 → kindS (s, o.kind) = s := by
    intro s _
    simp only [kindS]
    rw [if_neg (by omega)]
  unfold opE at h
  rw [Bool.and_eq_true] at h
  obtain ⟨ht, h⟩ := h
  by_cases k1 : o.kind = 1
  · simp [k1] at h
    have h2 := rd2_be ht (be2 o.entry.priority ++ ((o.entry.keys.length : Int) :: (keysB o.entry.keys ++ (callB o.entry.call ++ r))))
    have h3 := rd2_be h.1 ((o.entry.keys.length : Int) :: (keysB o.entry.keys ++ (callB o.entry.call ++ r)))
    have h4 := rdKeys_be o.entry.keys o1 (callB o.entry.call ++ r)
    have h5 := rdCall_be h.2.2 o2 r
    simp [k1] at hs
    simp [rdOp, opB, k1, rd1_be, hs, h2, rdTail, rdEntry, h3, h4, h5, clnO]
  by_cases k2 : o.kind = 2
  · simp [k2] at h
    have h2 := rd2_be ht (be4 o.id ++ (callB o.call ++ r))
    have h3 := rdI_be h.1 (callB o.call ++ r)
    have h5 := rdCall_be h.2 o3 r
    simp [k2] at hs
    simp [rdOp, opB, k2, rd1_be, hs, h2, rdTail, h3, h5, clnO]
  by_cases k3 : o.kind = 3
  · simp [k3] at h
    have h2 := rd2_be ht (be4 o.id ++ r)
    have h3 := rdI_be h r
    simp [k3] at hs
    simp [rdOp, opB, k3, rd1_be, hs, h2, rdTail, h3, clnO]
  · have k4 : o.kind = 4 := by omega
    simp [k4] at h
    have h2 := rd2_be ht (callB o.call ++ r)
    have h5 := rdCall_be h o3 r
    simp [k4] at hs
    simp [rdOp, opB, k4, rd1_be, hs, h2, rdTail, h5, clnO]
theorem rdOps_full : ∀ (l : List TableOp), (∀ o ∈ l, opE o = true) → (∀ o ∈ l, okO o) → ∀ r, rdOps l.length ⟨opsB l ++ r, 0⟩ = (⟨r, 0⟩, l.map clnO)
  | [], _, _, r => by simp [rdOps, opsB]
  | x :: l, h, ho, r => by
    have := rdOps_full l (fun y hy => h y (List.mem_cons_of_mem _ hy)) (fun y hy => ho y (List.mem_cons_of_mem _ hy)) r
    have h4 := rdOp_full (h x (List.mem_cons_self ..)) (ho x (List.mem_cons_self ..)) (opsB l ++ r)
    simp [rdOps, opsB] at this h4 ⊢
    simp [h4, this]
theorem dec_full {l : List TableOp} (h64 : l.length ≤ 64) (h : ∀ o ∈ l, opE o = true) (ho : ∀ o ∈ l, okO o) : decB (encB l) = (l.map clnO, 0) := by
  unfold encB
  rw [if_pos ⟨h64, h⟩]
  have := rdOps_full l h ho []
  simp at this
  have c : cntS (⟨opsB l, 0⟩, (l.length : Int)) = ⟨opsB l, 0⟩ := by
    simp only [cntS]
    rw [if_neg (by omega)]
  simp [decB, rd1_be, c, this, endE]
theorem cln_kind (o : TableOp) : (clnO o).kind = o.kind := by
  unfold clnO
  split
  · simp [*]
  split
  · simp [*]
  split
  · simp [*]
  · rfl
theorem cln_table (o : TableOp) : (clnO o).table = o.table := by
  unfold clnO
  repeat' split
  all_goals rfl
theorem opB_cln (o : TableOp) : opB (clnO o) = opB o := by
  unfold opB
  rw [cln_kind, cln_table]
  by_cases k1 : o.kind = 1
  · simp [k1, clnO]
  by_cases k2 : o.kind = 2
  · simp [k2, clnO]
  by_cases k3 : o.kind = 3
  · simp [k3, clnO]
  · simp [k1, k2, k3, clnO]
theorem opE_cln (o : TableOp) : opE (clnO o) = opE o := by
  unfold opE
  rw [cln_kind, cln_table]
  by_cases k1 : o.kind = 1
  · simp [k1, clnO]
  by_cases k2 : o.kind = 2
  · simp [k2, clnO]
  by_cases k3 : o.kind = 3
  · simp [k3, clnO]
  · simp [k1, k2, k3, clnO]
theorem encB_cln (l : List TableOp) : encB (l.map clnO) = encB l := by
  unfold encB opsB
  simp [List.map_map, Function.comp_def, opB_cln, opE_cln]
theorem xoE_cln (p : Prg) (c : Config) (o : TableOp) : xoE p c (clnO o) = xoE p c o := by
  unfold xoE
  rw [cln_kind, cln_table]
  by_cases k1 : o.kind = 1
  · simp [k1, clnO]
  by_cases k2 : o.kind = 2
  · simp [k2, clnO]
  by_cases k3 : o.kind = 3
  · simp [k3, clnO]
  · simp [k1, k2, k3, clnO]
theorem xoC_cln (p : Prg) (c : Config) (o : TableOp) : xoC p c (clnO o) = xoC p c o := by
  unfold xoC xoD
  rw [xoE_cln, cln_kind, cln_table]
  by_cases k1 : o.kind = 1
  · simp [k1, clnO]
  by_cases k2 : o.kind = 2
  · simp [k2, clnO]
  by_cases k3 : o.kind = 3
  · simp [k3, clnO]
  · simp [k1, k2, k3, clnO]
theorem xoF_cln (p : Prg) : ∀ (l : List TableOp) (c : Config), xoF p c (l.map clnO) = xoF p c l
  | [], _ => rfl
  | o :: l, c => by rw [List.map_cons, xoF_cons, xoF_cons, xoC_cln, xoF_cln p l]
theorem badF_cln (p : Prg) : ∀ (l : List TableOp) (c : Config) (i : Nat), badF p c (l.map clnO) i = badF p c l i
  | [], _, _ => rfl
  | o :: l, c, i => by rw [List.map_cons, badF, badF, xoE_cln, xoC_cln, badF_cln p l]
theorem badA_cln (p : Prg) (c : Config) (l : List TableOp) : badA p c (l.map clnO) = badA p c l := by
  unfold badA
  rw [List.length_map, badF_cln]
theorem cmt_cln (p : Prg) (g : LgV) (l : List TableOp) : cmt p g (l.map clnO) = cmt p g l := by
  unfold cmt
  rw [xoF_cln, encB_cln]
-- what succeeds can be encoded
theorem PrgV.acts {p : Prg} (v : PrgV p) : p.actions.length ≤ 16 := by
  have h := v.lim
  unfold limD at h
  repeat' split at h
  all_goals first | omega | cases h
theorem PrgV.pars {p : Prg} (v : PrgV p) {k : Nat} (hk : k < p.actions.length) : p.actions[k].params.length ≤ 4 := by
  have h := v.act
  unfold actD1 at h
  have := (fe_all.1 h) k hk
  simp only [List.getElem?_eq_getElem hk, Option.bind_some] at this
  have hE : (actE p k).2 = 0 := by
    refine Decidable.byContradiction fun hc => ?_
    rw [if_pos hc] at this; cases this
  unfold actE at hE
  rw [at_nat, List.getElem?_eq_getElem hk] at hE
  simp only at hE
  split at hE
  · rename_i hc; exact absurd hE hc
  rename_i hc
  refine Decidable.byContradiction fun hn => hc ?_
  unfold actD
  split
  · simp
  · rw [if_pos (by omega)]; simp
theorem callEJ_of {p : Prg} (v : PrgV p) {t : Int} {c : ActionCall} (h : ckCall p t c = 0) : callEJ c = true := by
  unfold ckCall at h
  split at h
  · cases h
  unfold callE at h
  by_cases i0 : c.action < 0
  · rw [at_neg i0] at h; cases h
  by_cases i1 : (p.actions.length : Int) ≤ c.action
  · rw [at_big i1] at h; cases h
  obtain ⟨k, hk⟩ : ∃ k : Nat, c.action = k := ⟨c.action.toNat, by omega⟩
  have hkl : k < p.actions.length := by omega
  have h16 := v.acts
  have hp := v.pars hkl
  rw [hk, at_nat, List.getElem?_eq_getElem hkl] at h
  simp only at h
  split at h
  · cases h
  rename_i hl
  simp [callEJ, shortI]
  omega
theorem ent_facts {p : Prg} {t : Int} {x : Entry} (h : entE p t x = 0) : x.keys.length ≤ 6 ∧ 0 ≤ x.priority ∧ x.priority ≤ 255 ∧ ckCall p t x.call = 0 := by
  have hT := entE_tbl h
  have ho : tOk p t = true := by simp [tOk, hT]
  obtain ⟨k, hk, rfl, o⟩ := tOk_at ho
  unfold entE at h
  rw [if_neg (by simpa using hT), at_nat, List.getElem?_eq_getElem hk] at h
  simp only at h
  split at h
  · cases h
  rename_i hl
  have hk6 := o.keys
  cases q : fe (entG p p.tables[k] x) p.tables[k].keys.length 0 with
  | some e =>
    exfalso
    rw [q] at h
    simp only [Option.getD_some] at h
    subst h
    obtain ⟨i, hi, hx⟩ := fe_some q
    unfold entG at hx
    split at hx
    · split at hx
      · cases hx
      · rename_i hne; simp only [Option.some.injEq] at hx; exact hne hx
    · cases hx
  | none =>
    rw [q] at h
    simp only [Option.getD_none] at h
    unfold entF at h
    split at h
    · cases h
    split at h
    · cases h
    split at h
    · cases h
    refine ⟨by omega, by omega, by omega, ?_⟩
    unfold ckCall
    exact h
theorem opE_of {p : Prg} {c : Config} (v : CfgV p c) {o : TableOp} (h : xoE p c o = 0) : opE o = true := by
  have vp := PrgV_of v.prg
  have h12 := vp.tabs
  have tb : ∀ {t : Int}, inT p t = true → shortI t = true := by
    intro t ht
    obtain ⟨k, rfl, hk⟩ := inT_iff ht
    simp [shortI]; omega
  have idr : ∀ {t id : Int}, inT p t = true → rIdx (rowsAt c t) id ≠ none → idI id = true := by
    intro t id ht hr
    obtain ⟨k, rfl, hk⟩ := inT_iff ht
    have vt := v.at hk
    rw [rowsAt_nat (by rw [v.rl]; exact hk)] at hr
    cases hq : rIdx (c.rows[k]'(by rw [v.rl]; exact hk)) id with
    | none => exact absurd hq hr
    | some i =>
      obtain ⟨hil, hid⟩ := rIdx_some hq
      have h1 := vt.pos _ (List.getElem_mem hil)
      have h2 := vt.lt _ (List.getElem_mem hil)
      have h3 := vt.nx1
      simp [idI]; omega
  unfold xoE at h
  unfold opE
  by_cases k1 : o.kind = 1
  · rw [if_pos k1] at h
    obtain ⟨hi, _, _⟩ := insE_facts h
    have he : entE p o.table o.entry = 0 := by
      unfold insE at h
      rw [if_neg (by simp [hi])] at h
      refine Decidable.byContradiction fun hc => ?_
      rw [if_pos hc] at h; exact hc h
    obtain ⟨f1, f2, f3, f4⟩ := ent_facts he
    have h5 := callEJ_of vp f4
    have hp : shortI o.entry.priority = true := by simp [shortI]; omega
    simp [k1, tb hi, hp, h5]; omega
  rw [if_neg k1] at h
  by_cases k2 : o.kind = 2
  · rw [if_pos k2] at h
    unfold modE at h
    split at h
    · cases h
    rename_i hi
    split at h
    · cases h
    rename_i hr
    have hi' : inT p o.table = true := by simpa using hi
    simp [k2, tb hi', idr hi' hr, callEJ_of vp h]
  rw [if_neg k2] at h
  by_cases k3 : o.kind = 3
  · rw [if_pos k3] at h
    unfold delE at h
    split at h
    · cases h
    rename_i hi
    split at h
    · cases h
    rename_i hr
    have hi' : inT p o.table = true := by simpa using hi
    simp [k3, tb hi', idr hi' hr]
  rw [if_neg k3] at h
  by_cases k4 : o.kind = 4
  · rw [if_pos k4] at h
    unfold defE at h
    split at h
    · cases h
    rename_i hi
    have hi' : inT p o.table = true := by simpa using hi
    simp [k4, tb hi', callEJ_of vp h]
  · rw [if_neg k4] at h; cases h
theorem okF_opE {p : Prg} : ∀ {c : Config} (l : List TableOp), CfgV p c → okF p c l → ∀ o ∈ l, opE o = true
  | _, [], _, _, o, h => by cases h
  | c, x :: l, v, h, o, ho => by
    rcases List.mem_cons.1 ho with rfl | ho
    · exact opE_of v h.1
    · exact okF_opE l (xoC_ok v x) h.2 o ho
end Go.Av
