/-
  A transaction without deletions has an inverse (towards TxnUndoes).
-/
import Derived.Test.YtjdbnnnakpacjaaGreatCC1
set_option linter.unusedVariables false
set_option linter.unusedSimpArgs false
set_option linter.constructorNameAsVariable false
namespace Go.Av
set_option maxRecDepth 4000
structure SameRD (a b : Config) : Prop where
  r : a.rows = b.rows
  d : a.defaults = b.defaults
  g : a.registers = b.registers
theorem SameRD.at {a b : Config} (h : SameRD a b) (t : Int) : rowsAt a t = rowsAt b t := by unfold rowsAt; rw [h.r]
theorem set_mod {c : Config} {t : Nat} (h : t < c.rows.length) : c.rows.set t (rowsAt c t) = c.rows := by rw [rowsAt_nat h]; simp
theorem undo_step {p : Prg} {c c' : Config} {o : TableOp} (v : CfgV p c) (v' : CfgV p c') (hx : xoE p c o = 0) (hk : o.kind ≠ 3) (hs : SameRD c' (xoC p c o)) :
    xoE p c' (undF c o (xoI p c o)) = 0 ∧ SameRD (xoC p c' (undF c o (xoI p c o))) c := by
  have hC : xoC p c o = xoD c o := by unfold xoC; rw [if_pos hx]
  have hx0 := hx
  rw [hC] at hs
  unfold xoE at hx
  unfold xoD at hs
  by_cases k1 : o.kind = 1
  · rw [if_pos k1] at hx hs
    obtain ⟨hi, _, _⟩ := insE_facts hx
    obtain ⟨k, hkk, hkl⟩ := inT_iff hi
    have l1 : k < c.rows.length := by rw [v.rl]; exact hkl
    have hI : xoI p c o = nextAt c k := by unfold xoI; rw [if_pos ⟨hx0, k1⟩, hkk]
    have hu : undF c o (xoI p c o) = delO k ⟨nextAt c k, o.entry⟩ := by
      unfold undF; rw [if_pos k1, hI, hkk]; rfl
    rw [hu]
    have hr : rowsAt c' k = rowsAt c k ++ ⟨nextAt c k, o.entry⟩ :: [] := by
      rw [hs.at, hkk]
      unfold insC
      rw [Int.toNat_natCast, rowsAt_set l1]
    obtain ⟨e1, e2⟩ := del_step v' hkl hr
    refine ⟨e1, ?_⟩
    rw [e2]
    have h1 := hs.r
    rw [hkk] at h1
    refine ⟨?_, hs.d, hs.g⟩
    simp only [setR, h1, insC, Int.toNat_natCast, List.set_set, List.append_nil]
    exact set_mod l1
  rw [if_neg k1] at hx hs
  by_cases k2 : o.kind = 2
  · rw [if_pos k2] at hx hs
    unfold modE at hx
    cases hi : inT p o.table with
    | false => rw [if_pos hi] at hx; cases hx
    | true =>
    rw [if_neg (by rw [hi]; decide)] at hx
    obtain ⟨k, hkk, hkl⟩ := inT_iff hi
    have l1 : k < c.rows.length := by rw [v.rl]; exact hkl
    have l1' : k < c'.rows.length := by rw [v'.rl]; exact hkl
    rw [hkk] at hx hs
    cases hri : rIdx (rowsAt c k) o.id with
    | none => rw [if_pos hri] at hx; cases hx
    | some i =>
    obtain ⟨hil, hid⟩ := rIdx_some hri
    have hsp : rowsAt c k = (rowsAt c k).take i ++ (rowsAt c k)[i] :: (rowsAt c k).drop (i + 1) := by simp
    have hids := ids_of v hkl
    generalize hq : (rowsAt c k)[i] = q at *
    generalize hu : (rowsAt c k).take i = u at *
    generalize hw : (rowsAt c k).drop (i + 1) = w at *
    have hul : u.length = i := by rw [← hu, List.length_take]; omega
    have hmod : (rowsAt c k).modify i (callRow o.call) = u ++ callRow o.call q :: w := by
      rw [hsp, List.modify_eq_take_cons_drop (by simp; omega)]
      simp [← hul]
    have hety : etyF (rowsAt c k) o.id = q.entry := by
      obtain ⟨r, hr, h1, h2⟩ := etyF_mem (l := rowsAt c k) (id := o.id) (by rw [hri]; simp)
      rw [h2]
      have hrq : r = q := by
        obtain ⟨j, hj, rfl⟩ := List.mem_iff_getElem.1 hr
        by_cases e : j = i
        · subst e; exact hq
        · exfalso
          rw [List.pairwise_iff_getElem] at hids
          have hqi : (rowsAt c k)[i].id = o.id := by rw [hq]; exact hid
          rcases Nat.lt_or_gt_of_ne e with g | g
          · have := hids j i hj hil g; omega
          · have := hids i j hil hj g; omega
      rw [hrq]
    have hun : undF c o (xoI p c o) = modO k (callRow o.call q) q.entry.call := by
      unfold undF
      rw [if_neg k1, if_pos k2, hkk, hety, ← hid]; rfl
    rw [hun]
    have hmc : modC c k o.id o.call = ⟨c.rows.set k (u ++ callRow o.call q :: w), c.nextID, c.defaults, c.registers⟩ := by
      unfold modC
      rw [hri]
      simp only [Int.toNat_natCast, hmod]
    rw [hmc] at hs
    have hr : rowsAt c' k = u ++ callRow o.call q :: w := by rw [hs.at, rowsAt_set l1]
    have hck : ckCall p k q.entry.call = 0 := by
      have hm : q ∈ rowsAt c k := by rw [hsp]; simp
      rw [rowsAt_nat l1] at hm
      exact entE_ck (inT_nat hkl) ((v.at hkl).ent q hm)
    obtain ⟨e1, e2⟩ := mod_step v' hkl hr hck
    refine ⟨e1, ?_⟩
    rw [e2]
    have h1 := hs.r
    refine ⟨?_, hs.d, hs.g⟩
    have hcc : callRow q.entry.call (callRow o.call q) = q := rfl
    simp only [setR, h1, List.set_set, hcc]
    rw [← hsp]
    exact set_mod l1
  rw [if_neg k2, if_neg hk] at hx hs
  by_cases k4 : o.kind = 4
  rotate_left
  · rw [if_neg k4] at hx; cases hx
  rw [if_pos k4] at hx
  unfold defE at hx
  cases hi : inT p o.table with
  | false => rw [if_pos hi] at hx; cases hx
  | true =>
  obtain ⟨k, hkk, hkl⟩ := inT_iff hi
  have l3 : k < c.defaults.length := by rw [v.dl]; exact hkl
  have hun : undF c o (xoI p c o) = setO k (defAt c k) := by
    unfold undF
    rw [if_neg k1, if_neg k2, if_neg hk, hkk]; rfl
  rw [hun]
  have hdk : ckCall p k (defAt c k) = 0 := by
    have := (v.at hkl).dflt
    simpa [defAt, List.getElem?_eq_getElem l3] using this
  obtain ⟨e1, e2⟩ := set_step (c := c') hkl hdk
  refine ⟨e1, ?_⟩
  rw [e2]
  have hd := hs.d
  rw [hkk] at hd
  refine ⟨hs.r, ?_, hs.g⟩
  simp only [hd, defC, Int.toNat_natCast, List.set_set]
  simp [defAt, List.getElem?_eq_getElem l3]
def und (p : Prg) : Config → List TableOp → List TableOp
  | _, [] => []
  | c, o :: l => und p (xoC p c o) l ++ [undF c o (xoI p c o)]
theorem cfgN_cons (p : Prg) (c : Config) (o : TableOp) (l : List TableOp) (j : Nat) : cfgN p c (o :: l) (j + 1) = cfgN p (xoC p c o) l j := by
  simp [cfgN, xoF]
theorem undos_und (p : Prg) : ∀ (c : Config) (l : List TableOp), (undos p c l l.length).reverse = und p c l
  | _, [] => rfl
  | c, o :: l => by
    rw [und, ← undos_und p (xoC p c o) l]
    have : undos p c (o :: l) (o :: l).length = undF c o (xoI p c o) :: undos p (xoC p c o) l l.length := by
      unfold undos
      rw [List.length_cons, List.range_succ_eq_map, List.map_cons, List.map_map]
      congr 1
    rw [this, List.reverse_cons]
theorem run_und {p : Prg} : ∀ (l : List TableOp) (c c' : Config), CfgV p c → CfgV p c' → okF p c l → (∀ o ∈ l, o.kind ≠ 3) → SameRD c' (xoF p c l) → okF p c' (und p c l) ∧ SameRD (xoF p c' (und p c l)) c
  | [], c, c', _, _, _, _, hs => ⟨trivial, hs⟩
  | o :: l, c, c', v, v', h, hk, hs => by
    obtain ⟨i1, i2⟩ := run_und l (xoC p c o) c' (xoC_ok v o) v' h.2 (fun x hx => hk x (by simp [hx])) hs
    obtain ⟨s1, s2⟩ := undo_step v (xoF_ok (und p (xoC p c o) l) v') h.1 (hk o (by simp)) i2
    refine ⟨okF_app p _ _ _ i1 ⟨s1, trivial⟩, ?_⟩
    rw [und, xoF_app]
    exact s2
-- without deletions no undoing operation inserts
theorem und_kind {p : Prg} : ∀ (l : List TableOp) (c : Config), okF p c l → (∀ o ∈ l, o.kind ≠ 3) → ∀ u ∈ und p c l, u.kind ≠ 1
  | [], _, _, _, u, hu => by simp [und] at hu
  | o :: l, c, h, hk, u, hu => by
    rw [und] at hu
    rcases List.mem_append.1 hu with hu | hu
    · exact und_kind l _ h.2 (fun x hx => hk x (by simp [hx])) u hu
    · simp only [List.mem_singleton] at hu
      subst hu
      unfold undF
      by_cases k1 : o.kind = 1
      · rw [if_pos k1]; simp
      rw [if_neg k1]
      by_cases k2 : o.kind = 2
      · rw [if_pos k2]; simp
      rw [if_neg k2, if_neg (hk o (by simp))]
      simp
theorem bkP_self (p : Prg) : ∀ (V : List TableOp) (d : Config), (∀ u ∈ V, u.kind ≠ 1) → bkP p [] d V = V
  | [], _, _ => rfl
  | u :: V, d, h => by
    have h1 := h u (by simp)
    have e : bk1 [] u = u := by simp [bk1, h1, getM]
    rw [bkP, e, bkM, if_neg h1, bkP_self p V _ fun x hx => h x (by simp [hx])]
theorem invP_len (p : Prg) (c : Config) (l : List TableOp) : (invP p c l).length = l.length := by
  unfold invP
  rw [bkP_len]; simp [undos]
-- the law in plain terms
theorem inverse_of {p : Prg} {c : Config} {l : List TableOp} (h : badA p c l = none) (hk : ∀ o ∈ l, o.kind ≠ 3) : invA p c l (invP p c l) = .tup [.slice 9 ((invP p c l).map TableOp.c), .int .i64 0] ∧ badA p (xoF p c l) (invP p c l) = none ∧ equiv (xoF p (xoF p c l) (invP p c l)) c = true := by
  have z := badA_zero h
  have h64 := badA_len h
  have ho := badA_okF h
  have v := (cfgE_zero p c).1 z
  have vd : CfgV p (xoF p c l) := xoF_ok l v
  have hP : invP p c l = und p c l := by
    unfold invP
    rw [undos_und, bkP_self p _ _ (und_kind l c ho hk)]
  have hl := invP_len p c l
  obtain ⟨r1, r2⟩ := run_und l c (xoF p c l) v vd ho hk ⟨rfl, rfl, rfl⟩
  have hb : badA p (xoF p c l) (invP p c l) = none := by
    unfold badA
    rw [if_neg (by simpa using (cfgE_zero p _).2 vd), if_neg (by omega), hP, badF_okF p _ _ 0 r1]
    rfl
  have he : equiv (xoF p (xoF p c l) (invP p c l)) c = true := by
    rw [hP]
    unfold equiv
    rw [r2.r, r2.d, r2.g]
    simp
  refine ⟨?_, hb, he⟩
  unfold invA
  rw [h]
  simp only
  unfold invT
  rw [cfgN_len, hb]
  simp only
  rw [cfgN_len, if_pos he]
end Go.Av
