/-
  Operations on configurations: what they leave, as plain facts.
-/
import Derived.Test.YtjdbnnnakpacjaaGreatV4
set_option linter.unusedVariables false
set_option linter.unusedSimpArgs false
set_option linter.constructorNameAsVariable false
namespace Go.Av
theorem xoC_next {p : Prg} {d : Config} {u : TableOp} (hx : xoE p d u = 0) : (xoC p d u).nextID = if u.kind = 1 then d.nextID.set u.table.toNat (nextAt d u.table + 1) else d.nextID := by
  unfold xoC
  rw [if_pos hx]
  unfold xoD
  by_cases z1 : u.kind = 1
  · simp [z1, insC]
  by_cases z2 : u.kind = 2
  · simp [z2, modC]; split <;> rfl
  by_cases z3 : u.kind = 3
  · simp [z3, delC]; split <;> rfl
  · simp [z1, z2, z3, defC]
theorem xo_inT {p : Prg} {c : Config} {o : TableOp} (hx : xoE p c o = 0) : inT p o.table = true ∧ (o.kind = 1 ∨ o.kind = 2 ∨ o.kind = 3 ∨ o.kind = 4) := by
  have : inT p o.table = true := by
    cases hi : inT p o.table with
    | true => rfl
    | false =>
      exfalso
      unfold xoE insE modE delE defE at hx
      rw [hi] at hx
      simp at hx
      split at hx <;> first | (cases hx; done) | (split at hx <;> first | (cases hx; done) | (split at hx <;> first | (cases hx; done) | (split at hx <;> cases hx)))
  refine ⟨this, ?_⟩
  by_cases z1 : o.kind = 1
  · exact .inl z1
  by_cases z2 : o.kind = 2
  · exact .inr (.inl z2)
  by_cases z3 : o.kind = 3
  · exact .inr (.inr (.inl z3))
  by_cases z4 : o.kind = 4
  · exact .inr (.inr (.inr z4))
  simp [xoE, z1, z2, z3, z4] at hx
theorem insE_zero {p : Prg} {c : Config} {t : Int} {x : Entry} (h : insE p c t x = 0) : inT p t = true ∧ entE p t x = 0 := by
  unfold insE at h
  cases hi : inT p t with
  | false => simp [hi] at h
  | true =>
    refine ⟨rfl, ?_⟩
    by_cases z : entE p t x = 0
    · exact z
    · simp [hi, z] at h
theorem entE_ck {p : Prg} {t : Int} {x : Entry} (hi : inT p t = true) (h : entE p t x = 0) : ckCall p t x.call = 0 := by
  obtain ⟨k, rfl, hk⟩ := inT_iff hi
  unfold entE at h
  split at h
  · exact absurd h (by assumption)
  rw [at_nat, List.getElem?_eq_getElem hk] at h
  simp only at h
  split at h
  · cases h
  cases hf : fe (entG p p.tables[k] x) p.tables[k].keys.length 0 with
  | some e =>
    rw [hf] at h
    simp only [Option.getD_some] at h
    obtain ⟨i, _, hx⟩ := fe_some hf
    unfold entG at hx
    split at hx
    · split at hx
      · cases hx
      · cases hx; exact absurd h (by assumption)
    · cases hx
  | none =>
    rw [hf] at h
    simp only [Option.getD_none] at h
    unfold entF at h
    unfold ckCall
    split at h
    · cases h
    split at h
    · cases h
    split at h
    · cases h
    exact h
theorem ins_mod {p : Prg} {c : Config} {t : Int} {x : Entry} (v : CfgV p c) (h : insE p c t x = 0) : modE p (insC c t x) t (nextAt c t) x.call = 0 := by
  obtain ⟨hi, he⟩ := insE_zero h
  have hc := entE_ck hi he
  obtain ⟨k, rfl, hk⟩ := inT_iff hi
  have l1 : k < c.rows.length := by rw [v.rl]; exact hk
  unfold modE
  rw [if_neg (by rw [hi]; decide), if_neg, hc]
  have e : rowsAt (insC c k x) (k : Int) = rowsAt c k ++ [⟨nextAt c k, x⟩] := by
    rw [rowsAt_nat (by simp [insC]; exact l1)]
    simp [insC]
  rw [e]
  unfold rIdx
  rw [List.findIdx?_eq_none_iff]
  intro hn
  have := hn ⟨nextAt c k, x⟩ (by simp)
  simp at this
theorem del_del {p : Prg} {c : Config} {t id : Int} (v : CfgV p c) (h : delE p c t id = 0) : delE p (delC c t id) t id = 8 := by
  unfold delE at h ⊢
  cases hi : inT p t with
  | false => simp [hi] at h
  | true =>
  obtain ⟨k, rfl, hk⟩ := inT_iff hi
  have l1 : k < c.rows.length := by rw [v.rl]; exact hk
  cases hr : rIdx (rowsAt c (k : Int)) id with
  | none => simp [hi, hr] at h
  | some i =>
  rw [if_neg (by simp), if_pos]
  have e : rowsAt (delC c k id) (k : Int) = (rowsAt c k).eraseIdx i := by
    unfold delC
    rw [hr]
    simp only
    rw [rowsAt_nat (by simp; exact l1)]
    simp
  rw [e]
  rw [rowsAt_nat l1] at hr ⊢
  obtain ⟨h1, h2⟩ := rIdx_some hr
  unfold rIdx
  rw [List.findIdx?_eq_none_iff]
  intro r hr2
  rw [List.mem_eraseIdx_iff_getElem] at hr2
  obtain ⟨j, hj, hne, rfl⟩ := hr2
  have hinc := (v.at hk).inc
  rw [List.pairwise_iff_getElem] at hinc
  simp only [decide_eq_false_iff_not]
  intro he
  rcases Nat.lt_or_gt_of_ne hne with q | q
  · have := hinc j i hj h1 q; omega
  · have := hinc i j h1 hj q; omega
end Go.Av
