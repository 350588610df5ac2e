/-
  Runs of lists of operations, and single steps (the plain part of the texts on differences).
-/
import Derived.Test.YtjdbnnnakpacjaaGreatZ7
set_option linter.unusedVariables false
set_option linter.unusedSimpArgs false
set_option linter.constructorNameAsVariable false
namespace Go.Av
set_option maxRecDepth 4000
def delO (t : Int) (r : Rw) : TableOp := ⟨3, t, r.id, noE, noCl⟩
def modO (t : Int) (r : Rw) (c : ActionCall) : TableOp := ⟨2, t, r.id, noE, c⟩
def setO (t : Int) (c : ActionCall) : TableOp := ⟨4, t, 0, noE, c⟩
theorem insE_facts {p : Prg} {c : Config} {t : Int} {x : Entry} (h : insE p c t x = 0) : inT p t = true ∧ (rowsAt c t).any (fun y => sk y.entry x) = false ∧ nextAt c t < 1073741824 := by
  unfold insE at h
  cases hi : inT p t with
  | false => rw [if_pos hi] at h; cases h
  | true =>
  rw [if_neg (by rw [hi]; decide)] at h
  split at h
  · rename_i h1; exact absurd h h1
  split at h
  · cases h
  rename_i h2
  split at h
  · cases h
  rename_i h3
  exact ⟨rfl, by simpa using h2, by omega⟩
theorem setA {α : Type} {l : List α} {k : Nat} {z : α} (hk : k < l.length) (t : Nat) : at? (l.set k z) (t : Int) = if t = k then some z else at? l (t : Int) := by
  rw [at_nat, at_nat, List.getElem?_set]
  by_cases h : k = t
  · subst h; simp [hk]
  · rw [if_neg h, if_neg (fun e => h e.symm)]
def okF (p : Prg) : Config → List TableOp → Prop
  | _, [] => True
  | c, o :: l => xoE p c o = 0 ∧ okF p (xoC p c o) l
theorem xoF_cons (p : Prg) (c : Config) (o : TableOp) (l : List TableOp) : xoF p c (o :: l) = xoF p (xoC p c o) l := rfl
theorem xoF_app (p : Prg) (c : Config) (l m : List TableOp) : xoF p c (l ++ m) = xoF p (xoF p c l) m := by simp [xoF]
theorem okF_app (p : Prg) : ∀ (c : Config) (l m : List TableOp), okF p c l → okF p (xoF p c l) m → okF p c (l ++ m)
  | _, [], _, _, h => h
  | c, o :: l, m, h, h2 => ⟨h.1, okF_app p (xoC p c o) l m h.2 h2⟩
theorem xoF_ok {p : Prg} : ∀ {c : Config} (l : List TableOp), CfgV p c → CfgV p (xoF p c l)
  | _, [], v => v
  | _, o :: l, v => xoF_ok l (xoC_ok v o)
theorem badF_okF (p : Prg) : ∀ (c : Config) (l : List TableOp) (i : Nat), okF p c l → badF p c l i = none
  | _, [], _, _ => rfl
  | c, o :: l, i, h => by rw [badF, if_pos h.1]; exact badF_okF p _ l _ h.2
def setR (c : Config) (t : Nat) (l : List Rw) : Config := ⟨c.rows.set t l, c.nextID, c.defaults, c.registers⟩
theorem rIdx_at {u w : List Rw} {r : Rw} (h : (u ++ r :: w).Pairwise fun a b => a.id < b.id) : rIdx (u ++ r :: w) r.id = some u.length := by
  unfold rIdx
  rw [List.findIdx?_eq_some_iff_getElem]
  refine ⟨by simp, by simp, fun j hj => ?_⟩
  rw [List.getElem_append_left hj]
  rw [List.pairwise_append] at h
  have := h.2.2 u[j] (List.getElem_mem hj) r (by simp)
  simp; omega
theorem ids_of {p : Prg} {c : Config} (v : CfgV p c) {t : Nat} (ht : t < p.tables.length) : (rowsAt c t).Pairwise fun a b => a.id < b.id := by
  rw [rowsAt_nat (by rw [v.rl]; exact ht)]
  exact (v.at ht).inc
theorem del_step {p : Prg} {c : Config} (v : CfgV p c) {t : Nat} (ht : t < p.tables.length) {u w : List Rw} {r : Rw} (h : rowsAt c t = u ++ r :: w) : xoE p c (delO t r) = 0 ∧ xoC p c (delO t r) = setR c t (u ++ w) := by
  have hid := ids_of v ht
  rw [h] at hid
  have hr := rIdx_at hid
  rw [← h] at hr
  have he : xoE p c (delO t r) = 0 := by
    simp [xoE, delO, delE, inT_nat ht, hr]
  refine ⟨he, ?_⟩
  unfold xoC
  rw [if_pos he]
  simp only [xoD, delO, delC, hr]
  rw [if_neg (by decide), if_neg (by decide), if_pos trivial]
  simp only [setR, Int.toNat_natCast, h]
  rw [List.eraseIdx_append_of_length_le (Nat.le_refl _)]
  simp
theorem mod_step {p : Prg} {c : Config} (v : CfgV p c) {t : Nat} (ht : t < p.tables.length) {u w : List Rw} {r : Rw} (h : rowsAt c t = u ++ r :: w) {x : ActionCall} (hx : ckCall p t x = 0) : xoE p c (modO t r x) = 0 ∧ xoC p c (modO t r x) = setR c t (u ++ callRow x r :: w) := by
  have hid := ids_of v ht
  rw [h] at hid
  have hr := rIdx_at hid
  rw [← h] at hr
  have he : xoE p c (modO t r x) = 0 := by
    simp [xoE, modO, modE, inT_nat ht, hr, hx]
  refine ⟨he, ?_⟩
  unfold xoC
  rw [if_pos he]
  simp only [xoD, modO, modC, hr]
  rw [if_neg (by decide), if_pos trivial]
  simp only [setR, Int.toNat_natCast, h]
  have hm : (u ++ r :: w).modify u.length (callRow x) = u ++ callRow x r :: w := by
    rw [List.modify_eq_take_cons_drop (by simp)]
    simp
  rw [hm]
theorem rowsAt_set {c : Config} {t : Nat} (h : t < c.rows.length) (N : List Int) (x : List Rw) (D : List ActionCall) (G : List (List Int)) : rowsAt ⟨c.rows.set t x, N, D, G⟩ t = x := by
  unfold rowsAt
  rw [setA h, if_pos rfl]; rfl
theorem set_step {p : Prg} {c : Config} {t : Nat} (ht : t < p.tables.length) {x : ActionCall} (hx : ckCall p t x = 0) : xoE p c (setO t x) = 0 ∧ xoC p c (setO t x) = ⟨c.rows, c.nextID, c.defaults.set t x, c.registers⟩ := by
  have he : xoE p c (setO t x) = 0 := by
    simp [xoE, setO, defE, inT_nat ht, hx]
  refine ⟨he, ?_⟩
  unfold xoC
  rw [if_pos he]
  simp [xoD, setO, defC]
end Go.Av
