/-
  The rows of a table: the program's check.
-/
import Derived.Test.YtjdbnnnakpacjaaGreatQ7
set_option linter.unusedVariables false
set_option linter.unusedSimpArgs false
set_option linter.constructorNameAsVariable false
namespace Go.Av
set_option maxRecDepth 4000
def ordL : List Rw → Int → Option Int
  | [], a => some a
  | r :: l, a => if r.id ≤ a then none else ordL l r.id
def rowG (p : Prg) (t : Int) (l : List Rw) (i : Nat) : Option Int := (l[i]?).bind fun r => if entE p t r.entry ≠ 0 then some (entE p t r.entry) else if (l.take i).any (fun y => sk y.entry r.entry) = true then some 7 else none
def tabK (p : Prg) (t : Int) (l : List Rw) (next : Int) (z : Int) : Option Int → Int
  | none => 14
  | some a => if next ≤ a then 14 else if 1073741824 < next then 14 else (fe (rowG p t l) l.length 0).getD z
def rowS (r : Rw) : Prop := EntS r.entry
theorem ct_b (p : Prg) (f : PrgS p) (t : Int) (l : List Rw) (next : Int) (d : ActionCall) (hl : l.length < 2 ^ 40) (hs : ∀ r ∈ l, rowS r) (hd : d.args.length < 2 ^ 40) (a : Int) (ha : 0 ≤ a) (e : Env) (n : Nat)
    (h1 : look 1 e = some (.int .i64 t)) (h2 : look 2 e = some (.slice 5 (l.map Rw.c))) (h3 : look 3 e = some (.int .i64 next)) (h5 : look 5 e = some (.iptr 9 [Prg.c p] 0 0)) (h9 : look 9 e = some (.iptr 2 [ActionCall.c d] 0 0)) (h11 : look 11 e = some (.int .i64 a)) :
    go Φ (finP [.tmp 10]) [.c c_store_checkTable_k3] .normal ⟨e, ⟨[], n⟩⟩ = some (.val (.int .i64 (tabK p t l next (ckCall p t d) (some a)))) := by
  unfold tabK
  dsimp only
  by_cases z0 : next ≤ a
  · simp [c_store_checkTable_k3, h3, h11, z0]
  have z1 : ¬ next < 1 := by omega
  by_cases z2 : 1073741824 < next
  · simp [c_store_checkTable_k3, h3, h11, z0, z1, z2]
  rw [if_neg z0, if_neg z2]
  simp [c_store_checkTable_k3, h2, h3, h11, z0, z1, z2]
  refine loop_nx l.length (fun _ => []) 0 (fun i e => look 1 e = some (.int .i64 t) ∧ look 2 e = some (.slice 5 (l.map Rw.c)) ∧ look 5 e = some (.iptr 9 [Prg.c p] 0 0) ∧ look 9 e = some (.iptr 2 [ActionCall.c d] 0 0) ∧ look 50 e = some (.slice 5 (l.map Rw.c)) ∧ look 51 e = some (.int .i64 l.length) ∧ look 52 e = some (.int .i64 i))
    (fun i => some (Rt.val (.int .i64 ((fe (rowG p t l) l.length i).getD (ckCall p t d))))) ?_ ?_ 0 _ n (Nat.zero_le _) (Nat.zero_le _) ?_
  · rintro i e n L hi hL _ ⟨h1, h2, h5, h9, h50, h51, h52⟩ ih
    have hw : IntKind.wrap .i64 ((i : Int) + 1) = ((i + 1 : Nat) : Int) := wrap64 (by omega) (by omega)
    have hm := hs _ (List.getElem_mem hi)
    have hc := entE_ok p f t l[i].entry hm
    have hi' : i ≤ l.length := by omega
    have hx : pureI Φ f_slices_ContainsFunc_api_Row_api_Row [.slice 5 ((l.map Rw.c).take i), .func (.func f_store_checkTable_1) [] [.iptr 5 [Rw.c l[i]] 0 0]] = some (.val (.bool ((l.take i).any fun x => sk x.entry l[i].entry))) := by
      rw [← List.map_take]
      exact conRow_ok (l.take i) l[i] (by simp; omega) fun x hx => (hs x (List.mem_of_mem_take hx)).kl
    simp only [Prg.e, Entry.ce] at hc
    rw [Rw.ce] at hx
    rw [Prg.e] at h5
    by_cases v : entE p t l[i].entry = 0
    · rw [v] at hc
      cases w : (l.take i).any fun x => sk x.entry l[i].entry with
      | true =>
        rw [w] at hx
        rw [fe_hit (x := (7 : Int)) hi (by simp only [rowG, List.getElem?_eq_getElem hi, Option.bind_some]; rw [if_neg (by simp [v]), if_pos w])]
        simp [c_store_checkTable_l1, Rw.ce, h1, h2, h5, h50, h51, h52, hi, hi', hc, hx]
      | false =>
        rw [w] at hx
        rw [fe_miss hi (by simp only [rowG, List.getElem?_eq_getElem hi, Option.bind_some]; rw [if_neg (by simp [v]), if_neg (by rw [w]; decide)])]
        generalize hX : some (Rt.val (AV.int .i64 ((fe (rowG p t l) l.length (i + 1)).getD (ckCall p t d)))) = X
        simp [c_store_checkTable_l1, Rw.ce, h1, h2, h5, h50, h51, h52, hi, hi', hc, hx, hw]
        rw [← hX]
        exact ih _ _ (Nat.zero_le _) ⟨by simp [h1], by simp [h2], by simp [h5, Prg.e], by simp [h9], by simp [h50], by simp [h51], by simp⟩
    · rw [fe_hit (x := entE p t l[i].entry) hi (by simp only [rowG, List.getElem?_eq_getElem hi, Option.bind_some]; rw [if_pos v])]
      simp [c_store_checkTable_l1, Rw.ce, h1, h5, h50, h51, h52, hi, hc, v]
  · rintro e n L hL _ ⟨h1, h2, h5, h9, h50, h51, h52⟩
    have hk := scall_ok p f t d hd
    simp only [Prg.e, ActionCall.ce] at hk
    rw [Prg.e] at h5
    rw [ActionCall.ce] at h9
    rw [fe_end]
    simp [c_store_checkTable_l1, c_store_checkTable_k2, h1, h5, h9, h51, h52, hL, hk]
  · simp [h1, h2, h5, h9]
theorem ctab_ok (p : Prg) (f : PrgS p) (k : Nat) (hk : k < p.tables.length) (l : List Rw) (next : Int) (d : ActionCall) (hl : l.length < 2 ^ 40) (hs : ∀ r ∈ l, rowS r) (hd : d.args.length < 2 ^ 40) :
    pureI Φ f_store_checkTable [.agg (Prg.c p), .int .i64 k, .slice 5 (l.map Rw.c), .int .i64 next, .agg (ActionCall.c d)] = some (.val (.int .i64 (if p.tables[k].size < l.length then 12 else tabK p k l next (ckCall p k d) (ordL l 0)))) := by
  rw [pureI_go (fn := c_store_checkTable) rfl rfl]
  by_cases z : p.tables[k].size < (l.length : Int)
  · simp [c_store_checkTable, Prg.e, ActionCall.ce, Tbl.e, hk, z]
  rw [if_neg z]
  simp [c_store_checkTable, Prg.e, ActionCall.ce, Tbl.e, hk, z]
  refine loop_nx l.length (fun _ => []) 0 (fun i e => look 1 e = some (.int .i64 k) ∧ look 2 e = some (.slice 5 (l.map Rw.c)) ∧ look 3 e = some (.int .i64 next) ∧ look 5 e = some (.iptr 9 [Prg.c p] 0 0) ∧ look 9 e = some (.iptr 2 [ActionCall.c d] 0 0) ∧ look 26 e = some (.slice 5 (l.map Rw.c)) ∧ look 27 e = some (.int .i64 l.length) ∧ look 28 e = some (.int .i64 i) ∧ ∃ a : Int, look 11 e = some (.int .i64 a) ∧ 0 ≤ a ∧ ordL (l.drop i) a = ordL l 0)
    (fun _ => some (Rt.val (.int .i64 (tabK p k l next (ckCall p k d) (ordL l 0))))) ?_ ?_ 0 _ 0 (Nat.zero_le _) (Nat.zero_le _) ?_
  · rintro i e n L hi hL _ ⟨h1, h2, h3, h5, h9, h26, h27, h28, a, h11, ha, ho⟩ ih
    have hw : IntKind.wrap .i64 ((i : Int) + 1) = ((i + 1 : Nat) : Int) := wrap64 (by omega) (by omega)
    rw [List.drop_eq_getElem_cons hi] at ho
    simp only [ordL] at ho
    by_cases y : l[i].id ≤ a
    · rw [if_pos y] at ho
      rw [← ho]
      simp [c_store_checkTable_l0, Rw.ce, h26, h27, h28, h11, hi, y, tabK]
    · rw [if_neg y] at ho
      generalize hX : some (Rt.val (AV.int .i64 (tabK p k l next (ckCall p k d) (ordL l 0)))) = X
      simp [c_store_checkTable_l0, Rw.ce, h26, h27, h28, h11, hi, y, hw]
      rw [← hX]
      exact ih _ _ (Nat.zero_le _) ⟨by simp [h1], by simp [h2], by simp [h3], by simp [h5], by simp [h9], by simp [h26], by simp [h27], by simp, l[i].id, by simp, by omega, ho⟩
  · rintro e n L hL _ ⟨h1, h2, h3, h5, h9, h26, h27, h28, a, h11, ha, ho⟩
    rw [List.drop_length] at ho
    simp only [ordL] at ho
    rw [← ho]
    generalize hX : some (Rt.val (AV.int .i64 (tabK p k l next (ckCall p k d) (some a)))) = X
    simp [c_store_checkTable_l0, h27, h28, hL]
    rw [← hX]
    exact ct_b p f k l next d hl hs hd a ha _ _ (by simp [h1]) (by simp [h2]) (by simp [h3]) (by simp [h5]) (by simp [h9]) (by simp [h11])
  · simp [Prg.e, ActionCall.ce]
end Go.Av
