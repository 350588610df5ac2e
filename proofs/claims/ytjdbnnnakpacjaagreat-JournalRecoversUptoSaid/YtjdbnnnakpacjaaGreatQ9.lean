/-
  The rows of a table: the reference's check.
-/
import Derived.Test.YtjdbnnnakpacjaaGreatQ8
set_option linter.unusedVariables false
set_option linter.unusedSimpArgs false
set_option linter.constructorNameAsVariable false
namespace Go.Av
set_option maxRecDepth 4000
theorem rt_b (p : Prg) (f : PrgS p) (hv : ∀ t ∈ p.tables, ∀ v ∈ t.dflt.args, ok32 0 v) (t : Int) (l : List Rw) (next : Int) (hl : l.length < 2 ^ 40) (hs : ∀ r ∈ l, rowS r) (a : Int) (e : Env) (n : Nat)
    (h1 : look 1 e = some (.int .i64 t)) (h2 : look 2 e = some (.slice 5 (l.map Rw.c))) (h3 : look 3 e = some (.int .i64 next)) (h4 : look 4 e = some (.iptr 9 [Prg.c p] 0 0)) (h9 : look 9 e = some (.int .i64 a)) :
    go Φ (finP [.tmp 8]) [.c c_ref25_rows_k3] .normal ⟨e, ⟨[], n⟩⟩ = some (.val (.int .i64 (tabK p t l next 0 (some a)))) := by
  unfold tabK
  dsimp only
  by_cases z0 : next ≤ a
  · simp [c_ref25_rows_k3, h3, h9, z0]
  by_cases z2 : 1073741824 < next
  · simp [c_ref25_rows_k3, h3, h9, z0, z2]
  rw [if_neg z0, if_neg z2]
  simp [c_ref25_rows_k3, h3, h9, z0, z2]
  refine loop_nx l.length (fun _ => []) 0 (fun i e => look 1 e = some (.int .i64 t) ∧ look 2 e = some (.slice 5 (l.map Rw.c)) ∧ look 4 e = some (.iptr 9 [Prg.c p] 0 0) ∧ look 11 e = some (.int .i64 i))
    (fun i => some (Rt.val (.int .i64 ((fe (rowG p t l) l.length i).getD 0)))) ?_ ?_ 0 _ n (Nat.zero_le _) (Nat.zero_le _) ?_
  · rintro i e n L hi hL _ ⟨h1, h2, h4, h11⟩ ih
    have hw : IntKind.wrap .i64 ((i : Int) + 1) = ((i + 1 : Nat) : Int) := wrap64 (by omega) (by omega)
    have hm := hs _ (List.getElem_mem hi)
    have hc := rentE_ok p f hv t l[i].entry hm
    have hi' : i ≤ l.length := by omega
    have hx : pureI Φ f_ref25_taken [.slice 5 ((l.map Rw.c).take i), .agg (Entry.c l[i].entry)] = some (.val (.bool ((l.take i).any fun x => sk x.entry l[i].entry))) := by
      rw [← List.map_take]
      exact taken_ok (l.take i) l[i].entry (by simp; omega) fun x hx => (hs x (List.mem_of_mem_take hx)).kl
    simp only [Prg.e, Entry.ce] at hc
    rw [Entry.ce] at hx
    rw [Prg.e] at h4
    by_cases v : entE p t l[i].entry = 0
    · rw [v] at hc
      cases w : (l.take i).any fun x => sk x.entry l[i].entry with
      | true =>
        rw [w] at hx
        rw [fe_hit (x := (7 : Int)) hi (by simp only [rowG, List.getElem?_eq_getElem hi, Option.bind_some]; rw [if_neg (by simp [v]), if_pos w])]
        simp [c_ref25_rows_l1, Rw.ce, h1, h2, h4, h11, hi, hi', hc, hx]
      | false =>
        rw [w] at hx
        rw [fe_miss hi (by simp only [rowG, List.getElem?_eq_getElem hi, Option.bind_some]; rw [if_neg (by simp [v]), if_neg (by rw [w]; decide)])]
        generalize hX : some (Rt.val (AV.int .i64 ((fe (rowG p t l) l.length (i + 1)).getD 0))) = X
        simp [c_ref25_rows_l1, Rw.ce, h1, h2, h4, h11, hi, hi', hc, hx, hw]
        rw [← hX]
        exact ih _ _ (Nat.zero_le _) ⟨by simp [h1], by simp [h2], by simp [h4, Prg.e], by simp⟩
    · rw [fe_hit (x := entE p t l[i].entry) hi (by simp only [rowG, List.getElem?_eq_getElem hi, Option.bind_some]; rw [if_pos v])]
      simp [c_ref25_rows_l1, Rw.ce, h1, h2, h4, h11, hi, hc, v]
  · rintro e n L hL _ ⟨h1, h2, h4, h11⟩
    rw [fe_end]
    simp [c_ref25_rows_l1, c_ref25_rows_k2, h2, h11, hL]
  · simp [h1, h2, h4]
theorem rrows_ok (p : Prg) (f : PrgS p) (hv : ∀ t ∈ p.tables, ∀ v ∈ t.dflt.args, ok32 0 v) (k : Nat) (hk : k < p.tables.length) (l : List Rw) (next : Int) (hl : l.length < 2 ^ 40) (hs : ∀ r ∈ l, rowS r) :
    pureI Φ f_ref25_rows [.agg (Prg.c p), .int .i64 k, .slice 5 (l.map Rw.c), .int .i64 next] = some (.val (.int .i64 (if p.tables[k].size < l.length then 12 else tabK p k l next 0 (ordL l 0)))) := by
  rw [pureI_go (fn := c_ref25_rows) rfl rfl]
  by_cases z : p.tables[k].size < (l.length : Int)
  · simp [c_ref25_rows, Prg.e, Tbl.e, hk, z]
  rw [if_neg z]
  simp [c_ref25_rows, Prg.e, Tbl.e, hk, z]
  refine loop_nx l.length (fun _ => []) 0 (fun i e => look 1 e = some (.int .i64 k) ∧ look 2 e = some (.slice 5 (l.map Rw.c)) ∧ look 3 e = some (.int .i64 next) ∧ look 4 e = some (.iptr 9 [Prg.c p] 0 0) ∧ look 10 e = some (.int .i64 i) ∧ ∃ a : Int, look 9 e = some (.int .i64 a) ∧ ordL (l.drop i) a = ordL l 0)
    (fun _ => some (Rt.val (.int .i64 (tabK p k l next 0 (ordL l 0))))) ?_ ?_ 0 _ 0 (Nat.zero_le _) (Nat.zero_le _) ?_
  · rintro i e n L hi hL _ ⟨h1, h2, h3, h4, h10, a, h9, ho⟩ ih
    have hw : IntKind.wrap .i64 ((i : Int) + 1) = ((i + 1 : Nat) : Int) := wrap64 (by omega) (by omega)
    rw [List.drop_eq_getElem_cons hi] at ho
    simp only [ordL] at ho
    by_cases y : l[i].id ≤ a
    · rw [if_pos y] at ho
      rw [← ho]
      simp [c_ref25_rows_l0, Rw.ce, h2, h10, h9, hi, y, tabK]
    · rw [if_neg y] at ho
      generalize hX : some (Rt.val (AV.int .i64 (tabK p k l next 0 (ordL l 0)))) = X
      simp [c_ref25_rows_l0, Rw.ce, h2, h10, h9, hi, y, hw]
      rw [← hX]
      exact ih _ _ (Nat.zero_le _) ⟨by simp [h1], by simp [h2], by simp [h3], by simp [h4], by simp, l[i].id, by simp, ho⟩
  · rintro e n L hL _ ⟨h1, h2, h3, h4, h10, a, h9, ho⟩
    rw [List.drop_length] at ho
    simp only [ordL] at ho
    rw [← ho]
    generalize hX : some (Rt.val (AV.int .i64 (tabK p k l next 0 (some a)))) = X
    simp [c_ref25_rows_l0, h2, h10, hL]
    rw [← hX]
    exact rt_b p f hv k l next hl hs a _ _ (by simp [h1]) (by simp [h2]) (by simp [h3]) (by simp [h4]) (by simp [h9])
  · simp [Prg.e]
end Go.Av
