/-
  The law TxnUndoes.
-/
import Derived.Test.YtjdbnnnakpacjaaGreatTU2
set_option linter.unusedVariables false
set_option linter.unusedSimpArgs false
set_option linter.constructorNameAsVariable false
namespace Go.Av
set_option maxRecDepth 4000
def UndR (p : Prg) (c : Config) (l L : List TableOp) (E : Int) : Prop := (E = 0 ∧ L.length = l.length ∧ (∀ o ∈ L, OpS o) ∧ badA p (xoF p c l) L = none ∧ equiv (xoF p (xoF p c l) L) c = true) ∨ (E = 14 ∧ hasDel l = true)
theorem und_res {p : Prg} {c : Config} (s : CfgT c) (hp : p.tables.length < 2 ^ 40) {l : List TableOp} (hl : ∀ o ∈ l, OpS o) (h : badA p c l = none) : ∃ L E, invA p c l (invP p c l) = .tup [.slice 9 (L.map TableOp.c), .int .i64 E] ∧ UndR p c l L E := by
  rcases undo_cases h with ⟨h1, h2, h3⟩ | ⟨h1, h2⟩
  · exact ⟨_, _, h1, .inl ⟨rfl, invP_len p c l, invP_s s hp hl h, h2, h3⟩⟩
  · exact ⟨[], _, h1, .inr ⟨rfl, h2⟩⟩
theorem und_k1 (p : Prg) (op : p.Ok bulkMax) (hc : (pre p.control).length < 2 ^ 40 - 1) (hp : p.tables.length < 2 ^ 40) {c : Config} (v : CfgV p c) (s : CfgT c) {l L : List TableOp} {E : Int} (hl : ∀ o ∈ l, OpS o) (hU : UndR p c l L E) {e : Env} {n : Nat}
    (h2 : look 2 e = some (.slice 9 (l.map TableOp.c))) (h3 : look 3 e = some (.iptr 9 [Prg.c p] 0 0)) (h4 : look 4 e = some (.iptr 4 [Config.c c] 0 0)) (h7 : look 7 e = some (.iptr 4 [Config.c (xoF p c l)] 0 0)) (h11 : look 11 e = some (.slice 9 (L.map TableOp.c))) (h12 : look 12 e = some (.int .i64 E)) (h13 : look 13 e = some (.bool (hasDel l))) :
    go Φ (finP [.tmp 6]) [.c c_law27_TxnUndoes_k1] .normal ⟨e, ⟨[], n⟩⟩ = some (.val (.bool true)) := by
  obtain ⟨vd, sd⟩ := cfgN_ok v s hp l hl l.length
  rw [cfgN_len] at vd sd
  rcases hU with ⟨rfl, hlen, hLs, hb, heq⟩ | ⟨rfl, hd⟩
  · have ka := apply_ok p op hc hp sd L hLs
    rw [show appA p (xoF p c l) L = .tup [.agg (Config.c (cfgN p (xoF p c l) L L.length)), .slice 1 (idsA p (xoF p c l) L), .int .i64 0, .int .i64 0] by simp only [appA, hb]; rfl, cfgN_len] at ka
    have sx := (cfgN_ok vd sd hp L hLs L.length).2
    rw [cfgN_len] at sx
    have kq := Equivalent_ok (xoF p (xoF p c l) L) c (CfgF_of sx)
    rw [heq] at kq
    generalize idsA p (xoF p c l) L = il at ka
    generalize xoF p (xoF p c l) L = y at ka kq
    generalize xoF p c l = d at ka h7
    rw [Prg.e] at h3
    rw [Config.ce] at h4 h7
    simp only [Prg.e, Config.ce] at ka kq
    simp [c_law27_TxnUndoes_k1, h2, h3, h4, h7, h11, h12, h13, ka, kq, hlen, works27]
  · rw [hd] at h13
    simp [c_law27_TxnUndoes_k1, h12, h13, works27]
theorem hasDel_succ {l : List TableOp} {i : Nat} (hi : i < l.length) : hasDel (l.take (i + 1)) = (hasDel (l.take i) || decide (l[i].kind = 3)) := by
  unfold hasDel
  rw [List.take_succ_eq_append_getElem hi, List.any_append]
  simp
theorem TxnUndoes_all (p : Prg) (c : Config) (l : List TableOp) (op : p.Ok bulkMax) (oc : c.Ok bulkMax) (oL : okL bulkMax (TableOp.Ok bulkMax) l) :
    pureI Φ f_law27_TxnUndoes [.agg (Prg.c p), .agg (Config.c c), .slice 9 (l.map TableOp.c)] = some (.val (.bool true)) := by
  obtain ⟨ol', oo⟩ := oL
  have ol : l.length < 2 ^ 40 := by have := bulkMax_eq; omega
  have f := PrgS_of op
  have s := CfgT_of oc
  have hl : ∀ o ∈ l, OpS o := fun o ho => OpS_of (oo o ho)
  obtain ⟨b, hb, hb2⟩ := smallS_ok p c op
  have ho := SmallOps_ok l
  rw [pureI_go (fn := c_law27_TxnUndoes) rfl rfl]
  cases b with
  | false =>
    simp only [Prg.e, Config.ce] at hb
    simp [c_law27_TxnUndoes, Prg.e, Config.ce, hb, works27]
  | true =>
  cases b2 : smallOps l with
  | false =>
    rw [b2] at ho
    simp only [Prg.e, Config.ce] at hb
    simp [c_law27_TxnUndoes, Prg.e, Config.ce, hb, ho, works27]
  | true =>
  rw [b2] at ho
  have hc : (pre p.control).length < 2 ^ 40 - 1 := by have := (hb2 rfl).1; omega
  have hp : p.tables.length < 2 ^ 40 := f.t
  have ka := apply_ok p op hc hp s l hl
  have ki := inverse_ok p op hc hp s l hl
  cases hA : badA p c l with
  | some x =>
    obtain ⟨k, x⟩ := x
    have hx := badA_ne hA
    rw [show appA p c l = .tup [.agg noC, .slice 1 [], .int .i64 k, .int .i64 x] by simp only [appA, hA]] at ka
    rw [inv_bad hA] at ki
    simp only [Prg.e, Config.ce, noC] at hb ka ki
    simp [c_law27_TxnUndoes, Prg.e, Config.ce, hb, ho, ka, ki, hx, works27]
  | none =>
    rw [show appA p c l = .tup [.agg (Config.c (cfgN p c l l.length)), .slice 1 (idsA p c l), .int .i64 0, .int .i64 0] by simp only [appA, hA]; rfl, cfgN_len] at ka
    have v : CfgV p c := (badA_none hA).1
    obtain ⟨L, E, hE, hU⟩ := und_res s hp hl hA
    rw [hE] at ki
    have k1 := fun e n => und_k1 p op hc hp v s hl hU (e := e) (n := n)
    generalize idsA p c l = il at ka
    generalize xoF p c l = d at ka k1
    generalize hX : some (Rt.val (.bool true)) = X
    have hd0 : hasDel (l.take 0) = false := rfl
    simp only [Prg.e, Config.ce] at hb ka ki
    simp [c_law27_TxnUndoes, Prg.e, Config.ce, hb, ho, ka, ki]
    subst hX
    refine loop_nx l.length (fun _ => []) 0 (fun i e => look 2 e = some (.slice 9 (l.map TableOp.c)) ∧ look 3 e = some (.iptr 9 [Prg.c p] 0 0) ∧ look 4 e = some (.iptr 4 [Config.c c] 0 0) ∧ look 7 e = some (.iptr 4 [Config.c d] 0 0) ∧ look 11 e = some (.slice 9 (L.map TableOp.c)) ∧ look 12 e = some (.int .i64 E) ∧ look 13 e = some (.bool (hasDel (l.take i))) ∧ look 14 e = some (.int .i64 i))
      (fun _ => some (Rt.val (.bool true))) ?_ ?_ 0 _ _ (Nat.zero_le _) (Nat.zero_le _) ?_
    · rintro i e n K hi hK _ ⟨h2, h3, h4, h7, h11, h12, h13, h14⟩ ih
      have hw : IntKind.wrap .i64 ((i : Int) + 1) = ((i + 1 : Nat) : Int) := wrap64 (by omega) (by omega)
      have hs := hasDel_succ hi
      generalize hX : some (Rt.val (.bool true)) = X at ih ⊢
      cases hq : hasDel (l.take i) with
      | true =>
        rw [hq] at h13 hs
        simp [c_law27_TxnUndoes_l0, h2, h13, h14, hi, hw]
        exact ih _ _ (Nat.zero_le _) ⟨by simp [h2], by simp [h3], by simp [h4], by simp [h7], by simp [h11], by simp [h12], by simp [hs], by simp⟩
      | false =>
        rw [hq] at h13 hs
        by_cases hk : l[i].kind = 3
        · simp [c_law27_TxnUndoes_l0, h2, h13, h14, hi, hw, TableOp.ce2, hk]
          exact ih _ _ (Nat.zero_le _) ⟨by simp [h2], by simp [h3], by simp [h4], by simp [h7], by simp [h11], by simp [h12], by simp [hs, hk], by simp⟩
        · simp [c_law27_TxnUndoes_l0, h2, h13, h14, hi, hw, TableOp.ce2, hk]
          exact ih _ _ (Nat.zero_le _) ⟨by simp [h2], by simp [h3], by simp [h4], by simp [h7], by simp [h11], by simp [h12], by simp [hs, hk], by simp⟩
    · rintro e n K hK _ ⟨h2, h3, h4, h7, h11, h12, h13, h14⟩
      rw [List.take_of_length_le (Nat.le_refl _)] at h13
      generalize hX : some (Rt.val (.bool true)) = X at k1 ⊢
      simp [c_law27_TxnUndoes_l0, h2, h14, hK]
      exact k1 _ _ (by simp [h2]) (by simp [h3]) (by simp [h4]) (by simp [h7]) (by simp [h11]) (by simp [h12]) (by simp [h13])
    · simp [Prg.e, Config.ce, hasDel]
end Go.Av
