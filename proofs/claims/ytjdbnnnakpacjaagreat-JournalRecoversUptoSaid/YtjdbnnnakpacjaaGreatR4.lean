/-
  The reference's Modify.
-/
import Derived.Test.YtjdbnnnakpacjaaGreatR3
set_option linter.unusedVariables false
set_option linter.unusedSimpArgs false
set_option linter.constructorNameAsVariable false
namespace Go.Av
set_option maxRecDepth 4000
theorem rModify_ok {p : Prg} (f : PrgS p) (hv : ∀ t ∈ p.tables, ∀ v ∈ t.dflt.args, ok32 0 v) {c : Config} (v : CfgV p c) (s : CfgT c) (t id : Int) (x : ActionCall) (hxl : x.args.length < 2 ^ 40) (hr : ∀ v ∈ x.args, ok32 0 v) :
    pureI Φ f_ref25_Modify [.agg (Prg.c p), .agg (Config.c c), .int .i64 t, .int .i64 id, .agg (ActionCall.c x)] =
    some (.val (.tup [.agg (Config.c (if modE p c t id x = 0 then modC c t id x else c)), .int .i64 (modE p c t id x)])) := by
  rw [pureI_go (fn := c_ref25_Modify) rfl rfl]
  have hc := rcall_ok p f hv t x hxl hr
  simp only [Prg.e, ActionCall.ce] at hc
  by_cases z0 : t < 0
  · have hE : modE p c t id x = 8 := by simp [modE, inT]; omega
    simp [c_ref25_Modify, Prg.e, Config.ce, ActionCall.ce, hE, z0]
  by_cases z1 : (p.tables.length : Int) ≤ t
  · have hE : modE p c t id x = 8 := by simp [modE, inT]; omega
    simp [c_ref25_Modify, Prg.e, Config.ce, ActionCall.ce, hE, z0, z1]
  obtain ⟨k, rfl⟩ : ∃ k : Nat, t = k := ⟨t.toNat, by omega⟩
  have hk : k < p.tables.length := by omega
  have hkn : ¬ p.tables.length ≤ k := by omega
  have hk1 : k < c.rows.length := by rw [v.rl]; exact hk
  have hk2 : k < c.nextID.length := by rw [v.nl]; exact hk
  have hrow : rowsAt c (k : Int) = c.rows[k] := rowsAt_nat hk1
  have hls := v.small _ (List.getElem_mem hk1)
  have hix := rfIndex_ok c.rows[k] id (by omega)
  cases hx : rIdx c.rows[k] id with
  | none =>
    have hE : modE p c k id x = 8 := by simp [modE, inT_nat hk, hrow, hx]
    rw [rIx_none hx] at hix
    simp [c_ref25_Modify, Prg.e, Config.ce, cSe, ActionCall.ce, hE, hkn, hk1, hix]
  | some i =>
    obtain ⟨hi, hid⟩ := rIdx_some hx
    have hE : modE p c k id x = ckCall p k x := by simp [modE, inT_nat hk, hrow, hx]
    rw [rIx_some hx] at hix
    have hneg : ¬ (i : Int) < 0 := by omega
    by_cases q : ckCall p k x = 0
    rotate_left
    · simp [c_ref25_Modify, Prg.e, Config.ce, cSe, ActionCall.ce, hE, hkn, hk1, hix, hneg, hc, q]
    have hci : modC c (k : Int) id x = ⟨c.rows.set k (c.rows[k].modify i (callRow x)), c.nextID.set k c.nextID[k], c.defaults, c.registers⟩ := by
      unfold modC
      rw [hrow, hx]
      simp
    have hrp := rreplace_ok c k (c.rows[k].modify i (callRow x)) c.nextID[k] hk1 (by rw [v.nl, v.rl]) (by have := s.rl; omega)
    rw [hE, q, if_pos rfl, hci]
    rw [q] at hc
    generalize hR : Config.c ⟨c.rows.set k (c.rows[k].modify i (callRow x)), c.nextID.set k c.nextID[k], c.defaults, c.registers⟩ = R at hrp ⊢
    have hRl : R.length = 4 := by rw [← hR]; simp
    obtain ⟨r0, r1, r2, r3, rfl⟩ : ∃ r0 r1 r2 r3, R = [r0, r1, r2, r3] := by
      match R, hRl with
      | [r0, r1, r2, r3], _ => exact ⟨_, _, _, _, rfl⟩
    have hs0 : ∀ H : AH, snap 38 H r0 = some r0 ∧ snap 38 H r1 = some r1 ∧ snap 38 H r2 = some r2 ∧ snap 38 H r3 = some r3 := by
      intro H
      rw [Config.ce] at hR
      cases hR
      simp
    have hal : allLen 5 (c.rows[k].map Rw.c) = true := allLen_map 5 Rw.c _ fun x => by simp
    have hne : ¬ c.rows[k] = [] := by intro e; rw [e] at hi; simp at hi
    have b1 : c.rows[k].length * 72 ≤ 70368744177664 := by omega
    have hlist : (c.rows[k].map Rw.c).set i [.int .i64 c.rows[k][i].id, .slice 2 (c.rows[k][i].entry.keys.map KeyMatch.c), .int .i64 c.rows[k][i].entry.priority, .int .i64 x.action, .slice 1 (x.args.map c32)] = (c.rows[k].modify i (callRow x)).map Rw.c := by
      refine List.ext_getElem (by simp) fun j h1 h2 => ?_
      rw [List.getElem_set, List.getElem_map, List.getElem_map, List.getElem_modify]
      split
      · rename_i e; subst e; simp [Rw.ce, callRow]
      · simp
    have t1 : ∀ H, mapO (mapO (snap 39 H)) (c.rows[k].map Rw.c) = some (c.rows[k].map Rw.c) := fun H => mapO_mapid (n := 39) (H := H) (fun x => snp_rw x) _
    have hns : anyL (bor 40) ((c.rows[k].modify i (callRow x)).map Rw.c).flatten = false := by
      have : ∀ l : List Rw, anyL (bor 40) (l.map Rw.c).flatten = false := by
        intro l
        induction l with
        | nil => rfl
        | cons a l ih =>
          have ha : ∀ (xs ys : List AV), anyL (bor 40) xs = false → anyL (bor 40) ys = false → anyL (bor 40) (xs ++ ys) = false := by
            intro xs ys
            induction xs with
            | nil => intro _ h; exact h
            | cons b xs ih2 =>
              intro h1 h2
              simp only [List.cons_append, anyL, Bool.or_eq_false_iff] at h1 ⊢
              exact ⟨h1.1, ih2 h1.2 h2⟩
          simp only [List.map_cons, List.flatten_cons]
          exact ha _ _ (by simp [Rw.ce]) ih
      exact this _
    have t2 : ∀ H, mapO (mapO (snap 40 H)) ((c.rows[k].modify i (callRow x)).map Rw.c) = some ((c.rows[k].modify i (callRow x)).map Rw.c) := fun H => mapO_mapid (n := 40) (H := H) (fun x => snp_rw x) _
    have t3 : ((c.rows[k].modify i (callRow x)).map Rw.c).take c.rows[k].length = (c.rows[k].modify i (callRow x)).map Rw.c := List.take_of_length_le (by simp)
    have t4 : (c.rows[k].map Rw.c).take c.rows[k].length = c.rows[k].map Rw.c := List.take_of_length_le (by simp)
    simp only [Config.ce] at hrp
    generalize hml : (c.rows[k].modify i (callRow x)).map Rw.c = ml at hlist hrp hns t2 t3
    have hmll : ml.length = c.rows[k].length := by rw [← hml]; simp
    simp [c_ref25_Modify, Prg.e, Config.ce, cSe, cIe, ActionCall.ce, hkn, hk1, hk2, hix, hneg, hc, hal, hne, b1, hi, Rw.ce, hlist, frzArg, frzRow, hns, t1, t2, t3, t4, hmll, hrp, hs0]
end Go.Av
