/-
  The reference's Modify, Delete, SetDefault.
-/
import Derived.Test.YtjdbnnnakpacjaaGreatR2
set_option linter.unusedVariables false
set_option linter.unusedSimpArgs false
set_option linter.constructorNameAsVariable false
namespace Go.Av
set_option maxRecDepth 4000
section
variable {p : Prg} (f : PrgS p) (hv : ∀ t ∈ p.tables, ∀ v ∈ t.dflt.args, ok32 0 v) {c : Config} (v : CfgV p c) (s : CfgT c) (t : Int)
include f hv v s
theorem rSetDefault_ok (x : ActionCall) (hx : x.args.length < 2 ^ 40) (hr : ∀ v ∈ x.args, ok32 0 v) : pureI Φ f_ref25_SetDefault [.agg (Prg.c p), .agg (Config.c c), .int .i64 t, .agg (ActionCall.c x)] =
    some (.val (.tup [.agg (Config.c (if defE p t x = 0 then defC c t x else c)), .int .i64 (defE p t x)])) := by
  rw [pureI_go (fn := c_ref25_SetDefault) rfl rfl]
  have hc := rcall_ok p f hv t x hx hr
  simp only [Prg.e, ActionCall.ce] at hc
  by_cases z0 : t < 0
  · have hE : defE p t x = 8 := by simp [defE, inT]; omega
    simp [c_ref25_SetDefault, Prg.e, Config.ce, ActionCall.ce, hE, z0]
  by_cases z1 : (p.tables.length : Int) ≤ t
  · have hE : defE p t x = 8 := by simp [defE, inT]; omega
    simp [c_ref25_SetDefault, Prg.e, Config.ce, ActionCall.ce, hE, z0, z1]
  obtain ⟨k, rfl⟩ : ∃ k : Nat, t = k := ⟨t.toNat, by omega⟩
  have hk : k < p.tables.length := by omega
  have hkn : ¬ p.tables.length ≤ k := by omega
  have hk1 : k < c.defaults.length := by rw [v.dl]; exact hk
  have hE : defE p k x = ckCall p k x := by simp [defE, inT_nat hk]
  by_cases q : ckCall p k x = 0
  rotate_left
  · simp [c_ref25_SetDefault, Prg.e, Config.ce, ActionCall.ce, hE, hkn, hc, q]
  have hal : allLen 2 (c.defaults.map ActionCall.c) = true := allLen_map 2 ActionCall.c _ fun x => by simp
  have hne : ¬ c.defaults = [] := by intro e; rw [e] at hk1; simp at hk1
  have hdl := s.dl
  have b1 : c.defaults.length * 32 ≤ 70368744177664 := by omega
  have hci : defC c (k : Int) x = ⟨c.rows, c.nextID, c.defaults.set k x, c.registers⟩ := by simp [defC]
  rw [q] at hc
  rw [hE, q, if_pos rfl, hci]
  have hset : ∀ H, mapO (mapO (snap 37 H)) (((c.defaults.map ActionCall.c).set k [.int .i64 x.action, .slice 1 (x.args.map c32)]).take c.defaults.length) = some ((c.defaults.map ActionCall.c).set k [.int .i64 x.action, .slice 1 (x.args.map c32)]) := by
    intro H
    rw [List.take_of_length_le (by simp), ← ActionCall.ce, ← List.map_set]
    exact mapO_mapid (n := 37) (H := H) (fun x => snp_call x) _
  simp [c_ref25_SetDefault, Prg.e, Config.ce, ActionCall.ce, hkn, hc, hal, hne, b1, hk1, hset]
theorem rDelete_ok (id : Int) : pureI Φ f_ref25_Delete [.agg (Prg.c p), .agg (Config.c c), .int .i64 t, .int .i64 id] =
    some (.val (.tup [.agg (Config.c (if delE p c t id = 0 then delC c t id else c)), .int .i64 (delE p c t id)])) := by
  have _ := f
  have _ := hv
  rw [pureI_go (fn := c_ref25_Delete) rfl rfl]
  by_cases z0 : t < 0
  · have hE : delE p c t id = 8 := by simp [delE, inT]; omega
    simp [c_ref25_Delete, Prg.e, Config.ce, hE, z0]
  by_cases z1 : (p.tables.length : Int) ≤ t
  · have hE : delE p c t id = 8 := by simp [delE, inT]; omega
    simp [c_ref25_Delete, Prg.e, Config.ce, hE, z0, z1]
  obtain ⟨k, rfl⟩ : ∃ k : Nat, t = k := ⟨t.toNat, by omega⟩
  have hk : k < p.tables.length := by omega
  have hkn : ¬ p.tables.length ≤ k := by omega
  have hk1 : k < c.rows.length := by rw [v.rl]; exact hk
  have hk2 : k < c.nextID.length := by rw [v.nl]; exact hk
  have hrow : rowsAt c (k : Int) = c.rows[k] := rowsAt_nat hk1
  have hls := v.small _ (List.getElem_mem hk1)
  have hix := rfIndex_ok c.rows[k] id (by omega)
  cases hx : rIdx c.rows[k] id with
  | none =>
    have hE : delE p c k id = 8 := by simp [delE, inT_nat hk, hrow, hx]
    rw [rIx_none hx] at hix
    simp [c_ref25_Delete, Prg.e, Config.ce, cSe, hE, hkn, hk1, hix]
  | some i =>
    obtain ⟨hi, hid⟩ := rIdx_some hx
    have hE : delE p c k id = 0 := by simp [delE, inT_nat hk, hrow, hx]
    rw [rIx_some hx] at hix
    have hci : delC c (k : Int) id = ⟨c.rows.set k (c.rows[k].eraseIdx i), c.nextID.set k c.nextID[k], c.defaults, c.registers⟩ := by
      unfold delC
      rw [hrow, hx]
      simp
    have hrp := rreplace_ok c k (c.rows[k].eraseIdx i) c.nextID[k] hk1 (by rw [v.nl, v.rl]) (by have := s.rl; omega)
    rw [hE, if_pos rfl, hci]
    generalize hR : Config.c ⟨c.rows.set k (c.rows[k].eraseIdx i), c.nextID.set k c.nextID[k], c.defaults, c.registers⟩ = R at hrp ⊢
    have hRl : R.length = 4 := by rw [← hR]; simp
    obtain ⟨r0, r1, r2, r3, rfl⟩ : ∃ r0 r1 r2 r3, R = [r0, r1, r2, r3] := by
      match R, hRl with
      | [r0, r1, r2, r3], _ => exact ⟨_, _, _, _, rfl⟩
    have hs0 : ∀ H : AH, snap 38 H r0 = some r0 ∧ snap 38 H r1 = some r1 ∧ snap 38 H r2 = some r2 ∧ snap 38 H r3 = some r3 := by
      intro H
      rw [Config.ce] at hR
      cases hR
      simp
    have a1 : i ≤ c.rows[k].length := by omega
    have a2 : (i : Int) + 1 ≤ (c.rows[k].length : Int) := by omega
    have a3 : (0 : Int) ≤ (i : Int) + 1 := by omega
    have a4 : i + 1 ≤ c.rows[k].length := by omega
    have a5 : min i c.rows[k].length = i := by omega
    have hw : IntKind.wrap .i64 ((i : Int) + 1) = (i : Int) + 1 := wrap64 (by omega) (by omega)
    have hneg : ¬ (i : Int) < 0 := by omega
    have t1 : allLen 5 ((c.rows[k].map Rw.c).take i) = true := by rw [← List.map_take]; exact allLen_map 5 Rw.c _ fun x => by simp
    have t2 : allLen 5 ((c.rows[k].map Rw.c).drop (i + 1)) = true := by rw [← List.map_drop]; exact allLen_map 5 Rw.c _ fun x => by simp
    have htk : ((c.rows[k].map Rw.c).drop (i + 1)).take (c.rows[k].length - (i + 1)) = (c.rows[k].map Rw.c).drop (i + 1) := List.take_of_length_le (by simp)
    have b1 : i * 72 ≤ 70368744177664 := by omega
    have b2 : (i + (c.rows[k].length - (i + 1))) * 72 ≤ 70368744177664 := by omega
    have b3 : (c.rows[k].length - (i + 1)) + (i + 1) = c.rows[k].length := by omega
    rw [List.eraseIdx_eq_take_drop_succ, List.map_append, List.map_take, List.map_drop] at hrp
    simp only [Config.ce] at hrp
    simp [c_ref25_Delete, Prg.e, Config.ce, cSe, cIe, hkn, hk1, hk2, hix, hneg, a1, a2, a3, a5, hw, htk, t1, t2, b1, b2, hrp, hs0]
end
end Go.Av
