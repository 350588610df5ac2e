/-
  The laws of the journal: bounds, comparisons.
-/
import Derived.Test.YtjdbnnnakpacjaaGreatJC10
set_option linter.unusedVariables false
set_option linter.unusedSimpArgs false
set_option linter.constructorNameAsVariable false
namespace Go.Av
set_option maxRecDepth 4000
theorem jInts_ok (l m : List Int) (hb : l.length < 2 ^ 40) : pureI Φ f_law28_equalInts [.slice 1 (l.map cI), .slice 1 (m.map cI)] = some (.val (.bool (decide (l = m)))) := by
  rw [pureI_go (fn := c_law28_equalInts) rfl rfl]
  by_cases h : l.length = m.length
  rotate_left
  · have hne : l ≠ m := fun e => h (by rw [e])
    have h2 : ¬ ((l.length : Int) = (m.length : Int)) := by omega
    simp [c_law28_equalInts, hne, h2]
  have h2 : (l.length : Int) = (m.length : Int) := by omega
  simp [c_law28_equalInts, h2]
  refine (loop_nx l.length (fun _ => []) 0 (fun i e => look 0 e = some (.slice 1 (l.map cI)) ∧ look 1 e = some (.slice 1 (m.map cI)) ∧ look 5 e = some (.int .i64 i))
    (fun i => some (Rt.val (.bool (eqFrom l m i)))) ?_ ?_ 0 _ _ (Nat.zero_le _) (Nat.zero_le _) ?_).trans (by simp [eqFrom_zero])
  · rintro i e n K hi hK _ ⟨h0, h1, h5⟩ ih
    have hi2 : i < m.length := by omega
    have hw : IntKind.wrap .i64 ((i : Int) + 1) = ((i + 1 : Nat) : Int) := wrap64 (by omega) (by omega)
    by_cases hx : l[i] = m[i]
    · rw [eqFrom_hit hi hi2 hx]
      generalize hX : some (Rt.val (.bool (eqFrom l m (i + 1)))) = X at ih ⊢
      simp [c_law28_equalInts_l0, h0, h1, h5, hi, hi2, cIe, hx, hw]
      exact ih _ _ (Nat.zero_le _) ⟨by simp [h0], by simp [h1], by simp⟩
    · rw [eqFrom_miss hi hi2 hx]
      simp [c_law28_equalInts_l0, h0, h1, h5, hi, hi2, cIe, hx]
  · rintro e n K hK _ ⟨h0, h1, h5⟩
    rw [eqFrom_end h]
    simp [c_law28_equalInts_l0, c_law28_equalInts_k1, h0, h1, h5, hK]
  · simp
theorem tooL28 (p : Prg) (f : PrgS p) (L : List (List TableOp)) (hL : L.length < 2 ^ 40) (hl : ∀ l ∈ L, l.length < 2 ^ 40) :
    ∃ b, pureI Φ f_law28_tooLarge [.agg (Prg.c p), .slice 1 (L.map (cS 9 TableOp.c))] = some (.val (.bool b)) ∧ (b = false → (pre p.control).length ≤ 60 ∧ L.length ≤ 12 ∧ ∀ l ∈ L, largeB l = false) := by
  obtain ⟨r, hr, hrb⟩ := tooLarge_ok p f
  rw [pureI_go (fn := c_law28_tooLarge) rfl rfl]
  simp only [Prg.e] at hr
  cases r with
  | true => exact ⟨true, by simp [c_law28_tooLarge, Prg.e, hr], by simp⟩
  | false =>
  by_cases z : 12 < L.length
  · have z' : (12 : Int) < L.length := by omega
    exact ⟨true, by simp [c_law28_tooLarge, Prg.e, hr, z, z'], by simp⟩
  have z' : ¬ (12 : Int) < L.length := by omega
  refine ⟨L.any largeB, ?_, fun h => ⟨hrb rfl, by omega, fun l hl => by simpa using List.any_eq_false.1 h l hl⟩⟩
  generalize hX : some (Rt.val (.bool (L.any largeB))) = X
  simp [c_law28_tooLarge, Prg.e, hr, z, z']
  rw [← hX]
  refine (loop_nx L.length (fun _ => []) 0 (fun i e => look 1 e = some (.slice 1 (L.map (cS 9 TableOp.c))) ∧ look 5 e = some (.int .i64 i))
    (fun i => some (Rt.val (.bool (anyFrom L largeB i)))) ?_ ?_ 0 _ _ (Nat.zero_le _) (Nat.zero_le _) ?_).trans (by simp [any_zero])
  · rintro i e n K hi hK _ ⟨h1, h5⟩ ih
    have hw : IntKind.wrap .i64 ((i : Int) + 1) = ((i + 1 : Nat) : Int) := wrap64 (by omega) (by omega)
    have hg := largeOps_ok L[i] (hl _ (List.getElem_mem hi))
    cases hq : largeB L[i] with
    | true =>
      rw [hq] at hg
      rw [any_hit hi hq]
      simp [c_law28_tooLarge_l0, h1, h5, hi, cSe, hg]
    | false =>
      rw [hq] at hg
      rw [any_miss hi hq]
      generalize hX : some (Rt.val (.bool (anyFrom L largeB (i + 1)))) = X at ih ⊢
      simp [c_law28_tooLarge_l0, h1, h5, hi, cSe, hg, hw]
      exact ih _ _ (Nat.zero_le _) ⟨by simp [h1], by simp⟩
  · rintro e n K hK _ ⟨h1, h5⟩
    rw [any_end]
    simp [c_law28_tooLarge_l0, c_law28_tooLarge_k1, h1, h5, hK]
  · simp
theorem same_ok (p : Prg) (op : p.Ok bulkMax) (hc : (pre p.control).length < 2 ^ 40 - 1) {g : LgV} (v : CfgV p g.c) (s : CfgT g.c) (hb : g.b.length < 2 ^ 40) : pureI Φ f_law28_same [lgP p g, .agg (rlC p g)] = some (.val (.bool true)) := by
  rw [pureI_go (fn := c_law28_same) rfl rfl, rlC_e]
  have k1 := bytesI_ok (p := p) (g := g) (Tail.nil 1) hb
  have k2 := fun {O N} => lenI_ok (O := O) (N := N) (p := p) (g := g)
  obtain ⟨w1, w2, w3, w4, V, O', N', e, cm, _, _, _, _⟩ := lconfigI_ok p op hc v s (O := []) (N := 2) (Tail.nil 2)
  have k3 := stEqual_ok g.c g.c s.s
  rw [decide_eq_true rfl] at k3
  have s1 := fun h => b2sV_slice h 1 g.b
  have a1 := cm.snpR (n := 35) (N := N')
  have a2 := cm.snpN (n := 35) (N := N')
  have a3 := cm.snpD (n := 35) (N := N')
  have a4 := cm.snpG (n := 35) (N := N')
  rw [Config.ce] at k3
  simp [c_law28_same, k1, k2, e, k3, a1, a2, a3, a4, evC_b2s, s1, -evCall_b2s]
end Go.Av
