/-
  Lemmas for the law.
-/
import Derived.Test.YtgnlablpigoioaaGreatC10
set_option linter.unusedVariables false
set_option linter.unusedSimpArgs false
set_option linter.constructorNameAsVariable false
namespace Go.Av
set_option maxRecDepth 4000
theorem sweepL_append2 : ∀ a b : List (Nat × AO), sweepL (a ++ b) = sweepL a ++ sweepL b
  | [], b => rfl
  | (u, x) :: a, b => by
    have := sweepL_append2 a b
    cases x <;> simp [sweepL, this]
theorem getElem!_c (l : List Rw) (i : Nat) (h : i < l.length) : l[i]! = l[i] := getElem!_pos l i h
theorem SameEntries_inner (a b : Config) (t i : Nat) (ht : t < 256) (hi : i < a.rows.length) (hl40 : a.rows[i].length ≤ 40) (e : Env) (T : List (Nat × AO)) (p : Nat) (hp : 3 ≤ p) (hT : Tail T p) (hTs : sweepL T = T) (L : List Fr) (X : Option Rt)
    (h2 : look 2 e = some (.int .u8 t)) (h3 : look 3 e = some (.ptr 0 4 0 0)) (h7 : look 7 e = some (.app 1 ((a.rows.map fun l => cS 5 Rw.c (rot l t)).take i) 2)) (h4 : look 4 e = some (.ptr 1 4 0 0)) (h8 : look 8 e = some (.int .i64 i)) (h9 : look 9 e = some (.app 5 [] p)) (h10 : look 10 e = some (.int .i64 a.rows[i].length)) (h11 : look 11 e = some (.int .i64 0))
    (hX : ∀ e T2 N, look 2 e = some (.int .u8 t) → look 3 e = some (.ptr 0 4 0 0) → look 4 e = some (.ptr 1 4 0 0) → look 7 e = some (.app 1 ((a.rows.map fun l => cS 5 Rw.c (rot l t)).take i) 2) → look 8 e = some (.int .i64 i) → look 9 e = some (.app 5 ((rot a.rows[i] t).map Rw.c) p) → Tail T2 N → p < N → sweepL T2 = T2 →
      go Φ (finP [.tmp 6]) L .normal ⟨e, ⟨(0, AO.row 4 [Config.c a]) :: (1, AO.row 4 [Config.c b]) :: (2, AO.tok 1 i) :: (T ++ (p, AO.tok 5 a.rows[i].length) :: T2), N⟩⟩ = X) :
    go Φ (finP [.tmp 6]) (.c (.loop c_law30_ConfigdiffSameEntries_l0) :: .b 2 :: L) .normal ⟨e, ⟨(0, AO.row 4 [Config.c a]) :: (1, AO.row 4 [Config.c b]) :: (2, AO.tok 1 i) :: (T ++ [(p, AO.tok 5 0)]), p + 1⟩⟩ = X := by
  refine loop_nat a.rows[i].length (fun k e h => look 2 e = some (.int .u8 t) ∧ look 3 e = some (.ptr 0 4 0 0) ∧ look 4 e = some (.ptr 1 4 0 0) ∧ look 7 e = some (.app 1 ((a.rows.map fun l => cS 5 Rw.c (rot l t)).take i) 2) ∧ look 8 e = some (.int .i64 i) ∧
     look 9 e = some (.app 5 (((List.range a.rows[i].length).map (Rw.c ∘ rotF a.rows[i] t)).take k) p) ∧ look 10 e = some (.int .i64 a.rows[i].length) ∧ look 11 e = some (.int .i64 k) ∧
     ∃ T2 N, Tail T2 N ∧ p < N ∧ sweepL T2 = T2 ∧ h = ⟨(0, AO.row 4 [Config.c a]) :: (1, AO.row 4 [Config.c b]) :: (2, AO.tok 1 i) :: (T ++ (p, AO.tok 5 k) :: T2), N⟩) (fun _ => X) ?_ ?_ 0 _ _ (Nat.zero_le _) ?_
  · rintro k e _ L' hk hL' ⟨h2, h3, h4, h7, h8, h9, h10, h11, T2, N, hN, hpN, hs2, rfl⟩ ih
    have hw : IntKind.wrap .i64 ((k : Int) + 1) = ((k + 1 : Nat) : Int) := wrap64 (by omega) (by omega)
    have hw2 : IntKind.wrap .i64 ((k : Int) + (t : Int)) = (k : Int) + (t : Int) := wrap64 (by omega) (by omega)
    have hw3 : IntKind.wrap .i64 (t : Int) = (t : Int) := wrap64 (by omega) (by omega)
    obtain ⟨m, hm⟩ : ∃ m, m = (k + t) % a.rows[i].length := ⟨_, rfl⟩
    have hn0 : ¬ (a.rows[i].length : Int) = 0 := by omega
    have hrem : binAV .rem (.int .i64 ((k : Int) + (t : Int))) (.int .i64 (a.rows[i].length : Int)) = some (.int .i64 (m : Int)) := by
      rw [bin_rem _ _ _ hn0, hm]; rfl
    have hml : m < a.rows[i].length := hm ▸ Nat.mod_lt _ (by omega)
    have u1 : look (N + 12) T = none := hT _ (by omega)
    have u2 : look (N + 12) T2 = none := hN _ (by omega)
    have u3 : look p T = none := hT _ (by omega)
    have u4 : ¬ p = N + 12 := by omega
    have u5 : ¬ N + 12 = p := by omega
    have v0 : ¬ 0 = p := by omega
    have v1 : ¬ 1 = p := by omega
    have v2 : ¬ 2 = p := by omega
    have hc : (k + 1) * 72 ≤ 70368744177664 := by omega
    have hmin : min k a.rows[i].length = k := by omega
    simp [c_law30_ConfigdiffSameEntries_l0, Config.ce, cSe, hi, hk, hL', h2, h3, h4, h7, h8, h9, h10, h11, hw2, hw3, hrem, hml, Rw.ce, u1, u2, u3, u4, u5, hTs, hs2, sweepL_append2, v0, v1, v2, hmin, hc, hw]
    simp only [← Config.ce]
    refine ih _ _ ⟨by simp [h2], by simp [h3], by simp [h4], by simp [h7], by simp [h8], ?_, by simp [h10], by simp, _, N + 12 + 1, ?_, by omega, ?_, rfl⟩
    · simp
      rw [take_map_succ (by simpa using hk)]
      have hrow : rotF a.rows[i] t k = ⟨k, a.rows[i][m].entry⟩ := by
        simp only [rotF, ← hm]
        rw [getElem!_c _ _ hml]
      simp [Rw.ce, hrow]
    · exact (hN.mono (m := N + 12) (by omega)).app _
    · simp [sweepL_append2, hs2]
  · rintro e _ L' hL' ⟨h2, h3, h4, h7, h8, h9, h10, h11, T2, N, hN, hpN, hs2, rfl⟩
    simp [c_law30_ConfigdiffSameEntries_l0, h10, h11, hL']
    refine hX _ T2 N ?_ ?_ ?_ ?_ ?_ ?_ hN hpN hs2 <;> simp [*, rot]
    rw [List.take_of_length_le (by simp)]
  · exact ⟨h2, h3, h4, h7, h8, by simpa using h9, h10, by simpa using h11, [], p + 1, Tail.nil _, by omega, rfl, rfl⟩
theorem ConfigdiffSameEntries_ok (a b : Config) (t : Nat) (ht : t < 256) : pureI Φ f_law30_ConfigdiffSameEntries [.agg (Config.c a), .agg (Config.c b), .int .u8 t] = some (.val (.bool true)) := by
  rw [pureI_go (fn := c_law30_ConfigdiffSameEntries) rfl rfl]
  have sa := SmallConfig_ok a
  have sb := SmallConfig_ok b
  cases ha : smallC a with
  | false =>
    rw [ha] at sa
    simp only [Config.ce] at sa
    simp [c_law30_ConfigdiffSameEntries, Config.ce, sa, works30]
  | true =>
  cases hb : smallC b with
  | false =>
    rw [ha] at sa
    rw [hb] at sb
    simp only [Config.ce] at sa sb
    simp [c_law30_ConfigdiffSameEntries, Config.ce, sa, sb, works30]
  | true =>
  rw [ha] at sa
  rw [hb] at sb
  have fa := fine_of ha
  have fb := fine_of hb
  simp only [Config.ce] at sa sb
  simp [c_law30_ConfigdiffSameEntries, Config.ce, sa, sb]
  simp only [← Config.ce]
  refine loop_nat a.rows.length (fun i e h => look 2 e = some (.int .u8 t) ∧ look 3 e = some (.ptr 0 4 0 0) ∧ look 4 e = some (.ptr 1 4 0 0) ∧ look 7 e = some (.app 1 ((a.rows.map fun l => cS 5 Rw.c (rot l t)).take i) 2) ∧ look 8 e = some (.int .i64 i) ∧
     ∃ T N, Tail T N ∧ 3 ≤ N ∧ sweepL T = T ∧ h = ⟨(0, AO.row 4 [Config.c a]) :: (1, AO.row 4 [Config.c b]) :: (2, AO.tok 1 i) :: T, N⟩) (fun _ => some (Rt.val (.bool true))) ?_ ?_ 0 _ _ (Nat.zero_le _) ?_
  · rintro i e _ L hi hL ⟨h2, h3, h4, h7, h8, T, p, hT, hp, hTs, rfl⟩ ih
    have hw : IntKind.wrap .i64 ((i : Int) + 1) = ((i + 1 : Nat) : Int) := wrap64 (by omega) (by have := fa.1; omega)
    have hl40 := (fa.2 _ (List.getElem_mem hi)).1
    have v0 : ¬ 0 = p := by omega
    have v1 : ¬ 1 = p := by omega
    have v2 : ¬ 2 = p := by omega
    have v3 := hT p (Nat.le_refl _)
    simp [c_law30_ConfigdiffSameEntries_l3, Config.ce, cSe, hi, hL, h2, h3, h4, h7, h8, v0, v1, v2, v3]
    simp only [← Config.ce]
    refine SameEntries_inner a b t i ht hi hl40 _ T p hp hT hTs _ _ ?_ ?_ ?_ ?_ ?_ ?_ ?_ ?_ ?_ <;> try simp [*]
    intro e T2 N h2 h3 h4 h7 h8 h9 hN hpN hs2
    have hc : (i + 1) * 24 ≤ 70368744177664 := by have := fa.1; omega
    have hmin : min i a.rows.length = i := by omega
    simp [c_law30_ConfigdiffSameEntries_k1, c_law30_ConfigdiffSameEntries_k2, h7, h8, h9, hc, hmin, hw, v0, v1, v2, v3]
    refine ih _ _ ⟨by simp [h2], by simp [h3], by simp [h4], ?_, by simp, _, N, ?_, by omega, ?_, rfl⟩
    · simp
      rw [take_map_succ hi]
      simp [cSe]
    · exact Tail.two hT hN (by omega)
    · rw [sweepL_append2, hTs]
      simp [hs2]
  · rintro e _ L hL ⟨h2, h3, h4, h7, h8, T, p, hT, hp, hTs, rfl⟩
    have e1 := SameEntries_ok a.rows b.rows (.slice 1 (a.nextID.map cI)) (.slice 2 (a.defaults.map ActionCall.c)) (.slice 1 (a.registers.map (cS 1 c32))) (.slice 1 (b.nextID.map cI)) (.slice 2 (b.defaults.map ActionCall.c)) (.slice 1 (b.registers.map (cS 1 c32))) fa
    have e2 := SameEntries_ok b.rows a.rows (.slice 1 (b.nextID.map cI)) (.slice 2 (b.defaults.map ActionCall.c)) (.slice 1 (b.registers.map (cS 1 c32))) (.slice 1 (a.nextID.map cI)) (.slice 2 (a.defaults.map ActionCall.c)) (.slice 1 (a.registers.map (cS 1 c32))) fb
    have e3 := rSameEntries_ok a.rows b.rows (.slice 1 (a.nextID.map cI)) (.slice 2 (a.defaults.map ActionCall.c)) (.slice 1 (a.registers.map (cS 1 c32))) (.slice 1 (b.nextID.map cI)) (.slice 2 (b.defaults.map ActionCall.c)) (.slice 1 (b.registers.map (cS 1 c32))) fa fb
    have e4 := SameEntries_ok a.rows (a.rows.map fun l => rot l t) (.slice 1 (a.nextID.map cI)) (.slice 2 (a.defaults.map ActionCall.c)) (.slice 1 (a.registers.map (cS 1 c32))) (.slice 1 []) (.slice 2 []) (.slice 1 []) fa
    rw [same_symm] at e2
    rw [same_rot] at e4
    simp only [List.map_map] at e4
    have hlen : ((a.rows.map fun l => cS 5 Rw.c (rot l t)).take a.rows.length) = a.rows.map (cS 5 Rw.c ∘ fun l => rot l t) := by
      rw [List.take_of_length_le (by simp)]; rfl
    rw [hlen] at h7
    simp [c_law30_ConfigdiffSameEntries_l3, c_law30_ConfigdiffSameEntries_k4, Config.ce, hL, h2, h3, h4, h7, h8, e1, e2, e3, e4, works30, -List.map_map]
  · simp
    exact ⟨[], 3, Tail.nil _, by omega, rfl, rfl, rfl⟩
theorem ConfigdiffSameEntries_all {B : Nat} (a b : Config) (x : Int) (_ : Config.Ok B a) (_ : Config.Ok B b) (h : ok8 B x) : pureI Φ f_law30_ConfigdiffSameEntries [.agg (Config.c a), .agg (Config.c b), .int .u8 x] = some (.val (.bool true)) := by
  obtain ⟨t, rfl⟩ := Int.eq_ofNat_of_zero_le h.1
  exact ConfigdiffSameEntries_ok a b t (by have := h.2; omega)
end Go.Av
