/-
  Lemmas for the law.
-/
import Derived.Test.YtndppilbpccjfaaGreatT40N
set_option linter.unusedVariables false
set_option linter.unusedSimpArgs false
set_option linter.constructorNameAsVariable false
namespace Go.Av
set_option maxRecDepth 4000
def endsTo (l : List Link) (i : Nat) : List PortID := (l.take i).flatMap fun x => [x.a, x.b]
def endsL (l : List Link) (h : List PortID) : List PortID := endsTo l l.length ++ h
theorem endsTo_succ {l : List Link} {i : Nat} (hi : i < l.length) : endsTo l (i + 1) = endsTo l i ++ [l[i].a, l[i].b] := by
  unfold endsTo
  rw [List.take_succ_eq_append_getElem hi, List.flatMap_append]
  simp
theorem endsTo_length {l : List Link} : ∀ {i : Nat}, i ≤ l.length → (endsTo l i).length = 2 * i
  | 0, _ => by simp [endsTo]
  | i + 1, h => by
    rw [endsTo_succ (by omega), List.length_append, endsTo_length (by omega)]
    simp; omega
theorem endsL_length (l : List Link) (h : List PortID) : (endsL l h).length = 2 * l.length + h.length := by
  unfold endsL
  rw [List.length_append, endsTo_length (Nat.le_refl _)]

theorem topology_ends_ok (x : List (List AV)) (links : List Link) (hosts : List PortID) (hl : links.length ≤ 32) (hh : hosts.length ≤ 16) : pureI Φ f_topology_ends [.agg [.slice 1 x, .slice 5 (links.map Link.c), .slice 2 (hosts.map PortID.c)]] =
    some (.val (.slice 2 ((endsL links hosts).map PortID.c))) := by
  rw [pureI_go (fn := c_topology_ends) rfl rfl]
  simp [c_topology_ends]
  refine (loop_nat links.length (fun i e h => look 1 e = some (.ptr 0 3 0 0) ∧ look 3 e = some (.app 2 ((endsTo links i).map PortID.c) 1) ∧ look 7 e = some (.slice 5 (links.map Link.c)) ∧ look 8 e = some (.int .i64 links.length) ∧ look 9 e = some (.int .i64 i) ∧
    HP [(0, AO.row 3 [[.slice 1 x, .slice 5 (links.map Link.c), .slice 2 (hosts.map PortID.c)]]), (1, AO.tok 2 (endsTo links i).length)] 2 h)
    (fun i => some (.val (.slice 2 ((endsL links hosts).map PortID.c)))) ?_ ?_ 0 _ _ (Nat.zero_le _) ?_).trans (by simp)
  · rintro i e _ L hi hL ⟨h1, h3, h7, h8, h9, T, n, hT, rfl⟩ ih
    have hw : IntKind.wrap .i64 ((i : Int) + 1) = ((i + 1 : Nat) : Int) := wrap64 (by omega) (by omega)
    have hT' := hT (n + 2) (Nat.le_refl _)
    have hn := endsTo_length (l := links) (i := i) (by omega)
    have hb : ((endsTo links i).length + 2) * 16 ≤ 70368744177664 := by omega
    simp [c_topology_ends_l0, Link.c, h1, h3, h7, h8, h9, hi, hL, hw, hT', hb]
    refine (ih _ _ ⟨by simp [h1], by simp [endsTo_succ hi, PortID.c], by simp [h7], by simp [h8], by simp, ?_⟩).trans (by simp)
    rw [endsTo_succ hi, List.length_append]
    exact HP.next hT
  · rintro e _ L hL ⟨h1, h3, h7, h8, h9, T, n, hT, rfl⟩
    have hn := endsTo_length (l := links) (i := links.length) (by omega)
    have hb : ((endsTo links links.length).length + hosts.length) * 16 ≤ 70368744177664 := by omega
    simp [c_topology_ends_l0, c_topology_ends_k1, h1, h3, h7, h8, h9, hL, hb, endsL]
  · simp [endsTo, HP.mk]
theorem ref40_ends_ok (x : List (List AV)) (links : List Link) (hosts : List PortID) (hl : links.length ≤ 32) (hh : hosts.length ≤ 16) : pureI Φ f_ref40_ends [.agg [.slice 1 x, .slice 5 (links.map Link.c), .slice 2 (hosts.map PortID.c)]] =
    some (.val (.slice 2 ((endsL links hosts).map PortID.c))) := by
  rw [pureI_go (fn := c_ref40_ends) rfl rfl]
  simp [c_ref40_ends]
  refine (loop_nat links.length (fun i e h => look 1 e = some (.ptr 0 3 0 0) ∧ look 3 e = some (.app 2 ((endsTo links i).map PortID.c) 1) ∧ look 4 e = some (.int .i64 i) ∧
    HP [(0, AO.row 3 [[.slice 1 x, .slice 5 (links.map Link.c), .slice 2 (hosts.map PortID.c)]]), (1, AO.tok 2 (endsTo links i).length)] 2 h)
    (fun i => some (.val (.slice 2 ((endsL links hosts).map PortID.c)))) ?_ ?_ 0 _ _ (Nat.zero_le _) ?_).trans (by simp)
  · rintro i e _ L hi hL ⟨h1, h3, h4, T, n, hT, rfl⟩ ih
    have hw : IntKind.wrap .i64 ((i : Int) + 1) = ((i + 1 : Nat) : Int) := wrap64 (by omega) (by omega)
    have hT' := hT (n + 2) (Nat.le_refl _)
    have hn := endsTo_length (l := links) (i := i) (by omega)
    have hb : ((endsTo links i).length + 2) * 16 ≤ 70368744177664 := by omega
    simp [c_ref40_ends_l0, Link.c, h1, h3, h4, hi, hL, hw, hT', hb]
    refine (ih _ _ ⟨by simp [h1], by simp [endsTo_succ hi, PortID.c], by simp, ?_⟩).trans (by simp)
    rw [endsTo_succ hi, List.length_append]
    exact HP.same hT
  · rintro e _ L hL ⟨h1, h3, h4, T, n, hT, rfl⟩
    have hn := endsTo_length (l := links) (i := links.length) (by omega)
    have hb : ((endsTo links links.length).length + hosts.length) * 16 ≤ 70368744177664 := by omega
    simp [c_ref40_ends_l0, c_ref40_ends_k1, h1, h3, h4, hL, hb, endsL]
  · simp [endsTo, HP.mk]
end Go.Av
