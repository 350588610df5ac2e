/-
  Lemmas for the law.
-/
import Derived.Test.YtndppilbpccjfaaGreatFunsAN
import Derived.Test.YtndppilbpccjfaaGreatAvD
set_option linter.unusedVariables false
set_option linter.unusedSimpArgs false
set_option linter.constructorNameAsVariable false
namespace Go.Av
set_option maxRecDepth 4000
-- a port exists
def exB (ports : List Int) (a : PortID) : Bool := decide (0 ≤ a.switch) && (decide (a.switch < ports.length) && (decide (0 ≤ a.port) && (match ports[a.switch.toNat]? with | some n => decide (a.port < n) | none => false)))
def topoC (ports : List Int) (links : List Link) (hosts : List PortID) : List AV := [.slice 1 (ports.map cI), .slice 5 (links.map Link.c), .slice 2 (hosts.map PortID.c)]

theorem topology_exists_ok (ports : List Int) (x y : List (List AV)) (s p : Int) : pureI Φ f_topology_exists [.agg [.slice 1 (ports.map cI), .slice 5 x, .slice 2 y], .agg [.int .i64 s, .int .i64 p]] = some (.val (.bool (exB ports ⟨s, p⟩))) := by
  rw [pureI_go (fn := c_topology_exists) rfl rfl]
  simp [c_topology_exists]
  refine guardG_split (fun h1 => ?_) (fun h1 => ?_) <;> simp [exB, h1]
  refine guardG_split (fun h2 => ?_) (fun h2 => ?_) <;> simp [h2]
  refine guardG_split (fun h3 => ?_) (fun h3 => ?_) <;> simp [h3]
  simp at h1 h2
  obtain ⟨k, rfl⟩ := Int.eq_ofNat_of_zero_le h1
  have h2' : k < ports.length := by omega
  simp [h2', cI]
end Go.Av
namespace Go.Av
theorem ref40_port_ok (ports : List Int) (x y : List (List AV)) (s p : Int) : pureI Φ f_ref40_port [.agg [.slice 1 (ports.map cI), .slice 5 x, .slice 2 y], .agg [.int .i64 s, .int .i64 p]] = some (.val (.bool (exB ports ⟨s, p⟩))) := by
  rw [pureI_go (fn := c_ref40_port) rfl rfl]
  simp [c_ref40_port]
  refine guardG_split (fun h1 => ?_) (fun h1 => ?_) <;> simp [exB, h1]
  refine guardG_split (fun h2 => ?_) (fun h2 => ?_) <;> simp [h2]
  refine guardG_split (fun h3 => ?_) (fun h3 => ?_) <;> simp [h3]
  simp at h1 h2
  obtain ⟨k, rfl⟩ := Int.eq_ofNat_of_zero_le h1
  have h2' : k < ports.length := by omega
  simp [h2', cI]

def touch (s p : Int) (l : Link) : Bool := (decide (l.a.switch = s) && decide (l.a.port = p)) || (decide (l.b.switch = s) && decide (l.b.port = p))
def lkFrom (l : List Link) (s p : Int) (i : Nat) : Int := match (l.drop i).findIdx? (touch s p) with | some j => ((i + j : Nat) : Int) | none => 0
theorem lkFrom_hit {l : List Link} {s p : Int} {i : Nat} (hi : i < l.length) (h : touch s p l[i] = true) : lkFrom l s p i = i := by
  unfold lkFrom
  rw [List.drop_eq_getElem_cons hi, List.findIdx?_cons, if_pos h]
  simp
theorem lkFrom_miss {l : List Link} {s p : Int} {i : Nat} (hi : i < l.length) (h : touch s p l[i] = false) : lkFrom l s p i = lkFrom l s p (i + 1) := by
  unfold lkFrom
  rw [List.drop_eq_getElem_cons hi, List.findIdx?_cons, if_neg (by rw [h]; simp)]
  cases (l.drop (i + 1)).findIdx? (touch s p) with
  | none => rfl
  | some j => simp; omega
theorem lkFrom_end {l : List Link} {s p : Int} : lkFrom l s p l.length = 0 := by simp [lkFrom]
theorem topology_LinkAt_ok (x y : List (List AV)) (links : List Link) (s p : Int) (hl : links.length < 2 ^ 40) : pureI Φ f_topology_LinkAt [.agg [.slice 1 x, .slice 5 (links.map Link.c), .slice 2 y], .agg [.int .i64 s, .int .i64 p]] =
    some (.val (.tup [.int .i64 (lkFrom links s p 0), .bool (anyFrom links (touch s p) 0)])) := by
  rw [pureI_go (fn := c_topology_LinkAt) rfl rfl]
  simp [c_topology_LinkAt]
  refine (loop_nat links.length (fun i e h => look 3 e = some (.ptr 1 2 0 0) ∧ look 9 e = some (.slice 5 (links.map Link.c)) ∧ look 10 e = some (.int .i64 links.length) ∧ look 11 e = some (.int .i64 i) ∧
    HP [(0, AO.row 3 [[.slice 1 x, .slice 5 (links.map Link.c), .slice 2 y]]), (1, AO.row 2 [[.int .i64 s, .int .i64 p]])] 2 h)
    (fun i => some (.val (.tup [.int .i64 (lkFrom links s p i), .bool (anyFrom links (touch s p) i)]))) ?_ ?_ 0 _ _ (Nat.zero_le _) ?_).trans (by simp)
  · rintro i e _ L hi hL ⟨h3, h9, h10, h11, T, n, hT, rfl⟩ ih
    have hw : IntKind.wrap .i64 ((i : Int) + 1) = ((i + 1 : Nat) : Int) := wrap64 (by omega) (by omega)
    have hT' := hT (n + 2) (Nat.le_refl _)
    simp [c_topology_LinkAt_l0, Link.c, h3, h9, h10, h11, hi, hL, hw, hT']
    refine guardG_split (fun q1 => ?_) (fun q1 => ?_) <;> simp [q1, h3, hT']
    · have ht : touch s p links[i] = true := by simp only [touch, q1, Bool.true_or]
      exact ⟨(lkFrom_hit hi ht).symm, any_hit hi ht⟩
    · refine condG_split (fun q2 => ?_) (fun q2 => ?_) <;> simp [q2, h3, h11, hw]
      · have ht : touch s p links[i] = true := by simp only [touch, q2, Bool.or_true]
        exact ⟨(lkFrom_hit hi ht).symm, any_hit hi ht⟩
      · have ht : touch s p links[i] = false := by simp only [touch, q1, q2, Bool.or_self]
        rw [lkFrom_miss hi ht, any_miss hi ht]
        exact ih _ _ ⟨by simp [h3], by simp [h9], by simp [h10], by simp, HP.next hT⟩
  · rintro e _ L hL ⟨h3, h9, h10, h11, T, n, hT, rfl⟩
    rw [lkFrom_end, any_end]
    simp [c_topology_LinkAt_l0, c_topology_LinkAt_k1, h3, h9, h10, h11, hL]
  · simp [HP.mk]
end Go.Av
