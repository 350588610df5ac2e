/-
  Lemmas for the law.
-/
import Derived.Test.YtgnlablpigoioaaGreatC8
set_option linter.unusedVariables false
set_option linter.unusedSimpArgs false
set_option linter.constructorNameAsVariable false
namespace Go.Av
set_option maxRecDepth 4000
def badPair (p : List Rw × List Rw) : Bool := !perm p.1 p.2
def same (a b : List (List Rw)) : Bool := decide (a.length = b.length) && !anyFrom (a.zip b) badPair 0
def fine (a : List (List Rw)) : Prop := a.length ≤ 16 ∧ ∀ l ∈ a, l.length ≤ 40 ∧ ∀ r ∈ l, r.entry.sm
theorem SameEntries_ok (ra rb : List (List Rw)) (a1 a2 a3 b1 b2 b3 : AV) (hf : fine ra) :
    pureI Φ f_configdiff_SameEntries [.agg [.slice 1 (ra.map (cS 5 Rw.c)), a1, a2, a3], .agg [.slice 1 (rb.map (cS 5 Rw.c)), b1, b2, b3]] = some (.val (.bool (same ra rb))) := by
  rw [pureI_go (fn := c_configdiff_SameEntries) rfl rfl]
  obtain ⟨hf1, hf2⟩ := hf
  by_cases q : ra.length = rb.length
  rotate_left
  · simp [c_configdiff_SameEntries, same, q]
  simp [c_configdiff_SameEntries, same, q]
  refine loop_nat0 ra.length (fun i e => look 3 e = some (.ptr 1 4 0 0) ∧ look 15 e = some (.slice 1 (ra.map (cS 5 Rw.c))) ∧ look 16 e = some (.int .i64 ra.length) ∧ look 17 e = some (.int .i64 i)) (fun i => some (Rt.val (.bool (!anyFrom (ra.zip rb) badPair i)))) ?_ ?_ 0 _ (Nat.zero_le _) ?_
  · rintro i e L hi hL ⟨h3, h15, h16, h17⟩ ih
    have hi2 : i < rb.length := by omega
    have hz : i < (ra.zip rb).length := by simp; omega
    have hw : IntKind.wrap .i64 ((i : Int) + 1) = ((i + 1 : Nat) : Int) := wrap64 (by omega) (by omega)
    have hp := permuted_ok ra[i] rb[i] (hf2 _ (List.getElem_mem hi)).1 (hf2 _ (List.getElem_mem hi)).2
    cases hb : perm ra[i] rb[i] with
    | true =>
      rw [any_miss hz (by simp [badPair, hb])]
      rw [hb] at hp
      simp [c_configdiff_SameEntries_l0, cSe, hi, hi2, hL, h3, h15, h16, h17, hw, hp]
      exact ih _ ⟨by simp [h3], by simp [h15], by simp [h16], by simp⟩
    | false =>
      rw [any_hit hz (by simp [badPair, hb])]
      rw [hb] at hp
      simp [c_configdiff_SameEntries_l0, cSe, hi, hi2, hL, h3, h15, h16, h17, hp]
  · rintro e L hL ⟨h3, h15, h16, h17⟩
    have hz : ra.length = (ra.zip rb).length := by simp; omega
    rw [show anyFrom (ra.zip rb) badPair ra.length = false by rw [hz]; exact any_end]
    simp [c_configdiff_SameEntries_l0, c_configdiff_SameEntries_k1, *]
  · simp [q]
-- counted
theorem occ_count (l : List Rw) (x : Entry) : occ l x = (l.map Rw.entry).count x := by
  unfold occ
  rw [List.count_eq_countP, List.countP_map, List.countP_eq_length_filter]
  congr 2
theorem perm_of_count {α : Type} [DecidableEq α] : ∀ (x y : List α), x.length = y.length → (∀ e ∈ x, x.count e = y.count e) → x.Perm y
  | [], y, h, _ => by rw [List.length_nil] at h; rw [List.length_eq_zero_iff.1 h.symm]
  | e :: x, y, h, hc => by
    have he := hc e (by simp)
    rw [List.count_cons_self] at he
    have hm : e ∈ y := List.count_pos_iff.1 (by omega)
    have hp := List.perm_cons_erase hm
    refine List.Perm.trans (List.Perm.cons e ?_) hp.symm
    refine perm_of_count x (y.erase e) ?_ ?_
    · have := hp.length_eq
      simp only [List.length_cons] at this h
      omega
    · intro f hf
      have h1 := hc f (by simp [hf])
      have h2 := hp.count_eq f
      rw [List.count_cons] at h1 h2
      omega
def badOcc (y x : List Rw) (r : Rw) : Bool := !decide (occ x r.entry = occ y r.entry)
theorem perm_occ (x y : List Rw) : perm x y = (decide (x.length = y.length) && !anyFrom x (badOcc y x) 0) := by
  by_cases q : x.length = y.length
  · rw [decide_eq_true q, Bool.true_and]
    cases h : anyFrom x (badOcc y x) 0 with
    | true =>
      refine decide_eq_false fun hp => ?_
      simp only [anyFrom, List.drop_zero, List.any_eq_true] at h
      obtain ⟨r, _, hr⟩ := h
      simp only [badOcc, Bool.not_eq_true', decide_eq_false_iff_not] at hr
      refine hr ?_
      rw [occ_count, occ_count]
      exact hp.count_eq _
    | false =>
      refine decide_eq_true (perm_of_count _ _ (by simpa using q) ?_)
      intro e he
      obtain ⟨r, hr, rfl⟩ := List.mem_map.1 he
      simp only [anyFrom, List.drop_zero] at h
      have := List.any_eq_false.1 h r hr
      simp only [badOcc, Bool.not_eq_true', Bool.not_eq_false, decide_eq_true_eq] at this
      rw [← occ_count, ← occ_count]
      simpa using this
  · rw [decide_eq_false q, Bool.false_and]
    refine decide_eq_false fun hp => q ?_
    simpa using hp.length_eq
theorem rSameEntries_ok (ra rb : List (List Rw)) (a1 a2 a3 b1 b2 b3 : AV) (hf : fine ra) (hfb : fine rb) :
    pureI Φ f_ref30_SameEntries [.agg [.slice 1 (ra.map (cS 5 Rw.c)), a1, a2, a3], .agg [.slice 1 (rb.map (cS 5 Rw.c)), b1, b2, b3]] = some (.val (.bool (same ra rb))) := by
  rw [pureI_go (fn := c_ref30_SameEntries) rfl rfl]
  obtain ⟨hf1, hf2⟩ := hf
  obtain ⟨_, hg2⟩ := hfb
  by_cases q : ra.length = rb.length
  rotate_left
  · simp [c_ref30_SameEntries, same, q]
  simp [c_ref30_SameEntries, same, q]
  refine loop_nat0 ra.length (fun i e => look 2 e = some (.ptr 0 4 0 0) ∧ look 3 e = some (.ptr 1 4 0 0) ∧ look 5 e = some (.int .i64 i)) (fun i => some (Rt.val (.bool (!anyFrom (ra.zip rb) badPair i)))) ?_ ?_ 0 _ (Nat.zero_le _) ?_
  · rintro i e L hi hL ⟨h2, h3, h5⟩ ih
    have hi2 : i < rb.length := by omega
    have hz : i < (ra.zip rb).length := by simp; omega
    have hw : IntKind.wrap .i64 ((i : Int) + 1) = ((i + 1 : Nat) : Int) := wrap64 (by omega) (by omega)
    obtain ⟨u1, u2⟩ := hf2 _ (List.getElem_mem hi)
    obtain ⟨v1, v2⟩ := hg2 _ (List.getElem_mem hi2)
    have hpo := perm_occ ra[i] rb[i]
    by_cases ql : ra[i].length = rb[i].length
    rotate_left
    · rw [decide_eq_false ql, Bool.false_and] at hpo
      rw [any_hit hz (by simp [badPair, hpo])]
      simp [c_ref30_SameEntries_l2, cSe, hi, hi2, hL, h2, h3, h5, ql]
    rw [decide_eq_true ql, Bool.true_and] at hpo
    simp [c_ref30_SameEntries_l2, cSe, hi, hi2, hL, h2, h3, h5, ql]
    refine (loop_nat0 ra[i].length (fun k e => look 2 e = some (.ptr 0 4 0 0) ∧ look 3 e = some (.ptr 1 4 0 0) ∧ look 5 e = some (.int .i64 i) ∧ look 6 e = some (.slice 5 (ra[i].map Rw.c)) ∧ look 7 e = some (.slice 5 (rb[i].map Rw.c)) ∧ look 8 e = some (.int .i64 k)) (fun k => some (Rt.val (.bool (if anyFrom ra[i] (badOcc rb[i] ra[i]) k then false else !anyFrom (ra.zip rb) badPair (i + 1))))) ?_ ?_ 0 _ (Nat.zero_le _) ?_).trans ?_
    · rintro k e L' hk hL' ⟨h2, h3, h5, h6, h7, h8⟩ ih'
      have hw : IntKind.wrap .i64 ((k : Int) + 1) = ((k + 1 : Nat) : Int) := wrap64 (by omega) (by omega)
      have o1 := occ_ok ra[i] ra[i][k].entry (by omega) u2
      have o2 := occ_ok rb[i] ra[i][k].entry (by omega) v2
      simp only [Entry.ce] at o1 o2
      by_cases c : occ ra[i] ra[i][k].entry = occ rb[i] ra[i][k].entry
      · rw [any_miss hk (by simp [badOcc, c])]
        rw [c] at o1
        simp [c_ref30_SameEntries_l0, Rw.ce, hi, hk, hL, hL', h2, h3, h5, h6, h7, h8, o1, o2, hw]
        refine (ih' _ ⟨by simp [h2], by simp [h3], by simp [h5], by simp [h6], by simp [h7], by simp⟩).trans (by simp)
      · rw [any_hit hk (by simp [badOcc, c])]
        simp [c_ref30_SameEntries_l0, Rw.ce, hi, hk, hL, hL', h2, h3, h5, h6, h7, h8, o1, o2, c]
    · rintro e L' hL' ⟨h2, h3, h5, h6, h7, h8⟩
      rw [any_end]
      simp [c_ref30_SameEntries_l0, c_ref30_SameEntries_k1, hL, hL', h2, h3, h5, h6, h8, hw]
      refine (ih _ ⟨by simp [h2], by simp [h3], by simp⟩).trans (by simp)
    · simp [*]
    · cases hb : anyFrom ra[i] (badOcc rb[i] ra[i]) 0 with
      | true =>
        rw [hb] at hpo
        rw [any_hit hz (by simp [badPair, hpo])]
        simp
      | false =>
        rw [hb] at hpo
        rw [any_miss hz (by simp [badPair, hpo])]
        simp
  · rintro e L hL ⟨h2, h3, h5⟩
    have hz : ra.length = (ra.zip rb).length := by simp; omega
    rw [show anyFrom (ra.zip rb) badPair ra.length = false by rw [hz]; exact any_end]
    simp [c_ref30_SameEntries_l2, c_ref30_SameEntries_k3, *]
  · simp
end Go.Av
