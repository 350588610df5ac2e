/-
  Lemmas for the law.
-/
import Derived.Test.YtgnlablpigoioaaGreatC7
set_option linter.unusedVariables false
set_option linter.unusedSimpArgs false
set_option linter.constructorNameAsVariable false
namespace Go.Av
set_option maxRecDepth 4000
def perm (a b : List Rw) : Bool := decide ((a.map Rw.entry).Perm (b.map Rw.entry))
def rem (us : List Bool) (b : List Rw) : List Entry := ((us.zip b).filter fun p => !p.1).map fun p => p.2.entry
theorem rem_set : ∀ (us : List Bool) (b : List Rw) (k : Nat) (h1 : k < us.length) (h2 : k < b.length), us[k] = false → (rem us b).Perm (b[k].entry :: rem (us.set k true) b)
  | u :: us, r :: b, 0, _, _, h => by
    simp only [List.getElem_cons_zero] at h
    subst h
    simp [rem]
  | u :: us, r :: b, k + 1, h1, h2, h => by
    have ih := rem_set us b k (by simpa using h1) (by simpa using h2) (by simpa using h)
    cases u with
    | true => simpa [rem] using ih
    | false =>
      simp only [rem, List.set_cons_succ, List.zip_cons_cons, List.filter_cons, Bool.not_false, if_true, List.map_cons, List.getElem_cons_succ]
      exact (ih.cons _).trans (List.Perm.swap _ _ _)
def hitP (x : Rw) (p : Bool × Rw) : Bool := !p.1 && decide (x.entry = p.2.entry)
theorem rem_none {us : List Bool} {b : List Rw} {x : Rw} (h : (us.zip b).any (hitP x) = false) : x.entry ∉ rem us b := by
  intro hm
  simp only [rem, List.mem_map, List.mem_filter] at hm
  obtain ⟨p, ⟨hp, hu⟩, he⟩ := hm
  have := List.any_eq_false.1 h p hp
  simp only [hitP, Bool.and_eq_true, decide_eq_true_eq, not_and] at this
  exact this hu he.symm
theorem rem_init : ∀ b : List Rw, rem (List.replicate b.length false) b = b.map Rw.entry
  | [] => rfl
  | r :: b => by
    have := rem_init b
    simp only [rem] at this ⊢
    simp [List.replicate_succ, this]
theorem cBe (u : Bool) : cB u = [.bool u] := by simp [cB]
theorem permuted_ok (a b : List Rw) (ha : a.length ≤ 40) (hs : ∀ r ∈ a, r.entry.sm) : pureI Φ f_configdiff_permuted [.slice 5 (a.map Rw.c), .slice 5 (b.map Rw.c)] = some (.val (.bool (perm a b))) := by
  rw [pureI_go (fn := c_configdiff_permuted) rfl rfl]
  by_cases q : a.length = b.length
  rotate_left
  · have : perm a b = false := by
      refine decide_eq_false fun h => q ?_
      have := h.length_eq
      simpa using this
    simp [c_configdiff_permuted, q, this]
  have hrep : List.replicate b.length [AV.bool false] = (List.replicate b.length false).map cB := by simp [cB]
  have hbl : b.length ≤ 40 := by omega
  have hb2 : b.length ≤ 140737488355328 := by omega
  have hb3 : b.length < 4611686018427387904 := by omega
  simp [c_configdiff_permuted, q, hb2, hb3, hrep, -List.map_replicate]
  refine loop_nat a.length (fun i e h => look 1 e = some (.slice 5 (b.map Rw.c)) ∧ look 5 e = some (.row 0 1 0 b.length) ∧ look 18 e = some (.slice 5 (a.map Rw.c)) ∧ look 19 e = some (.int .i64 a.length) ∧ look 20 e = some (.int .i64 i) ∧
      ∃ us : List Bool, us.length = b.length ∧ (b.map Rw.entry).Perm ((a.take i).map Rw.entry ++ rem us b) ∧ HP [(0, AO.row 1 (us.map cB))] 1 h) (fun _ => some (Rt.val (AV.bool (perm a b)))) ?_ ?_ 0 _ _ (Nat.zero_le _) ?_
  · rintro i e _ L hi hL ⟨h1, h5, h18, h19, h20, us, hul, hperm, T, n, hT, rfl⟩ ih
    have hw : IntKind.wrap .i64 ((i : Int) + 1) = ((i + 1 : Nat) : Int) := wrap64 (by omega) (by omega)
    have hT' := hT (n + 1) (Nat.le_refl _)
    simp [c_configdiff_permuted_l3, Rw.ce, hi, hL, h1, h5, h18, h19, h20, hT']
    have step : ∀ (k : Nat) (e : Env) (h : AH), look 1 e = some (.slice 5 (b.map Rw.c)) → look 5 e = some (.row 0 1 0 b.length) → look 18 e = some (.slice 5 (a.map Rw.c)) → look 19 e = some (.int .i64 a.length) → look 20 e = some (.int .i64 i) →
        (hk : k < b.length) → us[k]? = some false → a[i].entry = b[k].entry → HP [(0, AO.row 1 ((us.set k true).map cB))] 1 h →
        go Φ (finP [.tmp 4]) (.c c_configdiff_permuted_k2 :: L) .normal ⟨e, h⟩ = some (Rt.val (AV.bool (perm a b))) := by
      intro k e h h1 h5 h18 h19 h20 hk hu he hh
      simp [c_configdiff_permuted_k2, h20, hw]
      refine ih _ _ ⟨by simp [h1], by simp [h5], by simp [h18], by simp [h19], by simp, us.set k true, by simp [hul], ?_, hh⟩
      obtain ⟨hk', hu'⟩ := List.getElem?_eq_some_iff.1 hu
      rw [List.take_succ_eq_append_getElem hi, List.map_append]
      simp only [List.map_cons, List.map_nil, List.append_assoc, List.singleton_append]
      rw [he]
      exact hperm.trans (List.Perm.append_left _ (rem_set us b k hk' hk hu'))
    have fin : (us.zip b).any (hitP a[i]) = false → perm a b = false := by
      intro hn
      refine decide_eq_false fun hp => ?_
      have hno := rem_none hn
      have h2 : ((a.take i).map Rw.entry ++ (a[i].entry :: (a.drop (i + 1)).map Rw.entry)).Perm ((a.take i).map Rw.entry ++ rem us b) := by
        refine List.Perm.trans (List.Perm.of_eq ?_) (hp.trans hperm)
        rw [← List.map_cons (f := Rw.entry), ← List.drop_eq_getElem_cons hi, ← List.map_append, List.take_append_drop]
      have h3 := (List.perm_append_left_iff _).1 h2
      exact hno (h3.subset (by simp))
    have inv : ∀ (e : Env), look 1 e = some (.slice 5 (b.map Rw.c)) → look 5 e = some (.row 0 1 0 b.length) → look 18 e = some (.slice 5 (a.map Rw.c)) → look 19 e = some (.int .i64 a.length) → look 20 e = some (.int .i64 i) → True := fun _ _ _ _ _ _ => trivial
    let Inv : Nat → Env → AH → Prop := fun k e h => look 1 e = some (.slice 5 (b.map Rw.c)) ∧ look 5 e = some (.row 0 1 0 b.length) ∧ look 7 e = some (.ptr (n + 1) 5 0 0) ∧ look 18 e = some (.slice 5 (a.map Rw.c)) ∧ look 19 e = some (.int .i64 a.length) ∧ look 20 e = some (.int .i64 i) ∧
        look 24 e = some (.slice 5 (b.map Rw.c)) ∧ look 25 e = some (.int .i64 b.length) ∧ look 26 e = some (.int .i64 k) ∧
        ∃ objs N, Tail objs N ∧ n + 1 < N ∧ look (n + 1) objs = some (AO.row 5 [Rw.c a[i]]) ∧ h = ⟨(0, AO.row 1 (us.map cB)) :: objs, N⟩
    have miss : ∀ k e h L' X, (hk : k < (us.zip b).length) → (∀ j s, go Φ (finP [.tmp 4]) L' (.exit j) s = go Φ (finP [.tmp 4]) (Fr.b 2 :: Fr.c c_configdiff_permuted_k1 :: Fr.b 1 :: Fr.c c_configdiff_permuted_k2 :: L) (.exit j) s) → Inv k e h → hitP a[i] (us.zip b)[k] = false →
        (∀ e' h', Inv (k + 1) e' h' → go Φ (finP [.tmp 4]) L' .normal ⟨e', h'⟩ = X) → go Φ (finP [.tmp 4]) (.c c_configdiff_permuted_l0 :: L') .normal ⟨e, h⟩ = X := by
      rintro k e _ L' X hk hL' ⟨h1, h5, h7, h18, h19, h20, h24, h25, h26, objs, N, hN, hlt, hx, rfl⟩ hbad ih'
      have hk1 : k < us.length := by simp at hk; omega
      have hk2 : k < b.length := by simp at hk; omega
      have hw : IntKind.wrap .i64 ((k : Int) + 1) = ((k + 1 : Nat) : Int) := wrap64 (by omega) (by omega)
      simp [hitP] at hbad
      have hNN := hN N (Nat.le_refl _)
      have hx2 : ∀ r, look (n + 1) (objs ++ r) = some (AO.row 5 [Rw.c a[i]]) := fun r => by rw [look_append2, hx]; rfl
      have n1 : ¬ 0 = N := by omega
      have n2 : ¬ N = n + 1 := by omega
      have n3 : ¬ n + 1 = N := by omega
      cases hu : us[k] with
      | true =>
        simp [c_configdiff_permuted_l0, Rw.ce, cBe, hk1, hk2, hL', h1, h5, h7, h18, h19, h20, h24, h25, h26, hNN, hx, hx2, n1, n2, n3, hw, hu]
        exact ih' _ _ ⟨by simp [h1], by simp [h5], by simp [h7], by simp [h18], by simp [h19], by simp [h20], by simp [h24], by simp [h25], by simp, _, _, hN.app _, by omega, hx2 _, rfl⟩
      | false =>
        have hee := eEqual_ok a[i].entry b[k].entry (hs _ (List.getElem_mem hi))
        rw [decide_eq_false (hbad hu)] at hee
        simp only [Entry.ce] at hee
        simp [c_configdiff_permuted_l0, Rw.ce, cBe, hk1, hk2, hL', h1, h5, h7, h18, h19, h20, h24, h25, h26, hNN, hx, hx2, n1, n2, n3, hw, hu, hee]
        exact ih' _ _ ⟨by simp [h1], by simp [h5], by simp [h7], by simp [h18], by simp [h19], by simp [h20], by simp [h24], by simp [h25], by simp, _, _, hN.app _, by omega, hx2 _, rfl⟩
    have first : ∀ e, look 1 e = some (.slice 5 (b.map Rw.c)) → look 5 e = some (.row 0 1 0 b.length) → look 7 e = some (.ptr (n + 1) 5 0 0) → look 18 e = some (.slice 5 (a.map Rw.c)) → look 19 e = some (.int .i64 a.length) → look 20 e = some (.int .i64 i) →
        look 24 e = some (.slice 5 (b.map Rw.c)) → look 25 e = some (.int .i64 b.length) → look 26 e = some (.int .i64 (0 : Nat)) → ∀ x, x = Rw.c a[i] → Inv 0 e ⟨(0, AO.row 1 (us.map cB)) :: (T ++ [(n + 1, AO.row 5 [x])]), n + 2⟩ := by
      rintro e g1 g2 g3 g4 g5 g6 g7 g8 g9 x rfl
      exact ⟨g1, g2, g3, g4, g5, g6, g7, g8, g9, _, _, hT.app _, by omega, by simp [hT'], rfl⟩
    cases hany : (us.zip b).any (hitP a[i]) with
    | true =>
      refine loop_hit (us.zip b) (hitP a[i]) hany _ Inv ?_ (fun k e h L' hk hL' hi hb ih' => miss k e h L' _ hk hL' hi hb ih') _ _ (first _ ?_ ?_ ?_ ?_ ?_ ?_ ?_ ?_ ?_ _ ?_)
      · rintro k e _ L' hk hL' ⟨h1, h5, h7, h18, h19, h20, h24, h25, h26, objs, N, hN, hlt, hx, rfl⟩ hbad
        have hk1 : k < us.length := by simp at hk; omega
        have hk2 : k < b.length := by simp at hk; omega
        simp [hitP] at hbad
        obtain ⟨hu, hen⟩ := hbad
        have hNN := hN N (Nat.le_refl _)
        have hx2 : ∀ r, look (n + 1) (objs ++ r) = some (AO.row 5 [Rw.c a[i]]) := fun r => by rw [look_append2, hx]; rfl
        have n1 : ¬ 0 = N := by omega
        have n2 : ¬ N = n + 1 := by omega
        have n3 : ¬ n + 1 = N := by omega
        have hee := eEqual_ok a[i].entry b[k].entry (hs _ (List.getElem_mem hi))
        rw [decide_eq_true hen] at hee
        simp only [Entry.ce] at hee
        simp [c_configdiff_permuted_l0, Rw.ce, cBe, hk1, hk2, hL', h1, h5, h7, h18, h19, h20, h24, h25, h26, hNN, hx, hx2, n1, n2, n3, hu, hee]
        refine step k _ _ ?_ ?_ ?_ ?_ ?_ hk2 (by rw [List.getElem?_eq_getElem hk1, hu]) hen ?_ <;> try simp [*]
        exact ⟨_, N, hN.app _, rfl⟩
      all_goals simp [*, Rw.c]
    | false =>
      refine loop_miss (us.zip b) (hitP a[i]) hany _ Inv (fun k e h L' hk hL' hi hb ih' => miss k e h L' _ hk hL' hi hb ih') ?_ _ _ (first _ ?_ ?_ ?_ ?_ ?_ ?_ ?_ ?_ ?_ _ ?_)
      · rintro e _ L' hL' ⟨h1, h5, h7, h18, h19, h20, h24, h25, h26, objs, N, hN, hlt, hx, rfl⟩
        have hzl : (us.zip b).length = b.length := by simp [hul]
        rw [hzl] at h26
        simp [c_configdiff_permuted_l0, c_configdiff_permuted_k1, hL', h25, h26, fin hany]
      all_goals simp [*, Rw.c]
  · rintro e _ L hL ⟨h1, h5, h18, h19, h20, us, hul, hperm, T, n, hT, rfl⟩
    have hp : perm a b = true := by
      refine decide_eq_true ?_
      rw [List.take_length] at hperm
      have hl := hperm.length_eq
      simp only [List.length_map, List.length_append] at hl
      have : rem us b = [] := List.length_eq_zero_iff.1 (by omega)
      rw [this, List.append_nil] at hperm
      exact hperm.symm
    simp [c_configdiff_permuted_l3, c_configdiff_permuted_k4, *]
  · simp [q]
    exact ⟨List.replicate b.length false, by simp, by rw [rem_init], by simpa using HP.mk⟩
end Go.Av
