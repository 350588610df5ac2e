/-
  Parser states and the deparser: the reference's answers.
-/
import Derived.Test.YtjdbnnnakpacjaaGreatL5
set_option linter.unusedVariables false
set_option linter.unusedSimpArgs false
set_option linter.constructorNameAsVariable false
namespace Go.Av
set_option maxRecDepth 4000
theorem rleads_ok (p : Prg) (s : Nat) (n : Int) : pureI Φ f_ref18_next [.agg (Prg.c p), .int .i64 s, .int .i64 n] = some (.val (.bool (leads p s n))) := by
  rw [pureI_go (fn := c_ref18_next) rfl rfl]
  by_cases n1 : n = -1
  · simp [c_ref18_next, Prg.e, leads, n1]
  by_cases n2 : n = -2
  · simp [c_ref18_next, Prg.e, leads, n2]
  by_cases n3 : (s : Int) < n
  · simp [c_ref18_next, Prg.e, leads, n1, n2, n3]
  · simp [c_ref18_next, Prg.e, leads, n1, n2, n3]
theorem wid_nz {p : Prg} {h i : Int} (z : wid p h i ≠ 0) : wBad (wid p h i) = false := by
  unfold wid at z ⊢
  cases q : decl p h i with
  | none => rw [q] at z; simp at z
  | some w =>
    rw [q] at z
    simp only at z ⊢
    cases y : wBad w with
    | true => rw [y] at z; simp at z
    | false => simpa using y
theorem rcases_ok (p : Prg) (s : Nat) (hs : s < p.states.length) (hv : ∀ c ∈ p.states[s].cases, ok32 0 c.value ∧ ok32 0 c.mask) (hl : p.states[s].cases.length < 2 ^ 40) (hz : p.states[s].cases.length = 0 ∨ wid p p.states[s].on.header p.states[s].on.field ≠ 0) :
    pureI Φ f_ref18_cases [.agg (Prg.c p), .int .i64 s] = some (.val (.tup [.int .i64 ((fe (caseG p s p.states[s]) p.states[s].cases.length 0).getD (-1, 0)).1, .int .i64 ((fe (caseG p s p.states[s]) p.states[s].cases.length 0).getD (-1, 0)).2])) := by
  rw [pureI_go (fn := c_ref18_cases) rfl rfl]
  have hw := rWid12_ok p p.states[s].on.header p.states[s].on.field
  simp only [Prg.e] at hw
  simp [c_ref18_cases, Prg.e, ParserState.e, hs, hw]
  refine loop_nx p.states[s].cases.length (fun _ => []) 0 (fun i e => look 1 e = some (.int .i64 s) ∧ look 2 e = some (.iptr 9 [Prg.c p] 0 0) ∧ look 6 e = some (.iptr 7 [ParserState.c p.states[s]] 0 0) ∧ look 7 e = some (.int .i64 (wid p p.states[s].on.header p.states[s].on.field)) ∧ look 8 e = some (.int .i64 i))
    (fun i => some (Rt.val (.tup [.int .i64 ((fe (caseG p s p.states[s]) p.states[s].cases.length i).getD (-1, 0)).1, .int .i64 ((fe (caseG p s p.states[s]) p.states[s].cases.length i).getD (-1, 0)).2]))) ?_ ?_ 0 _ _ (Nat.zero_le _) (Nat.zero_le _) ?_
  · rintro i e n L hi hL _ ⟨h1, h2, h6, h7, h8⟩ ih
    have hwi : IntKind.wrap .i64 ((i : Int) + 1) = ((i + 1 : Nat) : Int) := wrap64 (by omega) (by omega)
    have hc := hv _ (List.getElem_mem hi)
    have hz' : wid p p.states[s].on.header p.states[s].on.field ≠ 0 := by
      rcases hz with hz | hz
      · omega
      · exact hz
    have hb := wid_nz hz'
    have hbr := wBad_false.1 hb
    obtain ⟨k, hk⟩ : ∃ k : Nat, wid p p.states[s].on.header p.states[s].on.field = k := ⟨(wid p p.states[s].on.header p.states[s].on.field).toNat, by omega⟩
    have f1 := rFits12_ok p.states[s].cases[i].value hc.1 k (by omega)
    have f2 := rFits12_ok p.states[s].cases[i].mask hc.2 k (by omega)
    have e1 : ∀ v, fits v (wid p p.states[s].on.header p.states[s].on.field) = decide (v < 2 ^ k) := by
      intro v
      unfold fits
      rw [hb, hk]
      simp
    have hd := rleads_ok p s p.states[s].cases[i].next
    have ha := iand_self hc.1 hc.2
    simp only [Prg.e] at hd
    rw [Prg.e] at h2
    rw [ParserState.e] at h6
    rw [hk] at h7
    have done : ∀ z : Int, z ≠ 0 → caseE p s p.states[s] p.states[s].cases[i] = z → fe (caseG p s p.states[s]) p.states[s].cases.length i = some ((i : Int), z) := by
      intro z z0 z1
      exact fe_hit hi (by simp [caseG, hi, z1, z0])
    by_cases y1 : p.states[s].cases[i].value < 2 ^ k
    rotate_left
    · rw [done 9 (by decide) (by simp [caseE, e1, y1])]
      simp [c_ref18_cases_l0, SelectCase.e, h6, h7, h8, hi, f1, y1]
    by_cases y2 : p.states[s].cases[i].mask < 2 ^ k
    rotate_left
    · rw [done 9 (by decide) (by simp [caseE, e1, y2])]
      simp [c_ref18_cases_l0, SelectCase.e, h6, h7, h8, hi, f1, f2, y1, y2]
    by_cases y3 : iand .u32 p.states[s].cases[i].value p.states[s].cases[i].mask = p.states[s].cases[i].value
    rotate_left
    · have y3' : ¬ (p.states[s].cases[i].value.toNat &&& p.states[s].cases[i].mask.toNat = p.states[s].cases[i].value.toNat) := fun h => y3 (ha.2 h)
      rw [done 5 (by decide) (by simp [caseE, e1, y1, y2, y3'])]
      simp [c_ref18_cases_l0, SelectCase.e, h6, h7, h8, hi, f1, f2, y1, y2, y3]
    have y3' := ha.1 y3
    cases y4 : leads p s p.states[s].cases[i].next with
    | false =>
      rw [y4] at hd
      rw [done 14 (by decide) (by simp [caseE, e1, y1, y2, y3', y4])]
      simp [c_ref18_cases_l0, SelectCase.e, h1, h2, h6, h7, h8, hi, f1, f2, y1, y2, y3, hd]
    | true =>
      rw [y4] at hd
      rw [fe_miss hi (by simp [caseG, hi, caseE, e1, y1, y2, y3', y4])]
      simp [c_ref18_cases_l0, SelectCase.e, h1, h2, h6, h7, h8, hi, f1, f2, y1, y2, y3, hd, hwi]
      exact ih _ _ (Nat.zero_le _) ⟨by simp [h1], by simp [h2, Prg.e], by simp [h6, ParserState.e], by simp [h7, hk], by simp⟩
  · rintro e n L hL _ ⟨h1, h2, h6, h7, h8⟩
    rw [fe_end]
    rw [ParserState.e] at h6
    simp [c_ref18_cases_l0, c_ref18_cases_k1, h6, h8, hL]
  · simp [Prg.e, ParserState.e]
theorem rstK_ok (p : Prg) (s : Nat) (hs : s < p.states.length) (hv : ∀ c ∈ p.states[s].cases, ok32 0 c.value ∧ ok32 0 c.mask) (hl : p.states[s].cases.length < 2 ^ 40) (e : Env) (n : Nat)
    (h1 : look 1 e = some (.int .i64 s)) (h2 : look 2 e = some (.iptr 9 [Prg.c p] 0 0)) (h6 : look 6 e = some (.iptr 7 [ParserState.c p.states[s]] 0 0)) :
    go Φ (finP [.tmp 4, .tmp 5]) [.c c_ref18_state_k2] .normal ⟨e, ⟨[], n⟩⟩ = some (.val (.tup [.int .i64 (stK p s p.states[s]).1, .int .i64 (stK p s p.states[s]).2])) := by
  have hw := rWid12_ok p p.states[s].on.header p.states[s].on.field
  have hd := rleads_ok p s p.states[s].dflt
  simp only [Prg.e] at hw hd
  rw [Prg.e] at h2
  rw [ParserState.e] at h6
  have fin : ∀ (hz : p.states[s].cases.length = 0 ∨ wid p p.states[s].on.header p.states[s].on.field ≠ 0), ∃ a b, pureI Φ f_ref18_cases [.agg (Prg.c p), .int .i64 s] = some (.val (.tup [.int .i64 a, .int .i64 b])) ∧
      ((b = 0 ∧ (fe (caseG p s p.states[s]) p.states[s].cases.length 0).getD (stF p s p.states[s]) = stF p s p.states[s]) ∨ (b ≠ 0 ∧ (fe (caseG p s p.states[s]) p.states[s].cases.length 0).getD (stF p s p.states[s]) = (a, b))) := by
    intro hz
    have hc := rcases_ok p s hs hv hl hz
    refine ⟨_, _, hc, ?_⟩
    cases q : fe (caseG p s p.states[s]) p.states[s].cases.length 0 with
    | none => exact .inl ⟨rfl, rfl⟩
    | some x =>
      refine .inr ⟨?_, rfl⟩
      intro h0
      have : x.2 = 0 := h0
      have key : ∀ m i x, feF (caseG p s p.states[s]) m i = some x → x.2 ≠ 0 := by
        intro m
        induction m with
        | zero => intro i x h; simp [feF] at h
        | succ m ih =>
          intro i x h
          simp only [feF] at h
          cases g : caseG p s p.states[s] i with
          | none => rw [g] at h; exact ih _ _ h
          | some y =>
            rw [g] at h
            cases h
            unfold caseG at g
            cases gi : p.states[s].cases[i]? with
            | none => rw [gi] at g; simp at g
            | some c =>
              rw [gi] at g
              simp only [Option.bind_some] at g
              split at g
              · cases g
              · rename_i hne
                cases g
                exact hne
      exact key _ _ _ q this
  cases q : p.states[s].select with
  | true =>
    rw [q] at h6
    by_cases z : wid p p.states[s].on.header p.states[s].on.field = 0
    · rw [z] at hw
      simp [c_ref18_state_k2, h2, h6, hw, stK, q, z]
    obtain ⟨a, b, hc, hab⟩ := fin (.inr z)
    simp only [Prg.e] at hc
    rw [show stK p s p.states[s] = (fe (caseG p s p.states[s]) p.states[s].cases.length 0).getD (stF p s p.states[s]) by simp [stK, q, z]]
    rcases hab with ⟨b0, e1⟩ | ⟨b0, e1⟩
    · rw [e1]
      rw [b0] at hc
      cases y : leads p s p.states[s].dflt with
      | true => rw [y] at hd; simp [c_ref18_state_k2, h1, h2, h6, hw, z, hc, hd, stF, y]
      | false => rw [y] at hd; simp [c_ref18_state_k2, h1, h2, h6, hw, z, hc, hd, stF, y]
    · rw [e1]
      simp [c_ref18_state_k2, h1, h2, h6, hw, z, hc, b0]
  | false =>
    rw [q] at h6
    by_cases z : 0 < p.states[s].cases.length
    · simp [c_ref18_state_k2, h6, stK, q, z]
    have z0 : p.states[s].cases.length = 0 := by omega
    obtain ⟨a, b, hc, hab⟩ := fin (.inl z0)
    simp only [Prg.e] at hc
    rw [show stK p s p.states[s] = (fe (caseG p s p.states[s]) p.states[s].cases.length 0).getD (stF p s p.states[s]) by simp [stK, q, z0]]
    rcases hab with ⟨b0, e1⟩ | ⟨b0, e1⟩
    · rw [e1]
      rw [b0] at hc
      cases y : leads p s p.states[s].dflt with
      | true => rw [y] at hd; simp [c_ref18_state_k2, h1, h2, h6, z0, hc, hd, stF, y]
      | false => rw [y] at hd; simp [c_ref18_state_k2, h1, h2, h6, z0, hc, hd, stF, y]
    · rw [e1]
      simp [c_ref18_state_k2, h1, h2, h6, z0, hc, b0]
theorem rstE_ok (p : Prg) (f : PrgS p) (s : Nat) (hs : s < p.states.length) (e : Env) (n : Nat)
    (h1 : look 1 e = some (.int .i64 s)) (h2 : look 2 e = some (.iptr 9 [Prg.c p] 0 0)) (h6 : look 6 e = some (.iptr 7 [ParserState.c p.states[s]] 0 0)) :
    go Φ (finP [.tmp 4, .tmp 5]) [.c c_ref18_state_k3] .normal ⟨e, ⟨[], n⟩⟩ = some (.val (.tup [.int .i64 (stE p s p.states[s]).1, .int .i64 (stE p s p.states[s]).2])) := by
  rw [stE_eq]
  have hm := List.getElem_mem hs
  have hse := f.se _ hm
  rw [ParserState.e] at h6
  by_cases z0 : 4 < p.states[s].extract.length
  · simp [c_ref18_state_k3, h6, z0]
  by_cases z1 : 8 < p.states[s].cases.length
  · simp [c_ref18_state_k3, h6, z0, z1]
  rw [if_neg (by omega)]
  generalize hX : (if p.states[s].extract.any (fun h => decide (h < 0) || decide ((p.headers.length : Int) ≤ h)) = true then ((-1 : Int), (8 : Int)) else stK p s p.states[s]) = X
  simp [c_ref18_state_k3, h6, z0, z1]
  refine (loop_any p.states[s].extract (fun h => decide (h < 0) || decide ((p.headers.length : Int) ≤ h)) (some (Rt.val (.tup [.int .i64 (-1), .int .i64 8]))) (some (Rt.val (.tup [.int .i64 (stK p s p.states[s]).1, .int .i64 (stK p s p.states[s]).2])))
    (fun i e H => look 1 e = some (.int .i64 s) ∧ look 2 e = some (.iptr 9 [Prg.c p] 0 0) ∧ look 6 e = some (.iptr 7 [ParserState.c p.states[s]] 0 0) ∧ look 8 e = some (.int .i64 i) ∧ H = ⟨[], n⟩) ?_ ?_ ?_ _ _ ?_).trans ?_
  · rintro i e _ L hi hL ⟨h1, h2, h6, h8, rfl⟩ hb
    rw [Prg.e] at h2
    rw [ParserState.e] at h6
    simp only [Bool.or_eq_true, decide_eq_true_eq] at hb
    by_cases y0 : p.states[s].extract[i] < 0
    · simp [c_ref18_state_l1, cI, h6, h8, hi, y0]
    · have y1 : (p.headers.length : Int) ≤ p.states[s].extract[i] := by omega
      simp [c_ref18_state_l1, cI, h2, h6, h8, hi, y0, y1]
  · rintro i e _ L X hi hL ⟨h1, h2, h6, h8, rfl⟩ hb ih
    have hw : IntKind.wrap .i64 ((i : Int) + 1) = ((i + 1 : Nat) : Int) := wrap64 (by omega) (by omega)
    rw [Prg.e] at h2
    rw [ParserState.e] at h6
    simp only [Bool.or_eq_false_iff, decide_eq_false_iff_not] at hb
    simp [c_ref18_state_l1, cI, h2, h6, h8, hi, hb, hw]
    exact ih _ _ ⟨by simp [h1], by simp [h2, Prg.e], by simp [h6, ParserState.e], by simp, rfl⟩
  · rintro e _ L hL ⟨h1, h2, h6, h8, rfl⟩
    rw [ParserState.e] at h6
    simp [c_ref18_state_l1, h6, h8, hL]
    refine rstK_ok p s hs (fun c hc => f.sv _ hm c hc) (f.sc _ hm) _ _ ?_ ?_ ?_
    · simp [h1]
    · simp [h2]
    · simp [h6, ParserState.e]
  · simp [h1, h2, h6, ParserState.e]
  · rw [← hX]
    cases p.states[s].extract.any (fun h => decide (h < 0) || decide ((p.headers.length : Int) ≤ h)) <;> rfl
end Go.Av
