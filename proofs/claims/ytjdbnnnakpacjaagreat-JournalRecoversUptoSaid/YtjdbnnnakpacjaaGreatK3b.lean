/-
  Headers: the program's answer.
-/
import Derived.Test.YtjdbnnnakpacjaaGreatK3
set_option linter.unusedVariables false
set_option linter.unusedSimpArgs false
set_option linter.constructorNameAsVariable false
namespace Go.Av
set_option maxRecDepth 4000
def Any (h : AH) : Prop := Tail h.objs h.next
theorem Any.app {T : List (Nat × AO)} {n : Nat} {o : AO} (h : Any ⟨T, n⟩) : Any ⟨T ++ [(n, o)], n + 1⟩ := Tail.app h o
theorem Any.mk {T : List (Nat × AO)} {n : Nat} (h : Tail T n) : Any ⟨T, n⟩ := h
def hdrR (l : List Fld) (i : Nat) : Int := match fe (fun i => (l[i]?).bind fun f => er (fldE l i f)) l.length i with
  | some e => e
  | none => if wSum l % 8 = 0 then 0 else 10
theorem hdrR_hit {l : List Fld} {i : Nat} (hi : i < l.length) (h : fldE l i l[i] ≠ 0) : hdrR l i = fldE l i l[i] := by
  unfold hdrR
  rw [fe_hit (x := fldE l i l[i]) hi (by simp [hi, er, h])]
theorem hdrR_miss {l : List Fld} {i : Nat} (hi : i < l.length) (h : fldE l i l[i] = 0) : hdrR l i = hdrR l (i + 1) := by
  unfold hdrR
  rw [fe_miss hi (by simp [hi, h])]
theorem hdrR_end {l : List Fld} : hdrR l l.length = if wSum l % 8 = 0 then 0 else 10 := by
  unfold hdrR
  rw [fe_end]
theorem fe_all {α : Type} {f : Nat → Option α} {N : Nat} : fe f N 0 = none ↔ ∀ i, i < N → f i = none := by
  have key : ∀ n i, feF f n i = none ↔ ∀ k, i ≤ k → k < i + n → f k = none := by
    intro n
    induction n with
    | zero => intro i; simp [feF]; omega
    | succ n ih =>
      intro i
      simp only [feF]
      cases h : f i with
      | some x => simp; exact ⟨i, Nat.le_refl _, by omega, by simp [h]⟩
      | none =>
        simp only [ih]
        constructor
        · intro hh k h1 h2
          rcases Nat.eq_or_lt_of_le h1 with rfl | h3
          · exact h
          · exact hh k (by omega) (by omega)
        · intro hh k h1 h2; exact hh k (by omega) (by omega)
  unfold fe
  rw [key]
  simp
theorem wSum_eq (l : List Fld) : wSum l = (l.map (·.width)).sum := rfl
theorem hdrE_ok (h : Header) (hn : h.name.length < 2 ^ 40) (hf : ∀ f ∈ h.fields, f.name.length < 2 ^ 40) : pureI Φ f_header_Check [.agg (Header.c h)] = some (.val (.int .i64 (hdrE h))) := by
  rw [pureI_go (fn := c_header_Check) rfl rfl]
  have n1 := isIdent_ok h.name hn
  cases q1 : idS h.name with
  | false => rw [q1] at n1; simp [c_header_Check, Header.e, n1, hdrE, q1]
  | true =>
  rw [q1] at n1
  by_cases z0 : h.fields.length = 0
  · simp [c_header_Check, Header.e, n1, hdrE, q1, z0]
  by_cases z1 : 12 < h.fields.length
  · simp [c_header_Check, Header.e, n1, hdrE, q1, z0, z1]
  have hE : hdrE h = hdrR h.fields 0 := by simp [hdrE, q1, z0, z1, hdrR, fldsE] <;> rfl
  rw [hE]
  simp [c_header_Check, Header.e, n1, z0, z1]
  refine loop_nat h.fields.length (fun i e H => look 1 e = some (.iptr 2 [[.str h.name, .slice 2 (h.fields.map Fld.c)]] 0 0) ∧ look 23 e = some (.slice 2 (h.fields.map Fld.c)) ∧ look 24 e = some (.int .i64 h.fields.length) ∧ look 25 e = some (.int .i64 i) ∧ Any H ∧
      ∀ k, k < i → fldE h.fields k (h.fields.getD k default) = 0)
    (fun i => some (Rt.val (.int .i64 (hdrR h.fields i)))) ?_ ?_ 0 _ _ (Nat.zero_le _) ?_
  · rintro i e ⟨T, n⟩ L hi hL ⟨h1, h23, h24, h25, hT, hz⟩ ih
    have hT' : look n T = none := hT n (Nat.le_refl _)
    have hw : IntKind.wrap .i64 ((i : Int) + 1) = ((i + 1 : Nat) : Int) := wrap64 (by omega) (by omega)
    have nf := isIdent_ok h.fields[i].name (hf _ (List.getElem_mem hi))
    cases p1 : idS h.fields[i].name with
    | false =>
      rw [p1] at nf
      rw [hdrR_hit hi (by simp [fldE, p1])]
      simp [c_header_Check_l2, Fld.e, h23, h24, h25, hi, hT', nf, fldE, p1]
    | true =>
    rw [p1] at nf
    by_cases w1 : h.fields[i].width < 1
    · rw [hdrR_hit hi (by simp [fldE, p1, wBad, w1])]
      simp [c_header_Check_l2, Fld.e, h23, h24, h25, hi, hT', nf, fldE, p1, wBad, w1]
    by_cases w2 : 32 < h.fields[i].width
    · rw [hdrR_hit hi (by simp [fldE, p1, wBad, w2])]
      simp [c_header_Check_l2, Fld.e, h23, h24, h25, hi, hT', nf, fldE, p1, wBad, w1, w2]
    have hi' : i ≤ h.fields.length := by omega
    have hmi : min i h.fields.length = i := by omega
    simp [c_header_Check_l2, Fld.e, h1, h23, h24, h25, hi, hT', nf, w1, w2, hi']
    refine (loop_any (h.fields.take i) (fun g => decide (g.name = h.fields[i].name)) (some (Rt.val (.int .i64 7))) (some (Rt.val (.int .i64 (hdrR h.fields (i + 1)))))
      (fun k e H => look 1 e = some (.iptr 2 [[.str h.name, .slice 2 (h.fields.map Fld.c)]] 0 0) ∧ look 23 e = some (.slice 2 (h.fields.map Fld.c)) ∧ look 24 e = some (.int .i64 h.fields.length) ∧ look 25 e = some (.int .i64 i) ∧
        look 4 e = some (.iptr 2 [[.str h.fields[i].name, .int .i64 h.fields[i].width]] 0 0) ∧ look 45 e = some (.slice 2 ((h.fields.map Fld.c).take i)) ∧ look 46 e = some (.int .i64 i) ∧ look 47 e = some (.int .i64 k) ∧ Any H ∧
        (0 < k → anyFrom (h.fields.take i) (fun g => decide (g.name = h.fields[i].name)) 0 = anyFrom (h.fields.take i) (fun g => decide (g.name = h.fields[i].name)) k)) ?_ ?_ ?_ _ _ ?_).trans ?_
    · rintro k e ⟨T2, m⟩ L' hk hL' ⟨h1, h23, h24, h25, g4, g45, g46, g47, hT2, _⟩ hb
      simp only [List.length_take] at hk
      have hk1 : k < i := by omega
      have hk2 : k < h.fields.length := by omega
      simp only [List.getElem_take, decide_eq_true_eq] at hb
      have hm : look m T2 = none := hT2 m (Nat.le_refl _)
      simp [c_header_Check_l0, Fld.e, g4, g45, g46, g47, hk1, hm, hb, hmi]
    · rintro k e ⟨T2, m⟩ L' X hk hL' ⟨h1, h23, h24, h25, g4, g45, g46, g47, hT2, hy⟩ hb ih'
      have hb' := hb
      have hk0 := hk
      simp only [List.length_take] at hk
      have hk1 : k < i := by omega
      have hk2 : k < h.fields.length := by omega
      simp only [List.getElem_take, decide_eq_false_iff_not] at hb
      have hm : look m T2 = none := hT2 m (Nat.le_refl _)
      have hw' : IntKind.wrap .i64 ((k : Int) + 1) = ((k + 1 : Nat) : Int) := wrap64 (by omega) (by omega)
      simp [c_header_Check_l0, Fld.e, g4, g45, g46, g47, hk1, hm, hb, hmi, hw']
      refine ih' _ _ ⟨by simp [h1], by simp [h23], by simp [h24], by simp [h25], by simp [g4], by simp [g45], by simp [g46], by simp, Any.app hT2, fun _ => ?_⟩
      rcases Nat.eq_zero_or_pos k with rfl | hp
      · exact any_miss hk0 hb'
      · rw [hy hp]; exact any_miss hk0 hb'
    · rintro e ⟨T2, m⟩ L' hL' ⟨h1, h23, h24, h25, g4, g45, g46, g47, hT2, hy⟩
      have hm : min i h.fields.length = i := by omega
      simp [hm] at g47 hy
      have hd : dupN Fld.name h.fields i h.fields[i] = false := by
        unfold dupN
        rw [← any_zero]
        rcases Nat.eq_zero_or_pos i with hp | hp
        · subst hp; simp [anyFrom]
        · rw [hy hp]
          have := any_end (l := h.fields.take i) (p := fun g => decide (g.name = h.fields[i].name))
          simpa [hm] using this
      simp [c_header_Check_l0, c_header_Check_k1, g46, g47, h25, hL', hw]
      refine ih _ _ ⟨by simp [h1], by simp [h23], by simp [h24], by simp, hT2, ?_⟩
      intro k hk
      rcases Nat.lt_succ_iff_lt_or_eq.1 hk with hlt | rfl
      · exact hz k hlt
      · rw [List.getD_eq_getElem?_getD, List.getElem?_eq_getElem hi, Option.getD_some]
        simp [fldE, p1, wBad, w1, w2, hd]
    · simp [h1, h23, h24, h25, hT.mono (Nat.le_succ _), Any]
    · cases p3 : dupN Fld.name h.fields i h.fields[i] with
      | true =>
        rw [hdrR_hit hi (by simp [fldE, p1, wBad, w1, w2, p3])]
        unfold dupN at p3
        simp only [p3, if_true]
        simp [fldE, p1, wBad, w1, w2, dupN, p3]
      | false =>
        rw [hdrR_miss hi (by simp [fldE, p1, wBad, w1, w2, p3])]
        unfold dupN at p3
        simp [p3]
  · rintro e ⟨T, n⟩ L hL ⟨h1, h23, h24, h25, hT, hz⟩
    have hb : ∀ x ∈ h.fields.map (·.width), 1 ≤ x ∧ x ≤ 32 := by
      intro x hx
      obtain ⟨f, hf, rfl⟩ := List.mem_map.1 hx
      obtain ⟨k, hk, rfl⟩ := List.mem_iff_getElem.1 hf
      have := hz k hk
      rw [List.getD_eq_getElem?_getD, List.getElem?_eq_getElem hk, Option.getD_some] at this
      refine wBad_false.1 ?_
      cases q : wBad h.fields[k].width with
      | false => rfl
      | true =>
        simp only [fldE, q] at this
        split at this
        · omega
        · simp at this
    have e1 := widths_ok h (by omega)
    have e2 := sum_ok (h.fields.map (·.width)) (by simp; omega) hb
    simp only [Header.e] at e1
    simp only [List.map_map] at e2
    have hs : 0 ≤ wSum h.fields := by
      unfold wSum
      have : ∀ l : List Int, (∀ x ∈ l, 1 ≤ x ∧ x ≤ 32) → 0 ≤ l.sum := by
        intro l
        induction l with
        | nil => intro _; simp
        | cons a l ih => intro hh; have := ih fun x hx => hh x (by simp [hx]); have := hh a (by simp); simp; omega
      exact this _ hb
    have e3 : wSum h.fields % 8 = (wSum h.fields).tmod 8 := (Int.tmod_eq_emod_of_nonneg hs).symm
    rw [hdrR_end, e3]
    have e4 : pureI Φ f_header_sum [.slice 1 (h.fields.map fun f => [.int .i64 f.width])] = some (.val (.int .i64 (wSum h.fields))) := e2
    by_cases z : (wSum h.fields).tmod 8 = 0
    · simp [c_header_Check_l2, c_header_Check_k3, h1, h24, h25, hL, e1, e4, z]
    · simp [c_header_Check_l2, c_header_Check_k3, h1, h24, h25, hL, e1, e4, z]
  · simp [Any, Tail]
end Go.Av
