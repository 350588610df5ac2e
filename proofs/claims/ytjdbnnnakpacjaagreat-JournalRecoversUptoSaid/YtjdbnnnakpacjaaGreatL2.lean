/-
  Headers and registers: the reference's answers.
-/
import Derived.Test.YtjdbnnnakpacjaaGreatL1
set_option linter.unusedVariables false
set_option linter.unusedSimpArgs false
set_option linter.constructorNameAsVariable false
namespace Go.Av
set_option maxRecDepth 4000
def fxO {α : Type} (q : α → Bool) (l : List α) (j : Nat) : Option Int := fe (fun k => (l[k]?).bind fun f => if q f then some (k : Int) else none) l.length j
theorem fxO_hit {α : Type} {q : α → Bool} {l : List α} {i : Nat} (hi : i < l.length) (h : q l[i] = true) : fxO q l i = some (i : Int) := by
  unfold fxO
  rw [fe_hit (x := (i : Int)) hi (by simp [hi, h])]
theorem fxO_miss {α : Type} {q : α → Bool} {l : List α} {i : Nat} (hi : i < l.length) (h : q l[i] = false) : fxO q l i = fxO q l (i + 1) := by
  unfold fxO
  rw [fe_miss hi (by simp [hi, h])]
theorem fxO_end {α : Type} {q : α → Bool} {l : List α} : fxO q l l.length = none := by
  unfold fxO
  rw [fe_end]
theorem fxO_lt {α : Type} {q : α → Bool} {l : List α} {i : Nat} (hi : i < l.length) (h : q l[i] = true) : ∀ n j, n + j = i → ∃ k : Nat, fxO q l j = some (k : Int) ∧ (decide ((k : Int) < i) = anyFrom (l.take i) q j)
  | 0, j, e => by
    have : j = i := by omega
    subst this
    refine ⟨j, fxO_hit hi h, ?_⟩
    have := any_end (l := l.take j) (p := q)
    rw [show (l.take j).length = j by simp; omega] at this
    rw [this]
    simp
  | n + 1, j, e => by
    have hj : j < l.length := by omega
    have hj2 : j < (l.take i).length := by simp; omega
    have e1 : (l.take i)[j] = l[j] := by simp
    cases z : q l[j] with
    | true =>
      refine ⟨j, fxO_hit hj z, ?_⟩
      rw [any_hit hj2 (by rw [e1]; exact z)]
      simp; omega
    | false =>
      obtain ⟨k, k1, k2⟩ := fxO_lt hi h n (j + 1) (by omega)
      refine ⟨k, by rw [fxO_miss hj z]; exact k1, ?_⟩
      rw [any_miss hj2 (by rw [e1]; exact z)]
      exact k2
def fxT (o : Option Int) : AV := match o with
  | some k => .tup [.int .i64 k, .bool true]
  | none => .tup [.int .i64 0, .bool false]
theorem fieldIndex_ok (h : Header) (nm : List UInt8) (hl : h.fields.length < 2 ^ 40) : pureI Φ f_ref11_FieldIndex [.agg (Header.c h), .str nm] = some (.val (fxT (fxO (fun f : Fld => decide (f.name = nm)) h.fields 0))) := by
  rw [pureI_go (fn := c_ref11_FieldIndex) rfl rfl]
  simp [c_ref11_FieldIndex, Header.e]
  refine loop_nat0 h.fields.length (fun i e => look 1 e = some (.str nm) ∧ look 2 e = some (.iptr 2 [Header.c h] 0 0) ∧ look 6 e = some (.int .i64 i))
    (fun i => some (Rt.val (fxT (fxO (fun f : Fld => decide (f.name = nm)) h.fields i)))) ?_ ?_ 0 _ (Nat.zero_le _) ?_
  · rintro i e L hi hL ⟨h1, h2, h6⟩ ih
    have hw : IntKind.wrap .i64 ((i : Int) + 1) = ((i + 1 : Nat) : Int) := wrap64 (by omega) (by omega)
    rw [Header.e] at h2
    by_cases z : h.fields[i].name = nm
    · rw [fxO_hit hi (by simpa using z)]
      simp [c_ref11_FieldIndex_l0, Fld.e, h1, h2, h6, hi, z, fxT]
    · rw [fxO_miss hi (by simpa using z)]
      simp [c_ref11_FieldIndex_l0, Fld.e, h1, h2, h6, hi, z, hw]
      exact ih _ ⟨by simp [h1], by simp [h2, Header.e], by simp⟩
  · rintro e L hL ⟨h1, h2, h6⟩
    rw [fxO_end]
    rw [Header.e] at h2
    simp [c_ref11_FieldIndex_l0, c_ref11_FieldIndex_k1, h2, h6, hL, fxT]
  · simp [Header.e]
theorem wSum_range (l : List Fld) (h : ∀ k, k < l.length → fldE l k (l.getD k default) = 0) : ∀ i, i ≤ l.length → 0 ≤ wSum (l.take i) ∧ wSum (l.take i) ≤ 32 * i := by
  intro i
  induction i with
  | zero => intro _; simp [wSum]
  | succ i ih =>
    intro hi
    have h1 := ih (by omega)
    have hk := h i (by omega)
    rw [List.getD_eq_getElem?_getD, List.getElem?_eq_getElem (by omega), Option.getD_some] at hk
    have hb : wBad l[i].width = false := by
      cases q : wBad l[i].width with
      | false => rfl
      | true =>
        simp only [fldE, q] at hk
        split at hk
        · omega
        · simp at hk
    have := wBad_false.1 hb
    rw [wSum_take (by omega)]
    omega
theorem fldE_take {l : List Fld} {i k : Nat} (hk : k < i) (hi : i ≤ l.length) : fldE (l.take i) k ((l.take i).getD k default) = fldE l k (l.getD k default) := by
  have e1 : (l.take i).getD k default = l.getD k default := by
    rw [List.getD_eq_getElem?_getD, List.getD_eq_getElem?_getD, List.getElem?_take, if_pos hk]
  rw [e1]
  unfold fldE dupN
  rw [List.take_take, Nat.min_eq_left (by omega)]
theorem rhdrE_ok (h : Header) (hn : h.name.length < 2 ^ 40) (hf : ∀ f ∈ h.fields, f.name.length < 2 ^ 40) : pureI Φ f_ref11_Check [.agg (Header.c h)] = some (.val (.int .i64 (hdrE h))) := by
  rw [pureI_go (fn := c_ref11_Check) rfl rfl]
  have n1 := rIdent_ok h.name hn
  cases q1 : idS h.name with
  | false => rw [q1] at n1; simp [c_ref11_Check, Header.e, n1, hdrE, q1]
  | true =>
  rw [q1] at n1
  by_cases z0 : h.fields.length = 0
  · simp [c_ref11_Check, Header.e, n1, hdrE, q1, z0]
  by_cases z1 : 12 < h.fields.length
  · simp [c_ref11_Check, Header.e, n1, hdrE, q1, z0, z1]
  have hE : hdrE h = hdrR h.fields 0 := by simp [hdrE, q1, z0, z1, hdrR, fldsE] <;> rfl
  rw [hE]
  simp [c_ref11_Check, Header.e, n1, z0, z1]
  refine loop_nx h.fields.length (fun _ => []) 0 (fun i e => look 1 e = some (.iptr 2 [Header.c h] 0 0) ∧ look 3 e = some (.int .i64 (wSum (h.fields.take i))) ∧ look 4 e = some (.int .i64 i) ∧
      ∀ k, k < i → fldE h.fields k (h.fields.getD k default) = 0)
    (fun i => some (Rt.val (.int .i64 (hdrR h.fields i)))) ?_ ?_ 0 _ 0 (Nat.zero_le _) (Nat.le_refl _) ?_
  · rintro i e n L hi hL _ ⟨h1, h3, h4, hz⟩ ih
    have hw : IntKind.wrap .i64 ((i : Int) + 1) = ((i + 1 : Nat) : Int) := wrap64 (by omega) (by omega)
    have nf := rIdent_ok h.fields[i].name (hf _ (List.getElem_mem hi))
    have ni := fieldIndex_ok h h.fields[i].name (by omega)
    obtain ⟨at', k1, k2⟩ := fxO_lt (q := fun f : Fld => decide (f.name = h.fields[i].name)) hi (by simp) i 0 (by omega)
    rw [k1] at ni
    rw [any_zero, show (h.fields.take i).any (fun f => decide (f.name = h.fields[i].name)) = dupN Fld.name h.fields i h.fields[i] from rfl] at k2
    simp only [fxT, Header.e] at ni
    rw [Header.e] at h1
    cases p1 : idS h.fields[i].name with
    | false =>
      rw [p1] at nf
      rw [hdrR_hit hi (by simp [fldE, p1])]
      simp [c_ref11_Check_l0, Fld.e, h1, h4, hi, nf, ni, fldE, p1]
    | true =>
    rw [p1] at nf
    by_cases w1 : h.fields[i].width < 1
    · rw [hdrR_hit hi (by simp [fldE, p1, wBad, w1])]
      simp [c_ref11_Check_l0, Fld.e, h1, h4, hi, nf, ni, fldE, p1, wBad, w1]
    by_cases w2 : 32 < h.fields[i].width
    · rw [hdrR_hit hi (by simp [fldE, p1, wBad, w2])]
      simp [c_ref11_Check_l0, Fld.e, h1, h4, hi, nf, ni, fldE, p1, wBad, w1, w2]
    cases p3 : dupN Fld.name h.fields i h.fields[i] with
    | true =>
      rw [p3] at k2
      have k3 : at' < i := by simpa using k2
      rw [hdrR_hit hi (by simp [fldE, p1, wBad, w1, w2, p3])]
      simp [c_ref11_Check_l0, Fld.e, h1, h4, hi, nf, ni, fldE, p1, wBad, w1, w2, p3, k3]
    | false =>
      rw [p3] at k2
      have k3 : ¬ at' < i := by simpa using k2
      have hz' : ∀ k, k < i + 1 → fldE h.fields k (h.fields.getD k default) = 0 := by
        intro k hk
        rcases Nat.lt_succ_iff_lt_or_eq.1 hk with hlt | rfl
        · exact hz k hlt
        · rw [List.getD_eq_getElem?_getD, List.getElem?_eq_getElem hi, Option.getD_some]
          simp [fldE, p1, wBad, w1, w2, p3]
      have hs := wSum_range (h.fields.take (i + 1)) (by intro k hk; simp at hk; rw [fldE_take (by omega) (by omega)]; exact hz' k (by omega)) (i + 1) (by simp; omega)
      rw [List.take_take, Nat.min_self, wSum_take hi] at hs
      have hw3 : IntKind.wrap .i64 (wSum (h.fields.take i) + h.fields[i].width) = wSum (h.fields.take i) + h.fields[i].width := wrap64 (by omega) (by omega)
      rw [hdrR_miss hi (by simp [fldE, p1, wBad, w1, w2, p3])]
      simp [c_ref11_Check_l0, Fld.e, h1, h3, h4, hi, nf, ni, w1, w2, k3, hw, hw3]
      exact ih _ _ (Nat.zero_le _) ⟨by simp [h1, Header.e], by simp [wSum_take hi], by simp, hz'⟩
  · rintro e n L hL _ ⟨h1, h3, h4, hz⟩
    have hs := (wSum_range h.fields hz h.fields.length (Nat.le_refl _)).1
    rw [List.take_length] at h3 hs
    have e3 : wSum h.fields % 8 = (wSum h.fields).tmod 8 := (Int.tmod_eq_emod_of_nonneg hs).symm
    rw [hdrR_end, e3]
    rw [Header.e] at h1
    by_cases z : (wSum h.fields).tmod 8 = 0
    · simp [c_ref11_Check_l0, c_ref11_Check_k1, h1, h3, h4, hL, z]
    · simp [c_ref11_Check_l0, c_ref11_Check_k1, h1, h3, h4, hL, z]
  · simp [Header.e, wSum]
theorem rregE_ok (r : Register) (hs : r.name.length < 2 ^ 40) : pureI Φ f_ref15_Check [.agg (Register.c r)] = some (.val (.int .i64 (regE r))) := by
  rw [pureI_go (fn := c_ref15_Check) rfl rfl]
  have h1 := rIdent_ok r.name hs
  cases q1 : idS r.name with
  | false => rw [q1] at h1; simp [c_ref15_Check, Register.e, h1, regE, q1]
  | true =>
    rw [q1] at h1
    by_cases w1 : r.width < 1
    · simp [c_ref15_Check, Register.e, h1, regE, q1, wBad, w1]
    by_cases w2 : 32 < r.width
    · simp [c_ref15_Check, Register.e, h1, regE, q1, wBad, w1, w2]
    by_cases z1 : r.size < 1
    · simp [c_ref15_Check, Register.e, h1, regE, q1, wBad, w1, w2, z1]
    by_cases z2 : 64 < r.size
    · simp [c_ref15_Check, Register.e, h1, regE, q1, wBad, w1, w2, z1, z2]
    simp [c_ref15_Check, Register.e, h1, regE, q1, wBad, w1, w2, z1, z2]
end Go.Av
