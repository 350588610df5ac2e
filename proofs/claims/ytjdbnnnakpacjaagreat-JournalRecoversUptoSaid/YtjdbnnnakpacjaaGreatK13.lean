/-
  Parser states and the deparser: the program's answers.
-/
import Derived.Test.YtjdbnnnakpacjaaGreatK12
set_option linter.unusedVariables false
set_option linter.unusedSimpArgs false
set_option linter.constructorNameAsVariable false
namespace Go.Av
set_option maxRecDepth 4000
theorem bv_andNot (x y : BitVec 32) : x &&& ~~~y = 0#32 ↔ x &&& y = x := by
  constructor
  · intro h
    apply BitVec.eq_of_getLsbD_eq
    intro i hi
    have := congrArg (·.getLsbD i) h
    simp [hi] at this ⊢
    exact this
  · intro h
    apply BitVec.eq_of_getLsbD_eq
    intro i hi
    have := congrArg (·.getLsbD i) h
    simp [hi] at this ⊢
    exact this
theorem wrap32 {n : Int} (h1 : 0 ≤ n) (h2 : n < 4294967296) : IntKind.wrap .u32 n = n := by
  have e1 : (2 : Int) ^ 32 = 4294967296 := rfl
  simp only [IntKind.wrap, IntKind.bits, IntKind.signed, Bool.false_and, e1]
  rw [if_neg (by simp)]
  omega
theorem ofInt32 {v : Int} (h : ok32 0 v) : BitVec.ofInt 32 v = BitVec.ofNat 32 v.toNat := by
  obtain ⟨h1, h2⟩ := h
  apply BitVec.eq_of_toNat_eq
  simp
  omega
theorem iandNot_zero {v m : Int} (hv : ok32 0 v) (hm : ok32 0 m) : iandNot .u32 v m = 0 ↔ v.toNat &&& m.toNat = v.toNat := by
  have hv2 := hv.2
  have hm2 := hm.2
  unfold iandNot
  show IntKind.wrap .u32 ((BitVec.ofInt 32 v &&& ~~~BitVec.ofInt 32 m).toNat : Int) = 0 ↔ _
  have hlt := (BitVec.ofInt 32 v &&& ~~~BitVec.ofInt 32 m).isLt
  rw [wrap32 (by omega) (by omega)]
  rw [show (((BitVec.ofInt 32 v &&& ~~~BitVec.ofInt 32 m).toNat : Int) = 0) ↔ (BitVec.ofInt 32 v &&& ~~~BitVec.ofInt 32 m) = 0#32 by
    rw [← BitVec.toNat_inj]; simp only [BitVec.toNat_ofNat]; omega]
  rw [bv_andNot, ofInt32 hv, ofInt32 hm, ← BitVec.toNat_inj, BitVec.toNat_and, BitVec.toNat_ofNat, BitVec.toNat_ofNat, Nat.mod_eq_of_lt (by omega), Nat.mod_eq_of_lt (by omega)]
theorem iand_self {v m : Int} (hv : ok32 0 v) (hm : ok32 0 m) : iand .u32 v m = v ↔ v.toNat &&& m.toNat = v.toNat := by
  have hv1 := hv.1
  have hv2 := hv.2
  have hm2 := hm.2
  unfold iand
  show IntKind.wrap .u32 ((BitVec.ofInt 32 v &&& BitVec.ofInt 32 m).toNat : Int) = v ↔ _
  have hlt := (BitVec.ofInt 32 v &&& BitVec.ofInt 32 m).isLt
  rw [wrap32 (by omega) (by omega), ofInt32 hv, ofInt32 hm, BitVec.toNat_and, BitVec.toNat_ofNat, BitVec.toNat_ofNat, Nat.mod_eq_of_lt (by omega), Nat.mod_eq_of_lt (by omega)]
  omega
theorem leads_ok (p : Prg) (s : Nat) (n : Int) : pureI Φ f_parser_leads [.agg (Prg.c p), .int .i64 s, .int .i64 n] = some (.val (.bool (leads p s n))) := by
  rw [pureI_go (fn := c_parser_leads) rfl rfl]
  by_cases n1 : n = -1
  · simp [c_parser_leads, Prg.e, leads, n1]
  by_cases n2 : n = -2
  · simp [c_parser_leads, Prg.e, leads, n2]
  by_cases n3 : (s : Int) < n
  · simp [c_parser_leads, Prg.e, leads, n1, n2, n3]
  · simp [c_parser_leads, Prg.e, leads, n1, n2, n3]
theorem caseE_ok (p : Prg) (s : Nat) (hs : s < p.states.length) (c : SelectCase) (h1 : ok32 0 c.value) (h2 : ok32 0 c.mask) : pureI Φ f_parser_checkCase [.agg (Prg.c p), .int .i64 s, .agg (SelectCase.c c)] = some (.val (.int .i64 (caseE p s p.states[s] c))) := by
  rw [pureI_go (fn := c_parser_checkCase) rfl rfl]
  have hw := wid_ok p p.states[s].on.header p.states[s].on.field
  have f1 := fits_ok c.value (wid p p.states[s].on.header p.states[s].on.field)
  have f2 := fits_ok c.mask (wid p p.states[s].on.header p.states[s].on.field)
  have hl := leads_ok p s c.next
  have ha := iandNot_zero h1 h2
  simp only [Prg.e] at hw hl
  cases q1 : fits c.value (wid p p.states[s].on.header p.states[s].on.field) with
  | false => rw [q1] at f1; simp [c_parser_checkCase, Prg.e, SelectCase.e, ParserState.e, hs, hw, f1, caseE, q1]
  | true =>
  rw [q1] at f1
  cases q2 : fits c.mask (wid p p.states[s].on.header p.states[s].on.field) with
  | false => rw [q2] at f2; simp [c_parser_checkCase, Prg.e, SelectCase.e, ParserState.e, hs, hw, f1, f2, caseE, q1, q2]
  | true =>
  rw [q2] at f2
  by_cases z : iandNot .u32 c.value c.mask = 0
  · have z' := ha.1 z
    cases q3 : leads p s c.next with
    | true => rw [q3] at hl; simp [c_parser_checkCase, Prg.e, SelectCase.e, ParserState.e, hs, hw, f1, f2, hl, caseE, q1, q2, q3, z, z']
    | false => rw [q3] at hl; simp [c_parser_checkCase, Prg.e, SelectCase.e, ParserState.e, hs, hw, f1, f2, hl, caseE, q1, q2, q3, z, z']
  · have z' : ¬ (c.value.toNat &&& c.mask.toNat = c.value.toNat) := fun h => z (ha.2 h)
    simp [c_parser_checkCase, Prg.e, SelectCase.e, ParserState.e, hs, hw, f1, f2, caseE, q1, q2, z, z']
def caseG (p : Prg) (s : Nat) (x : ParserState) (i : Nat) : Option (Int × Int) := (x.cases[i]?).bind fun c => if caseE p s x c = 0 then none else some ((i : Int), caseE p s x c)
def stF (p : Prg) (s : Nat) (x : ParserState) : Int × Int := if leads p s x.dflt then (0, 0) else (-1, 14)
def stK (p : Prg) (s : Nat) (x : ParserState) : Int × Int :=
  if x.select = true ∧ wid p x.on.header x.on.field = 0 then (-1, 8)
  else if x.select = false ∧ 0 < x.cases.length then (-1, 11)
  else (fe (caseG p s x) x.cases.length 0).getD (stF p s x)
theorem stE_eq (p : Prg) (s : Nat) (x : ParserState) : stE p s x = if 4 < x.extract.length ∨ 8 < x.cases.length then (-1, 12)
    else if x.extract.any (fun h => decide (h < 0) || decide ((p.headers.length : Int) ≤ h)) then (-1, 8) else stK p s x := by
  unfold stE stK
  show (if _ then _ else if _ then _ else if _ then _ else if _ then _ else (match fe (caseG p s x) x.cases.length 0 with | some e => e | none => stF p s x)) = _
  cases fe (caseG p s x) x.cases.length 0 <;> rfl
theorem stK_ok (p : Prg) (s : Nat) (hs : s < p.states.length) (hv : ∀ c ∈ p.states[s].cases, ok32 0 c.value ∧ ok32 0 c.mask) (hl : p.states[s].cases.length < 2 ^ 40) (e : Env) (n : Nat)
    (h1 : look 1 e = some (.int .i64 s)) (h2 : look 2 e = some (.iptr 9 [Prg.c p] 0 0)) (h6 : look 6 e = some (.iptr 7 [ParserState.c p.states[s]] 0 0)) :
    go Φ (finP [.tmp 4, .tmp 5]) [.c c_parser_checkState_k3] .normal ⟨e, ⟨[], n⟩⟩ = some (.val (.tup [.int .i64 (stK p s p.states[s]).1, .int .i64 (stK p s p.states[s]).2])) := by
  have hw := wid_ok p p.states[s].on.header p.states[s].on.field
  simp only [Prg.e] at hw
  rw [Prg.e] at h2
  rw [ParserState.e] at h6
  cases q : p.states[s].select with
  | true =>
    rw [q] at h6
    by_cases z : wid p p.states[s].on.header p.states[s].on.field = 0
    · rw [z] at hw
      simp [c_parser_checkState_k3, h2, h6, hw, stK, q, z]
    rw [show stK p s p.states[s] = (fe (caseG p s p.states[s]) p.states[s].cases.length 0).getD (stF p s p.states[s]) by simp [stK, q, z]]
    simp [c_parser_checkState_k3, h2, h6, hw, z]
    refine loop_nx p.states[s].cases.length (fun _ => []) 0 (fun i e => look 1 e = some (.int .i64 s) ∧ look 2 e = some (.iptr 9 [Prg.c p] 0 0) ∧ look 6 e = some (.iptr 7 [ParserState.c p.states[s]] 0 0) ∧ look 65 e = some (.slice 3 (p.states[s].cases.map SelectCase.c)) ∧ look 66 e = some (.int .i64 p.states[s].cases.length) ∧ look 67 e = some (.int .i64 i))
      (fun i => some (Rt.val (.tup [.int .i64 ((fe (caseG p s p.states[s]) p.states[s].cases.length i).getD (stF p s p.states[s])).1, .int .i64 ((fe (caseG p s p.states[s]) p.states[s].cases.length i).getD (stF p s p.states[s])).2]))) ?_ ?_ 0 _ _ (Nat.zero_le _) (Nat.zero_le _) ?_
    · rintro i e n L hi hL _ ⟨h1, h2, h6, h65, h66, h67⟩ ih
      have hw : IntKind.wrap .i64 ((i : Int) + 1) = ((i + 1 : Nat) : Int) := wrap64 (by omega) (by omega)
      have hc := hv _ (List.getElem_mem hi)
      have hE := caseE_ok p s hs p.states[s].cases[i] hc.1 hc.2
      simp only [Prg.e, SelectCase.e] at hE
      rw [Prg.e] at h2
      by_cases y : caseE p s p.states[s] p.states[s].cases[i] = 0
      · rw [y] at hE
        rw [fe_miss hi (by simp [caseG, hi, y])]
        simp [c_parser_checkState_l1, SelectCase.e, h1, h2, h65, h66, h67, hi, hE, hw]
        exact ih _ _ (Nat.zero_le _) ⟨by simp [h1], by simp [h2, Prg.e], by simp [h6], by simp [h65], by simp [h66], by simp⟩
      · rw [fe_hit (x := ((i : Int), caseE p s p.states[s] p.states[s].cases[i])) hi (by simp [caseG, hi, y])]
        simp [c_parser_checkState_l1, SelectCase.e, h1, h2, h65, h66, h67, hi, hE, y]
    · rintro e n L hL _ ⟨h1, h2, h6, h65, h66, h67⟩
      rw [fe_end]
      have hd := leads_ok p s p.states[s].dflt
      simp only [Prg.e] at hd
      rw [Prg.e] at h2
      rw [ParserState.e] at h6
      cases y : leads p s p.states[s].dflt with
      | true => rw [y] at hd; simp [c_parser_checkState_l1, c_parser_checkState_k2, h1, h2, h6, h66, h67, hL, hd, stF, y]
      | false => rw [y] at hd; simp [c_parser_checkState_l1, c_parser_checkState_k2, h1, h2, h6, h66, h67, hL, hd, stF, y]
    · simp [h1, h2, h6, Prg.e, ParserState.e, q]
  | false =>
    rw [q] at h6
    by_cases z : 0 < p.states[s].cases.length
    · simp [c_parser_checkState_k3, h6, stK, q, z]
    have z0 : p.states[s].cases.length = 0 := by omega
    rw [show stK p s p.states[s] = stF p s p.states[s] by simp [stK, q, z0, fe_end]]
    simp [c_parser_checkState_k3, h6, z0]
    rw [go_loop]
    have hd := leads_ok p s p.states[s].dflt
    simp only [Prg.e] at hd
    cases y : leads p s p.states[s].dflt with
    | true => rw [y] at hd; simp [c_parser_checkState_l1, c_parser_checkState_k2, h1, h2, h6, hd, stF, y]
    | false => rw [y] at hd; simp [c_parser_checkState_l1, c_parser_checkState_k2, h1, h2, h6, hd, stF, y]
theorem stE_ok (p : Prg) (f : PrgS p) (s : Nat) (hs : s < p.states.length) : pureI Φ f_parser_checkState [.agg (Prg.c p), .int .i64 s] = some (.val (.tup [.int .i64 (stE p s p.states[s]).1, .int .i64 (stE p s p.states[s]).2])) := by
  rw [pureI_go (fn := c_parser_checkState) rfl rfl, stE_eq]
  by_cases z0 : 4 < p.states[s].extract.length
  · simp [c_parser_checkState, Prg.e, ParserState.e, hs, z0]
  by_cases z1 : 8 < p.states[s].cases.length
  · simp [c_parser_checkState, Prg.e, ParserState.e, hs, z0, z1]
  rw [if_neg (by omega)]
  generalize hX : (if p.states[s].extract.any (fun h => decide (h < 0) || decide ((p.headers.length : Int) ≤ h)) = true then ((-1 : Int), (8 : Int)) else stK p s p.states[s]) = X
  simp [c_parser_checkState, Prg.e, ParserState.e, hs, z0, z1]
  refine (loop_any p.states[s].extract (fun h => decide (h < 0) || decide ((p.headers.length : Int) ≤ h)) (some (Rt.val (.tup [.int .i64 (-1), .int .i64 8]))) (some (Rt.val (.tup [.int .i64 (stK p s p.states[s]).1, .int .i64 (stK p s p.states[s]).2])))
    (fun i e H => look 1 e = some (.int .i64 s) ∧ look 2 e = some (.iptr 9 [Prg.c p] 0 0) ∧ look 6 e = some (.iptr 7 [ParserState.c p.states[s]] 0 0) ∧ look 28 e = some (.slice 1 (p.states[s].extract.map cI)) ∧ look 29 e = some (.int .i64 p.states[s].extract.length) ∧ look 30 e = some (.int .i64 i) ∧ ∃ n, H = ⟨[], n⟩) ?_ ?_ ?_ _ _ ?_).trans ?_
  · rintro i e _ L hi hL ⟨h1, h2, h6, h28, h29, h30, n, rfl⟩ hb
    rw [Prg.e] at h2
    simp only [Bool.or_eq_true, decide_eq_true_eq] at hb
    by_cases y0 : p.states[s].extract[i] < 0
    · simp [c_parser_checkState_l0, cI, h28, h29, h30, hi, y0]
    · have y1 : (p.headers.length : Int) ≤ p.states[s].extract[i] := by omega
      simp [c_parser_checkState_l0, cI, h2, h28, h29, h30, hi, y0, y1]
  · rintro i e _ L X hi hL ⟨h1, h2, h6, h28, h29, h30, n, rfl⟩ hb ih
    have hw : IntKind.wrap .i64 ((i : Int) + 1) = ((i + 1 : Nat) : Int) := wrap64 (by omega) (by omega)
    rw [Prg.e] at h2
    simp only [Bool.or_eq_false_iff, decide_eq_false_iff_not] at hb
    simp [c_parser_checkState_l0, cI, h2, h28, h29, h30, hi, hb, hw]
    exact ih _ _ ⟨by simp [h1], by simp [h2, Prg.e], by simp [h6], by simp [h28], by simp [h29], by simp, n, rfl⟩
  · rintro e _ L hL ⟨h1, h2, h6, h28, h29, h30, n, rfl⟩
    simp [c_parser_checkState_l0, h29, h30, hL]
    refine stK_ok p s hs (fun c hc => f.sv _ (List.getElem_mem hs) c hc) (f.sc _ (List.getElem_mem hs)) _ _ ?_ ?_ ?_
    · simp [h1]
    · simp [h2]
    · simp [h6]
  · simp [Prg.e, ParserState.e]
  · rw [← hX]
    cases p.states[s].extract.any (fun h => decide (h < 0) || decide ((p.headers.length : Int) ≤ h)) <;> rfl
end Go.Av
