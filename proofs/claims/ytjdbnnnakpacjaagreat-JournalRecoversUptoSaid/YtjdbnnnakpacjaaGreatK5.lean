/-
  The limits, the headers and the metadata of a program: the program's answers.
-/
import Derived.Test.YtjdbnnnakpacjaaGreatK4
set_option linter.unusedVariables false
set_option linter.unusedSimpArgs false
set_option linter.constructorNameAsVariable false
namespace Go.Av
set_option maxRecDepth 4000
-- lengths that no memory has are left aside
structure PrgS (p : Prg) : Prop where
  n : p.name.length < 2 ^ 40
  h : p.headers.length < 2 ^ 40
  hn : ∀ h ∈ p.headers, h.name.length < 2 ^ 40
  hf : ∀ h ∈ p.headers, ∀ f ∈ h.fields, f.name.length < 2 ^ 40
  hl : ∀ h ∈ p.headers, h.fields.length < 2 ^ 40
  m : p.metadata.length < 2 ^ 40
  mn : ∀ f ∈ p.metadata, f.name.length < 2 ^ 40
  r : p.registers.length < 2 ^ 40
  rn : ∀ r ∈ p.registers, r.name.length < 2 ^ 40
  a : p.actions.length < 2 ^ 40
  an : ∀ a ∈ p.actions, a.name.length < 2 ^ 40
  ap : ∀ a ∈ p.actions, a.params.length < 2 ^ 40
  apn : ∀ a ∈ p.actions, ∀ f ∈ a.params, f.name.length < 2 ^ 40
  ab : ∀ a ∈ p.actions, a.body.length < 2 ^ 40
  ai : ∀ a ∈ p.actions, ∀ s ∈ a.body, s.index.length < 2 ^ 40
  av : ∀ a ∈ p.actions, ∀ s ∈ a.body, s.value.length < 2 ^ 40
  t : p.tables.length < 2 ^ 40
  tn : ∀ t ∈ p.tables, t.name.length < 2 ^ 40
  tk : ∀ t ∈ p.tables, t.keys.length < 2 ^ 40
  ta : ∀ t ∈ p.tables, t.actions.length < 2 ^ 40
  tg : ∀ t ∈ p.tables, t.dflt.args.length < 2 ^ 40
  s : p.states.length < 2 ^ 40
  sn : ∀ s ∈ p.states, s.name.length < 2 ^ 40
  se : ∀ s ∈ p.states, s.extract.length < 2 ^ 40
  sc : ∀ s ∈ p.states, s.cases.length < 2 ^ 40
  sv : ∀ s ∈ p.states, ∀ c ∈ s.cases, ok32 bulkMax c.value ∧ ok32 bulkMax c.mask
  c : p.control.length < 2 ^ 40
  co : ∀ x ∈ p.control, ControlNode.Ok bulkMax x
  d : p.deparser.length < 2 ^ 40
theorem PrgS_of {p : Prg} (o : p.Ok bulkMax) : PrgS p := by
  obtain ⟨o0, o1, o2, o3, o4, o5, o6, o7, o8⟩ := o
  have e := bulkMax_eq
  simp only [okStr, okL, Header.Ok, Fld.Ok, Register.Ok, Action.Ok, Statement.Ok, Tbl.Ok, ActionCall.Ok, ParserState.Ok, SelectCase.Ok] at o0 o1 o2 o3 o4 o5 o6 o7 o8
  refine ⟨by omega, by omega, ?_, ?_, ?_, by omega, ?_, by omega, ?_, by omega, ?_, ?_, ?_, ?_, ?_, ?_, by omega, ?_, ?_, ?_, ?_, by omega, ?_, ?_, ?_, ?_, by omega, o7.2, by omega⟩
  · intro h hh; have := (o1.2 h hh).1; omega
  · intro h hh f hf; have := ((o1.2 h hh).2.2 f hf).1; omega
  · intro h hh; have := (o1.2 h hh).2.1; omega
  · intro f hf; have := (o2.2 f hf).1; omega
  · intro r hr; have := (o3.2 r hr).1; omega
  · intro a ha; have := (o4.2 a ha).1; omega
  · intro a ha; have := (o4.2 a ha).2.1.1; omega
  · intro a ha f hf; have := ((o4.2 a ha).2.1.2 f hf).1; omega
  · intro a ha; have := (o4.2 a ha).2.2.1; omega
  · intro a ha s hs; have := ((o4.2 a ha).2.2.2 s hs).2.2.2.2.1.1; omega
  · intro a ha s hs; have := ((o4.2 a ha).2.2.2 s hs).2.2.2.2.2.1; omega
  · intro t ht; have := (o5.2 t ht).1; omega
  · intro t ht; have := (o5.2 t ht).2.1.1; omega
  · intro t ht; have := (o5.2 t ht).2.2.1.1; omega
  · intro t ht; have := (o5.2 t ht).2.2.2.1.2.1; omega
  · intro s hs; have := (o6.2 s hs).1; omega
  · intro s hs; have := (o6.2 s hs).2.1.1; omega
  · intro s hs; have := (o6.2 s hs).2.2.2.1.1; omega
  · intro s hs c hc; have := (o6.2 s hs).2.2.2.1.2 c hc; exact ⟨this.1, this.2.1⟩
def prgP (p : Prg) : AV := .iptr 9 [[.str p.name, .slice 2 (p.headers.map Header.c), .slice 2 (p.metadata.map Fld.c), .slice 3 (p.registers.map Register.c), .slice 3 (p.actions.map Action.c), .slice 6 (p.tables.map Tbl.c), .slice 7 (p.states.map ParserState.c), .slice 5 (p.control.map ControlNode.c), .slice 1 (p.deparser.map cI)]] 0 0
theorem limits_ok (p : Prg) (f : PrgS p) : pureI Φ f_program_checkLimits [.agg (Prg.c p)] = some (rtD (limD p)) := by
  rw [pureI_go (fn := c_program_checkLimits) rfl rfl]
  have n1 := identifier_ok p.name f.n
  cases q1 : idS p.name with
  | false => rw [q1] at n1; simp [c_program_checkLimits, Prg.e, n1, when_ok, require_pan, limD, q1, rtD]
  | true =>
  rw [q1] at n1
  by_cases z1 : 8 < p.headers.length
  · simp [c_program_checkLimits, Prg.e, n1, when_ok, require_zero, require_pan, limD, q1, rtD, z1]
  by_cases z2 : 4 < p.registers.length
  · simp [c_program_checkLimits, Prg.e, n1, when_ok, require_zero, require_pan, limD, q1, rtD, z1, z2]
  by_cases z3 : 16 < p.actions.length
  · simp [c_program_checkLimits, Prg.e, n1, when_ok, require_zero, require_pan, limD, q1, rtD, z1, z2, z3]
  by_cases z4 : 12 < p.tables.length
  · simp [c_program_checkLimits, Prg.e, n1, when_ok, require_zero, require_pan, limD, q1, rtD, z1, z2, z3, z4]
  simp [c_program_checkLimits, Prg.e, n1, when_ok, require_zero, limD, q1, rtD, z1, z2, z3, z4]
def hdrG (p : Prg) (i : Nat) : Option Dg := (p.headers[i]?).bind fun h => if hdrD1 p i h = 0 then none else some (hdrD1 p i h, 1, (i : Int), 0)
theorem checkHeaders_ok (p : Prg) (f : PrgS p) : pureI Φ f_program_checkHeaders [.agg (Prg.c p)] = some (rtD (hdrD p)) := by
  rw [pureI_go (fn := c_program_checkHeaders) rfl rfl, show hdrD p = fe (hdrG p) p.headers.length 0 from rfl]
  have e1 := namesHeader_ok p.headers f.h
  simp [c_program_checkHeaders, Prg.e, e1]
  refine loop_nx p.headers.length (fun _ => []) 0 (fun i e => look 2 e = some (.slice 1 (p.headers.map fun x => [.str x.name])) ∧ look 9 e = some (.slice 2 (p.headers.map Header.c)) ∧ look 10 e = some (.int .i64 p.headers.length) ∧ look 11 e = some (.int .i64 i))
    (fun i => some (rtD (fe (hdrG p) p.headers.length i))) ?_ ?_ 0 _ 0 (Nat.zero_le _) (Nat.le_refl _) ?_
  · rintro i e n L hi hL _ ⟨h2, h9, h10, h11⟩ ih
    have hlen := f.h
    have hw : IntKind.wrap .i64 ((i : Int) + 1) = ((i + 1 : Nat) : Int) := wrap64 (by omega) (by omega)
    have hm := List.getElem_mem hi
    have eh := hdrE_ok p.headers[i] (f.hn _ hm) (f.hf _ hm)
    simp only [Header.e] at eh
    have er := repeated_ok Header.name p.headers i hi f.h
    by_cases z1 : hdrE p.headers[i] = 0
    rotate_left
    · rw [fe_hit (x := (hdrE p.headers[i], 1, (i : Int), 0)) hi (by simp [hdrG, hi, hdrD1, z1])]
      simp [c_program_checkHeaders_l0, Header.e, h9, h10, h11, hi, eh, require_pan, z1, rtD]
    by_cases z2 : p.headers[i].name = [109, 101, 116, 97]
    · rw [fe_hit (x := (6, 1, (i : Int), 0)) hi (by simp [hdrG, hi, hdrD1, z1, z2])]
      rw [z2] at eh
      simp [c_program_checkHeaders_l0, Header.e, h9, h10, h11, hi, eh, require_pan, require_zero, when_ok, z1, z2, rtD]
    cases z3 : dupN Header.name p.headers i p.headers[i] with
    | true =>
      rw [z3] at er
      rw [fe_hit (x := (7, 1, (i : Int), 0)) hi (by simp [hdrG, hi, hdrD1, z1, z2, z3])]
      simp [c_program_checkHeaders_l0, Header.e, h2, h9, h10, h11, hi, eh, er, require_pan, require_zero, when_ok, z1, z2, rtD]
    | false =>
      rw [z3] at er
      rw [fe_miss hi (by simp [hdrG, hi, hdrD1, z1, z2, z3])]
      simp [c_program_checkHeaders_l0, Header.e, h2, h9, h10, h11, hi, eh, er, require_zero, when_ok, z1, z2, hw]
      exact ih _ _ (Nat.zero_le _) ⟨by simp [h2], by simp [h9], by simp [h10], by simp⟩
  · rintro e n L hL _ ⟨h2, h9, h10, h11⟩
    rw [fe_end]
    simp [c_program_checkHeaders_l0, h10, h11, hL, rtD]
  · simp
end Go.Av
