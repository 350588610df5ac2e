/-
  The parser and the deparser: the program's answers.
-/
import Derived.Test.YtjdbnnnakpacjaaGreatK13
set_option linter.unusedVariables false
set_option linter.unusedSimpArgs false
set_option linter.constructorNameAsVariable false
namespace Go.Av
set_option maxRecDepth 4000
theorem contains_map {α β : Type} [BEq β] [LawfulBEq β] [DecidableEq β] (f : α → β) (a : β) : ∀ l : List α, (l.map f).contains a = l.any fun y => decide (f y = a)
  | [] => by simp
  | x :: l => by
    have ih := contains_map f a l
    simp only [List.map_cons, List.contains_cons, List.any_cons, ih]
    congr 1
    by_cases h : a = f x
    · subst h; simp
    · have h2 : ¬ f x = a := fun e => h e.symm
      simp [h, h2]
def parG (p : Prg) (s : Nat) : Option (Int × Int × Int) := (p.states[s]?).bind fun x => if idS x.name = false then some ((s : Int), (-1 : Int), (6 : Int)) else if dupN ParserState.name p.states s x then some ((s : Int), -1, 7)
    else if (stE p s x).2 = 0 then none else some ((s : Int), (stE p s x).1, (stE p s x).2)
def tup3 (x : Int × Int × Int) : Rt := .val (.tup [.int .i64 x.1, .int .i64 x.2.1, .int .i64 x.2.2])
theorem parE_ok (p : Prg) (f : PrgS p) : pureI Φ f_parser_Check [.agg (Prg.c p)] = some (tup3 (parE p)) := by
  rw [pureI_go (fn := c_parser_Check) rfl rfl]
  by_cases z0 : p.states.length = 0
  · simp [c_parser_Check, Prg.e, z0, parE, tup3]
  by_cases z1 : 12 < p.states.length
  · simp [c_parser_Check, Prg.e, z0, z1, parE, tup3]
  have hE : parE p = (fe (parG p) p.states.length 0).getD (0, 0, 0) := by unfold parE; rw [if_neg z0, if_neg z1]; rfl
  rw [hE]
  simp [c_parser_Check, Prg.e, z0, z1]
  refine loop_nx p.states.length (fun i => [(0, .map (setS ((p.states.map (·.name)).take i)))]) 1 (fun i e => look 1 e = some (.iptr 9 [Prg.c p] 0 0) ∧ look 5 e = some (.map 0) ∧ look 22 e = some (.slice 7 (p.states.map ParserState.c)) ∧ look 23 e = some (.int .i64 p.states.length) ∧ look 24 e = some (.int .i64 i))
    (fun i => some (tup3 ((fe (parG p) p.states.length i).getD (0, 0, 0)))) ?_ ?_ 0 _ 1 (Nat.zero_le _) (Nat.le_refl _) ?_
  · rintro i e n L hi hL hn ⟨h1, h5, h22, h23, h24⟩ ih
    have hw : IntKind.wrap .i64 ((i : Int) + 1) = ((i + 1 : Nat) : Int) := wrap64 (by omega) (by omega)
    have hn0 : ¬ (0 = n) := by omega
    have hn1 : ¬ (n = 0) := by omega
    have nf := isIdent_ok p.states[i].name (f.sn _ (List.getElem_mem hi))
    have hs := stE_ok p f i hi
    simp only [Prg.e] at hs
    rw [Prg.e] at h1
    cases q1 : idS p.states[i].name with
    | false =>
      rw [q1] at nf
      rw [fe_hit (x := ((i : Int), -1, 6)) hi (by simp [parG, hi, q1])]
      simp [c_parser_Check_l0, ParserState.e, h22, h23, h24, hi, hn0, nf, tup3]
    | true =>
    rw [q1] at nf
    have hd : ((p.states.map (·.name)).take i).contains p.states[i].name = dupN ParserState.name p.states i p.states[i] := by
      rw [← List.map_take, contains_map]; rfl
    have hfnd := setS_find p.states[i].name ((p.states.map (·.name)).take i)
    rw [hd] at hfnd
    cases q2 : dupN ParserState.name p.states i p.states[i] with
    | true =>
      rw [q2] at hfnd
      rw [fe_hit (x := ((i : Int), -1, 7)) hi (by simp [parG, hi, q1, q2])]
      simp [c_parser_Check_l0, ParserState.e, h5, h22, h23, h24, hi, hn0, nf, hfnd, tup3]
    | false =>
      rw [q2] at hfnd hd
      have hput := setS_put p.states[i].name ((p.states.map (·.name)).take i) hd
      rw [show (p.states.map (·.name)).take i ++ [p.states[i].name] = (p.states.map (·.name)).take (i + 1) from (take_map_succ hi).symm] at hput
      by_cases y : (stE p i p.states[i]).2 = 0
      · rw [y] at hs
        rw [fe_miss hi (by simp [parG, hi, q1, q2, y])]
        simp [c_parser_Check_l0, ParserState.e, h1, h5, h22, h23, h24, hi, hn0, nf, hfnd, hput, hs, hw]
        exact ih _ _ (by omega) ⟨by simp [h1, Prg.e], by simp [h5], by simp [h22], by simp [h23], by simp⟩
      · rw [fe_hit (x := ((i : Int), (stE p i p.states[i]).1, (stE p i p.states[i]).2)) hi (by simp [parG, hi, q1, q2, y])]
        simp [c_parser_Check_l0, ParserState.e, h1, h5, h22, h23, h24, hi, hn0, nf, hfnd, hput, hs, y, tup3]
  · rintro e n L hL hn ⟨h1, h5, h22, h23, h24⟩
    rw [fe_end]
    simp [c_parser_Check_l0, c_parser_Check_k1, h23, h24, hL, tup3]
  · simp [Prg.e]
theorem indexI_ok (l : List Int) (x : Int) (hl : l.length < 2 ^ 40) : pureI Φ f_slices_Index_int_int [.slice 1 (l.map cI), .int .i64 x] = some (.val (.int .i64 (ix (fun s => decide (x = s)) l 0))) := by
  rw [pureI_go (fn := c_slices_Index_int_int) rfl rfl]
  simp [c_slices_Index_int_int]
  refine (loop_nat0 l.length (fun i e => look 0 e = some (.slice 1 (l.map cI)) ∧ look 1 e = some (.int .i64 x) ∧ look 7 e = some (.int .i64 l.length) ∧ look 8 e = some (.int .i64 i))
    (fun i => some (.val (.int .i64 (ix (fun s => decide (x = s)) l i)))) ?_ ?_ 0 _ (Nat.zero_le _) ?_).trans (by simp)
  · rintro i e L hi hL ⟨h0, h1, h7, h8⟩ ih
    have hw : IntKind.wrap .i64 ((i : Int) + 1) = ((i + 1 : Nat) : Int) := wrap64 (by omega) (by omega)
    by_cases z : x = l[i]
    · rw [ix_hit hi (by simpa using z)]
      simp [c_slices_Index_int_int_l0, cI, h0, h1, h7, h8, hi, ← z]
    · rw [ix_miss hi (by simpa using z)]
      simp [c_slices_Index_int_int_l0, cI, h0, h1, h7, h8, hi, z, hw]
      exact ih _ ⟨by simp [h0], by simp [h1], by simp [h7], by simp⟩
  · rintro e L hL ⟨h0, h1, h7, h8⟩
    rw [ix_end]
    simp [c_slices_Index_int_int_l0, c_slices_Index_int_int_k1, h7, h8, hL]
  · simp
theorem containsI_ok (l : List Int) (x : Int) (hl : l.length < 2 ^ 40) : pureI Φ f_slices_Contains_int_int [.slice 1 (l.map cI), .int .i64 x] = some (.val (.bool (l.contains x))) := by
  rw [pureI_go (fn := c_slices_Contains_int_int) rfl rfl]
  have h := indexI_ok l x hl
  have e := ix_any (p := fun s => decide (x = s)) (l := l)
  have e2 : l.contains x = l.any fun s => decide (x = s) := by
    have := contains_map (fun y : Int => y) x l
    rw [List.map_id'] at this
    rw [this]
    congr 1
    funext y
    simp [eq_comm]
  simp [c_slices_Contains_int_int, h]
  have e3 := e.trans e2.symm
  simpa using e3
def depG (p : Prg) (i : Nat) : Option (Int × Int) := (p.deparser[i]?).bind fun h => if h < 0 ∨ (p.headers.length : Int) ≤ h then some ((i : Int), (8 : Int)) else if (p.deparser.take i).contains h then some ((i : Int), 7) else none
theorem depE_ok (p : Prg) (f : PrgS p) : pureI Φ f_deparser_Check [.agg (Prg.c p)] = some (.val (.tup [.int .i64 (depE p).1, .int .i64 (depE p).2])) := by
  rw [pureI_go (fn := c_deparser_Check) rfl rfl]
  by_cases z1 : 8 < p.deparser.length
  · simp [c_deparser_Check, Prg.e, z1, depE]
  have hE : depE p = (fe (depG p) p.deparser.length 0).getD (0, 0) := by unfold depE; rw [if_neg z1]; rfl
  rw [hE]
  simp [c_deparser_Check, Prg.e, z1]
  refine loop_nat0 p.deparser.length (fun i e => look 1 e = some (.iptr 9 [Prg.c p] 0 0) ∧ look 11 e = some (.slice 1 (p.deparser.map cI)) ∧ look 12 e = some (.int .i64 p.deparser.length) ∧ look 13 e = some (.int .i64 i))
    (fun i => some (Rt.val (.tup [.int .i64 ((fe (depG p) p.deparser.length i).getD (0, 0)).1, .int .i64 ((fe (depG p) p.deparser.length i).getD (0, 0)).2]))) ?_ ?_ 0 _ (Nat.zero_le _) ?_
  · rintro i e L hi hL ⟨h1, h11, h12, h13⟩ ih
    have hw : IntKind.wrap .i64 ((i : Int) + 1) = ((i + 1 : Nat) : Int) := wrap64 (by omega) (by omega)
    have hi' : i ≤ p.deparser.length := by omega
    rw [Prg.e] at h1
    by_cases y0 : p.deparser[i] < 0
    · rw [fe_hit (x := ((i : Int), 8)) hi (by simp [depG, hi, y0])]
      simp [c_deparser_Check_l0, cI, h11, h12, h13, hi, y0]
    by_cases y1 : (p.headers.length : Int) ≤ p.deparser[i]
    · rw [fe_hit (x := ((i : Int), 8)) hi (by simp [depG, hi, y0, y1])]
      simp [c_deparser_Check_l0, cI, h1, h11, h12, h13, hi, y0, y1]
    have hc := containsI_ok (p.deparser.take i) p.deparser[i] (by simp; omega)
    rw [List.map_take] at hc
    cases q : (p.deparser.take i).contains p.deparser[i] with
    | true =>
      rw [q] at hc
      rw [fe_hit (x := ((i : Int), 7)) hi (by simp only [depG, List.getElem?_eq_getElem hi, Option.bind_some]; rw [if_neg (by omega), q]; rfl)]
      simp [c_deparser_Check_l0, cI, h1, h11, h12, h13, hi, hi', y0, y1, hc]
    | false =>
      rw [q] at hc
      rw [fe_miss hi (by simp only [depG, List.getElem?_eq_getElem hi, Option.bind_some]; rw [if_neg (by omega), q]; rfl)]
      simp [c_deparser_Check_l0, cI, h1, h11, h12, h13, hi, hi', y0, y1, hc, hw]
      exact ih _ ⟨by simp [h1, Prg.e], by simp [h11], by simp [h12], by simp⟩
  · rintro e L hL ⟨h1, h11, h12, h13⟩
    rw [fe_end]
    simp [c_deparser_Check_l0, c_deparser_Check_k1, h12, h13, hL]
  · simp [Prg.e]
end Go.Av
