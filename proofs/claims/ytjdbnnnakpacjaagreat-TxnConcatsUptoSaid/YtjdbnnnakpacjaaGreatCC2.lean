/-
  The law TxnConcats.
-/
import Derived.Test.YtjdbnnnakpacjaaGreatI5
import Derived.Test.YtjdbnnnakpacjaaGreatAR2
set_option linter.unusedVariables false
set_option linter.unusedSimpArgs false
set_option linter.constructorNameAsVariable false
namespace Go.Av
set_option maxRecDepth 4000
def idL (p : Prg) (c : Config) (l : List TableOp) : List Int := (List.range l.length).map (idN p c l)
theorem idsA_L (p : Prg) (c : Config) (l : List TableOp) : idsA p c l = (idL p c l).map cI := by
  unfold idsA idL
  rw [List.map_map]; rfl
theorem idL_app {p : Prg} {c : Config} {l m : List TableOp} : idL p c (l ++ m) = idL p c l ++ idL p (xoF p c l) m := ids_app
def arrQ (q : List TableOp × List TableOp) : List AV := [.slice 9 (q.1.map TableOp.c), .slice 9 (q.2.map TableOp.c)]
theorem TxnConcats_all (p : Prg) (c : Config) (q : List TableOp × List TableOp) (op : p.Ok bulkMax) (oc : c.Ok bulkMax) (oq : okL bulkMax (TableOp.Ok bulkMax) q.1 ∧ okL bulkMax (TableOp.Ok bulkMax) q.2) :
    pureI Φ f_law27_TxnConcats [.agg (Prg.c p), .agg (Config.c c), .agg (arrQ q)] = some (.val (.bool true)) := by
  obtain ⟨l, m⟩ := q
  obtain ⟨⟨ol', oo⟩, ⟨om', oo2⟩⟩ := oq
  simp only at ol' om' oo oo2
  have f := PrgS_of op
  have s := CfgT_of oc
  have hl : ∀ o ∈ l, OpS o := fun o ho => OpS_of (oo o ho)
  have hm : ∀ o ∈ m, OpS o := fun o ho => OpS_of (oo2 o ho)
  obtain ⟨b, hb, hb2⟩ := smallS_ok p c op
  have ho := SmallOps_ok l
  have hq := SmallOps_ok m
  rw [pureI_go (fn := c_law27_TxnConcats) rfl rfl]
  cases b with
  | false =>
    simp only [Prg.e, Config.ce] at hb
    simp [c_law27_TxnConcats, arrQ, Prg.e, Config.ce, hb, works27]
  | true =>
  cases b2 : smallOps l with
  | false =>
    rw [b2] at ho
    simp only [Prg.e, Config.ce] at hb
    simp [c_law27_TxnConcats, arrQ, Prg.e, Config.ce, hb, ho, works27]
  | true =>
  rw [b2] at ho
  cases b3 : smallOps m with
  | false =>
    rw [b3] at hq
    simp only [Prg.e, Config.ce] at hb
    simp [c_law27_TxnConcats, arrQ, Prg.e, Config.ce, hb, ho, hq, works27]
  | true =>
  rw [b3] at hq
  by_cases z1 : 30 < l.length
  · simp only [Prg.e, Config.ce] at hb
    simp [c_law27_TxnConcats, arrQ, Prg.e, Config.ce, hb, ho, hq, z1, works27]
  by_cases z2 : 30 < m.length
  · simp only [Prg.e, Config.ce] at hb
    simp [c_law27_TxnConcats, arrQ, Prg.e, Config.ce, hb, ho, hq, z1, z2, works27]
  have hc : (pre p.control).length < 2 ^ 40 - 1 := by have := (hb2 rfl).1; omega
  have hp : p.tables.length < 2 ^ 40 := f.t
  have ka := apply_ok p op hc hp s l hl
  cases hA : badA p c l with
  | some x =>
    obtain ⟨k, x⟩ := x
    have hx := badA_ne hA
    rw [show appA p c l = .tup [.agg noC, .slice 1 [], .int .i64 k, .int .i64 x] by simp only [appA, hA]] at ka
    simp only [Prg.e, Config.ce, noC] at hb ka
    simp [c_law27_TxnConcats, arrQ, Prg.e, Config.ce, hb, ho, hq, z1, z2, ka, hx, works27]
  | none =>
  rw [show appA p c l = .tup [.agg (Config.c (cfgN p c l l.length)), .slice 1 (idsA p c l), .int .i64 0, .int .i64 0] by simp only [appA, hA]; rfl, cfgN_len, idsA_L] at ka
  have v : CfgV p c := (badA_none hA).1
  obtain ⟨vd, sd⟩ := cfgN_ok v s hp l hl l.length
  rw [cfgN_len] at vd sd
  have hlm : ∀ o ∈ l ++ m, OpS o := fun o h => by
    rcases List.mem_append.1 h with h | h
    · exact hl o h
    · exact hm o h
  have kb := apply_ok p op hc hp sd m hm
  have kc := apply_ok p op hc hp s (l ++ m) hlm
  rw [List.map_append] at kc
  have c1 : l.length * 120 ≤ 70368744177664 := by omega
  have c2 : (l.length + m.length) * 120 ≤ 70368744177664 := by omega
  have c3 : l.length * 8 ≤ 70368744177664 := by omega
  have c4 : (l.length + m.length) * 8 ≤ 70368744177664 := by omega
  have happ := badA_app (m := m) hA (by omega)
  have i1 : (idL p c l).length = l.length := by simp [idL]
  have i2 : (idL p (xoF p c l) m).length = m.length := by simp [idL]
  cases hB : badA p (xoF p c l) m with
  | some x =>
    obtain ⟨k, x⟩ := x
    have hx := badA_ne hB
    rw [hB] at happ
    simp only [Option.map_some] at happ
    have hk : -1 ≤ k ∧ k < 64 := by
      unfold badA at hB
      split at hB
      · cases hB; omega
      split at hB
      · cases hB; omega
      · rw [Option.map_eq_some_iff] at hB
        obtain ⟨y, hy, hy2⟩ := hB
        cases hy2
        have : ∀ (l : List TableOp) (c : Config) (i : Nat) (y : Nat × Int), badF p c l i = some y → y.1 < i + l.length := by
          intro l
          induction l with
          | nil => intro c i y h; simp [badF] at h
          | cons o l ih =>
            intro c i y h
            unfold badF at h
            split at h
            · have := ih _ _ _ h; simp; omega
            · cases h; simp
        have := this _ _ _ _ hy
        omega
    have hw : IntKind.wrap .i64 ((l.length : Int) + k) = (l.length : Int) + k := wrap64 (by omega) (by omega)
    rw [show appA p (xoF p c l) m = .tup [.agg noC, .slice 1 [], .int .i64 k, .int .i64 x] by simp only [appA, hB]] at kb
    rw [show appA p c (l ++ m) = .tup [.agg noC, .slice 1 [], .int .i64 ((l.length : Int) + k), .int .i64 x] by simp only [appA, happ]] at kc
    generalize idL p c l = il at ka
    generalize xoF p c l = d at ka kb
    simp only [Prg.e, Config.ce, noC] at hb ka kb kc
    simp [c_law27_TxnConcats, arrQ, Prg.e, Config.ce, hb, ho, hq, z1, z2, ka, kb, kc, hx, hw, c1, c2, works27]
  | none =>
    rw [hB] at happ
    simp only [Option.map_none] at happ
    rw [show appA p (xoF p c l) m = .tup [.agg (Config.c (cfgN p (xoF p c l) m m.length)), .slice 1 (idsA p (xoF p c l) m), .int .i64 0, .int .i64 0] by simp only [appA, hB]; rfl, cfgN_len, idsA_L] at kb
    rw [show appA p c (l ++ m) = .tup [.agg (Config.c (cfgN p c (l ++ m) (l ++ m).length)), .slice 1 (idsA p c (l ++ m)), .int .i64 0, .int .i64 0] by simp only [appA, happ]; rfl, cfgN_len, idsA_L, idL_app, xoF_app] at kc
    have sx := (cfgN_ok vd sd hp m hm m.length).2
    rw [cfgN_len] at sx
    have kq := rEqualC_ok (xoF p (xoF p c l) m) (xoF p (xoF p c l) m) sx.s
    have ki := rInts_ok (idL p c l ++ idL p (xoF p c l) m) (idL p c l ++ idL p (xoF p c l) m) (by rw [List.length_append]; omega)
    rw [decide_eq_true rfl] at kq ki
    rw [List.map_append] at ki kc
    generalize xoF p (xoF p c l) m = y at kb kc kq
    generalize idL p c l = il at ka kc ki i1
    generalize idL p (xoF p c l) m = im at kb kc ki i2
    generalize xoF p c l = d at ka kb
    simp only [Prg.e, Config.ce] at hb ka kb kc kq
    simp [c_law27_TxnConcats, arrQ, Prg.e, Config.ce, hb, ho, hq, z1, z2, ka, kb, kc, kq, ki, i1, i2, c1, c2, c3, c4, works27]
end Go.Av
