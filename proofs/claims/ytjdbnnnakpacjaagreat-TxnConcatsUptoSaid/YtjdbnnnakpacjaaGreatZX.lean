/-
  txn.Inverse: the operations that undo each operation.
-/
import Derived.Test.YtjdbnnnakpacjaaGreatZW
set_option linter.unusedVariables false
set_option linter.unusedSimpArgs false
set_option linter.constructorNameAsVariable false
namespace Go.Av
set_option maxRecDepth 4000
theorem undos_succ (p : Prg) (c : Config) (l : List TableOp) {i : Nat} (hi : i < l.length) : undos p c l (i + 1) = undos p c l i ++ [undF (cfgN p c l i) l[i] (idN p c l i)] := by
  unfold undos
  rw [List.range_succ, List.map_append, List.map_singleton, List.getElem?_eq_getElem hi]
theorem undoM_ok {O : List (Nat × AO)} {N : Nat} (hT : Tail O N) {w1 w2 w3 w4 : AV} {V : List AV} {p : Prg} {c : Config} (m : CfgM O w1 w2 w3 w4 V c) (v : CfgV p c) (s : CfgT c) {o : TableOp} (hx : xoE p c o = 0) (id : Int) :
    UDpost N O (undF c o id) (callI Φ f_txn_undo [.agg [w1, w2, w3, w4], .agg (TableOp.c o), .int .i64 id] ⟨O, N⟩) := by
  obtain ⟨hi, hk⟩ := xo_inT hx
  obtain ⟨k, hk1, hl⟩ := inT_iff hi
  have hd : k < c.defaults.length := by rw [v.dl]; exact hl
  have hr : k < c.rows.length := by rw [v.rl]; exact hl
  have row : o.kind = 2 ∨ o.kind = 3 → ∃ r, undoL c.rows[k] o = some r ∧ etyF (rowsAt c o.table) o.id = r.entry := fun hk => by
    obtain ⟨_, hn⟩ := xo_row hx hk
    rw [undoL_find o (v.at hl).inc]
    rw [hk1, rowsAt_nat hr] at hn
    rw [hk1, rowsAt_nat hr]
    obtain ⟨r, hr1, hr2, hr3⟩ := etyF_mem hn
    cases hf : c.rows[k].find? fun r => decide (r.id = o.id) with
    | none => exact absurd (List.find?_eq_none.1 hf r hr1) (by simpa using hr2)
    | some r' => exact ⟨r', rfl, by unfold etyF; rw [hf]⟩
  rcases hk with z | z | z | z
  · have := undoM1 hT w1 w2 w3 w4 o id z
    simpa [undF, z] using this
  · obtain ⟨r, h1, h2⟩ := row (.inl z)
    have := undoM2 hT m o id z hk1 hr (s.rs c.rows[k] (List.getElem_mem hr)).1 h1
    simpa [undF, z, h2] using this
  · obtain ⟨r, h1, h2⟩ := row (.inr z)
    have := undoM3 hT m o id z hk1 hr (s.rs c.rows[k] (List.getElem_mem hr)).1 h1
    simpa [undF, z, h2] using this
  · have := undoM4 hT m o id z hk1 hd
    simpa [undF, z, defAt, hk1, at_nat, List.getElem?_eq_getElem hd] using this
structure IvE (p : Prg) (c : Config) (l : List TableOp) (s : Nat) (e : Env) : Prop where
  e3 : look 3 e = some (.iptr 9 [Prg.c p] 0 0)
  e4 : look 4 e = some (.iptr 4 [Config.c c] 0 0)
  e8 : look 8 e = some (.iptr 4 [Config.c (cfgN p c l l.length)] 0 0)
  e12 : look 12 e = some (.ptr s 15 0 0)
structure IvI (p : Prg) (c : Config) (l : List TableOp) (S : SV) (T B : Nat) (i : Nat) (e : Env) (O : List (Nat × AO)) (N : Nat) : Prop where
  v : IvE p c l S.s e
  tl : Tail O N
  hB : B ≤ N
  hTB : T < B
  nT : ¬ S.own T
  st : ∃ S', StoreM O S' p (cfgN p c l i) ∧ S'.s = S.s ∧ ∀ j, S'.own j → S.own j ∨ B ≤ j
  tk : look T O = some (.tok 9 i)
  e13 : look 13 e = some (.app 9 ((undos p c l i).map TableOp.c) T)
  e9 : look 9 e = some (.slice 1 (idsA p c l))
  e49 : look 49 e = some (.slice 9 (l.map TableOp.c))
  e50 : look 50 e = some (.int .i64 l.length)
  e51 : look 51 e = some (.int .i64 i)
theorem iv0 (p : Prg) (f : PrgS p) (hp : p.tables.length < 2 ^ 40) {c : Config} (v : CfgV p c) (s : CfgT c) (l : List TableOp) (hl64 : l.length ≤ 64) (hl : ∀ o ∈ l, OpS o) (hb : badF p c l 0 = none) {S : SV} {T B : Nat} {R : Option Rt}
    (hk : ∀ e O N, IvI p c l S T B l.length e O N → go Φ (finP [.tmp 6, .tmp 7]) [.c c_txn_Inverse_k3] .normal ⟨e, ⟨O, N⟩⟩ = R) :
    ∀ e O N, IvI p c l S T B 0 e O N → go Φ (finP [.tmp 6, .tmp 7]) [.c (.loop c_txn_Inverse_l0), .b 0, .c c_txn_Inverse_k3] .normal ⟨e, ⟨O, N⟩⟩ = R := by
  intro e O N I0
  refine loop_nat l.length (fun i e h => ∃ O N, h = ⟨O, N⟩ ∧ IvI p c l S T B i e O N) (fun _ => R) ?_ ?_ 0 e _ (Nat.zero_le _) ⟨O, N, rfl, I0⟩
  · rintro i e _ L hi hL ⟨O, N, rfl, I⟩ ih
    obtain ⟨S1, m1, es, ho⟩ := I.st
    obtain ⟨vi, si⟩ := cfgN_ok v s hp l hl i
    have hx := badF_zero hb i hi
    have hU : (undos p c l i).length = i := by simp [undos]
    have hw : IntKind.wrap .i64 ((i : Int) + 1) = ((i + 1 : Nat) : Int) := wrap64 (by omega) (by omega)
    have hid : (idsA p c l)[i]? = some [.int .i64 (idN p c l i)] := by simp [idsA, hi, cI]
    have hil : (idsA p c l).length = l.length := by simp [idsA]
    have hid2 : (idsA p c l)[i]'(by rw [hil]; exact hi) = [.int .i64 (idN p c l i)] := by rw [List.getElem?_eq_getElem (by rw [hil]; exact hi)] at hid; exact Option.some.inj hid
    have t0 := I.tl N (Nat.le_refl _)
    have hM := I.hB
    have hTB := I.hTB
    have hT1 : Tail (O ++ [(N + 1 + 66, AO.res)]) (N + 1 + 66 + 1) := I.tl.apps (by omega) (by simp)
    have hk1 : Kp (fun _ => False) N O (O ++ [(N + 1 + 66, AO.res)]) := Kp.apps (by simp; omega)
    have m1' : StoreM (O ++ [(N + 1 + 66, AO.res)]) S1 p (cfgN p c l i) := m1.kp I.tl hk1 (by simp)
    obtain ⟨w1, w2, w3, w4, V, O2, N2, e2, n2, f2, hk2, hT2, hN2⟩ := Config_ok (vi.u si) hT1 m1'
    obtain ⟨w, O3, N3, e3, hO, hk3, hT3, hN3⟩ := undoM_ok (p := p) hT2 n2 vi si hx (idN p c l i)
    have q2 := hk1.lk I.tl I.tk (by simp)
    have q3 := hk2.lk hT1 q2 (by simp)
    have q4 := hk3.lk hT2 q3 (by intro h; have h : look T O2 = some .res := h; rw [q3] at h; cases h)
    have h120 : (i + 1) * 120 ≤ 70368744177664 := by omega
    have tT : ¬ N + 1 + 66 = T := by omega
    have tT' : ¬ T = N + 1 + 66 := by omega
    rw [es] at e2
    simp only [TableOp.ce2] at e3
    have hb4 := hO.bor (n := 39)
    have hs4 := hO.snp (n := 39) (H := ⟨O3, N3⟩)
    obtain ⟨k, a, ca, hw9, -⟩ := hO.ex
    have wl : w.length = 9 := by rw [hw9]; rfl
    have base : ∀ j, j < N → look j O ≠ some .res → look j O3 = look j O := fun j hj hn => by
      have a1 := hk1 j hj (by simp)
      have a2 := hk2 j (by omega) (by simp)
      have a3 := hk3 j (by omega) (fun h => hn (by rw [← a1, ← a2]; exact h))
      rw [a3, a2, a1]
    have tk4 : look T (sweepL (setl T (.tok 9 (i + 1)) O3)) = some (.tok 9 (i + 1)) := by
      have : look T (setl T (.tok 9 (i + 1)) O3) = some (.tok 9 (i + 1)) := by simp [lk_setl, q4]
      rw [lk_sweep (by rw [this]; simp), this]
    have nT1 : ∀ j, S1.own j → j ≠ T := fun j hj h => by
      subst h
      rcases ho j hj with h | h
      · exact I.nT h
      · omega
    have m4 : StoreM (sweepL (setl T (.tok 9 (i + 1)) O3)) S1 p (cfgN p c l i) := m1.fr fun j hj => by
      obtain ⟨x, hx1, hx2⟩ := m1.own_lk hj
      have hj' := I.tl.lt hx1
      have h3 := base j hj' (by rw [hx1]; exact fun h => hx2 (Option.some.inj h))
      have hs : look j (setl T (.tok 9 (i + 1)) O3) = look j O := by rw [lk_setl, if_neg (nT1 j hj), h3]
      rw [lk_sweep (by rw [hs, hx1]; exact fun h => hx2 (Option.some.inj h)), hs]
    have hT4 : Tail (sweepL (setl T (.tok 9 (i + 1)) O3)) N3 := Tail_sweep2 (Tail_setl2 hT3)
    obtain ⟨S2, O5, N5, e5, x1, x2, x3, x4, x5, x6⟩ := execute_ok m4 f vi si hT4 l[i] (hl _ (List.getElem_mem hi))
    rw [es] at e5 x2
    have hcs : cfgN p c l (i + 1) = xoC p (cfgN p c l i) l[i] := cfgN_succ p c l hi
    have tk5 : look T O5 = some (.tok 9 (i + 1)) := by
      rw [x4 T (by omega), tk4]
      rintro (h | h)
      · exact nT1 T h rfl
      · have h : look T (sweepL (setl T (.tok 9 (i + 1)) O3)) = some .res := h
        rw [tk4] at h; cases h
    simp only [TableOp.ce2] at e5
    simp [c_txn_Inverse_l0, TableOp.ce2, I.v.e12, I.e49, I.e50, I.e51, hi, hL, t0, I.e9, I.e13, e2, hid, hil, hid2, e3, q4, hU, h120, lk_app, lk_setl, wl, hb4, hs4, e5, hw]
    refine ih _ _ ⟨_, _, rfl, ⟨⟨by simp [I.v.e3], by simp [I.v.e4], by simp [I.v.e8], by simp [I.v.e12]⟩, x5, by omega, hTB, I.nT, ⟨S2, by rw [hcs]; exact x1, x2, fun j hj => ?_⟩, tk5, ?_, by simp [I.e9], by simp [I.e49, TableOp.ce2], by simp [I.e50], by simp⟩⟩
    · rcases x3 j hj with h | h
      · exact ho j h
      · exact .inr (by omega)
    · simp [undos_succ p c l hi, TableOp.ce2]
  · rintro e _ L hL ⟨O, N, rfl, I⟩
    simp [c_txn_Inverse_l0, I.e50, I.e51, hL]
    exact hk _ _ _ ⟨⟨by simp [I.v.e3], by simp [I.v.e4], by simp [I.v.e8], by simp [I.v.e12]⟩, I.tl, I.hB, I.hTB, I.nT, I.st, I.tk, by simp [I.e13], by simp [I.e9], by simp [I.e49], by simp [I.e50], by simp [I.e51]⟩
end Go.Av
