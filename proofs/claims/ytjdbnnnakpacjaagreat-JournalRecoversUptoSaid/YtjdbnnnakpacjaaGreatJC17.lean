/-
  The law JournalRecovers: the transactions, one after the other.
-/
import Derived.Test.YtjdbnnnakpacjaaGreatJC13
import Derived.Test.YtjdbnnnakpacjaaGreatW28K
set_option linter.unusedVariables false
set_option linter.unusedSimpArgs false
set_option linter.constructorNameAsVariable false
namespace Go.Av
set_option maxRecDepth 4000
def StC (O : List (Nat × AO)) (e : List AV) (c : Config) : Prop := ∃ u1 u2 u3 u4 U, e = [u1, u2, u3, u4] ∧ CfgM O u1 u2 u3 u4 U c
structure StL (O : List (Nat × AO)) (Es : List (List AV)) (cs : List Config) : Prop where
  len : Es.length = cs.length
  at_ : ∀ (i : Nat) e c, Es[i]? = some e → cs[i]? = some c → StC O e c
def Old (O O' : List (Nat × AO)) : Prop := ∀ j z es, look j O = some (.row z es) → (z = 1 ∨ z = 2 ∨ z = 5) → look j O' = look j O
theorem StC.fr {O O' : List (Nat × AO)} {e : List AV} {c : Config} (h : StC O e c) (hf : Old O O') : StC O' e c := by
  obtain ⟨u1, u2, u3, u4, U, rfl, m⟩ := h
  refine ⟨u1, u2, u3, u4, U, rfl, m.fr fun j hj => ?_⟩
  obtain ⟨z, es, h1, h2⟩ := m.own_lk hj
  exact hf j z es h1 h2
theorem StL.fr {O O' : List (Nat × AO)} {Es : List (List AV)} {cs : List Config} (h : StL O Es cs) (hf : Old O O') : StL O' Es cs :=
  ⟨h.len, fun i e c h1 h2 => (h.at_ i e c h1 h2).fr hf⟩
theorem StL.app {O : List (Nat × AO)} {Es : List (List AV)} {cs : List Config} {e : List AV} {c : Config} (h : StL O Es cs) (hc : StC O e c) : StL O (Es ++ [e]) (cs ++ [c]) := by
  refine ⟨by simp [h.len], fun i x y h1 h2 => ?_⟩
  by_cases hi : i < Es.length
  · rw [List.getElem?_append_left hi] at h1
    rw [List.getElem?_append_left (by rw [← h.len]; exact hi)] at h2
    exact h.at_ i x y h1 h2
  · rw [List.getElem?_append_right (by omega)] at h1
    rw [List.getElem?_append_right (by rw [← h.len]; omega)] at h2
    have hl := h.len
    by_cases h0 : i - Es.length = 0
    · rw [h0] at h1
      rw [show i - cs.length = 0 by omega] at h2
      simp at h1 h2
      subst h1 h2
      exact hc
    · rw [List.getElem?_eq_none (by simp; omega)] at h1; cases h1
def sts (p : Prg) (G : List (List TableOp)) : List Config := (List.range (G.length + 1)).map fun i => (cmts p (lg0 p) (G.take i)).c
def eds (G : List (List TableOp)) : List Int := (List.range (G.length + 1)).map fun i => ((frs (G.take i)).length : Int)
theorem take_app1 {α : Type} (G : List α) (l : α) : ∀ i ∈ List.range (G.length + 1), (G ++ [l]).take i = G.take i := by
  intro i hi
  have : i < G.length + 1 := by simpa using hi
  exact List.take_append_of_le_length (by omega)
theorem sts_app (p : Prg) (G : List (List TableOp)) (l : List TableOp) : sts p (G ++ [l]) = sts p G ++ [(cmts p (lg0 p) (G ++ [l])).c] := by
  unfold sts
  rw [List.length_append, List.length_singleton, List.range_succ, List.map_append]
  congr 1
  · exact List.map_congr_left fun i hi => by rw [take_app1 G l i hi]
  · rw [List.map_singleton, List.take_of_length_le (by simp)]
theorem eds_app (G : List (List TableOp)) (l : List TableOp) : eds (G ++ [l]) = eds G ++ [((frs (G ++ [l])).length : Int)] := by
  unfold eds
  rw [List.length_append, List.length_singleton, List.range_succ, List.map_append]
  congr 1
  · exact List.map_congr_left fun i hi => by rw [take_app1 G l i hi]
  · rw [List.map_singleton, List.take_of_length_le (by simp)]
theorem sts_get (p : Prg) {G : List (List TableOp)} {i : Nat} (hi : i ≤ G.length) : (sts p G)[i]? = some (cmts p (lg0 p) (G.take i)).c := by
  have : i < G.length + 1 := by omega
  simp [sts, List.getElem?_range this]
theorem eds_get {G : List (List TableOp)} {i : Nat} (hi : i ≤ G.length) : (eds G)[i]? = some ((frs (G.take i)).length : Int) := by
  have : i < G.length + 1 := by omega
  simp [eds, List.getElem?_range this]
theorem eds_len (G : List (List TableOp)) : (eds G).length = G.length + 1 := by simp [eds]
theorem sts_len (p : Prg) (G : List (List TableOp)) : (sts p G).length = G.length + 1 := by simp [sts]
structure RcH (p : Prg) (L G : List (List TableOp)) (R : AV) (s T : Nat) (Es : List (List AV)) (O : List (Nat × AO)) (N i : Nat) : Prop where
  tail : Tail O N
  ok : okG p (lg0 p) G
  sub : ∀ l ∈ G, l ∈ L
  fS : LgS p (cmts p (lg0 p) G) i
  gl : G.length ≤ i
  m : LogM O 1 R p (cmts p (lg0 p) G)
  fs : look s O = some (.row 4 Es)
  st : StL O Es (sts p G)
  fT : look T O = some (.tok 1 (G.length + 1))
  RT : tid R ≠ some T
structure RcE (p : Prg) (L G : List (List TableOp)) (s T : Nat) (cut : Int) (e : Env) : Prop where
  e1 : look 1 e = some (.slice 1 (L.map (cS 9 TableOp.c)))
  e2 : look 2 e = some (.int .i64 cut)
  e3 : look 3 e = some (.iptr 9 [Prg.c p] 0 0)
  e7 : look 7 e = some (.ptr 1 16 0 0)
  e9 : look 9 e = some (.app 1 ((eds G).map cI) T)
  e10 : look 10 e = some (.row s 4 0 (G.length + 1))
theorem old_of_kp {O O' : List (Nat × AO)} {N t : Nat} {R : AV} {p : Prg} {g : LgV} {n : Nat} (hT : Tail O N) (m : LogM O t R p g) (hk : Kp (fun j => j = t ∨ tid R = some j ∨ Rs O j) N O O') (_ : n = n) : Old O O' := by
  intro j z es hj hz
  refine hk j (hT.lt hj) ?_
  rintro (h | h | h)
  · subst h; rw [m.row] at hj; cases hj; simp at hz
  · rcases m.rcd with ⟨rfl, _⟩ | ⟨T, rfl, h2⟩
    · cases h
    · simp only [tid, Option.some.injEq] at h; subst h; rw [hj] at h2; cases h2
  · unfold Rs at h; rw [hj] at h; cases h
theorem old_of_kr {O O' : List (Nat × AO)} {N : Nat} (hT : Tail O N) (hk : Kp (Rs O) N O O') : Old O O' := by
  intro j z es hj _
  refine hk j (hT.lt hj) fun h => ?_
  unfold Rs at h; rw [hj] at h; cases h
theorem Old.trans {O O' O'' : List (Nat × AO)} (h : Old O O') (h2 : Old O' O'') : Old O O'' := fun j z es hj hz => by
  have := h j z es hj hz
  rw [h2 j z es (by rw [this, hj]) hz, this]
theorem rc_loop (p : Prg) (op : p.Ok bulkMax) (hc : (pre p.control).length < 2 ^ 40 - 1) (L : List (List TableOp)) (cut : Int) (hL : L.length ≤ 12) (hl : ∀ l ∈ L, ∀ o ∈ l, OpS o) {K : List Fr} {X : Option Rt}
    (last : ∀ G R s T Es O N e, RcH p L G R s T Es O N L.length → RcE p L G s T cut e → go Φ (finP [.tmp 6]) K .normal ⟨e, ⟨O, N⟩⟩ = X)
    {G0 : List (List TableOp)} {R0 : AV} {s0 T0 : Nat} {Es0 : List (List AV)} {O0 : List (Nat × AO)} {N0 : Nat} {e0 : Env} (h0 : RcH p L G0 R0 s0 T0 Es0 O0 N0 0) (he : RcE p L G0 s0 T0 cut e0) (h11 : look 11 e0 = some (.int .i64 0)) :
    go Φ (finP [.tmp 6]) (.c (.loop c_law28_JournalRecovers_l0) :: .b 0 :: K) .normal ⟨e0, ⟨O0, N0⟩⟩ = X := by
  have hp := (PrgS_of op).t
  refine loop_nat L.length (fun i e h => ∃ G R s T Es O N, h = ⟨O, N⟩ ∧ RcH p L G R s T Es O N i ∧ RcE p L G s T cut e ∧ look 11 e = some (.int .i64 i)) (fun _ => X) ?_ ?_ 0 _ _ (Nat.zero_le _) ⟨G0, R0, s0, T0, Es0, O0, N0, rfl, h0, he, h11⟩
  · rintro i e h K' hi hK ⟨G, R, s, T, Es, O, N, rfl, H, E, e11⟩ ih
    have hw : IntKind.wrap .i64 ((i : Int) + 1) = ((i + 1 : Nat) : Int) := wrap64 (by omega) (by omega)
    have hli : ∀ o ∈ L[i], OpS o := hl _ (List.getElem_mem hi)
    have gn := H.fS.n
    have gb := H.fS.b
    obtain ⟨O1, N1, R1, hN1, hT1, hR1, hk1, hcj⟩ := lcommit_ok p op hc hp H.fS.s (by omega) (by omega) hli (.inl rfl) H.tail H.m
    have e1 := E.e1
    have e7 := E.e7
    have e9 := E.e9
    have e10 := E.e10
    have old1 := old_of_kp (n := 0) H.tail H.m hk1 rfl
    have hs1 : look s O1 = some (.row 4 Es) := hk1.lk H.tail H.fs (by
      rintro (h | h | h)
      · have h2 := H.fs; rw [h, H.m.row] at h2; cases h2
      · rcases H.m.rcd with ⟨h3, _⟩ | ⟨T', h3, h2⟩
        · rw [h3] at h; cases h
        · rw [h3] at h; simp only [tid, Option.some.injEq] at h; subst h; rw [H.fs] at h2; cases h2
      · unfold Rs at h; rw [H.fs] at h; cases h)
    have hT1' : look T O1 = some (.tok 1 (G.length + 1)) := hk1.lk H.tail H.fT (by
      rintro (h | h | h)
      · have h2 := H.fT; rw [h, H.m.row] at h2; cases h2
      · exact H.RT h
      · unfold Rs at h; rw [H.fT] at h; cases h)
    have lT := H.tail.lt H.fT
    have hRT1 : tid R1 ≠ some T := fun h => by
      rcases hR1 T h with h | h
      · exact H.RT h
      · omega
    cases hA : badA p (cmts p (lg0 p) G).c L[i] with
    | some x =>
      obtain ⟨k, x⟩ := x
      have hx := badA_ne hA
      rw [hA] at hcj
      obtain ⟨hr, m1⟩ := hcj
      simp [c_law28_JournalRecovers_l0, e1, e7, e11, hi, cSe, hr, hx, hw]
      refine ih _ _ ⟨G, R1, s, T, Es, O1, N1, rfl, ⟨hT1, H.ok, H.sub, H.fS.mono (Nat.le_succ _), by have := H.gl; omega, m1, hs1, H.st.fr old1, hT1', hRT1⟩, ⟨by simp [e1], by simp [E.e2], by simp [E.e3], by simp [e7], by simp [e9], by simp [e10]⟩, by simp⟩
    | none =>
      rw [hA] at hcj
      obtain ⟨hr, m1⟩ := hcj
      have S' := H.fS.cmt hp hli
      have gb' := S'.b
      have hG : cmt p (cmts p (lg0 p) G) L[i] = cmts p (lg0 p) (G ++ [L[i]]) := by rw [cmts_app]; rfl
      rw [hG] at m1 S' gb'
      obtain ⟨w1, w2, w3, w4, V, O2, N2, hr2, cm, hown, hk2, hT2, hN2⟩ := lconfig_ok p op hc S'.v S'.s hT1 m1
      have hs2 := hk2.lk hT1 hs1 (by intro h; unfold Rs at h; rw [hs1] at h; cases h)
      have hT2' := hk2.lk hT1 hT1' (by intro h; unfold Rs at h; rw [hT1'] at h; cases h)
      have ls2 := hT2.lt hs2
      have lT2 := hT2.lt hT2'
      have t2 : ∀ k, look (N2 + k) O2 = none := fun k => hT2 (N2 + k) (by omega)
      have t20 := hT2 N2 (Nat.le_refl _)
      have esl : Es.length = G.length + 1 := by rw [H.st.len, sts_len]
      have gl := H.gl
      have z1 : ¬ N2 = s := by omega
      have z2 : ¬ s = N2 := by omega
      have z3 : ¬ N2 + 1 = s := by omega
      have z4 : ¬ s = N2 + 1 := by omega
      have c1 : (G.length + 1 + 1) * 96 ≤ 70368744177664 := by omega
      have c2 : (G.length + 1 + 1) * 8 ≤ 70368744177664 := by omega
      have d1 : look (N2 + 1) (dropl s (O2 ++ [(N2, AO.row 4 [[w1, w2, w3, w4]])])) = none := by
        refine lk_dropl_none _ ?_
        rw [lk_app, t2 1]
        simp
      obtain ⟨O3, hO3⟩ : ∃ O3, dropl s (O2 ++ [(N2, AO.row 4 [[w1, w2, w3, w4]])]) ++ [(N2 + 1, AO.row 4 (Es ++ [[w1, w2, w3, w4]]))] = O3 := ⟨_, rfl⟩
      have g3 : ∀ j x, look j O2 = some x → j ≠ s → look j O3 = some x := by
        intro j x hj hs
        rw [← hO3, lk_app, lk_dropl hs, lk_app, hj]; rfl
      have hT3 : Tail O3 (N2 + 2) := by
        rw [← hO3]
        refine Tail_append_iff.2 ⟨Tail_dropl2 (Tail_append_iff.2 ⟨hT2.mono (by omega), by simp [Tail_cons_iff, Tail_nil_iff]⟩), by simp [Tail_cons_iff, Tail_nil_iff]⟩
      have n1s : (1 : Nat) ≠ s := lk_ne m1.row hs1 (by simp)
      have nTs : T ≠ s := lk_ne hT2' hs2 (by simp)
      have old2 : Old O1 O2 := old_of_kr hT1 hk2
      have old3 : Old O2 O3 := by
        intro j z es hj hz
        refine (g3 j _ hj ?_).trans hj.symm
        rintro rfl
        rw [hs2] at hj; cases hj; simp at hz
      have m2 : LogM O2 1 R1 p (cmts p (lg0 p) (G ++ [L[i]])) := by
        refine m1.fr (hk2 1 (hT1.lt m1.row) fun h => ?_) fun j hj => ?_
        · unfold Rs at h; rw [m1.row] at h; cases h
        · rcases m1.rcd with ⟨h3, _⟩ | ⟨T', h3, h4⟩
          · rw [h3] at hj; cases hj
          · rw [h3] at hj
            simp only [tid, Option.some.injEq] at hj
            subst hj
            exact hk2 _ (hT1.lt h4) fun h => by unfold Rs at h; rw [h4] at h; cases h
      have m3 : LogM O3 1 R1 p (cmts p (lg0 p) (G ++ [L[i]])) := by
        refine m2.fr ((g3 1 _ m2.row n1s).trans m2.row.symm) fun j hj => ?_
        rcases m2.rcd with ⟨h3, _⟩ | ⟨T', h3, h4⟩
        · rw [h3] at hj; cases hj
        · rw [h3] at hj
          simp only [tid, Option.some.injEq] at hj
          subst hj
          exact (g3 _ _ h4 (lk_ne h4 hs2 (by simp))).trans h4.symm
      have hb3 := bytes_ok (N := N2 + 2) hT3 (by omega) m3
      rw [cmts_b] at hb3
      simp only [show (lg0 p).b = [] from rfl, List.nil_append] at hb3
      have hT3' := g3 T _ hT2' nTs
      have hs3 : look (N2 + 1) O3 = some (.row 4 (Es ++ [[w1, w2, w3, w4]])) := by rw [← hO3]; simp [d1]
      have ln : ((frs (G ++ [L[i]])).length : Int) = ((frs (G ++ [L[i]])).length : Nat) := rfl
      have nT : T ≠ N2 + 1 := by omega
      simp [c_law28_JournalRecovers_l0, e1, e7, e9, e10, e11, hi, cSe, hr, hr2, hw, t20, t2, lk_app, hs2, z1, z2, z3, z4, esl, c1, c2, eds_len, d1]
      rw [show N2 + 1 + 1 = N2 + 2 by omega, hO3]
      simp [hb3, hT3', eds_len, c2, e11, hw]
      have f4 : ∀ j, j ≠ T → look j (setl T (.tok 1 (G.length + 1 + 1)) O3) = look j O3 := fun j hj => by rw [lk_setl, if_neg hj]
      have old4 : Old O3 (setl T (.tok 1 (G.length + 1 + 1)) O3) := by
        intro j z es hj hz
        refine f4 j ?_
        rintro rfl
        rw [hT3'] at hj; cases hj
      refine ih _ ⟨setl T (.tok 1 (G.length + 1 + 1)) O3, N2 + 2 + 1⟩ ⟨G ++ [L[i]], R1, N2 + 1, T, Es ++ [[w1, w2, w3, w4]], _, _, rfl, ⟨Tail_setl2 (hT3.mono (by omega)), okG_app _ _ H.ok ⟨hA, trivial⟩, ?_, S', ?_, ?_, ?_, ?_, ?_, hRT1⟩, ⟨by simp [e1], by simp [E.e2], by simp [E.e3], by simp [e7], ?_, ?_⟩, by simp⟩
      · intro l hl'
        rcases List.mem_append.1 hl' with h | h
        · exact H.sub l h
        · simp at h; subst h; exact List.getElem_mem hi
      · simp; omega
      · refine m3.fr (f4 1 ?_) fun j hj => f4 j fun h => hRT1 (by rw [← h]; exact hj)
        intro h; rw [← h, m3.row] at hT3'; cases hT3'
      · rw [f4 _ (Ne.symm nT)]; exact hs3
      · rw [sts_app]
        exact ((H.st.fr (old1.trans (old2.trans old3))).app ⟨w1, w2, w3, w4, V, rfl, cm.fr fun j hj => by
          obtain ⟨z, es, h1, h2⟩ := cm.own_lk hj
          exact old3 j z es h1 h2⟩).fr old4
      · rw [lk_setl, if_pos rfl, hT3']; simp
      · rw [eds_app]; simp [cIe]
      · simp
  · rintro e h K' hK ⟨G, R, s, T, Es, O, N, rfl, H, E, e11⟩
    have e1 := E.e1
    simp [c_law28_JournalRecovers_l0, e1, e11, hK]
    exact last G R s T Es O N _ H ⟨by simp [e1], by simp [E.e2], by simp [E.e3], by simp [E.e7], by simp [E.e9], by simp [E.e10]⟩
end Go.Av
