/-
  The law JournalRecovers: opening what was cut.
-/
import Derived.Test.YtjdbnnnakpacjaaGreatJC17
set_option linter.unusedVariables false
set_option linter.unusedSimpArgs false
set_option linter.constructorNameAsVariable false
namespace Go.Av
set_option maxRecDepth 4000
theorem Mu.rf {O : List (Nat × AO)} {z n : Nat} {v : AV} {es : List (List AV)} (h : Mu O z v es) : Rf (n + 1) v := by
  cases h with
  | nilF => exact Rf.fslice _ _ _ (by simp)
  | nilA => exact Rf.app _ _ _ _ (by simp)
  | row => exact Rf.row _ _ _ _ _
theorem aoEq_st {O : List (Nat × AO)} {Es : List (List AV)} {cs : List Config} (h : StL O Es cs) : aoEq (some (.row 4 Es)) (some (.row 4 Es)) = true := by
  have key : ∀ e ∈ Es, ∀ v ∈ e, Rf 40 v := by
    intro e he v hv
    obtain ⟨i, hi, rfl⟩ := List.mem_iff_getElem.1 he
    have hc : i < cs.length := by rw [← h.len]; exact hi
    obtain ⟨u1, u2, u3, u4, U, hu, m⟩ := h.at_ i _ _ (List.getElem?_eq_getElem hi) (List.getElem?_eq_getElem hc)
    rw [hu] at hv
    simp only [List.mem_cons, List.not_mem_nil, or_false] at hv
    have hreg : ∀ e ∈ cs[i].registers.map (cS 1 c32), ∀ c ∈ e, Rf 39 c := by
      intro e he c hc
      obtain ⟨l, _, rfl⟩ := List.mem_map.1 he
      rw [cSe] at hc
      simp only [List.mem_cons, List.not_mem_nil, or_false] at hc
      subst hc
      exact Rf.map _ _ _ _ fun x _ => rf_32 _ x
    rcases hv with rfl | rfl | rfl | rfl
    · exact m.r.rf
    · exact m.n.rf
    · exact m.d.rf
    · rcases m.g with rfl | ⟨t, rfl⟩
      · exact Rf.fslice _ _ _ hreg
      · exact Rf.app _ _ _ _ hreg
  have := eqL_rf (eqL (avEq 40)) Es fun e he => eqL_rf (avEq 40) e (key e he)
  simp only [aoEq, beq_self_eq_true, Bool.true_and]
  exact this
theorem LogM.sw {O : List (Nat × AO)} {t : Nat} {R : AV} {p : Prg} {g : LgV} (m : LogM O t R p g) : LogM (sweepL O) t R p g := by
  refine m.fr (lk_sweep (by rw [m.row]; simp)) fun j hj => lk_sweep ?_
  rcases m.rcd with ⟨rfl, _⟩ | ⟨T, rfl, h⟩
  · cases hj
  · simp only [tid, Option.some.injEq] at hj; subst hj; rw [h]; simp
theorem old_sw (O : List (Nat × AO)) : Old O (sweepL O) := fun j z es hj _ => lk_sweep (by rw [hj]; simp)
theorem frs_okB {G : List (List TableOp)} : okB (frs G) := by
  intro x hx
  obtain ⟨l, hl, hx⟩ := List.mem_flatten.1 hx
  obtain ⟨o, _, rfl⟩ := List.mem_map.1 hl
  exact (okB_app (be4_okB _) (okB_app (encB_okB o) (be4_okB _))) x hx
theorem take_frs (G : List (List TableOp)) (k : Nat) : (frs G).take (frs (G.take k)).length = frs (G.take k) := by
  have h : frs G = frs (G.take k) ++ frs (G.drop k) := by rw [← frs_app, List.take_append_drop]
  rw [h, List.take_append_of_le_length (Nat.le_refl _), List.take_length]
structure RkE (p : Prg) (G : List (List TableOp)) (s T n k : Nat) (e : Env) : Prop where
  e3 : look 3 e = some (.iptr 9 [Prg.c p] 0 0)
  e9 : look 9 e = some (.app 1 ((eds G).map cI) T)
  e10 : look 10 e = some (.row s 4 0 (G.length + 1))
  e15 : look 15 e = some (.slice 1 ((frs G).map c8))
  e16 : look 16 e = some (.int .i64 (n : Nat))
  e17 : look 17 e = some (.int .i64 (k : Nat))
theorem rc_k2 (p : Prg) (op : p.Ok bulkMax) (hc : (pre p.control).length < 2 ^ 40 - 1) (z : (prgD p).1 = 0) {L G : List (List TableOp)} (hL : L.length ≤ 12) (hl : ∀ l ∈ L, ∀ o ∈ l, OpS o) {R : AV} {s T : Nat} {Es : List (List AV)} {O : List (Nat × AO)} {N n : Nat} {e : Env}
    (H : RcH p L G R s T Es O N L.length) (hn : n ≤ (frs G).length) (E : RkE p G s T n (kOf G n) e) :
    go Φ (finP [.tmp 6]) [.c c_law28_JournalRecovers_k2] .normal ⟨e, ⟨O, N⟩⟩ = some (.val (.bool true)) := by
  have hp := (PrgS_of op).t
  have e3 := E.e3
  have e9 := E.e9
  have e10 := E.e10
  have e15 := E.e15
  have e16 := E.e16
  have e17 := E.e17
  rw [Prg.e] at e3
  have hbs : (frs G).length ≤ 300008 * 12 := by
    have := H.fS.b
    rw [cmts_b] at this
    simp only [show (lg0 p).b = [] from rfl, List.nil_append] at this
    omega
  have v0 : CfgV p (lg0 p).c := emptyV z
  have hoG : ∀ l ∈ G, ∀ o ∈ l, okO o := fun l hlG o ho => okO_of (hl l (H.sub l hlG) o ho)
  have hK := kOf_le G n
  have hop := opn_good G (lg0 p) 0 n ((frs G).take n).length v0 H.ok hoG (Nat.le_refl _)
  obtain ⟨k, hk⟩ : ∃ k, kOf G n = k := ⟨_, rfl⟩
  rw [hk] at hop hK e17
  -- the first opening
  obtain ⟨O1, N1, hN1, hT1, hk1, hm1⟩ := open_ok p op hc (b := (frs G).take n) (fun x hx => frs_okB x (List.mem_of_mem_take hx)) (by rw [List.length_take]; omega) z H.tail
  rw [hop] at hm1
  obtain ⟨R1, hr1, m1, hR1, S1⟩ := hm1
  have g1n : (cmts p (lg0 p) (G.take k)).n = k := by
    rw [cmts_n, List.length_take]
    show 0 + _ = k
    omega
  have g1b : (cmts p (lg0 p) (G.take k)).b = frs (G.take k) := by rw [cmts_b]; rfl
  have hst := H.st
  have h1s := H.tail.lt H.fs
  have old1 := old_of_kr H.tail hk1
  have hs1 : look s O1 = some (.row 4 Es) := hk1.lk H.tail H.fs (by intro h; unfold Rs at h; rw [H.fs] at h; cases h)
  have hfk : (frs (G.take k)).length ≤ (frs G).length := by
    have := congrArg List.length (take_frs G k)
    rw [List.length_take] at this
    omega
  generalize hg' : cmts p (lg0 p) (G.take k) = g' at *
  have hkE : k < Es.length := by rw [hst.len, sts_len]; omega
  have hEk : Es[k]? = some Es[k] := List.getElem?_eq_getElem hkE
  have hck : (sts p G)[k]? = some g'.c := by rw [sts_get p (by omega), hg']
  obtain ⟨u1, u2, u3, u4, U, hu, cu⟩ := hst.at_ k _ _ hEk hck
  rw [hu] at hEk
  have scu : StC O [u1, u2, u3, u4] g'.c := ⟨u1, u2, u3, u4, U, rfl, cu⟩
  -- its configuration
  have hT1' : Tail O1 (N1 + 1) := hT1.mono (by omega)
  obtain ⟨w1, w2, w3, w4, V, O2, N2, hr2, cw, hown2, hk2, hT2, hN2⟩ := lconfig_ok p op hc S1.v S1.s hT1' m1
  have old2 := old_of_kr hT1' hk2
  have hs2 : look s O2 = some (.row 4 Es) := hk2.lk hT1' hs1 (by intro h; unfold Rs at h; rw [hs1] at h; cases h)
  have keep : ∀ {O O' : List (Nat × AO)} {N t : Nat} {R : AV} {g : LgV}, Tail O N → Kp (Rs O) N O O' → LogM O t R p g → LogM O' t R p g := by
    intro O O' N t R g hT hk m
    refine m.fr (hk _ (hT.lt m.row) fun h => ?_) fun j hj => ?_
    · unfold Rs at h; rw [m.row] at h; cases h
    · rcases m.rcd with ⟨h3, _⟩ | ⟨T', h3, h4⟩
      · rw [h3] at hj; cases hj
      · rw [h3] at hj
        simp only [tid, Option.some.injEq] at hj
        subst hj
        exact hk _ (hT.lt h4) fun h => by unfold Rs at h; rw [h4] at h; cases h
  have m2 := keep hT1' hk2 m1
  have scu2 := scu.fr (old1.trans old2)
  obtain ⟨_, _, _, _, U2, hq, cu2⟩ := scu2
  simp only [List.cons.injEq, and_true] at hq
  obtain ⟨rfl, rfl, rfl, rfl⟩ := hq
  have keq := stEqual_ok g'.c g'.c S1.s.s
  rw [decide_eq_true rfl] at keq
  have a1 := cw.snpR (n := 35) (N := N2)
  have a2 := cw.snpN (n := 35) (N := N2)
  have a3 := cw.snpD (n := 35) (N := N2)
  have a4 := cw.snpG (n := 35) (N := N2)
  have d1 := cu2.snpR (n := 35) (N := N2)
  have d2 := cu2.snpN (n := 35) (N := N2)
  have d3 := cu2.snpD (n := 35) (N := N2)
  have d4 := cu2.snpG (n := 35) (N := N2)
  have gb1 := S1.b
  have gn1 := S1.n
  have kb2 := bytes_ok (N := N2) hT2 (by omega) m2
  have kl1 := len_ok (N := N1 + 1) m1
  rw [g1b] at kb2
  rw [g1n] at kl1
  have hao := aoEq_st hst
  have hed := eds_get (G := G) (i := k) (by omega)
  -- an empty transaction behind it
  have hT2s : Tail (sweepL O2) (N2 + 1) := Tail_sweep2 (hT2.mono (by omega))
  obtain ⟨O3, N3, R3, hN3, hT3, hR3, hk3, hc3⟩ := lcommit_ok p op hc hp (l := []) (v := .fslice 9 []) S1.s (by omega) (by omega) (by simp) (.inr ⟨rfl, rfl⟩) hT2s m2.sw
  rw [badA_nil S1.v] at hc3
  obtain ⟨hr3, m3⟩ := hc3
  have ls2 := hT2.lt hs2
  have old3 := old_of_kp (n := 0) hT2s m2.sw hk3 rfl
  have hs2s : look s (sweepL O2) = some (.row 4 Es) := (lk_sweep (by rw [hs2]; simp)).trans hs2
  have tidge : ∀ j, tid R1 = some j → N ≤ j := hR1
  have hs3 : look s O3 = some (.row 4 Es) := hk3.lk hT2s hs2s (by
    rintro (h | h | h)
    · omega
    · have := tidge s h; omega
    · unfold Rs at h; rw [hs2s] at h; cases h)
  -- the second opening
  have g3b : (cmt p g' []).b = frs (G.take k ++ [[]]) := by
    rw [frs_app]
    simp only [cmt, g1b]
    simp [frs]
  have g3n : (cmt p g' []).n = k + 1 := by simp [cmt, g1n]
  have g3c : (cmt p g' []).c = g'.c := rfl
  have el := encB_len2 []
  have hfl : (frs (G.take k ++ [[]])).length = (frs (G.take k)).length + ((encB []).length + 8) := by
    rw [frs_app, List.length_append]; simp [frs, frB_len]
  have hT3' : Tail O3 (N3 + 1) := hT3.mono (by omega)
  have kb3 := bytes_ok (N := N3 + 1) hT3' (by rw [g3b]; omega) m3
  rw [g3b] at kb3
  have hT3'' : Tail O3 (N3 + 1 + 1) := hT3.mono (by omega)
  have hok : okG p (lg0 p) (G.take k) := okG_take G k H.ok
  have hop2 := opn_again (G.take k) v0 hok (fun l hlG o ho => hoG l (List.mem_of_mem_take hlG) o ho) (frs (G.take k ++ [[]])).length (Nat.le_refl _)
  rw [hg'] at hop2
  obtain ⟨O4, N4, hN4, hT4, hk4, hm4⟩ := open_ok p op hc (b := frs (G.take k ++ [[]])) frs_okB (by omega) z hT3''
  rw [hop2] at hm4
  obtain ⟨R4, hr4, m4, hR4, S4⟩ := hm4
  have old4 := old_of_kr hT3'' hk4
  have hs4 : look s O4 = some (.row 4 Es) := hk4.lk hT3'' hs3 (by intro h; unfold Rs at h; rw [hs3] at h; cases h)
  have m34 := keep hT3'' hk4 m3
  -- its configuration
  have hT4s : Tail (sweepL O4) (N4 + 1) := Tail_sweep2 (hT4.mono (by omega))
  have kb4 := bytes_ok (N := N4 + 1) hT4s (by rw [g3b]; omega) m34.sw
  rw [g3b] at kb4
  have hT4s' : Tail (sweepL O4) (N4 + 1 + 1) := hT4s.mono (by omega)
  have kl4 := len_ok (N := N4 + 1 + 1) m4.sw
  rw [g3n] at kl4
  obtain ⟨x1, x2, x3, x4, V5, O5, N5, hr5, cx, _, hk5, hT5, _⟩ := lconfig_ok p op hc S4.v S4.s hT4s' m4.sw
  have hs4s : look s (sweepL O4) = some (.row 4 Es) := (lk_sweep (by rw [hs4]; simp)).trans hs4
  have hs5 : look s O5 = some (.row 4 Es) := hk5.lk hT4s' hs4s (by intro h; unfold Rs at h; rw [hs4s] at h; cases h)
  have scu5 := scu.fr ((((((old1.trans old2).trans (old_sw O2)).trans old3).trans old4).trans (old_sw O4)).trans (old_of_kr hT4s' hk5))
  obtain ⟨_, _, _, _, U5, hq, cu5⟩ := scu5
  simp only [List.cons.injEq, and_true] at hq
  obtain ⟨rfl, rfl, rfl, rfl⟩ := hq
  rw [g3c] at cx
  have b1 := cx.snpR (n := 35) (N := N5)
  have b2 := cx.snpN (n := 35) (N := N5)
  have b3 := cx.snpD (n := 35) (N := N5)
  have b4 := cx.snpG (n := 35) (N := N5)
  have f1 := cu5.snpR (n := 35) (N := N5)
  have f2 := cu5.snpN (n := 35) (N := N5)
  have f3 := cu5.snpD (n := 35) (N := N5)
  have f4 := cu5.snpG (n := 35) (N := N5)
  simp only [Prg.e] at hr1 hr4
  rw [Config.ce] at keq
  have kt : ((frs G).take n).map c8 = ((frs G).map c8).take n := List.map_take
  rw [kt] at hr1
  have c1 : (0 : Int) ≤ (n : Int) ∧ (n : Int) ≤ ((frs G).length : Int) := by omega
  have c2 : (0 : Int) ≤ ((frs (G.take k)).length : Int) ∧ ((frs (G.take k)).length : Int) ≤ ((frs G).length : Int) := by omega
  have hw : IntKind.wrap .i64 ((k : Int) + 1) = ((k + 1 : Nat) : Int) := wrap64 (by omega) (by omega)
  have w8 : ((frs G).map c8).take (frs (G.take k)).length = (frs (G.take k)).map c8 := by rw [← List.map_take, take_frs]
  have s1 := fun h => b2sV_slice h 1 (frs (G.take k))
  have hed2 : ∀ h : k < (eds G).length, (eds G)[k] = ((frs (G.take k)).length : Int) := fun h => (List.getElem?_eq_some_iff.1 hed).2
  have hdec : ∀ n : Nat, ((n : Int) = (n : Int)) = True := fun n => eq_self _
  have c3 : (k : Int) < (G.length : Int) + 1 := by omega
  have c4 : k < G.length + 1 := by omega
  generalize frs (G.take k ++ [[]]) = F3 at *
  generalize frs (G.take k) = F1 at *
  simp [c_law28_JournalRecovers_k2, e3, e9, e10, e15, e16, e17, c1, c2, c3, c4, hr1, hed, hed2, cIe, kl1, hu, hkE, hr2, hs2, hEk, keq, a1, a2, a3, a4, d1, d2, d3, d4, kb2, w8, hs1, hao, evC_b2s, s1, -evCall_b2s, eds_len, hr3, kb3, hr4, kb4, kl4, hr5, hs4s, hs5, b1, b2, b3, b4, f1, f2, f3, f4, hw, works28]
end Go.Av
