/-
  The law JournalRecovers.
-/
import Derived.Test.YtjdbnnnakpacjaaGreatJC18
set_option linter.unusedVariables false
set_option linter.unusedSimpArgs false
set_option linter.constructorNameAsVariable false
namespace Go.Av
set_option maxRecDepth 4000
theorem u64_rng (x : Int) : 0 ≤ IntKind.wrap .u64 x ∧ IntKind.wrap .u64 x < 18446744073709551616 := by
  simp only [IntKind.wrap, IntKind.bits, IntKind.signed]
  simp
  omega
theorem rc_k3 (p : Prg) (op : p.Ok bulkMax) (hc : (pre p.control).length < 2 ^ 40 - 1) (z : (prgD p).1 = 0) {L G : List (List TableOp)} (hL : L.length ≤ 12) (hl : ∀ l ∈ L, ∀ o ∈ l, OpS o) {R : AV} {s T : Nat} {Es : List (List AV)} {O : List (Nat × AO)} {N : Nat} {cut : Int} {e : Env}
    (H : RcH p L G R s T Es O N L.length) (E : RcE p L G s T cut e) :
    go Φ (finP [.tmp 6]) [.c c_law28_JournalRecovers_k3] .normal ⟨e, ⟨O, N⟩⟩ = some (.val (.bool true)) := by
  have e2 := E.e2
  have e3 := E.e3
  have e7 := E.e7
  have e9 := E.e9
  have e10 := E.e10
  have hbs : (frs G).length ≤ 300008 * 12 := by
    have := H.fS.b
    rw [cmts_b] at this
    simp only [show (lg0 p).b = [] from rfl, List.nil_append] at this
    omega
  have gl := H.gl
  have kb := bytes_ok H.tail (by rw [cmts_b]; simp only [show (lg0 p).b = [] from rfl, List.nil_append]; omega) H.m
  rw [cmts_b] at kb
  simp only [show (lg0 p).b = [] from rfl, List.nil_append] at kb
  obtain ⟨u0, u1⟩ := u64_rng cut
  obtain ⟨n, hn⟩ : ∃ n : Nat, (IntKind.wrap .u64 cut).tmod ((frs G).length + 1 : Int) = n := by
    refine ⟨((IntKind.wrap .u64 cut).tmod ((frs G).length + 1 : Int)).toNat, ?_⟩
    rw [Int.toNat_of_nonneg]
    exact Int.tmod_nonneg _ u0
  have hnl : n ≤ (frs G).length := by
    have : (IntKind.wrap .u64 cut).tmod ((frs G).length + 1 : Int) < ((frs G).length + 1 : Int) := Int.tmod_lt_of_pos _ (by omega)
    omega
  have w1 : IntKind.wrap .i64 (((frs G).length : Int) + 1) = ((frs G).length : Int) + 1 := wrap64 (by omega) (by omega)
  have w2 : IntKind.wrap .u64 (((frs G).length : Int) + 1) = ((frs G).length : Int) + 1 := wrap64u (by omega)
  have w3 : IntKind.wrap .i64 (n : Int) = (n : Int) := wrap64 (by omega) (by omega)
  have w4 : IntKind.wrap .i64 ((G.length : Int) + 1 - 1) = (G.length : Int) := (wrap64 (by omega) (by omega)).trans (by omega)
  have w4' : IntKind.wrap .i64 (G.length : Int) = (G.length : Int) := wrap64 (by omega) (by omega)
  have hed := eds_get (G := G) (i := G.length) (Nat.le_refl _)
  rw [List.take_of_length_le (Nat.le_refl _)] at hed
  have hed2 : ∀ h : G.length < (eds G).length, (eds G)[G.length] = ((frs G).length : Int) := fun h => (List.getElem?_eq_some_iff.1 hed).2
  have H1 : RcH p L G R s T Es O (N + 1) L.length := { H with tail := H.tail.mono (by omega) }
  have k2 := fun e (E : RkE p G s T n (kOf G n) e) => rc_k2 p op hc z hL hl H1 hnl E
  have hz : ¬ ((frs G).length : Int) + 1 = 0 := by omega
  have c0 : (G.length : Int) < (G.length : Int) + 1 := by omega
  generalize hX : some (Rt.val (.bool true)) = X at k2 ⊢
  simp [c_law28_JournalRecovers_k3, e2, e7, e9, kb, eds_len, w1, w2, w3, w4, w4', hed, hed2, cIe, hn, hz, c0]
  have hK := kOf_le G n
  refine loop_nat (kOf G n) (fun i e h => h = ⟨O, N + 1⟩ ∧ RkE p G s T n i e) (fun _ => X) ?_ ?_ 0 _ _ (Nat.zero_le _) ⟨rfl, ⟨by simp [e3], by simp [e9], by simp [e10], by simp, by simp, by simp⟩⟩
  · rintro i e h K' hi hK' ⟨rfl, E'⟩ ih
    have f3 := E'.e3
    have f9 := E'.e9
    have f10 := E'.e10
    have f15 := E'.e15
    have f16 := E'.e16
    have f17 := E'.e17
    have hw : IntKind.wrap .i64 ((i : Int) + 1) = ((i + 1 : Nat) : Int) := wrap64 (by omega) (by omega)
    have hin := kOf_in G n (i + 1) (by omega)
    have hed := eds_get (G := G) (i := i + 1) (by omega)
    have hed2 : ∀ h : i + 1 < (eds G).length, (eds G)[i + 1] = ((frs (G.take (i + 1))).length : Int) := fun h => (List.getElem?_eq_some_iff.1 hed).2
    have c1 : (i : Int) < (G.length : Int) := by omega
    have c2 : i < G.length := by omega
    have c3 : ((frs (G.take (i + 1))).length : Int) ≤ (n : Int) := by omega
    have c4 : (0 : Int) ≤ (i : Int) + 1 := by omega
    simp [c_law28_JournalRecovers_l1, f9, f16, f17, hw, eds_len, c1, c2, hed, hed2, cIe, c3, hin, c4]
    exact ih _ _ ⟨rfl, ⟨by simp [f3], by simp [f9], by simp [f10], by simp [f15], by simp [f16], by simp⟩⟩
  · rintro e h K' hK' ⟨rfl, E'⟩
    obtain ⟨i, hi⟩ : ∃ i, kOf G n = i := ⟨_, rfl⟩
    have f3 := E'.e3
    have f9 := E'.e9
    have f10 := E'.e10
    have f15 := E'.e15
    have f16 := E'.e16
    have f17 := E'.e17
    have hout := kOf_out G n
    rw [hi] at f17 hout hK
    have hw : IntKind.wrap .i64 ((i : Int) + 1) = ((i + 1 : Nat) : Int) := wrap64 (by omega) (by omega)
    have c4 : (0 : Int) ≤ (i : Int) + 1 := by omega
    by_cases q : i < G.length
    · have hed := eds_get (G := G) (i := i + 1) (by omega)
      have hed2 : ∀ h : i + 1 < (eds G).length, (eds G)[i + 1] = ((frs (G.take (i + 1))).length : Int) := fun h => (List.getElem?_eq_some_iff.1 hed).2
      have c1 : (i : Int) < (G.length : Int) := by omega
      have c3 : ¬ ((frs (G.take (i + 1))).length : Int) ≤ (n : Int) := by have := hout q; omega
      have c3' : ¬ (frs (G.take (i + 1))).length ≤ n := by have := hout q; omega
      simp [c_law28_JournalRecovers_l1, f9, f16, f17, hw, eds_len, c1, q, hed, hed2, cIe, c3, c3', c4, hK']
      exact k2 _ ⟨by simp [f3], by simp [f9], by simp [f10], by simp [f15], by simp [f16], by simp [f17, hi]⟩
    · have c1 : ¬ (i : Int) < (G.length : Int) := by omega
      simp [c_law28_JournalRecovers_l1, f9, f16, f17, hw, eds_len, c1, q, cIe, hK']
      exact k2 _ ⟨by simp [f3], by simp [f9], by simp [f10], by simp [f15], by simp [f16], by simp [f17, hi]⟩
theorem JournalRecovers_all (p : Prg) (L : List (List TableOp)) (cut : Int) (op : p.Ok bulkMax) (oL : okL bulkMax (okL bulkMax (TableOp.Ok bulkMax)) L) (_oc : okI bulkMax cut) (hc : (pre p.control).length < 2 ^ 40 - 1) :
    pureI Φ f_law28_JournalRecovers [.agg (Prg.c p), .slice 1 (L.map (cS 9 TableOp.c)), .int .i64 cut] = some (.val (.bool true)) := by
  obtain ⟨oL', oo⟩ := oL
  have f := PrgS_of op
  have e26 := bulkMax_eq
  have hl : ∀ l ∈ L, ∀ o ∈ l, OpS o := fun l hl o ho => OpS_of ((oo l hl).2 o ho)
  obtain ⟨b, hb, hb2⟩ := tooL28 p f L (by omega) (fun l hl => by have := (oo l hl).1; omega)
  rw [pureI_go (fn := c_law28_JournalRecovers) rfl rfl]
  by_cases z : (prgD p).1 = 0
  rotate_left
  · have k1 := newErr_ok p f hc z [] 0 rfl
    simp only [Prg.e, List.nil_append] at hb k1
    cases b with
    | true => simp [c_law28_JournalRecovers, Prg.e, hb, k1, z, works28]
    | false => simp [c_law28_JournalRecovers, Prg.e, hb, k1, z, works28]
  have k1 := newOk_ok p op hc z (Tail.nil 0)
  cases b with
  | true =>
    simp only [Prg.e, List.nil_append] at hb k1
    simp [c_law28_JournalRecovers, Prg.e, hb, k1, works28]
  | false =>
  obtain ⟨_, h12, _⟩ := hb2 rfl
  have S0 := lg0_s op z 0
  obtain ⟨O, hO⟩ : ∃ O, [(0, AO.row 9 [Prg.c p]), (1, AO.row 16 [lgRow p (emptyC p) (.fslice 1 []) 0]), (2, AO.tok 1 0)] = O := ⟨_, rfl⟩
  have hT : Tail O 3 := by rw [← hO]; simp [Tail_cons_iff, Tail_nil_iff]
  have m : LogM O 1 (.fslice 1 []) p (lg0 p) := ⟨by rw [← hO]; simp [lg0], .inl ⟨rfl, rfl⟩⟩
  obtain ⟨w1, w2, w3, w4, V, O2, N2, hr2, cm, hown, hk2, hT2, hN2⟩ := lconfig_ok p op hc S0.v S0.s hT m
  have hO2 : look 2 O = some (.tok 1 0) := by rw [← hO]; simp
  have t2 := hk2.lk hT hO2 (by intro h; unfold Rs at h; rw [hO2] at h; cases h)
  have r2 := hk2.lk hT m.row (by intro h; unfold Rs at h; rw [m.row] at h; cases h)
  simp only [Prg.e, List.nil_append] at hb k1
  generalize hX : some (Rt.val (.bool true)) = X
  simp only [Prg.e] at hO
  have t20 := hT2 N2 (Nat.le_refl _)
  have t21 : ∀ k, look (N2 + k) O2 = none := fun k => hT2 (N2 + k) (by omega)
  have l2 := hT2.lt t2
  have z1 : ¬ 2 = N2 := by omega
  have z2 : ¬ 2 = N2 + 1 := by omega
  have z3 : ¬ N2 = 2 := by omega
  have z4 : ¬ N2 + 1 = 2 := by omega
  simp [c_law28_JournalRecovers, Prg.e, hb, k1]
  rw [hO]
  simp [hr2, t20, t21, lk_app, z1, z2, z3, z4, t2]
  obtain ⟨O3, hO3⟩ : ∃ O3, setl 2 (AO.tok 1 1) (O2 ++ [(N2, AO.row 4 [[w1, w2, w3, w4]]), (N2 + 1, AO.row 4 [[w1, w2, w3, w4]])]) = O3 := ⟨_, rfl⟩
  have g3 : ∀ j x, look j O2 = some x → j ≠ 2 → look j O3 = some x := by
    intro j x hj hs
    rw [← hO3, lk_setl, if_neg hs, lk_app, hj]; rfl
  have r2 : LogM O2 1 (.fslice 1 []) p (lg0 p) := m.fr (r2.trans m.row.symm) (fun j hj => by simp [tid] at hj)
  have m3 : LogM O3 1 (.fslice 1 []) p (lg0 p) := r2.fr ((g3 1 _ r2.row (by decide)).trans r2.row.symm) (fun j hj => by simp [tid] at hj)
  have old : Old O2 O3 := by
    intro j z es hj hz
    refine (g3 j _ hj ?_).trans hj.symm
    rintro rfl
    rw [t2] at hj; cases hj
  have st : StL O3 [[w1, w2, w3, w4]] (sts p []) := by
    have := StL.app (O := O3) (Es := []) (cs := []) ⟨rfl, fun i e c h => by simp at h⟩ (StC.fr ⟨w1, w2, w3, w4, V, rfl, cm⟩ old)
    exact this
  rw [hO3, ← hX]
  refine rc_loop p op hc L cut h12 hl (fun G R s T Es O N e H E => rc_k3 p op hc z h12 hl H E) (G0 := []) (R0 := .fslice 1 []) (s0 := N2 + 1) (T0 := 2) (Es0 := [[w1, w2, w3, w4]]) ⟨?_, trivial, by simp, S0, by simp, m3, ?_, st, ?_, by simp [tid]⟩ ⟨by simp, by simp, by simp [Prg.e], by simp, by simp [eds, frs, cIe], by simp⟩ (by simp)
  · rw [← hO3]
    exact Tail_setl2 (Tail_append_iff.2 ⟨hT2.mono (by omega), by simp [Tail_cons_iff, Tail_nil_iff]; omega⟩)
  · rw [← hO3, lk_setl, if_neg (by omega), lk_app, t21 1]; simp
  · rw [← hO3, lk_setl, if_pos rfl, lk_app, t2]; simp
end Go.Av
