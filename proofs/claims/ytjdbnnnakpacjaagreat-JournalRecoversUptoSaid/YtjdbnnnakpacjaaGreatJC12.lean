/-
  The law JournalCommits.
-/
import Derived.Test.YtjdbnnnakpacjaaGreatJC11
import Derived.Test.YtjdbnnnakpacjaaGreatW28K
set_option linter.unusedVariables false
set_option linter.unusedSimpArgs false
set_option linter.constructorNameAsVariable false
namespace Go.Av
set_option maxRecDepth 4000
def stp (p : Prg) (g : LgV) (l : List TableOp) : LgV := match badA p g.c l with
  | some _ => g
  | none => cmt p g l
structure LgS (p : Prg) (g : LgV) (i : Nat) : Prop where
  v : CfgV p g.c
  s : CfgT g.c
  n : g.n ≤ i
  b : g.b.length ≤ 300008 * i
theorem LgS.cmt {p : Prg} {g : LgV} {i : Nat} (h : LgS p g i) (hp : p.tables.length < 2 ^ 40) {l : List TableOp} (hl : ∀ o ∈ l, OpS o) : LgS p (cmt p g l) (i + 1) := by
  obtain ⟨v, s⟩ := cfgN_ok h.v h.s hp l hl l.length
  rw [cfgN_len] at v s
  have := h.n
  have := h.b
  have := encB_len2 l
  refine ⟨v, s, by simp only [Go.Av.cmt]; omega, ?_⟩
  simp only [Go.Av.cmt, List.length_append, frB_len]
  omega
theorem LgS.mono {p : Prg} {g : LgV} {i j : Nat} (h : LgS p g i) (hij : i ≤ j) : LgS p g j := ⟨h.v, h.s, by have := h.n; omega, by have := h.b; omega⟩
theorem lg0_s {p : Prg} (op : p.Ok bulkMax) (h : (prgD p).1 = 0) (i : Nat) : LgS p (lg0 p) i := ⟨emptyV h, emptyT op, by simp [lg0], by simp [lg0]⟩
def idJ (p : Prg) (c : Config) (l : List TableOp) : List Int := (List.range l.length).map (idN p c l)
theorem idsA_J (p : Prg) (c : Config) (l : List TableOp) : idsA p c l = (idJ p c l).map cI := by
  unfold idsA idJ
  rw [List.map_map]; rfl
theorem lk13 {O : List (Nat × AO)} {N j k t : Nat} {y c c2 : AO} (hT : Tail O N) (hy : look j O = some y) (hn : y ≠ .res) (h2 : j ≠ t) : look j (setl t c (dropl (N + k) (sweepL (O ++ [(N + k, c2)])))) = some y := by
  have hj := hT.lt hy
  have h3 : j ≠ N + k := by omega
  have h4 : look j (O ++ [(N + k, c2)]) = some y := by rw [lk_app, hy]; rfl
  rw [lk_setl, if_neg h2, lk_dropl h3, lk_sweep (by rw [h4]; simpa using hn), h4]
theorem LogM.k13 {O : List (Nat × AO)} {N k t u : Nat} {R : AV} {p : Prg} {g : LgV} {y c c2 : AO} (hT : Tail O N) (m : LogM O t R p g) (hu : look u O = some y) (h1 : ∀ l, y ≠ .row 16 l) (h2 : ∀ n, y ≠ .tok 1 n) : LogM (setl u c (dropl (N + k) (sweepL (O ++ [(N + k, c2)])))) t R p g := by
  have n1 : t ≠ u := lk_ne m.row hu (fun h => h1 _ h.symm)
  refine m.fr ?_ fun j hj => ?_
  · rw [lk13 hT m.row (by simp) n1, m.row]
  · rcases m.rcd with ⟨rfl, _⟩ | ⟨T, rfl, hz⟩
    · cases hj
    · simp only [tid, Option.some.injEq] at hj
      subst hj
      have n2 : T ≠ u := lk_ne hz hu (fun h => h2 _ h.symm)
      rw [lk13 hT hz (by simp) n2, hz]
theorem JournalCommits_all (p : Prg) (L : List (List TableOp)) (op : p.Ok bulkMax) (oL : okL bulkMax (okL bulkMax (TableOp.Ok bulkMax)) L) :
    pureI Φ f_law28_JournalCommits [.agg (Prg.c p), .slice 1 (L.map (cS 9 TableOp.c))] = some (.val (.bool true)) := by
  obtain ⟨oL', oo⟩ := oL
  have f := PrgS_of op
  have hv := prgHv op
  have e26 := bulkMax_eq
  obtain ⟨b, hb, hb2⟩ := tooL28 p f L (by omega) (fun l hl => by have := (oo l hl).1; omega)
  rw [pureI_go (fn := c_law28_JournalCommits) rfl rfl]
  cases b with
  | true =>
    simp only [Prg.e] at hb
    simp [c_law28_JournalCommits, Prg.e, hb, works28]
  | false =>
  obtain ⟨hpre, h12, _⟩ := hb2 rfl
  have hc : (pre p.control).length < 2 ^ 40 - 1 := by omega
  have hp := f.t
  have r0 := rlnew p f hv hc
  by_cases z : (prgD p).1 = 0
  rotate_left
  · have k1 := newErr_ok p f hc z [] 0 rfl
    rw [if_neg z] at r0
    simp only [Prg.e, noLg] at hb k1 r0
    simp [c_law28_JournalCommits, Prg.e, hb, k1, r0, z]
    rw [go_loop]
    by_cases zL : 0 < L.length
    · simp [c_law28_JournalCommits_l0, c_law28_JournalCommits_k1, zL, works28]
    · have : L = [] := List.eq_nil_of_length_eq_zero (by omega)
      subst this
      simp [c_law28_JournalCommits_l0, c_law28_JournalCommits_k1, works28]
  rw [if_pos z] at r0
  have k1 := newOk_ok p op hc z (Tail.nil 0)
  simp only [Prg.e, rlC_e, lg0, lgRow_e, List.nil_append] at hb k1 r0
  generalize hX : some (Rt.val (.bool true)) = X
  simp [c_law28_JournalCommits, Prg.e, hb, k1, r0]
  have hl : ∀ l ∈ L, ∀ o ∈ l, OpS o := fun l hl o ho => OpS_of ((oo l hl).2 o ho)
  refine loop_nat L.length (fun i e h => ∃ g R O N, h = ⟨O, N⟩ ∧ Tail O N ∧ LogM O 1 R p g ∧ look 2 O = some (.row 15 [rlC p g]) ∧ LgS p g i ∧ look 1 e = some (.slice 1 (L.map (cS 9 TableOp.c))) ∧ look 5 e = some (.ptr 1 16 0 0) ∧ look 7 e = some (.ptr 2 15 0 0) ∧ look 9 e = some (.int .i64 i))
    (fun _ => X) ?_ ?_ 0 _ _ (Nat.zero_le _) ?_
  · rintro i e h K hi hK ⟨g, R, O, N, rfl, hT, m, h7, S, e1, e5, e7, e9⟩ ih
    have hw : IntKind.wrap .i64 ((i : Int) + 1) = ((i + 1 : Nat) : Int) := wrap64 (by omega) (by omega)
    have hli : ∀ o ∈ L[i], OpS o := hl _ (List.getElem_mem hi)
    have hli2 : L[i].length < 2 ^ 40 := by have := (oo _ (List.getElem_mem hi)).1; omega
    have gn := S.n
    have gb := S.b
    have kr := rlcommit p op hv hc hp S.s (by omega) (by omega) L[i] hli2 hli
    obtain ⟨O', N', R', hN', hT', hR', hk, hcj⟩ := lcommit_ok p op hc hp S.s (by omega) (by omega) hli (.inl rfl) hT m
    have h7' : look 2 O' = some (.row 15 [rlC p g]) := hk.lk hT h7 (by
      rintro (h | h | h)
      · omega
      · rcases m.rcd with ⟨rfl, _⟩ | ⟨T, rfl, hz⟩
        · cases h
        · simp [tid] at h; subst h; rw [h7] at hz; cases hz
      · unfold Rs at h; rw [h7] at h; cases h)
    have t0 : ∀ k, look (N' + k) O' = none := fun k => hT' (N' + k) (by omega)
    have l2 := hT'.lt h7'
    have q2 : ∀ k, ¬ N' + k = 2 := fun k => by omega
    have p2 : ∀ k, ¬ 2 = N' + k := fun k => by omega
    cases hA : badA p g.c L[i] with
    | some x =>
      obtain ⟨k, x⟩ := x
      rw [hA] at hcj
      obtain ⟨hr, m'⟩ := hcj
      unfold cmR at kr
      rw [hA] at kr
      have kj := jInts_ok [] [] (by simp)
      have ks := same_ok p op hc S.v S.s (by omega)
      simp only [List.map_nil, decide_true] at kj
      rw [rlC_e] at h7'
      simp only [rlC_e] at kr
      have hrow := m'.row
      rw [lgRow_e] at hrow
      simp only [lgP_e, rlC_e] at ks
      have hm2 : ∀ c c2, LogM (setl 2 c (dropl (N' + 13) (sweepL (O' ++ [(N' + 13, c2)])))) 1 R' p g := fun c c2 => LogM.k13 (k := 13) hT' m' h7' (by simp) (by simp)
      have hT2 : ∀ c c2, Tail (setl 2 c (dropl (N' + 13) (sweepL (O' ++ [(N' + 13, c2)])))) (N' + 13 + 1) := fun c c2 => Tail_setl2 (Tail_dropl2 (Tail_sweep2 (Tail_append_iff.2 ⟨hT'.mono (by omega), by simp [Tail_cons_iff, Tail_nil_iff]⟩)))
      rcases m'.rcd with ⟨rfl, hz⟩ | ⟨T, rfl, hz⟩
      · simp [hz] at ks
        simp only [hz, List.map_nil] at kr h7'
        simp [c_law28_JournalCommits_l0, e1, e5, e7, e9, hi, cSe, hr, kr, kj, h7', lk_app, lk_setl, lk_sweep, lk_dropl, lk_dropl_none, t0, q2, p2, hw, hrow, hz, ks]
        refine ih _ _ ⟨g, .fslice 1 [], _, _, rfl, hT2 _ _, hm2 _ _, ?_, S.mono (Nat.le_succ _), by simp [e1], by simp [e5], by simp [e7], by simp⟩
        simp [h7', lk_app, lk_setl, lk_sweep, lk_dropl, t0, q2, p2, rlC_e, hz]
      · simp [c_law28_JournalCommits_l0, e1, e5, e7, e9, hi, cSe, hr, kr, kj, h7', lk_app, lk_setl, lk_sweep, lk_dropl, lk_dropl_none, t0, q2, p2, hw, hrow, ks]
        refine ih _ _ ⟨g, .app 1 (g.b.map c8) T, _, _, rfl, hT2 _ _, hm2 _ _, ?_, S.mono (Nat.le_succ _), by simp [e1], by simp [e5], by simp [e7], by simp⟩
        simp [h7', lk_app, lk_setl, lk_sweep, lk_dropl, t0, q2, p2, rlC_e]
    | none =>
      rw [hA] at hcj
      obtain ⟨hr, m'⟩ := hcj
      unfold cmR at kr
      rw [hA] at kr
      have S' := S.cmt hp hli
      have gb' := S'.b
      have ki : (idJ p g.c L[i]).length < 2 ^ 40 := by simp [idJ]; omega
      rw [idsA_J] at hr kr
      generalize idJ p g.c L[i] = il at hr kr ki
      have kj := jInts_ok il il ki
      rw [decide_eq_true rfl] at kj
      generalize cmt p g L[i] = g' at hr kr m' S' gb'
      have ks := same_ok p op hc S'.v S'.s (by omega)
      rw [rlC_e] at h7'
      simp only [rlC_e] at kr
      have hrow := m'.row
      rw [lgRow_e] at hrow
      simp only [lgP_e, rlC_e] at ks
      have hm2 : ∀ c c2, LogM (setl 2 c (dropl (N' + 13) (sweepL (O' ++ [(N' + 13, c2)])))) 1 R' p g' := fun c c2 => LogM.k13 (k := 13) hT' m' h7' (by simp) (by simp)
      have hT2 : ∀ c c2, Tail (setl 2 c (dropl (N' + 13) (sweepL (O' ++ [(N' + 13, c2)])))) (N' + 13 + 1) := fun c c2 => Tail_setl2 (Tail_dropl2 (Tail_sweep2 (Tail_append_iff.2 ⟨hT'.mono (by omega), by simp [Tail_cons_iff, Tail_nil_iff]⟩)))
      rcases m'.rcd with ⟨rfl, hz⟩ | ⟨T, rfl, hz⟩
      · simp [hz] at ks
        simp [c_law28_JournalCommits_l0, e1, e5, e7, e9, hi, cSe, hr, kr, kj, h7', lk_app, lk_setl, lk_sweep, lk_dropl, lk_dropl_none, t0, q2, p2, hw, hrow, hz, ks]
        refine ih _ _ ⟨g', .fslice 1 [], _, _, rfl, hT2 _ _, hm2 _ _, ?_, S', by simp [e1], by simp [e5], by simp [e7], by simp⟩
        simp [h7', lk_app, lk_setl, lk_sweep, lk_dropl, t0, q2, p2, rlC_e, hz]
      · simp [c_law28_JournalCommits_l0, e1, e5, e7, e9, hi, cSe, hr, kr, kj, h7', lk_app, lk_setl, lk_sweep, lk_dropl, lk_dropl_none, t0, q2, p2, hw, hrow, ks]
        refine ih _ _ ⟨g', .app 1 (g'.b.map c8) T, _, _, rfl, hT2 _ _, hm2 _ _, ?_, S', by simp [e1], by simp [e5], by simp [e7], by simp⟩
        simp [h7', lk_app, lk_setl, lk_sweep, lk_dropl, t0, q2, p2, rlC_e]
  · rintro e h K hK ⟨g, R, O, N, rfl, hT, m, h7, S, e1, e5, e7, e9⟩
    rw [← hX]
    simp [c_law28_JournalCommits_l0, c_law28_JournalCommits_k1, e1, e9, hK, works28]
  · refine ⟨lg0 p, .fslice 1 [], _, _, rfl, by simp [Tail_cons_iff, Tail_nil_iff], ⟨by simp [lgRow_e, lg0], .inl ⟨rfl, rfl⟩⟩, by simp [rlC_e, lg0], lg0_s op z 0, by simp, by simp, by simp, by simp⟩
end Go.Av
