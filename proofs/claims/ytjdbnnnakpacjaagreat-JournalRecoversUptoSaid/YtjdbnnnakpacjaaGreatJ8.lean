/-
  The decoder's checks, IDs and calls.
-/
import Derived.Test.YtjdbnnnakpacjaaGreatJ7
set_option linter.unusedVariables false
set_option linter.unusedSimpArgs false
set_option linter.constructorNameAsVariable false
namespace Go.Av
set_option maxRecDepth 4000
theorem dreq (s : Stt) (ok : Bool) (c : Int) (T : List (Nat × AO)) (N : Nat) : callI Φ f_journal_decoder_require [.ptr 0 2 0 0, .bool ok, .int .i64 c] ⟨(0, .row 2 [cSt s]) :: T, N⟩ =
    some (.val (.tup []), ⟨(0, .row 2 [cSt (if s.e = 0 ∧ ok = false then ⟨s.b, c⟩ else s)]) :: T, N⟩) := by
  rw [callI_go (fn := c_journal_decoder_require) rfl rfl]
  by_cases q : s.e = 0
  · cases ok <;> simp [c_journal_decoder_require, cSt_e, q]
  · cases ok <;> simp [c_journal_decoder_require, cSt_e, q]
theorem rdN_zero {n : Nat} {s : Stt} (h : (rdN n s).1.e ≠ 0) : (rdN n s).2 = 0 := by
  unfold rdN at h ⊢
  split
  · split
    · rfl
    · rename_i q1 q2; rw [if_pos q1, if_neg q2] at h; simp at h
  · rfl
theorem did (s : Stt) (hb : okB s.b) (T : List (Nat × AO)) (N : Nat) : callI Φ f_journal_decoder_id [.ptr 0 2 0 0] ⟨(0, .row 2 [cSt s]) :: T, N⟩ = some (.val (.int .i64 (rdI s).2), ⟨(0, .row 2 [cSt (rdI s).1]) :: T, N⟩) := by
  rw [callI_go (fn := c_journal_decoder_id) rfl rfl]
  have h4 := dnum4 s hb T N
  have hr := rd4_rng hb
  have hw : IntKind.wrap .i64 (rdN 4 s).2 = (rdN 4 s).2 := wrap64 (by omega) (by omega)
  have hq := dreq (rdN 4 s).1 (decide ((rdN 4 s).2 ≤ 2147483647)) 5 T N
  have e : (if (rdN 4 s).1.e = 0 ∧ decide ((rdN 4 s).2 ≤ 2147483647) = false then (⟨(rdN 4 s).1.b, 5⟩ : Stt) else (rdN 4 s).1) = (rdI s).1 := by
    simp only [rdI]
    by_cases z : (rdN 4 s).1.e = 0
    · by_cases y : (rdN 4 s).2 ≤ 2147483647
      · have y' : ¬ (2147483647 < (rdN 4 s).2) := by omega
        simp [z, y, y']
      · simp [z, y]
    · have := rdN_zero z
      simp [z, this]
  rw [e] at hq
  simp [c_journal_decoder_id, h4, hq, hw, rdI]
theorem eqL_refl {α : Type} (f : α → α → Bool) : ∀ l : List α, (∀ x ∈ l, f x x = true) → eqL f l l = true
  | [], _ => by simp [eqL]
  | x :: r, h => by simp [eqL, h x (List.mem_cons_self ..), eqL_refl f r (fun y hy => h y (List.mem_cons_of_mem _ hy))]
theorem avEq_int (n : Nat) (k : IntKind) (v : Int) : avEq (n + 1) (.int k v) (.int k v) = true := by unfold avEq; simp
theorem avEq_fsl (n z : Nat) : avEq (n + 1) (.fslice z []) (.fslice z []) = true := by unfold avEq; simp [eqL]
theorem avEq_app (n z : Nat) (es : List (List AV)) (t : Nat) (h : eqL (eqL (avEq n)) es es = true) : avEq (n + 1) (.app z es t) (.app z es t) = true := by unfold avEq; simp [h]
theorem aoEq_rowc (z : Nat) (cs : List AV) (h : ∀ x ∈ cs, avEq 40 x x = true) : aoEq (some (.row z [cs])) (some (.row z [cs])) = true := by
  have h1 := eqL_refl (avEq 40) cs h
  unfold aoEq
  simp [snapFuel, eqL, h1]
theorem aoEq_row2 (a : Int) (l : List Int) (t : Nat) : aoEq (some (.row 2 [[.int .i64 a, .app 1 (l.map c32) t]])) (some (.row 2 [[.int .i64 a, .app 1 (l.map c32) t]])) = true := by
  apply aoEq_rowc
  intro x hx
  simp at hx
  rcases hx with rfl | rfl
  · exact avEq_int 39 _ _
  · refine avEq_app 39 _ _ _ (eqL_refl _ _ ?_)
    intro x hx
    obtain ⟨y, _, rfl⟩ := List.mem_map.1 hx
    rw [c32eJ]
    exact eqL_refl _ _ (by simp; exact avEq_int 38 _ _)
theorem aoEq_row2n (a : Int) : aoEq (some (.row 2 [[.int .i64 a, .fslice 1 []]])) (some (.row 2 [[.int .i64 a, .fslice 1 []]])) = true := by
  apply aoEq_rowc
  intro x hx
  simp at hx
  rcases hx with rfl | rfl
  · exact avEq_int 39 _ _
  · exact avEq_fsl 39 _
-- a loop, whatever is to be shown of what it comes to
theorem loop_recQ {Φ : FuncId → Option AFun} {β : Type} {fin : Option (Ex × St) → Option β} {σ : Type} (m : σ → Nat) (Inv : σ → Env → AH → Prop) (R : σ → Option β → Prop) {b : ACode} {K : List Fr}
    (step : ∀ x e h L, (∀ j s, go Φ fin L (.exit j) s = go Φ fin K (.exit j) s) → Inv x e h → (∀ y e' h', m y < m x → Inv y e' h' → R y (go Φ fin L .normal ⟨e', h'⟩)) → R x (go Φ fin (.c b :: L) .normal ⟨e, h⟩)) :
    ∀ x e h, Inv x e h → R x (go Φ fin (.c (.loop b) :: K) .normal ⟨e, h⟩) := by
  have key : ∀ n x e h, m x ≤ n → Inv x e h → R x (go Φ fin (.c (.loop b) :: K) .normal ⟨e, h⟩) := by
    intro n
    induction n with
    | zero =>
      intro x e h hn hi
      rw [go_loop]
      exact step x e h _ (fun j s => by simp) hi fun y e' h' hlt => by omega
    | succ n ih =>
      intro x e h hn hi
      rw [go_loop]
      exact step x e h _ (fun j s => by simp) hi fun y e' h' hlt hy => ih y e' h' (by omega) hy
  intro x e h hi
  exact key (m x) x e h (Nat.le_refl _) hi
theorem loop_onceQ {Φ : FuncId → Option AFun} {β : Type} {fin : Option (Ex × St) → Option β} {b : ACode} {K : List Fr} {s : St} (Q : Option β → Prop)
    (h : ∀ L, (∀ j s, go Φ fin L (.exit j) s = go Φ fin K (.exit j) s) → (∀ s, go Φ fin L .normal s = go Φ fin (.c (.loop b) :: K) .normal s) → Q (go Φ fin (.c b :: L) .normal s)) :
    Q (go Φ fin (.c (.loop b) :: K) .normal s) := by
  rw [go_loop]
  exact h _ (fun j s => by simp) (fun s => rfl)
def DC (T : List (Nat × AO)) (p t : Nat) (a : Int) (x : Nat × Stt × List Int) (r : Option (Rt × AH)) : Prop :=
  ∃ N, t < N ∧ r = some (.val (.agg [.int .i64 a, .app 1 ((x.2.2 ++ (rdArgs x.1 x.2.1).2).map c32) t]),
    ⟨(0, .row 2 [cSt (rdArgs x.1 x.2.1).1]) :: (T ++ [(p, .row 2 [[.int .i64 a, .app 1 ((x.2.2 ++ (rdArgs x.1 x.2.1).2).map c32) t]]), (p + 1, .row 2 [[.int .i64 a, .app 1 ((x.2.2 ++ (rdArgs x.1 x.2.1).2).map c32) t]]), (t, .tok 1 (x.2.2.length + (rdArgs x.1 x.2.1).2.length))]), N⟩)
theorem dcall_loop (T : List (Nat × AO)) (p : Nat) (hp : 1 ≤ p) (hT : Tail T p) (hS : sweepL T = T) (a : Int) (t : Nat) (ht : p + 1 < t) (k : Nat) (s : Stt) (acc : List Int) (hb : okB s.b) (hk : acc.length + k ≤ 255) (e : Env) (N : Nat) (hN : t < N)
    (h0 : look 0 e = some (.ptr 0 2 0 0)) (h2 : look 2 e = some (.ptr p 2 0 0)) (h3 : look 3 e = some (.ptr (p + 1) 2 0 0)) (h4 : look 4 e = some (.int .u32 k)) :
    DC T p t a (k, s, acc) (go Φ (finC [.cell 2 true 2]) [.c (.loop c_journal_decoder_call_l0), .b 0, .c c_journal_decoder_call_k1] .normal
      ⟨e, ⟨(0, .row 2 [cSt s]) :: (T ++ [(p, .row 2 [[.int .i64 0, .fslice 1 []]]), (p + 1, .row 2 [[.int .i64 a, .app 1 (acc.map c32) t]]), (t, .tok 1 acc.length)]), N⟩⟩) := by
  refine loop_recQ (fun x : Nat × Stt × List Int => x.1) (fun x e h => okB x.2.1.b ∧ x.2.2.length + x.1 ≤ 255 ∧ look 0 e = some (.ptr 0 2 0 0) ∧ look 2 e = some (.ptr p 2 0 0) ∧ look 3 e = some (.ptr (p + 1) 2 0 0) ∧ look 4 e = some (.int .u32 x.1) ∧
    ∃ N, t < N ∧ h = ⟨(0, .row 2 [cSt x.2.1]) :: (T ++ [(p, .row 2 [[.int .i64 0, .fslice 1 []]]), (p + 1, .row 2 [[.int .i64 a, .app 1 (x.2.2.map c32) t]]), (t, .tok 1 x.2.2.length)]), N⟩) (DC T p t a) ?_ (k, s, acc) e _ ⟨hb, hk, h0, h2, h3, h4, N, hN, rfl⟩
  rintro ⟨k, s, acc⟩ e _ L hL ⟨hb, hk, h0, h2, h3, h4, N, hN, rfl⟩ ih
  simp only at hb hk h4 ih
  have hpp := hT p (Nat.le_refl _)
  have hp1 := hT (p + 1) (by omega)
  have htt := hT t (by omega)
  have p0 : ¬ (0 = p) := by omega
  have p0' : ¬ (p = 0) := by omega
  have t0 : ¬ (0 = t) := by omega
  have t1 : ¬ (p = t) := by omega
  have t2 : ¬ (p + 1 = t) := by omega
  have hNr := hT (N + 27) (by omega)
  have e1 : ¬ (p = N + 27) := by omega
  have e2 : ¬ (p + 1 = N + 27) := by omega
  have e3 : ¬ (t = N + 27) := by omega
  cases k with
  | zero =>
    refine ⟨N, hN, ?_⟩
    simp [c_journal_decoder_call_l0, c_journal_decoder_call_k1, rdArgs, cSt_e, h0, h2, h3, h4, hL, hpp, hp1, htt, p0, p0', t0, t1, t2]
  | succ k =>
    have q : (0 : Int) < (k : Int) + 1 := by omega
    by_cases z : s.e = 0
    rotate_left
    · refine ⟨N, hN, ?_⟩
      simp [c_journal_decoder_call_l0, c_journal_decoder_call_k1, rdArgs_stop z, cSt_e, h0, h2, h3, h4, hL, hpp, hp1, htt, p0, p0', t0, t1, t2, z, q]
    have hnum := dnum4 s hb
    simp only [cSt_e, z] at hnum
    have ha := aoEq_row2 a acc t
    have hw : IntKind.wrap .u32 (k : Int) = (k : Int) := wrapU32 (by omega)
    have hlen : ((acc.length : Nat) + 1) * 4 ≤ 70368744177664 := by omega
    have := ih (k, (rdN 4 s).1, acc ++ [(rdN 4 s).2])
    simp only [DC, rdArgs_go z] at this ⊢
    simp [c_journal_decoder_call_l0, cSt_e, h0, h2, h3, h4, hL, hpp, hp1, htt, p0, p0', t0, t1, t2, z, q, hnum, ha, hS, sweepL_append2, hw, hNr, e1, e2, e3, hlen]
    refine Exists.imp (fun N2 g => ⟨g.1, g.2.trans (by simp [cSt_e]; omega)⟩) (this _ _ (Nat.lt_succ_self k) ⟨rdN_okB hb, by simp; omega, by simp [h0], by simp [h2], by simp [h3], by simp, N + 27 + 1, by omega, by simp [cSt_e, c32eJ]⟩)
def ArgV (X : AV) (l : List Int) : Prop := (X = .fslice 1 [] ∧ l = []) ∨ ∃ t, X = .app 1 (l.map c32) t
structure HExt (p : Nat) (E : List (Nat × AO)) (N : Nat) : Prop where
  le : p ≤ N
  lo : ∀ j, j < p → look j E = none
  hi : Tail E N
  sw : sweepL E = E
def DQ (T : List (Nat × AO)) (p : Nat) (a : Int) (n : Nat) (s : Stt) (r : Option (Rt × AH)) : Prop :=
  ∃ X E N, r = some (.val (.agg [.int .i64 a, X]), ⟨(0, .row 2 [cSt (rdArgs n s).1]) :: (T ++ E), N⟩) ∧ HExt p E N ∧ ArgV X (rdArgs n s).2
theorem DQ_of_DC {T : List (Nat × AO)} {p t : Nat} {a : Int} {m : Nat} {s : Stt} {r : Option (Rt × AH)} (ht : p + 1 < t) (z : s.e = 0) (h : DC T p t a (m, (rdN 4 s).1, [(rdN 4 s).2]) r) : DQ T p a (m + 1) s r := by
  obtain ⟨N, h1, h2⟩ := h
  refine ⟨_, [(p, .row 2 [[.int .i64 a, .app 1 (([(rdN 4 s).2] ++ (rdArgs m (rdN 4 s).1).2).map c32) t]]), (p + 1, .row 2 [[.int .i64 a, .app 1 (([(rdN 4 s).2] ++ (rdArgs m (rdN 4 s).1).2).map c32) t]]), (t, .tok 1 (1 + (rdArgs m (rdN 4 s).1).2.length))], N, h2.trans (by simp [rdArgs_go z]; rfl), ⟨by omega, ?_, ?_, by simp⟩, .inr ⟨t, by simp [rdArgs_go z]⟩⟩
  · intro j hj
    have : ¬ p = j := by omega
    have : ¬ p + 1 = j := by omega
    have : ¬ t = j := by omega
    simp [*]
  · intro j hj
    have : ¬ p = j := by omega
    have : ¬ p + 1 = j := by omega
    have : ¬ t = j := by omega
    simp [*]
theorem DQ_stop {T : List (Nat × AO)} {p : Nat} {a : Int} {n : Nat} {s : Stt} (h : rdArgs n s = (s, [])) :
    DQ T p a n s (some (.val (.agg [.int .i64 a, .fslice 1 []]), ⟨(0, .row 2 [[.slice 1 (s.b.map c8), .int .i64 s.e]]) :: (T ++ [(p, .row 2 [[.int .i64 a, .fslice 1 []]]), (p + 1, .row 2 [[.int .i64 a, .fslice 1 []]])]), p + 1 + 1⟩)) := by
  refine ⟨.fslice 1 [], [(p, .row 2 [[.int .i64 a, .fslice 1 []]]), (p + 1, .row 2 [[.int .i64 a, .fslice 1 []]])], p + 1 + 1, by simp [h, cSt_e], ⟨by omega, ?_, ?_, by simp⟩, .inl ⟨rfl, by simp [h]⟩⟩
  · intro j hj
    have : ¬ p = j := by omega
    have : ¬ p + 1 = j := by omega
    simp [*]
  · intro j hj
    have : ¬ p = j := by omega
    have : ¬ p + 1 = j := by omega
    simp [*]
theorem dcall (s : Stt) (hb : okB s.b) (T : List (Nat × AO)) (p : Nat) (hp : 1 ≤ p) (hT : Tail T p) (hS : sweepL T = T) :
    DQ T p (rdN 2 s).2 (rdN 1 (rdN 2 s).1).2.toNat (rdN 1 (rdN 2 s).1).1 (callI Φ f_journal_decoder_call [.ptr 0 2 0 0] ⟨(0, .row 2 [cSt s]) :: T, p⟩) := by
  have hn2 := dnum2 s hb
  have hb2 : okB (rdN 2 s).1.b := rdN_okB hb
  have hn1 := dnum1 _ hb2
  have hb1 : okB (rdN 1 (rdN 2 s).1).1.b := rdN_okB hb2
  have hrng := rd1_rng hb2
  have hr2 := rd2_rng hb
  have hw2 : IntKind.wrap .i64 (rdN 2 s).2 = (rdN 2 s).2 := wrap64 (by omega) (by omega)
  obtain ⟨n, hn⟩ : ∃ n : Nat, (rdN 1 (rdN 2 s).1).2 = (n : Int) := ⟨_, (Int.toNat_of_nonneg hrng.1).symm⟩
  rw [hn] at hn1 hrng
  have hpp := hT p (Nat.le_refl _)
  have hp1 := hT (p + 1) (by omega)
  have p0 : ¬ (0 = p) := by omega
  have p0' : ¬ (p = 0) := by omega
  rw [callI_go (fn := c_journal_decoder_call) rfl rfl, hn, Int.toNat_natCast]
  simp only [cSt_e] at hn1 hn2
  generalize (rdN 1 (rdN 2 s).1).1 = s1 at *
  generalize (rdN 2 s).2 = a at *
  simp [c_journal_decoder_call, cSt_e, hn2, hn1, hw2, hpp, hp1, p0, p0']
  refine loop_onceQ (DQ T p a n s1) fun L hL hX => ?_
  by_cases q : n = 0
  · subst q
    simp [c_journal_decoder_call_l0, c_journal_decoder_call_k1, hL, hpp, hp1, p0, p0']
    exact DQ_stop (by simp [rdArgs])
  obtain ⟨m, rfl⟩ : ∃ m, n = m + 1 := ⟨n - 1, by omega⟩
  have q' : (0 : Int) < (m : Int) + 1 := by omega
  by_cases z : s1.e = 0
  rotate_left
  · simp [c_journal_decoder_call_l0, c_journal_decoder_call_k1, hL, hpp, hp1, p0, p0', q', z]
    exact DQ_stop (rdArgs_stop z)
  have hnum := dnum4 _ hb1
  simp only [cSt_e, z] at hnum
  have ha := aoEq_row2n a
  have hw : IntKind.wrap .u32 (m : Int) = (m : Int) := wrapU32 (by omega)
  have hp29 := hT (p + 1 + 1 + 27) (by omega)
  have e1 : ¬ (p = p + 1 + 1 + 27) := by omega
  have e2 : ¬ (p + 1 = p + 1 + 1 + 27) := by omega
  have e3 : ¬ (p + 1 + 1 + 27 = p) := by omega
  have e4 : ¬ (p + 1 + 1 + 27 = p + 1) := by omega
  simp [c_journal_decoder_call_l0, cSt_e, hpp, hp1, p0, p0', z, q', hnum, ha, hS, sweepL_append2, hw, hp29, e1, e2, e3, e4]
  rw [hX]
  refine DQ_of_DC (t := p + 1 + 1 + 27) (by omega) z ?_
  have key := fun e N hN => dcall_loop T p hp hT hS a (p + 1 + 1 + 27) (by omega) m (rdN 4 s1).1 [(rdN 4 s1).2] (rdN_okB hb1) (by simp; omega) e N hN
  simp only [cSt_e, c32eJ, List.map_cons, List.map_nil] at key
  exact key _ (p + 1 + 1 + 27 + 1) (by omega) (by simp) (by simp) (by simp) (by simp)
end Go.Av
