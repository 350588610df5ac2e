/-
  The decoder's operations.
-/
import Derived.Test.YtjdbnnnakpacjaaGreatJ8
set_option linter.unusedVariables false
set_option linter.unusedSimpArgs false
set_option linter.constructorNameAsVariable false
namespace Go.Av
set_option maxRecDepth 4000
def KeyV (X : AV) (l : List KeyMatch) : Prop := (X = .fslice 2 [] ∧ l = []) ∨ ∃ t, X = .app 2 (l.map KeyMatch.c) t
def OQ (T : List (Nat × AO)) (p : Nat) (o : TableOp) (s : Stt) (r : Option (Rt × AH)) : Prop :=
  ∃ KX X1 X2 E N, r = some (.val (.agg [.int .i64 o.kind, .int .i64 o.table, .int .i64 o.id, KX, .int .i64 o.entry.priority, .int .i64 o.entry.call.action, X1, .int .i64 o.call.action, X2]), ⟨(0, .row 2 [cSt s]) :: (T ++ E), N⟩) ∧
    HExt p E N ∧ KeyV KX o.entry.keys ∧ ArgV X1 o.entry.call.args ∧ ArgV X2 o.call.args
theorem rdCall_fst (s : Stt) : (rdCall s).1 = (rdArgs (rdN 1 (rdN 2 s).1).2.toNat (rdN 1 (rdN 2 s).1).1).1 := rfl
theorem rdCall_args (s : Stt) : (rdCall s).2.args = (rdArgs (rdN 1 (rdN 2 s).1).2.toNat (rdN 1 (rdN 2 s).1).1).2 := rfl
theorem rdCall_act (s : Stt) : (rdCall s).2.action = (rdN 2 s).2 := rfl
theorem dcall' (s : Stt) (hb : okB s.b) (T : List (Nat × AO)) (p : Nat) (hp : 1 ≤ p) (hT : Tail T p) (hS : sweepL T = T) :
    ∃ X E N, callI Φ f_journal_decoder_call [.ptr 0 2 0 0] ⟨(0, .row 2 [cSt s]) :: T, p⟩ = some (.val (.agg [.int .i64 (rdCall s).2.action, X]), ⟨(0, .row 2 [cSt (rdCall s).1]) :: (T ++ E), N⟩) ∧ HExt p E N ∧ ArgV X (rdCall s).2.args :=
  dcall s hb T p hp hT hS
-- three rows at the end of a heap
theorem Tail.three {T E : List (Nat × AO)} {p N : Nat} (hT : Tail T p) (a b : AO) (hE : Tail E N) (h : p + 2 ≤ N) : Tail (T ++ (p, a) :: (p + 1, b) :: E) N := by
  intro j hj
  have h1 := hT j (by omega)
  have h2 := hE j hj
  have n1 : ¬ p = j := by omega
  have n2 : ¬ p + 1 = j := by omega
  simp [h1, h2, n1, n2]
theorem op_end (T : List (Nat × AO)) (p : Nat) (hp : 1 ≤ p) (hT : Tail T p) (hS : sweepL T = T) (s : Stt) (hb : okB s.b) (tb pr : Int) (keys : List KeyMatch) (KX : AV) (hK : KeyV KX keys) (Z : List AV) (hZ : Z.length = 9)
    (E1 : List (Nat × AO)) (N : Nat) (hN : p + 2 ≤ N) (hE1 : Tail E1 N) (hE2 : ∀ j, j ≤ p + 1 → look j E1 = none) (hE3 : sweepL E1 = E1) (e : Env)
    (h0 : look 0 e = some (.ptr 0 2 0 0)) (h2 : look 2 e = some (.ptr p 9 0 0)) (h3 : look 3 e = some (.ptr (p + 1) 9 0 0)) :
    OQ T p ⟨1, tb, 0, ⟨keys, pr, (rdCall s).2⟩, call0⟩ (rdCall s).1 (go Φ (finC [.cell 2 true 9]) [.c c_journal_decoder_op_k1, .b 0, .c c_journal_decoder_op_k2] .normal
      ⟨e, ⟨(0, .row 2 [cSt s]) :: (T ++ (p, .row 9 [Z]) :: (p + 1, .row 9 [[.int .i64 1, .int .i64 tb, .int .i64 0, KX, .int .i64 pr, .int .i64 0, .fslice 1 [], .int .i64 0, .fslice 1 []]]) :: E1), N⟩⟩) := by
  obtain ⟨X, E, N2, hc, hx, hv⟩ := dcall' s hb (T ++ (p, .row 9 [Z]) :: (p + 1, .row 9 [[.int .i64 1, .int .i64 tb, .int .i64 0, KX, .int .i64 pr, .int .i64 0, .fslice 1 [], .int .i64 0, .fslice 1 []]]) :: E1) N (by omega) (hT.three _ _ hE1 hN) (by simp [sweepL_append2, hS, hE3])
  have hpp := hT p (Nat.le_refl _)
  have hp1 := hT (p + 1) (by omega)
  have p0 : ¬ (0 = p) := by omega
  have p0' : ¬ (p = 0) := by omega
  simp only [cSt_e, List.append_assoc, List.cons_append] at hc
  refine ⟨KX, X, .fslice 1 [], (p, .row 9 [[.int .i64 1, .int .i64 tb, .int .i64 0, KX, .int .i64 pr, .int .i64 (rdCall s).2.action, X, .int .i64 0, .fslice 1 []]]) :: (p + 1, .row 9 [[.int .i64 1, .int .i64 tb, .int .i64 0, KX, .int .i64 pr, .int .i64 (rdCall s).2.action, X, .int .i64 0, .fslice 1 []]]) :: (E1 ++ E), N2, ?_, ⟨by have := hx.le; omega, ?_, ?_, by simp [sweepL_append2, hE3, hx.sw]⟩, hK, hv, .inl ⟨rfl, rfl⟩⟩
  · simp [c_journal_decoder_op_k1, c_journal_decoder_op_k2, cSt_e, h0, h2, h3, hc, hpp, hp1, p0, p0', hZ, call0]
  · intro j hj
    have n1 : ¬ p = j := by omega
    have n2 : ¬ p + 1 = j := by omega
    have := hE2 j (by omega)
    have h4 := hx.lo j (by omega)
    simp [n1, n2, this, h4]
  · intro j hj
    have hle := hx.le
    have n1 : ¬ p = j := by omega
    have n2 : ¬ p + 1 = j := by omega
    have := hE1 j (by omega)
    have h4 := hx.hi j hj
    simp [n1, n2, this, h4]
theorem aoEq_row9 (tb pr : Int) (l : List KeyMatch) (t : Nat) : aoEq (some (.row 9 [[.int .i64 1, .int .i64 tb, .int .i64 0, .app 2 (l.map KeyMatch.c) t, .int .i64 pr, .int .i64 0, .fslice 1 [], .int .i64 0, .fslice 1 []]]))
    (some (.row 9 [[.int .i64 1, .int .i64 tb, .int .i64 0, .app 2 (l.map KeyMatch.c) t, .int .i64 pr, .int .i64 0, .fslice 1 [], .int .i64 0, .fslice 1 []]])) = true := by
  apply aoEq_rowc
  intro x hx
  simp only [List.mem_cons, List.not_mem_nil, or_false] at hx
  rcases hx with rfl | rfl | rfl | rfl | rfl | rfl | rfl | rfl | rfl
  case _ =>  exact avEq_int 39 _ _
  case _ =>  exact avEq_int 39 _ _
  case _ =>  exact avEq_int 39 _ _
  case _ =>
    refine avEq_app 39 _ _ _ (eqL_refl _ _ ?_)
    intro x hx
    obtain ⟨y, _, rfl⟩ := List.mem_map.1 hx
    rw [KeyMatch.ceJ]
    exact eqL_refl _ _ (by simp; exact ⟨avEq_int 38 _ _, avEq_int 38 _ _⟩)
  case _ =>  exact avEq_int 39 _ _
  case _ =>  exact avEq_int 39 _ _
  case _ =>  exact avEq_fsl 39 _
  case _ =>  exact avEq_int 39 _ _
  case _ =>  exact avEq_fsl 39 _
theorem aoEq_row9n (tb pr : Int) : aoEq (some (.row 9 [[.int .i64 1, .int .i64 tb, .int .i64 0, .fslice 2 [], .int .i64 pr, .int .i64 0, .fslice 1 [], .int .i64 0, .fslice 1 []]]))
    (some (.row 9 [[.int .i64 1, .int .i64 tb, .int .i64 0, .fslice 2 [], .int .i64 pr, .int .i64 0, .fslice 1 [], .int .i64 0, .fslice 1 []]])) = true := by
  apply aoEq_rowc
  intro x hx
  simp only [List.mem_cons, List.not_mem_nil, or_false] at hx
  rcases hx with rfl | rfl | rfl | rfl | rfl | rfl | rfl | rfl | rfl
  case _ =>  exact avEq_int 39 _ _
  case _ =>  exact avEq_int 39 _ _
  case _ =>  exact avEq_int 39 _ _
  case _ =>  exact avEq_fsl 39 _
  case _ =>  exact avEq_int 39 _ _
  case _ =>  exact avEq_int 39 _ _
  case _ =>  exact avEq_fsl 39 _
  case _ =>  exact avEq_int 39 _ _
  case _ =>  exact avEq_fsl 39 _
def KQ (T : List (Nat × AO)) (p : Nat) (tb pr : Int) (x : Nat × Stt × List KeyMatch) (r : Option (Rt × AH)) : Prop :=
  OQ T p ⟨1, tb, 0, ⟨x.2.2 ++ (rdKeys x.1 x.2.1).2, pr, (rdCall (rdKeys x.1 x.2.1).1).2⟩, call0⟩ (rdCall (rdKeys x.1 x.2.1).1).1 r
theorem op_loop (T : List (Nat × AO)) (p : Nat) (hp : 1 ≤ p) (hT : Tail T p) (hS : sweepL T = T) (tb pr : Int) (Z : List AV) (hZ : Z.length = 9) (t : Nat) (ht : p + 1 < t) (k : Nat) (s : Stt) (acc : List KeyMatch) (hb : okB s.b) (hk : acc.length + k ≤ 255) (e : Env) (N : Nat) (hN : t < N)
    (h0 : look 0 e = some (.ptr 0 2 0 0)) (h2 : look 2 e = some (.ptr p 9 0 0)) (h3 : look 3 e = some (.ptr (p + 1) 9 0 0)) (h4 : look 4 e = some (.int .u32 k)) :
    KQ T p tb pr (k, s, acc) (go Φ (finC [.cell 2 true 9]) [.c (.loop c_journal_decoder_op_l0), .b 1, .c c_journal_decoder_op_k1, .b 0, .c c_journal_decoder_op_k2] .normal
      ⟨e, ⟨(0, .row 2 [cSt s]) :: (T ++ [(p, .row 9 [Z]), (p + 1, .row 9 [[.int .i64 1, .int .i64 tb, .int .i64 0, .app 2 (acc.map KeyMatch.c) t, .int .i64 pr, .int .i64 0, .fslice 1 [], .int .i64 0, .fslice 1 []]]), (t, .tok 2 acc.length)]), N⟩⟩) := by
  refine loop_recQ (fun x : Nat × Stt × List KeyMatch => x.1) (fun x e h => okB x.2.1.b ∧ x.2.2.length + x.1 ≤ 255 ∧ look 0 e = some (.ptr 0 2 0 0) ∧ look 2 e = some (.ptr p 9 0 0) ∧ look 3 e = some (.ptr (p + 1) 9 0 0) ∧ look 4 e = some (.int .u32 x.1) ∧
    ∃ N, t < N ∧ h = ⟨(0, .row 2 [cSt x.2.1]) :: (T ++ [(p, .row 9 [Z]), (p + 1, .row 9 [[.int .i64 1, .int .i64 tb, .int .i64 0, .app 2 (x.2.2.map KeyMatch.c) t, .int .i64 pr, .int .i64 0, .fslice 1 [], .int .i64 0, .fslice 1 []]]), (t, .tok 2 x.2.2.length)]), N⟩) (KQ T p tb pr) ?_ (k, s, acc) e _ ⟨hb, hk, h0, h2, h3, h4, N, hN, rfl⟩
  rintro ⟨k, s, acc⟩ e _ L hL ⟨hb, hk, h0, h2, h3, h4, N, hN, rfl⟩ ih
  simp only at hb hk h4 ih
  have hpp := hT p (Nat.le_refl _)
  have hp1 := hT (p + 1) (by omega)
  have htt := hT t (by omega)
  have p0 : ¬ (0 = p) := by omega
  have p0' : ¬ (p = 0) := by omega
  have t0 : ¬ (0 = t) := by omega
  have t1 : ¬ (p = t) := by omega
  have t2 : ¬ (p + 1 = t) := by omega
  have hNr := hT (N + 56) (by omega)
  have e1 : ¬ (p = N + 56) := by omega
  have e2 : ¬ (p + 1 = N + 56) := by omega
  have e3 : ¬ (t = N + 56) := by omega
  have hTl : Tail [(t, AO.tok 2 acc.length)] N := by
    intro j hj
    have : ¬ t = j := by omega
    simp [this]
  have hLo : ∀ j, j ≤ p + 1 → look j [(t, AO.tok 2 acc.length)] = none := by
    intro j hj
    have : ¬ t = j := by omega
    simp [this]
  have hend := fun (e : Env) (a : look 0 e = some (.ptr 0 2 0 0)) (b : look 2 e = some (.ptr p 9 0 0)) (c : look 3 e = some (.ptr (p + 1) 9 0 0)) =>
    op_end T p hp hT hS s hb tb pr acc (.app 2 (acc.map KeyMatch.c) t) (.inr ⟨t, rfl⟩) Z hZ [(t, .tok 2 acc.length)] N (by omega) hTl hLo (by simp) e a b c
  simp only [cSt_e] at hend
  cases k with
  | zero =>
    simp only [KQ, rdKeys, List.append_nil]
    simp [c_journal_decoder_op_l0, cSt_e, h0, h2, h3, h4, hL, hpp, hp1, htt, p0, p0', t0, t1, t2]
    exact hend _ (by simp [h0]) (by simp [h2]) (by simp [h3])
  | succ k =>
    have q : (0 : Int) < (k : Int) + 1 := by omega
    by_cases z : s.e = 0
    rotate_left
    · simp only [KQ, rdKeys_stop z, List.append_nil]
      simp [c_journal_decoder_op_l0, cSt_e, h0, h2, h3, h4, hL, hpp, hp1, htt, p0, p0', t0, t1, t2, z, q]
      exact hend _ (by simp [h0]) (by simp [h2]) (by simp [h3])
    have hb4 : okB (rdN 4 s).1.b := rdN_okB hb
    have hnum := dnum4 s hb
    have hnum2 := dnum4 _ hb4
    simp only [cSt_e, z] at hnum hnum2
    have ha := aoEq_row9 tb pr acc t
    have hw : IntKind.wrap .u32 (k : Int) = (k : Int) := wrapU32 (by omega)
    have hlen : ((acc.length : Nat) + 1) * 8 ≤ 70368744177664 := by omega
    have := ih (k, (rdKey s).1, acc ++ [(rdKey s).2])
    simp only [KQ, rdKeys_go z, List.append_assoc, List.cons_append, List.nil_append] at this ⊢
    simp [c_journal_decoder_op_l0, cSt_e, h0, h2, h3, h4, hL, hpp, hp1, htt, p0, p0', t0, t1, t2, z, q, hnum, hnum2, ha, hS, sweepL_append2, hw, hNr, e1, e2, e3, hlen]
    exact this _ _ (Nat.lt_succ_self k) ⟨rdKey_okB hb, by simp; omega, by simp [h0], by simp [h2], by simp [h3], by simp, N + 56 + 1, by omega, by simp [cSt_e, KeyMatch.ceJ, rdKey]⟩
end Go.Av
