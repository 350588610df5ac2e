/-
  What is decoded is in range; comparison of a list with itself; the bound of the law.
-/
import Derived.Test.YtjdbnnnakpacjaaGreatJ17
import Derived.Test.YtjdbnnnakpacjaaGreatE1K
set_option linter.unusedVariables false
set_option linter.unusedSimpArgs false
set_option linter.constructorNameAsVariable false
namespace Go.Av
set_option maxRecDepth 4000
theorem rdArgs_rng : ∀ (n : Nat) {s : Stt}, okB s.b → (rdArgs n s).2.length ≤ n ∧ ∀ x ∈ (rdArgs n s).2, 0 ≤ x ∧ x ≤ 4294967295
  | 0, _, _ => by simp [rdArgs]
  | n + 1, s, hb => by
    by_cases z : s.e = 0
    · rw [rdArgs_go z]
      obtain ⟨h1, h2⟩ := rdArgs_rng n (s := (rdN 4 s).1) (rdN_okB hb)
      refine ⟨by simp; exact h1, ?_⟩
      intro x hx
      rcases List.mem_cons.1 hx with rfl | hx
      · exact rd4_rng hb
      · exact h2 x hx
    · rw [rdArgs_stop z]; simp
theorem rdKeys_rng : ∀ (n : Nat) {s : Stt}, okB s.b → (rdKeys n s).2.length ≤ n ∧ ∀ x ∈ (rdKeys n s).2, okK x
  | 0, _, _ => by simp [rdKeys]
  | n + 1, s, hb => by
    by_cases z : s.e = 0
    · rw [rdKeys_go z]
      obtain ⟨h1, h2⟩ := rdKeys_rng n (s := (rdKey s).1) (rdKey_okB hb)
      refine ⟨by simp; exact h1, ?_⟩
      intro x hx
      rcases List.mem_cons.1 hx with rfl | hx
      · exact ⟨rd4_rng hb, rd4_rng (rdN_okB hb)⟩
      · exact h2 x hx
    · rw [rdKeys_stop z]; simp
def smC (c : ActionCall) : Prop := c.args.length < 2 ^ 40 ∧ okC c
theorem rdCall_rng {s : Stt} (hb : okB s.b) : smC (rdCall s).2 := by
  have hb1 : okB (rdN 2 s).1.b := rdN_okB hb
  obtain ⟨h1, h2⟩ := rdArgs_rng (rdN 1 (rdN 2 s).1).2.toNat (s := (rdN 1 (rdN 2 s).1).1) (rdN_okB hb1)
  have := rd1_rng hb1
  exact ⟨by rw [rdCall_args]; omega, by unfold okC; rw [rdCall_args]; exact h2⟩
theorem call0_sm : smC call0 := ⟨by simp [call0], by simp [okC, call0]⟩
def smE (x : Entry) : Prop := x.keys.length < 2 ^ 40 ∧ (∀ k ∈ x.keys, okK k) ∧ smC x.call
theorem rdEntry_rng {s : Stt} (hb : okB s.b) : smE (rdEntry s).2 := by
  have hb1 : okB (rdN 2 s).1.b := rdN_okB hb
  have hb2 : okB (rdN 1 (rdN 2 s).1).1.b := rdN_okB hb1
  obtain ⟨h1, h2⟩ := rdKeys_rng (rdN 1 (rdN 2 s).1).2.toNat hb2
  have := rd1_rng hb1
  refine ⟨?_, h2, rdCall_rng (rdKeys_okB _ hb2)⟩
  show (rdKeys (rdN 1 (rdN 2 s).1).2.toNat (rdN 1 (rdN 2 s).1).1).2.length < _
  omega
theorem entry0_sm : smE entry0 := ⟨by simp [entry0], by simp [entry0], call0_sm⟩
def smO (o : TableOp) : Prop := smE o.entry ∧ smC o.call
theorem rdOp_rng {s : Stt} (hb : okB s.b) : smO (rdOp s).2 := by
  have b2 : okB (rdN 2 (kindS (rdN 1 s))).1.b := rdN_okB (kindS_okB (rdN_okB hb))
  unfold rdOp rdTail
  simp only
  split
  · exact ⟨entry0_sm, call0_sm⟩
  split
  · exact ⟨rdEntry_rng b2, call0_sm⟩
  split
  · refine ⟨entry0_sm, ?_⟩
    simp only
    split
    · exact rdCall_rng (rdI_okB b2)
    · exact call0_sm
  split
  · exact ⟨entry0_sm, call0_sm⟩
  · exact ⟨entry0_sm, rdCall_rng b2⟩
theorem rdOps_rng : ∀ (n : Nat) {s : Stt}, okB s.b → (rdOps n s).2.length ≤ n ∧ ∀ x ∈ (rdOps n s).2, smO x
  | 0, _, _ => by simp [rdOps]
  | n + 1, s, hb => by
    by_cases z : s.e = 0
    · rw [rdOps_go z]
      obtain ⟨h1, h2⟩ := rdOps_rng n (s := (rdOp s).1) (rdOp_okB hb)
      refine ⟨by simp; exact h1, ?_⟩
      intro x hx
      rcases List.mem_cons.1 hx with rfl | hx
      · exact rdOp_rng hb
      · exact h2 x hx
    · rw [rdOps_stop z]; simp
theorem decB_rng {b : List Int} (hb : okB b) : (decB b).1.length ≤ 255 ∧ ∀ x ∈ (decB b).1, smO x := by
  have hb1 : okB (cntS (rdN 1 ⟨b, 0⟩)).b := cntS_okB (rdN_okB hb)
  obtain ⟨h1, h2⟩ := rdOps_rng (rdN 1 ⟨b, 0⟩).2.toNat hb1
  have := rd1_rng (s := ⟨b, 0⟩) hb
  unfold decB
  simp only
  split
  · exact ⟨by omega, h2⟩
  · simp
theorem smO_ok {o : TableOp} (h : smO o) : okO o := ⟨h.1.2.1, h.1.2.2.2, h.2.2⟩
theorem reqOps (l : List TableOp) (hl : l.length < 2 ^ 40) (hs : ∀ o ∈ l, smO o) : pureI Φ f_ref27_EqualOps [.slice 9 (l.map TableOp.c), .slice 9 (l.map TableOp.c)] = some (.val (.bool true)) := by
  rw [pureI_go (fn := c_ref27_EqualOps) rfl rfl]
  simp [c_ref27_EqualOps]
  refine loop_nat l.length (fun i e h => look 0 e = some (.slice 9 (l.map TableOp.c)) ∧ look 1 e = some (.slice 9 (l.map TableOp.c)) ∧ look 5 e = some (.int .i64 i) ∧ ∃ objs N, Tail objs N ∧ sweepL objs = objs ∧ h = ⟨objs, N⟩) (fun _ => _) ?_ ?_ 0 _ _ (Nat.zero_le _) ?_
  · rintro i e _ L hi hL ⟨h0, h1, h5, objs, N, hT, hS, rfl⟩ ih
    have hw : IntKind.wrap .i64 ((i : Int) + 1) = ((i + 1 : Nat) : Int) := wrap64 (by omega) (by omega)
    obtain ⟨⟨s1, _, s2, _⟩, s3, _⟩ := hs _ (List.getElem_mem hi)
    have hE := Equal_ok l[i].entry.keys l[i].entry.keys l[i].entry.priority l[i].entry.priority l[i].entry.call.action l[i].entry.call.action l[i].entry.call.args l[i].entry.call.args s1 s2
    have hC := EqualCalls_ok l[i].call.action l[i].call.action l[i].call.args l[i].call.args s3
    simp at hE hC
    have b1 : (N + 1 == N) = false := by simp
    have b2 : (N == N + 1) = false := by simp
    have h6 := hT (N + 6) (by omega)
    have h7 := hT (N + 7) (by omega)
    simp [c_ref27_EqualOps_l0, TableOp.ce, h0, h1, h5, hi, hL, hw, hE, hC, h6, h7, hS, sweepL_append2, b1, b2]
    refine ih _ _ ⟨by simp [h0, TableOp.ce], by simp [h1, TableOp.ce], by simp, objs ++ [(N + 6, .row 9 [TableOp.c l[i]]), (N + 7, .row 9 [TableOp.c l[i]])], N + 8, ?_, by simp [sweepL_append2, hS], by simp [TableOp.ce]⟩
    intro j hj
    have n1 : ¬ N + 6 = j := by omega
    have n2 : ¬ N + 7 = j := by omega
    simp [hT j (by omega), n1, n2]
  · rintro e _ L hL ⟨h0, h1, h5, objs, N, hT, hS, rfl⟩
    simp [c_ref27_EqualOps_l0, c_ref27_EqualOps_k1, h0, h1, h5, hL]
  · simp
    exact ⟨[], 0, Tail.nil 0, by simp, rfl, rfl⟩
def bigOp (o : TableOp) : Bool := decide (300 < o.entry.keys.length) || (decide (300 < o.entry.call.args.length) || decide (300 < o.call.args.length))
def largeB (l : List TableOp) : Bool := decide (80 < l.length) || anyFrom l bigOp 0
theorem largeOps_ok (l : List TableOp) (hb : l.length < 2 ^ 40) : pureI Φ f_law28_largeOps [.slice 9 (l.map TableOp.c)] = some (.val (.bool (largeB l))) := by
  rw [pureI_go (fn := c_law28_largeOps) rfl rfl]
  by_cases q : 80 < l.length
  · simp [c_law28_largeOps, largeB, q]
  simp [c_law28_largeOps, largeB, q]
  refine loop_nat0 l.length (fun i e => look 0 e = some (.slice 9 (l.map TableOp.c)) ∧ look 3 e = some (.int .i64 i)) (fun i => some (Rt.val (AV.bool (anyFrom l bigOp i)))) ?_ ?_ 0 _ (Nat.zero_le _) ?_
  · rintro i e L hi hL ⟨h0, h3⟩ ih
    have hw : IntKind.wrap .i64 ((i : Int) + 1) = ((i + 1 : Nat) : Int) := wrap64 (by omega) (by omega)
    cases hb : bigOp l[i] with
    | true =>
      rw [any_hit hi hb]
      unfold bigOp at hb
      by_cases y0 : 300 < l[i].entry.keys.length
      · simp [c_law28_largeOps_l0, TableOp.ce, h0, h3, hi, hL, y0]
      by_cases y1 : 300 < l[i].entry.call.args.length
      · simp [c_law28_largeOps_l0, TableOp.ce, h0, h3, hi, hL, y0, y1]
      simp [y0, y1] at hb
      simp [c_law28_largeOps_l0, TableOp.ce, h0, h3, hi, hL, y0, y1, hb]
    | false =>
      rw [any_miss hi hb]
      unfold bigOp at hb
      simp only [Bool.or_eq_false_iff, decide_eq_false_iff_not] at hb
      obtain ⟨y0, y1, y2⟩ := hb
      simp [c_law28_largeOps_l0, TableOp.ce, h0, h3, hi, hL, y0, y1, y2, hw]
      exact ih _ ⟨by simp [h0, TableOp.ce], by simp⟩
  · rintro e L hL ⟨h0, h3⟩
    rw [any_end]
    simp [c_law28_largeOps_l0, c_law28_largeOps_k1, h0, h3, hL]
  · simp
end Go.Av
