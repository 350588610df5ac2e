/-
  The laws JournalEncodes and JournalDecodes return true for all arguments.
-/
import Derived.Test.YtjdbnnnakpacjaaGreatJ18
import Derived.Test.YtjdbnnnakpacjaaGreatW28K
set_option linter.unusedVariables false
set_option linter.unusedSimpArgs false
set_option linter.constructorNameAsVariable false
namespace Go.Av
set_option maxRecDepth 4000
theorem rEncode (l : List TableOp) (ho : ∀ o ∈ l, okO o) : pureI Φ f_ref28_Encode [.slice 9 (l.map TableOp.c)] = some (.val (.slice 1 ((encB l).map c8))) := by
  rw [pureI_go (fn := c_ref28_Encode) rfl rfl]
  by_cases q : 64 < l.length
  · have : encB l = [] := by unfold encB; rw [if_neg (by omega)]
    simp [c_ref28_Encode, q, this]
  have hl : l.length ≤ 64 := by omega
  have hw : IntKind.wrap .u8 (l.length : Int) = (l.length : Int) := by rw [wr8u]; omega
  simp [c_ref28_Encode, q, hw]
  refine loop_recQ (fun i : Nat => l.length - i) (fun i e h => i ≤ l.length ∧ (∀ o ∈ l.take i, opE o = true) ∧ look 0 e = some (.slice 9 (l.map TableOp.c)) ∧ look 4 e = some (.int .i64 i) ∧
    ∃ B O N, look 3 e = some B ∧ BV B (([(l.length : Int)] ++ opsB (l.take i)).map c8) O ∧ Tail O N ∧ h = ⟨O, N⟩) (fun _ (r : Option Rt) => r = some (Rt.val (AV.slice 1 ((encB l).map c8)))) ?_ 0 _ _ ⟨Nat.zero_le _, by simp, by simp, by simp, .fslice 1 [[.int .u8 (l.length : Int)]], [], 0, by simp, .inl (by simp [opsB, c8e]), Tail.nil 0, rfl⟩
  rintro i e _ L hL ⟨hi, hp, h0, h4, B, O, N, h3, hB, hT, rfl⟩ ih
  have hNN := hT N (Nat.le_refl _)
  rcases Nat.lt_or_ge i l.length with hlt | hge
  · have hwi : IntKind.wrap .i64 ((i : Int) + 1) = ((i + 1 : Nat) : Int) := wrap64 (by omega) (by omega)
    have hen := rencodable l[i]
    rw [TableOp.ce] at hen
    cases hq : opE l[i] with
    | false =>
      rw [hq] at hen
      simp [c_ref28_Encode_l0, TableOp.ce, h0, h4, hL, hlt, hen, encB_bad hlt hq]
    | true =>
      rw [hq] at hen
      have hlen : ((([(l.length : Int)] ++ opsB (l.take i)).map c8).length) + (opB l[i]).length ≤ 70368744177664 := by
        have := opsB_len hp
        rw [List.length_take] at this
        have h2 := opB_len hq
        rw [List.length_map, List.length_append]
        simp only [List.length_cons, List.length_nil]
        omega
      have hop := ropB l[i] hq (ho _ (List.getElem_mem hlt))
      rw [TableOp.ce] at hop
      have hE2 : ([(l.length : Int)] ++ opsB (l.take (i + 1))).map c8 = ([(l.length : Int)] ++ opsB (l.take i)).map c8 ++ (opB l[i]).map c8 := by
        rw [opsB_succ hlt]; simp
      have hp2 : ∀ o ∈ l.take (i + 1), opE o = true := by
        intro o ho'
        rw [List.take_succ_eq_append_getElem hlt] at ho'
        rcases List.mem_append.1 ho' with h | h
        · exact hp o h
        · simp at h; rw [h]; exact hq
      have ih' := ih (i + 1)
      rw [hE2] at ih'
      generalize ([(l.length : Int)] ++ opsB (l.take i)).map c8 = D at *
      rcases hB with rfl | ⟨t, rfl, ht⟩
      · simp [c_ref28_Encode_l0, TableOp.ce, h0, h3, h4, hL, hlt, hen, hop, hwi, hlen, hNN]
        exact ih' _ _ (by omega) ⟨hlt, hp2, by simp [h0, TableOp.ce], by simp, .app 1 (D ++ (opB l[i]).map c8) N, O ++ [(N, .tok 1 (D.length + (opB l[i]).length))], N + 1, by simp, .inr ⟨N, rfl, by simp [look_append2, hNN]⟩, hT.app _, rfl⟩
      · simp [c_ref28_Encode_l0, TableOp.ce, h0, h3, h4, hL, hlt, hen, hop, hwi, hlen, ht]
        exact ih' _ _ (by omega) ⟨hlt, hp2, by simp [h0, TableOp.ce], by simp, .app 1 (D ++ (opB l[i]).map c8) t, setl t (.tok 1 (D.length + (opB l[i]).length)) O, N, by simp, .inr ⟨t, rfl, by rw [look_setl_eq ht]; simp⟩, Tail_setl hT (hT.ltJ ht), rfl⟩
  · have hi' : i = l.length := by omega
    subst hi'
    rw [encB_ok hl hp]
    rw [List.take_length] at hB
    rcases hB with rfl | ⟨t, rfl, h2⟩
    · simp [c_ref28_Encode_l0, c_ref28_Encode_k1, h0, h3, h4, hL]
    · simp [c_ref28_Encode_l0, c_ref28_Encode_k1, h0, h3, h4, hL]
def b2sV (h : AH) (o : Option AV) : Option (AV × AH) := match o with
  | some v => evOp [(0, v)] 0 h (.b2s (.t 0))
  | none => none
theorem ev_b2s {e : Env} {nx : Nat} {h : AH} {n : Nat} : evOp e nx h (.b2s (.t n)) = b2sV h (look n e) := by
  cases hl : look n e with
  | none => simp only [evOp, evX, hl, b2sV]
  | some v => simp only [evOp, evX, hl, b2sV, look, if_true]
theorem evC_b2s {call : CallFn} {e : Env} {nx : Nat} {h : AH} {n : Nat} : evCall call e nx h (.b2s (.t n)) = liftV (b2sV h (look n e)) := by rw [evCall_b2s, ev_b2s]
def strB (l : List Int) : List UInt8 := l.map fun n => UInt8.ofNat n.toNat
theorem mapO_c8 (F : List AV → Option UInt8) (hF : ∀ n, F (c8 n) = some (UInt8.ofNat n.toNat)) : ∀ l : List Int, mapO F (l.map c8) = some (strB l)
  | [] => rfl
  | a :: l => by simp only [List.map_cons, mapO, hF, mapO_c8 F hF l, strB]
theorem b2sV_slice (h : AH) (z : Nat) (l : List Int) : b2sV h (some (.slice z (l.map c8))) = some (.str (strB l), h) := by
  simp only [b2sV, evOp, evX, look, if_true, srcOf]
  rw [mapO_c8 _ (fun n => rfl)]
theorem be4_okB (v : Int) : okB (be4 v) := by
  intro x hx
  simp [be4] at hx
  omega
theorem be2_okB (v : Int) : okB (be2 v) := by
  intro x hx
  simp [be2] at hx
  omega
theorem okB_app {a b : List Int} (ha : okB a) (hb : okB b) : okB (a ++ b) := by
  intro x hx
  rcases List.mem_append.1 hx with h | h
  · exact ha x h
  · exact hb x h
theorem okB_cons {a : Int} {b : List Int} (ha : 0 ≤ a ∧ a ≤ 255) (hb : okB b) : okB (a :: b) := by
  intro x hx
  rcases List.mem_cons.1 hx with rfl | h
  · exact ha
  · exact hb x h
theorem argsB_okB (l : List Int) : okB (argsB l) := by
  intro x hx
  unfold argsB at hx
  obtain ⟨y, hy, hx⟩ := List.mem_flatten.1 hx
  obtain ⟨v, _, rfl⟩ := List.mem_map.1 hy
  exact be4_okB v x hx
theorem keysB_okB (l : List KeyMatch) : okB (keysB l) := by
  intro x hx
  unfold keysB at hx
  obtain ⟨y, hy, hx⟩ := List.mem_flatten.1 hx
  obtain ⟨v, _, rfl⟩ := List.mem_map.1 hy
  exact okB_app (be4_okB _) (be4_okB _) x hx
theorem callB_okB {c : ActionCall} (h : callEJ c = true) : okB (callB c) := by
  simp [callEJ] at h
  exact okB_app (be2_okB _) (okB_cons (by omega) (argsB_okB _))
theorem opB_okB {o : TableOp} (h : opE o = true) : okB (opB o) := by
  have hk := opE_kind h
  unfold opE at h
  rw [Bool.and_eq_true] at h
  refine okB_cons (by omega) (okB_app (be2_okB _) ?_)
  obtain ⟨_, h⟩ := h
  by_cases c1 : o.kind = 1
  · rw [if_pos c1] at h ⊢
    simp only [Bool.and_eq_true, decide_eq_true_eq] at h
    exact okB_app (be2_okB _) (okB_cons (by omega) (okB_app (keysB_okB _) (callB_okB h.2.2)))
  rw [if_neg c1] at h ⊢
  by_cases c2 : o.kind = 2
  · rw [if_pos c2] at h ⊢
    simp only [Bool.and_eq_true] at h
    exact okB_app (be4_okB _) (callB_okB h.2)
  rw [if_neg c2] at h ⊢
  by_cases c3 : o.kind = 3
  · rw [if_pos c3]
    exact be4_okB _
  rw [if_neg c3] at h ⊢
  by_cases c4 : o.kind = 4
  · rw [if_pos c4] at h
    exact callB_okB h
  · omega
theorem encB_okB (l : List TableOp) : okB (encB l) := by
  unfold encB
  split
  · rename_i h
    refine okB_cons (by omega) ?_
    intro x hx
    unfold opsB at hx
    obtain ⟨y, hy, hx⟩ := List.mem_flatten.1 hx
    obtain ⟨o, ho, rfl⟩ := List.mem_map.1 hy
    exact opB_okB (h.2 o ho) x hx
  · intro x hx; cases hx
theorem decB_nil : decB [] = ([], 3) := by simp [decB, rdN, cntS, rdOps, endE]
end Go.Av
