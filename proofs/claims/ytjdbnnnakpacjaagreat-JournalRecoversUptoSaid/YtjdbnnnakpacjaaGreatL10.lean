/-
  The check of a program: the reference's answers for the parts.
-/
import Derived.Test.YtjdbnnnakpacjaaGreatL9
set_option linter.unusedVariables false
set_option linter.unusedSimpArgs false
set_option linter.constructorNameAsVariable false
namespace Go.Av
set_option maxRecDepth 4000
-- a search that sets a flag and looks at it in the next round
theorem loop_flag {Φ : FuncId → Option AFun} {β : Type} {fin : Option (Ex × St) → Option β} {α : Type} (l : List α) (bad : α → Bool) (Rb Re : Option β) (Inv : Nat → Bool → Env → AH → Prop) {b : ACode} {K : List Fr}
    (hit : ∀ i e h L X (hi : i < l.length), (∀ j s, go Φ fin L (.exit j) s = go Φ fin K (.exit j) s) → Inv i false e h → bad l[i] = true → (∀ e' h', Inv (i + 1) true e' h' → go Φ fin L .normal ⟨e', h'⟩ = X) → go Φ fin (.c b :: L) .normal ⟨e, h⟩ = X)
    (miss : ∀ i e h L X (hi : i < l.length), (∀ j s, go Φ fin L (.exit j) s = go Φ fin K (.exit j) s) → Inv i false e h → bad l[i] = false → (∀ e' h', Inv (i + 1) false e' h' → go Φ fin L .normal ⟨e', h'⟩ = X) → go Φ fin (.c b :: L) .normal ⟨e, h⟩ = X)
    (stop : ∀ i e h L, i ≤ l.length → (∀ j s, go Φ fin L (.exit j) s = go Φ fin K (.exit j) s) → Inv i true e h → go Φ fin (.c b :: L) .normal ⟨e, h⟩ = Rb)
    (last : ∀ e h L, (∀ j s, go Φ fin L (.exit j) s = go Φ fin K (.exit j) s) → Inv l.length false e h → go Φ fin (.c b :: L) .normal ⟨e, h⟩ = Re) :
    ∀ e h, Inv 0 false e h → go Φ fin (.c (.loop b) :: K) .normal ⟨e, h⟩ = if l.any bad then Rb else Re := by
  intro e h h0
  refine (loop_rec (σ := Nat × Bool) (fun x => if x.2 then 0 else l.length - x.1 + 1) (fun x e h => x.1 ≤ l.length ∧ Inv x.1 x.2 e h) (fun x => if x.2 then Rb else if anyFrom l bad x.1 then Rb else Re) ?_ (0, false) e h ⟨Nat.zero_le _, h0⟩).trans (by simp [any_zero])
  rintro ⟨i, f⟩ e h L hL ⟨hi, hinv⟩ ih
  cases f with
  | true => exact stop i e h L hi hL hinv
  | false =>
    simp only [Bool.false_eq_true, if_false]
    rcases Nat.lt_or_eq_of_le hi with hlt | heq
    · cases hb : bad l[i] with
      | true =>
        rw [any_hit hlt hb, if_pos rfl]
        exact hit i e h L _ hlt hL hinv hb fun e' h' hi' => ih (i + 1, true) e' h' (by simp) ⟨by simp; omega, hi'⟩
      | false =>
        rw [any_miss hlt hb]
        refine miss i e h L _ hlt hL hinv hb fun e' h' hi' => ?_
        have := ih (i + 1, false) e' h' (by simp; simp at hlt; omega) ⟨by simp; omega, hi'⟩
        simpa using this
    · simp only at heq
      subst heq
      rw [any_end]
      exact last e h L hL hinv
def dgR (o : Option Dg) : Rt := .val (.agg (dgC (o.getD (0, 0, 0, 0))))
def dH : AH := ⟨[(0, .row 4 [[.int .i64 0, .int .i64 0, .int .i64 0, .int .i64 0]])], 1⟩
theorem at_ok (a b c d : Int) : pureI Φ f_ref21_at [.int .i64 a, .int .i64 b, .int .i64 c, .int .i64 d] = some (.val (.agg [.int .i64 a, .int .i64 b, .int .i64 c, .int .i64 d])) := by
  rw [pureI_go (fn := c_ref21_at) rfl rfl]
  simp [c_ref21_at]
theorem rlim_ok (p : Prg) (f : PrgS p) : pureI Φ f_ref21_whole [.agg (Prg.c p)] = some (dgR (limD p)) := by
  rw [pureI_go (fn := c_ref21_whole) rfl rfl]
  have n1 := rIdent_ok p.name f.n
  cases q1 : idS p.name with
  | false => rw [q1] at n1; simp [c_ref21_whole, Prg.e, n1, at_ok, limD, q1, dgR, dgC]
  | true =>
  rw [q1] at n1
  by_cases z1 : 8 < p.headers.length
  · simp [c_ref21_whole, Prg.e, n1, at_ok, limD, q1, dgR, dgC, z1]
  by_cases z2 : 4 < p.registers.length
  · simp [c_ref21_whole, Prg.e, n1, at_ok, limD, q1, dgR, dgC, z1, z2]
  by_cases z3 : 16 < p.actions.length
  · simp [c_ref21_whole, Prg.e, n1, at_ok, limD, q1, dgR, dgC, z1, z2, z3]
  by_cases z4 : 12 < p.tables.length
  · simp [c_ref21_whole, Prg.e, n1, at_ok, limD, q1, dgR, dgC, z1, z2, z3, z4]
  simp [c_ref21_whole, Prg.e, n1, limD, q1, dgR, dgC, z1, z2, z3, z4]
theorem rhdrD_ok (p : Prg) (f : PrgS p) : pureI Φ f_ref21_headers [.agg (Prg.c p)] = some (dgR (hdrD p)) := by
  rw [pureI_go (fn := c_ref21_headers) rfl rfl, show hdrD p = fe (hdrG p) p.headers.length 0 from rfl]
  simp [c_ref21_headers, Prg.e]
  refine loop_nat0 p.headers.length (fun i e => look 1 e = some (.iptr 9 [Prg.c p] 0 0) ∧ look 2 e = some (.ptr 0 4 0 0) ∧ look 3 e = some (.int .i64 i))
    (fun i => some (dgR (fe (hdrG p) p.headers.length i))) ?_ ?_ 0 _ (Nat.zero_le _) ?_
  · rintro i e L hi hL ⟨h1, h2, h3⟩ ih
    have hlen := f.h
    have hw : IntKind.wrap .i64 ((i : Int) + 1) = ((i + 1 : Nat) : Int) := wrap64 (by omega) (by omega)
    have hm := List.getElem_mem hi
    have eh := rhdrE_ok p.headers[i] (f.hn _ hm) (f.hf _ hm)
    simp only [Header.e] at eh
    rw [Prg.e] at h1
    have bad : ∀ c : Int, c ≠ 0 → hdrD1 p i p.headers[i] = c → fe (hdrG p) p.headers.length i = some (c, 1, (i : Int), 0) := fun c h0 h => fe_hit hi (by simp [hdrG, hi, h, h0])
    by_cases z1 : hdrE p.headers[i] = 0
    rotate_left
    · rw [bad _ z1 (by simp [hdrD1, z1])]
      simp [c_ref21_headers_l3, Header.e, h1, h3, hi, eh, z1]
      rw [go_loop]
      by_cases hi0 : 0 < i <;> simp [c_ref21_headers_l0, c_ref21_headers_k1, h2, h3, z1, hi0, at_ok, dgR, dgC]
    by_cases z2 : p.headers[i].name = [109, 101, 116, 97]
    · rw [bad 6 (by decide) (by simp [hdrD1, z1, z2])]
      rw [z2] at eh
      simp [c_ref21_headers_l3, Header.e, h1, h3, hi, eh, z1, z2]
      rw [go_loop]
      by_cases hi0 : 0 < i <;> simp [c_ref21_headers_l0, c_ref21_headers_k1, h2, h3, hi0, at_ok, dgR, dgC]
    generalize hX : some (dgR (fe (hdrG p) p.headers.length i)) = X
    simp [c_ref21_headers_l3, Header.e, h1, h3, hi, eh, z1, z2]
    refine (loop_flag (p.headers.take i) (fun y => decide (y.name = p.headers[i].name)) (some (dgR (some (7, 1, (i : Int), 0)))) (some (dgR (fe (hdrG p) p.headers.length (i + 1))))
      (fun k b e H => look 1 e = some (.iptr 9 [Prg.c p] 0 0) ∧ look 2 e = some (.ptr 0 4 0 0) ∧ look 3 e = some (.int .i64 i) ∧ look 4 e = some (.int .i64 (if b then 7 else 0)) ∧ look 5 e = some (.int .i64 k) ∧ H = dH) ?_ ?_ ?_ ?_ _ _ ?_).trans ?_
    · rintro k e _ L' Y hk hL' ⟨h1, h2, h3, h4, h5, rfl⟩ hb ih'
      simp only [List.length_take] at hk
      have hk1 : k < i := by omega
      have hk2 : k < p.headers.length := by omega
      have hw' : IntKind.wrap .i64 ((k : Int) + 1) = ((k + 1 : Nat) : Int) := wrap64 (by omega) (by omega)
      simp only [List.getElem_take, decide_eq_true_eq] at hb
      rw [Prg.e] at h1
      simp at h4
      simp [c_ref21_headers_l0, Header.e, h1, h3, h4, h5, hk1, hk2, hi, hb, hw']
      exact ih' _ _ ⟨by simp [h1, Prg.e], by simp [h2], by simp [h3], by simp, by simp, rfl⟩
    · rintro k e _ L' Y hk hL' ⟨h1, h2, h3, h4, h5, rfl⟩ hb ih'
      simp only [List.length_take] at hk
      have hk1 : k < i := by omega
      have hk2 : k < p.headers.length := by omega
      have hw' : IntKind.wrap .i64 ((k : Int) + 1) = ((k + 1 : Nat) : Int) := wrap64 (by omega) (by omega)
      simp only [List.getElem_take, decide_eq_false_iff_not] at hb
      rw [Prg.e] at h1
      simp at h4
      simp [c_ref21_headers_l0, Header.e, h1, h3, h4, h5, hk1, hk2, hi, hb, hw']
      exact ih' _ _ ⟨by simp [h1, Prg.e], by simp [h2], by simp [h3], by simp [h4], by simp, rfl⟩
    · rintro k e _ L' hk hL' ⟨h1, h2, h3, h4, h5, rfl⟩
      simp only [List.length_take] at hk
      simp at h4
      by_cases hk1 : k < i
      · simp [c_ref21_headers_l0, c_ref21_headers_k1, h2, h3, h4, h5, hk1, hL', at_ok, dgR, dgC, dH]
      · simp [c_ref21_headers_l0, c_ref21_headers_k1, h2, h3, h4, h5, hk1, hL', at_ok, dgR, dgC, dH]
    · rintro e _ L' hL' ⟨h1, h2, h3, h4, h5, rfl⟩
      have hmn : min i p.headers.length = i := by omega
      simp [hmn] at h4 h5
      simp [c_ref21_headers_l0, c_ref21_headers_k1, c_ref21_headers_k2, h3, h4, h5, hL', hw]
      exact ih _ ⟨by simp [h1], by simp [h2], by simp⟩
    · simp [h1, h2, h3, Prg.e, dH]
    · rw [← hX]
      cases q : dupN Header.name p.headers i p.headers[i] with
      | true =>
        rw [bad 7 (by decide) (by simp [hdrD1, z1, z2, q])]
        unfold dupN at q
        rw [q]; rfl
      | false =>
        rw [fe_miss hi (by simp [hdrG, hi, hdrD1, z1, z2, q])]
        unfold dupN at q
        rw [q]; rfl
  · rintro e L hL ⟨h1, h2, h3⟩
    rw [fe_end]
    rw [Prg.e] at h1
    simp [c_ref21_headers_l3, c_ref21_headers_k4, h1, h2, h3, hL, dgR, dgC]
  · simp [Prg.e]
end Go.Av
