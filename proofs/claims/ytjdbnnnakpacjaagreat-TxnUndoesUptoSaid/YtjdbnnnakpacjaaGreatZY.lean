/-
  txn.Inverse: the operations that undo the transaction.
-/
import Derived.Test.YtjdbnnnakpacjaaGreatZX
set_option linter.unusedVariables false
set_option linter.unusedSimpArgs false
set_option linter.constructorNameAsVariable false
namespace Go.Av
set_option maxRecDepth 4000
def rC (M : List Ren) : List (AV × AV) := M.map fun r => (.agg [.int .i64 r.t, .int .i64 r.old], .int .i64 r.new)
theorem find_rC (t id : Int) : ∀ M : List Ren, findA .p (.agg [.int .i64 t, .int .i64 id]) (rC M) = some ((getM M t id).map fun x => .int .i64 x)
  | [] => by simp [rC, findA, getM, kdOk]
  | r :: M => by
    have ih := find_rC t id M
    unfold rC at ih ⊢
    simp only [List.map_cons, findA, eqKd, and_self, if_true, getM]
    by_cases h : r.t = t ∧ r.old = id
    · rw [if_pos h]
      have e : (t == r.t && id == r.old) = true := by simp [h.1, h.2]
      rw [e]; rfl
    · rw [if_neg h]
      have e : (t == r.t && id == r.old) = false := by
        simp only [Bool.and_eq_false_iff, beq_eq_false_iff_ne]
        by_cases h1 : r.t = t
        · exact .inr fun h2 => h ⟨h1, h2.symm⟩
        · exact .inl fun h2 => h1 h2.symm
      rw [e]
      exact ih
theorem put_rC (t id n : Int) : ∀ M : List Ren, putA .p (.agg [.int .i64 t, .int .i64 id]) (.int .i64 n) (rC M) = some (rC (putM M t id n))
  | [] => by simp [rC, putA, putM]
  | r :: M => by
    have ih := put_rC t id n M
    unfold rC at ih ⊢
    simp only [List.map_cons, putA, eqKd, and_self, if_true, putM]
    by_cases h : r.t = t ∧ r.old = id
    · rw [if_pos h]
      have e : (t == r.t && id == r.old) = true := by simp [h.1, h.2]
      rw [e]; simp
    · rw [if_neg h]
      have e : (t == r.t && id == r.old) = false := by
        simp only [Bool.and_eq_false_iff, beq_eq_false_iff_ne]
        by_cases h1 : r.t = t
        · exact .inr fun h2 => h ⟨h1, h2.symm⟩
        · exact .inl fun h2 => h1 h2.symm
      rw [e]
      simp only [ih, Option.map_some, List.map_cons]
structure IwI (p : Prg) (c : Config) (l : List TableOp) (S : SV) (Mp T : Nat) (T0 B : Nat) (Z : List TableOp) (i : Nat) (e : Env) (O : List (Nat × AO)) (N : Nat) : Prop where
  v : IvE p c l S.s e
  tl : Tail O N
  hB : B ≤ N
  hMB : Mp < B
  hTB : T < B
  hMT : Mp ≠ T
  nM : ¬ S.own Mp
  nT : ¬ S.own T
  st : ∃ S' d M out, StoreM O S' p d ∧ S'.s = S.s ∧ (∀ j, S'.own j → S.own j ∨ B ≤ j) ∧ CfgV p d ∧ CfgT d ∧ look Mp O = some (.map (rC M)) ∧ out.length = i ∧ look 17 e = some (.app 9 (out.map TableOp.c) T) ∧ out ++ bkP p M d (Z.reverse.drop i) = bkP p [] (cfgN p c l l.length) Z.reverse
  tk : look T O = some (.tok 9 i)
  e13 : look 13 e = some (.app 9 (Z.map TableOp.c) T0)
  e16 : look 16 e = some (.map Mp)
  e18 : look 18 e = some (.int .i64 ((Z.length : Int) - 1 - i))
theorem iv1 (p : Prg) (f : PrgS p) (hp : p.tables.length < 2 ^ 40) {c : Config} (l Z : List TableOp) (hl64 : Z.length ≤ 64) (hU : ∀ u ∈ Z, UndS u) {S : SV} {Mp T T0 B : Nat} {R : Option Rt}
    (hk : ∀ e T, IvE p c l S.s e → look 17 e = some (.app 9 ((bkP p [] (cfgN p c l l.length) Z.reverse).map TableOp.c) T) → ∀ O N, Tail O N → go Φ (finP [.tmp 6, .tmp 7]) [.c c_txn_Inverse_k2] .normal ⟨e, ⟨O, N⟩⟩ = R) :
    ∀ e O N, IwI p c l S Mp T T0 B Z 0 e O N → go Φ (finP [.tmp 6, .tmp 7]) [.c (.loop c_txn_Inverse_l1), .b 2, .c c_txn_Inverse_k2] .normal ⟨e, ⟨O, N⟩⟩ = R := by
  intro e O N I0
  refine loop_nat Z.length (fun i e h => ∃ O N, h = ⟨O, N⟩ ∧ IwI p c l S Mp T T0 B Z i e O N) (fun _ => R) ?_ ?_ 0 e _ (Nat.zero_le _) ⟨O, N, rfl, I0⟩
  · rintro i e _ L hi hL ⟨O, N, rfl, I⟩ ih
    obtain ⟨S1, d, M, out, m1, es, ho, vd, sd, hM, hol, e17, hbk⟩ := I.st
    obtain ⟨k, hk⟩ : ∃ k, Z.length = i + 1 + k := ⟨Z.length - (i + 1), by omega⟩
    have hkl : k < Z.length := by omega
    have e1 : (Z.length : Int) - 1 - i = (k : Int) := by omega
    have hw : IntKind.wrap .i64 ((k : Int) - 1) = (Z.length : Int) - 1 - ((i + 1 : Nat) : Int) := by rw [wrap64 (by omega) (by omega)]; omega
    have e18 := I.e18
    rw [e1] at e18
    have hUk : Z.reverse.drop i = Z[k] :: Z.reverse.drop (i + 1) := by
      rw [List.drop_eq_getElem_cons (by simpa using hi), List.getElem_reverse]; congr 2; omega
    have hus := hU Z[k] (List.getElem_mem hkl)
    rw [hUk] at hbk
    have hzk : Z[k]? = some Z[k] := List.getElem?_eq_getElem hkl
    generalize hu : Z[k] = u at *
    have t0 := I.tl N (Nat.le_refl _)
    have t1 := I.tl (N + 1) (by omega)
    have hB := I.hB
    have hMB := I.hMB
    have hTB := I.hTB
    have hMT := I.hMT
    have hou : OpS (bk1 M u) := ⟨hus.op.e, hus.op.c⟩
    have hk1 : Kp (fun _ => False) N O (O ++ [(N, .row 9 [TableOp.c (bk1 M u)])]) := Kp.app Kp.refl (Nat.le_refl _)
    have hT1 : Tail (O ++ [(N, .row 9 [TableOp.c (bk1 M u)])]) (N + 1 + 1) := I.tl.apps (by omega) (by simp only [List.mem_singleton]; rintro x rfl; simp only; omega)
    obtain ⟨S2, O2, N2, e2, x1, x2, x3, x4, x5, x6⟩ := execute_ok (m1.kp I.tl hk1 (by simp)) f vd sd hT1 (bk1 M u) hou
    rw [es] at e2 x2
    have ho2 : ∀ j, S2.own j → S.own j ∨ B ≤ j := fun j hj => by
      rcases x3 j hj with h | h
      · exact ho j h
      · exact .inr (by omega)
    have nN : ¬ S1.own N := fun h => by
      obtain ⟨x, hx, _⟩ := m1.own_lk h
      rw [t0] at hx; cases hx
    have own1 : ∀ j, j < B → ¬ S.own j → ¬ S1.own j := fun j hj hn h => by
      rcases ho j h with h | h
      · exact hn h
      · omega
    have own2 : ∀ j, j < B → ¬ S.own j → ¬ S2.own j := fun j hj hn h => by
      rcases ho2 j h with h | h
      · exact hn h
      · omega
    have kp : ∀ j x, look j (O ++ [(N, .row 9 [TableOp.c (bk1 M u)])]) = some x → x ≠ .res → ¬ S1.own j → j < N + 1 + 1 → look j O2 = some x := fun j x hx hr hn hj => by
      rw [x4 j hj, hx]
      rintro (h | h)
      · exact hn h
      · have h : look j (O ++ [(N, .row 9 [TableOp.c (bk1 M u)])]) = some .res := h
        rw [hx] at h; exact hr (Option.some.inj h)
    have a1 := kp N (.row 9 [TableOp.c (bk1 M u)]) (by simp [lk_app, t0]) (by simp) nN (by omega)
    have a2 := kp Mp (.map (rC M)) (by rw [lk_app, hM]; rfl) (by simp) (own1 _ hMB I.nM) (by omega)
    have a3 := kp T (.tok 9 i) (by rw [lk_app, I.tk]; rfl) (by simp) (own1 _ hTB I.nT) (by omega)
    have h120 : (i + 1) * 120 ≤ 70368744177664 := by omega
    have fM : ¬ Mp = N := by omega
    have fM' : ¬ N = Mp := by omega
    have fT : ¬ T = N := by omega
    have fT' : ¬ N = T := by omega
    have fT2 : ¬ T = Mp := fun h => hMT h.symm
    have lM : ∀ x, look Mp (O ++ [(N, x)]) = some (.map (rC M)) := fun x => by rw [lk_app, hM]; rfl
    have fnd := find_rC u.table u.id M
    have put := put_rC u.table u.id (xoI p d (bk1 M u)) M
    have fin : ∀ e' O' N', (∀ j, look j O' = look j (setl T (.tok 9 (i + 1)) (if u.kind = 1 then setl Mp (.map (rC (bkM p M d u))) O2 else O2))) → N2 ≤ N' → IvE p c l S.s e' → look 13 e' = some (.app 9 (Z.map TableOp.c) T0) → look 16 e' = some (.map Mp) → look 18 e' = some (.int .i64 ((Z.length : Int) - 1 - ((i + 1 : Nat) : Int))) → look 17 e' = some (.app 9 (out.map TableOp.c ++ [TableOp.c (bk1 M u)]) T) →
        IwI p c l S Mp T T0 B Z (i + 1) e' O' N' := fun e' O' N' hO hN hv h13 h16 h18 h17 => by
      refine ⟨hv, fun j hj => ?_, by omega, hMB, hTB, hMT, I.nM, I.nT, ⟨S2, xoC p d (bk1 M u), bkM p M d u, out ++ [bk1 M u], ?_, x2, ho2, xoC_ok vd _, xoC_t vd sd hp _ hou, ?_, by simp [hol], by rw [h17]; simp, ?_⟩, ?_, h13, h16, h18⟩
      · rw [hO]
        have := x5 j (by omega)
        have j1 : ¬ j = T := by omega
        have j2 : ¬ j = Mp := by omega
        split <;> simp [lk_setl, this, j1, j2]
      · refine x1.fr fun j hj => ?_
        have j1 : ¬ j = T := fun h => own2 T hTB I.nT (h ▸ hj)
        have j2 : ¬ j = Mp := fun h => own2 Mp hMB I.nM (h ▸ hj)
        rw [hO]
        split <;> simp [lk_setl, j1, j2]
      · rw [hO]
        by_cases z : u.kind = 1
        · simp [z, lk_setl, hMT, a2]
        · simp [z, lk_setl, hMT, a2, bkM]
      · rw [← hbk]; simp [bkP]
      · rw [hO]
        split <;> simp [lk_setl, fT2, a3]
    cases hg : getM M u.table u.id with
    | none =>
      rw [hg] at fnd
      by_cases z : u.kind = 1
      · simp only [bk1, z, if_true, TableOp.ce2] at e2 a1 put
        simp [c_txn_Inverse_l1, TableOp.ce2, I.v.e12, I.e13, I.e16, e17, e18, hkl, hu, hL, t0, t1, lk_app, lk_setl, hM, fnd, fM, fM', fT, fT', fT2, hMT, z, hg, e2, a1, a2, a3, put, kdOk, hol, h120, hw]
        refine ih _ _ ⟨_, _, rfl, fin _ _ _ (fun j => by simp [z, bkM, bk1, hg]) (Nat.le_refl _) ⟨by simp [I.v.e3], by simp [I.v.e4], by simp [I.v.e8], by simp [I.v.e12]⟩ (by simp [I.e13]) (by simp [I.e16]) (by simp) (by simp [bk1, z, hg, TableOp.ce2])⟩
      · simp only [bk1, z, if_false, hg, TableOp.ce2, Option.getD_none] at e2 a1
        simp [c_txn_Inverse_l1, TableOp.ce2, I.v.e12, I.e13, I.e16, e17, e18, hkl, hu, hL, t0, t1, lk_app, lk_setl, hM, fnd, fM, fM', fT, fT', fT2, hMT, z, hg, e2, a1, a2, a3, put, kdOk, hol, h120, hw]
        refine ih _ _ ⟨_, _, rfl, fin _ _ _ (fun j => by simp [z, bkM, bk1, hg]) (Nat.le_refl _) ⟨by simp [I.v.e3], by simp [I.v.e4], by simp [I.v.e8], by simp [I.v.e12]⟩ (by simp [I.e13]) (by simp [I.e16]) (by simp) (by simp [bk1, z, hg, TableOp.ce2])⟩
    | some x =>
      rw [hg] at fnd
      by_cases z : u.kind = 1
      · simp only [bk1, z, if_true, TableOp.ce2] at e2 a1 put
        simp [c_txn_Inverse_l1, TableOp.ce2, I.v.e12, I.e13, I.e16, e17, e18, hkl, hu, hL, t0, t1, lk_app, lk_setl, hM, fnd, fM, fM', fT, fT', fT2, hMT, z, hg, e2, a1, a2, a3, put, kdOk, hol, h120, hw]
        refine ih _ _ ⟨_, _, rfl, fin _ _ _ (fun j => by simp [z, bkM, bk1, hg]) (Nat.le_refl _) ⟨by simp [I.v.e3], by simp [I.v.e4], by simp [I.v.e8], by simp [I.v.e12]⟩ (by simp [I.e13]) (by simp [I.e16]) (by simp) (by simp [bk1, z, hg, TableOp.ce2])⟩
      · simp only [bk1, z, if_false, hg, TableOp.ce2, Option.getD_some] at e2 a1
        simp [c_txn_Inverse_l1, TableOp.ce2, I.v.e12, I.e13, I.e16, e17, e18, hkl, hu, hL, t0, t1, lk_app, lk_setl, hM, fnd, fM, fM', fT, fT', fT2, hMT, z, hg, e2, a1, a2, a3, put, kdOk, hol, h120, hw]
        refine ih _ _ ⟨_, _, rfl, fin _ _ _ (fun j => by simp [z, bkM, bk1, hg]) (Nat.le_refl _) ⟨by simp [I.v.e3], by simp [I.v.e4], by simp [I.v.e8], by simp [I.v.e12]⟩ (by simp [I.e13]) (by simp [I.e16]) (by simp) (by simp [bk1, z, hg, TableOp.ce2])⟩
  · rintro e _ L hL ⟨O, N, rfl, I⟩
    obtain ⟨S1, d, M, out, m1, es, ho, vd, sd, hM, hol, e17, hbk⟩ := I.st
    have e1 : (Z.length : Int) - 1 - Z.length = -1 := by omega
    have e18 := I.e18
    rw [e1] at e18
    have hd : Z.reverse.drop Z.length = [] := List.drop_eq_nil_of_le (by simp)
    rw [hd, bkP, List.append_nil] at hbk
    rw [hbk] at e17
    simp [c_txn_Inverse_l1, e18, hL]
    exact hk _ T ⟨by simp [I.v.e3], by simp [I.v.e4], by simp [I.v.e8], by simp [I.v.e12]⟩ (by simp [e17]) _ _ I.tl
end Go.Av
