/-
  txn.Commit.
-/
import Derived.Test.YtjdbnnnakpacjaaGreatX3
import Derived.Test.YtjdbnnnakpacjaaGreatK22
set_option linter.unusedVariables false
set_option linter.unusedSimpArgs false
set_option linter.constructorNameAsVariable false
namespace Go.Av
set_option maxRecDepth 4000
def cmA1 : ACode := match c_txn_Commit.code with | .seq a _ => a | _ => .skip
def cmA2 : ACode := match c_txn_Commit.code with | .seq _ (.seq a _) => a | _ => .skip
def cmA3 : ACode := match c_txn_Commit.code with | .seq _ (.seq _ (.seq a _)) => a | _ => .skip
def cmA4 : ACode := match c_txn_Commit.code with | .seq _ (.seq _ (.seq _ (.seq a _))) => a | _ => .skip
def cmB : ACode := match c_txn_Commit.code with | .seq _ (.seq _ (.seq _ (.seq _ (.dfr _ _ b)))) => b | _ => .skip
def cmO : List AOper := [⟨some 27, none, .mkfunc (.func f_txn_Commit_1) [] [.t 6, .t 7, .t 2]⟩]
theorem cm_code : c_txn_Commit.code = .seq cmA1 (.seq cmA2 (.seq cmA3 (.seq cmA4 (.dfr cmO 27 cmB)))) := rfl
theorem cm1 {O : List (Nat × AO)} {N s : Nat} (hT : Tail O N) (w : AV) : ∃ e, codeI Φ cmA1 ⟨bindE 0 [.ptr s 15 0 0, w], ⟨O, N⟩⟩ = some (.normal, ⟨e, ⟨O ++ [(N, .row 1 [[.ptr s 15 0 0]])] ++ [(N + 1, .row 1 [[.int .i64 0]])], N + 2⟩⟩) ∧ look 1 e = some w ∧ look 2 e = some (.ptr N 1 0 0) ∧ look 6 e = some (.ptr (N + 1) 1 0 0) := by
  have t0 := hT N (Nat.le_refl _)
  have t1 := hT (N + 1) (by omega)
  rw [codeI_go]
  simp [cmA1, c_txn_Commit, t0, t1]
theorem cm2 {O : List (Nat × AO)} {N N' s b : Nat} {O' : List (Nat × AO)} {e : Env} {s2 : Nat} (hT' : Tail O' N') (h : callI Φ f_store_Store_Clone [.ptr s 15 0 0] ⟨O, N⟩ = some (.val (.ptr s2 15 0 0), ⟨O', N'⟩)) (h2 : look 2 e = some (.ptr b 1 0 0)) (hb : look b O = some (.row 1 [[.ptr s 15 0 0]])) {w x6 : AV} (h1 : look 1 e = some w) (h6 : look 6 e = some x6) :
    ∃ e', codeI Φ cmA2 ⟨e, ⟨O, N⟩⟩ = some (.normal, ⟨e', ⟨O' ++ [(N', .row 1 [[.ptr s2 15 0 0]])], N' + 1⟩⟩) ∧ look 1 e' = some w ∧ look 2 e' = some (.ptr b 1 0 0) ∧ look 6 e' = some x6 ∧ look 7 e' = some (.ptr N' 1 0 0) := by
  have t0 := hT' N' (Nat.le_refl _)
  rw [codeI_go]
  simp [cmA2, c_txn_Commit, t0, h, h2, hb, h1, h6]
theorem cm3 {O : List (Nat × AO)} {N b b7 : Nat} {S : SV} {p : Prg} {c : Config} {s2 : Nat} (m : StoreM O S p c) (hl : c.rows.length = p.tables.length) (hT : Tail O N) {e : Env} (h2 : look 2 e = some (.ptr b 1 0 0)) (h7 : look 7 e = some (.ptr b7 1 0 0)) (hb : look b O = some (.row 1 [[.ptr S.s 15 0 0]])) (hb7 : look b7 O = some (.row 1 [[.ptr s2 15 0 0]])) {w x6 : AV} (h1 : look 1 e = some w) (h6 : look 6 e = some x6) :
    ∃ e', codeI Φ cmA3 ⟨e, ⟨O, N⟩⟩ = some (.normal, ⟨e', ⟨O ++ [(N, .row 2 [[.int .i64 0, .fslice 1 []]])], N + 1⟩⟩) ∧ look 1 e' = some w ∧ look 2 e' = some (.ptr b 1 0 0) ∧ look 6 e' = some x6 ∧ look 7 e' = some (.ptr b7 1 0 0) := by
  have t0 := hT N (Nat.le_refl _)
  have hm := modN_ok m hl hT
  rw [codeI_go]
  simp [cmA3, c_txn_Commit, lk_app, hm, h2, h7, hb, hb7, h1, h6]
theorem cm4 {O : List (Nat × AO)} {N : Nat} {l : List TableOp} {e : Env} (h1 : look 1 e = some (.slice 9 (l.map TableOp.c))) {x6 x2 x7 : AV} (h2 : look 2 e = some x2) (h6 : look 6 e = some x6) (h7 : look 7 e = some x7) (hl : ¬ 64 < l.length) :
    ∃ e', codeI Φ cmA4 ⟨e, ⟨O, N⟩⟩ = some (.normal, ⟨e', ⟨O, N⟩⟩) ∧ look 1 e' = some (.slice 9 (l.map TableOp.c)) ∧ look 2 e' = some x2 ∧ look 6 e' = some x6 ∧ look 7 e' = some x7 := by
  have hl' : ¬ (64 : Int) < (l.length : Int) := by omega
  rw [codeI_go]
  simp [cmA4, c_txn_Commit, h1, h2, h6, h7, hl']
theorem cm4b {O : List (Nat × AO)} {N b6 : Nat} {l : List TableOp} {e : Env} (h1 : look 1 e = some (.slice 9 (l.map TableOp.c))) (h6 : look 6 e = some (.ptr b6 1 0 0)) (hb6 : look b6 O = some (.row 1 [[.int .i64 0]])) (hl : 64 < l.length) :
    ∃ e', codeI Φ cmA4 ⟨e, ⟨O, N⟩⟩ = some (.ret, ⟨e', ⟨setl b6 (.row 1 [[.int .i64 12]]) O, N⟩⟩) ∧ look 4 e' = some (.fslice 1 []) ∧ look 5 e' = some (.int .i64 (-1)) ∧ look 6 e' = some (.ptr b6 1 0 0) := by
  have hl' : (64 : Int) < (l.length : Int) := by omega
  rw [codeI_go]
  simp [cmA4, c_txn_Commit, h1, h6, hl', hb6]
theorem cmClo0 {O : List (Nat × AO)} {N b6 : Nat} {a7 a2 : AV} (hb6 : look b6 O = some (.row 1 [[.int .i64 0]])) : cloI Φ c_txn_Commit .niliface [.ptr b6 1 0 0, a7, a2] ⟨O, N⟩ = some ⟨O, N⟩ := by
  unfold cloI
  rw [codeI_go]
  simp [c_txn_Commit, recE, hb6]
theorem cmClo1 {O : List (Nat × AO)} {N b6 b7 b2 s s2 : Nat} {x : Int} {cs cs0 : List AV} (hx : x ≠ 0) (hb6 : look b6 O = some (.row 1 [[.int .i64 x]])) (hb7 : look b7 O = some (.row 1 [[.ptr s2 15 0 0]])) (hb2 : look b2 O = some (.row 1 [[.ptr s 15 0 0]])) (hs2 : look s2 O = some (.row 15 [cs])) (hs : look s O = some (.row 15 [cs0])) (hc : cs.length = 15) (hc0 : cs0.length = 15) :
    cloI Φ c_txn_Commit .niliface [.ptr b6 1 0 0, .ptr b7 1 0 0, .ptr b2 1 0 0] ⟨O, N⟩ = some ⟨setl s (.row 15 [cs]) O, N⟩ := by
  unfold cloI
  rw [codeI_go]
  have t : cs.take 15 = cs := List.take_of_length_le (by omega)
  have t2 : cs0.drop 15 = [] := List.drop_eq_nil_of_le (by omega)
  simp [c_txn_Commit, recE, hb6, hx, hb7, hb2, hs2, hs, hc, hc0, t, t2]
theorem cm5 (p : Prg) (f : PrgS p) (hp : p.tables.length < 2 ^ 40) {c : Config} (v : CfgV p c) (s : CfgT c) (l : List TableOp) (hl64 : l.length ≤ 64) (hl : ∀ o ∈ l, OpS o) {O : List (Nat × AO)} {N : Nat} {S : SV} {b2 b6 : Nat} {e : Env} (hT : Tail O N) (m : StoreM O S p c) (h1 : look 1 e = some (.slice 9 (l.map TableOp.c))) (h2 : look 2 e = some (.ptr b2 1 0 0)) (h6 : look 6 e = some (.ptr b6 1 0 0)) (hb2 : look b2 O = some (.row 1 [[.ptr S.s 15 0 0]])) (hb6 : look b6 O = some (.row 1 [[.int .i64 0]])) (n2 : ¬ S.own b2) (n6 : ¬ S.own b6) :
    CmQ (O ++ [(N, .row 9 (l.map TableOp.c))] ++ [(N + 1, .tok 1 0)]) (N + 2) S p c l b6 (N + 1) (codeI Φ cmB ⟨e, ⟨O, N⟩⟩) := by
  have t0 := hT N (Nat.le_refl _)
  have t1 := hT (N + 1) (by omega)
  rw [codeI_go]
  have k1 : l.length < 4611686018427387904 ∧ (l.length : Int) * 120 ≤ 140737488355328 := by omega
  simp [cmB, c_txn_Commit, h1, t0, t1, k1]
  have own : ∀ j, S.own j → j < N := fun j hj => by
    obtain ⟨x, hx, _⟩ := m.own_lk hj
    exact hT.lt hx
  have hT1 : Tail (O ++ [(N, AO.row 9 (List.map TableOp.c l)), (N + 1, AO.tok 1 0)]) (N + 2) := by
    have := (hT.app1 (o := AO.row 9 (List.map TableOp.c l)) (Nat.le_refl N)).app1 (o := AO.tok 1 0) (Nat.le_refl (N + 1))
    simpa using this
  have m1 : StoreM (O ++ [(N, AO.row 9 (List.map TableOp.c l)), (N + 1, AO.tok 1 0)]) S p c := m.kp (X := fun _ => False) hT (Kp.appL (fun _ _ _ => rfl) (by intro q hq; simp at hq; rcases hq with rfl | rfl <;> simp)) (by simp)
  refine cmLoop p f hp v s l hl64 hl (b2 := b2) (w := N) ⟨by simp [lk_app, hb2], by simp [lk_app, hb6], by simp [t0], by simp [t1], n2, n6, fun h => by have := own _ h; omega, fun h => by have := own _ h; omega, hT1⟩ _ _ _ ?_
  refine ⟨hT1, Nat.le_refl _, ⟨S, by rw [cfgN_zero]; exact m1, rfl, fun j hj => .inl hj⟩, Kp.refl, by simp [t1], by simp [lk_app, hb6], by simp [cfgN_zero], ?_, ?_, ?_, ?_, ?_, ?_⟩ <;> simp [h2, h6]
end Go.Av
