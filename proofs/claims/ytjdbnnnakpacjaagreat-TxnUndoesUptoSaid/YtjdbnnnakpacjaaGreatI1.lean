/-
  txn.Inverse.
-/
import Derived.Test.YtjdbnnnakpacjaaGreatZY
set_option linter.unusedVariables false
set_option linter.unusedSimpArgs false
set_option linter.constructorNameAsVariable false
namespace Go.Av
set_option maxRecDepth 4000
theorem bkP_ops (p : Prg) : ∀ (V : List TableOp) (M : List Ren) (d : Config), (∀ u ∈ V, UndS u) → ∀ o ∈ bkP p M d V, OpS o
  | [], _, _, _, o, h => by simp [bkP] at h
  | u :: V, M, d, hV, o, h => by
    rw [bkP] at h
    rcases List.mem_cons.1 h with rfl | h
    · have := (hV u (by simp)).op
      exact ⟨this.e, this.c⟩
    · exact bkP_ops p V _ _ (fun w hw => hV w (by simp [hw])) o h
theorem iv2 (p : Prg) (op : p.Ok bulkMax) (hc : (pre p.control).length < 2 ^ 40 - 1) (hp : p.tables.length < 2 ^ 40) {c : Config} (l out : List TableOp) (s' : CfgT (cfgN p c l l.length)) (ho : ∀ o ∈ out, OpS o) {st T N : Nat} {O : List (Nat × AO)} (hT : Tail O N) {e : Env} (v : IvE p c l st e) (h17 : look 17 e = some (.app 9 (out.map TableOp.c) T)) :
    go Φ (finP [.tmp 6, .tmp 7]) [.c c_txn_Inverse_k2] .normal ⟨e, ⟨O, N⟩⟩ = some (.val (invT p c l out)) := by
  have t0 := hT N (Nat.le_refl _)
  have ka := apply_ok p op hc hp s' out ho
  obtain ⟨q0, q1, q2, q3, hC, hq, hq2⟩ := cfg4 c
  obtain ⟨r0, r1, r2, r3, hD, hr, hr2⟩ := cfg4 (cfgN p c l l.length)
  have e3 := v.e3
  have e4 := v.e4
  have e8 := v.e8
  rw [hC] at e4
  rw [hD] at e8 ka
  simp only [Prg.e] at e3 ka
  unfold invT
  cases hb : badA p (cfgN p c l l.length) out with
  | some x =>
    obtain ⟨k, x⟩ := x
    have hx := badA_ne hb
    rw [show appA p (cfgN p c l l.length) out = .tup [.agg noC, .slice 1 [], .int .i64 k, .int .i64 x] by simp only [appA, hb]] at ka
    simp only [noC] at ka
    simp [c_txn_Inverse_k2, t0, lk_app, lk_setl, e3, e4, e8, h17, ka, hq, hq2, hr, hr2, hx]
  | none =>
    rw [show appA p (cfgN p c l l.length) out = .tup [.agg (Config.c (cfgN p (cfgN p c l l.length) out out.length)), .slice 1 (idsA p (cfgN p c l l.length) out), .int .i64 0, .int .i64 0] by simp only [appA, hb]; rfl] at ka
    obtain ⟨v2, h64, hb2⟩ := badA_none hb
    obtain ⟨v3, s3⟩ := cfgN_ok v2 s' hp out ho out.length
    have kq := Equivalent_ok (cfgN p (cfgN p c l l.length) out out.length) c (CfgF_of s3)
    generalize idsA p (cfgN p c l l.length) out = il at ka
    obtain ⟨s0, s1, s2, s3', hE, hs, hs2⟩ := cfg4 (cfgN p (cfgN p c l l.length) out out.length)
    rw [hE] at ka kq
    rw [hC] at kq
    cases hz : equiv (cfgN p (cfgN p c l l.length) out out.length) c with
    | false =>
      rw [hz] at kq
      simp [c_txn_Inverse_k2, t0, lk_app, lk_setl, e3, e4, e8, h17, ka, kq, hq, hq2, hr, hr2, hs, hs2]
    | true =>
      rw [hz] at kq
      simp [c_txn_Inverse_k2, t0, lk_app, lk_setl, e3, e4, e8, h17, ka, kq, hq, hq2, hr, hr2, hs, hs2]
theorem inverse_ok (p : Prg) (op : p.Ok bulkMax) (hc : (pre p.control).length < 2 ^ 40 - 1) (hp : p.tables.length < 2 ^ 40) {c : Config} (s : CfgT c) (l : List TableOp) (hl : ∀ o ∈ l, OpS o) :
    pureI Φ f_txn_Inverse [.agg (Prg.c p), .agg (Config.c c), .slice 9 (l.map TableOp.c)] = some (.val (invA p c l (invP p c l))) := by
  rw [pureI_go (fn := c_txn_Inverse) rfl rfl]
  have ka := apply_ok p op hc hp s l hl
  obtain ⟨q0, q1, q2, q3, hC, hq, hq2⟩ := cfg4 c
  unfold invA
  cases hA : badA p c l with
  | some x =>
    obtain ⟨k, x⟩ := x
    have hx := badA_ne hA
    rw [show appA p c l = .tup [.agg noC, .slice 1 [], .int .i64 k, .int .i64 x] by simp only [appA, hA]] at ka
    rw [hC] at ka ⊢
    simp only [noC, Prg.e] at ka
    simp [c_txn_Inverse, Prg.e, ka, hq, hq2, hx]
  | none =>
    obtain ⟨v, h64, hb⟩ := badA_none hA
    have f := PrgS_of op
    obtain ⟨v', s'⟩ := cfgN_ok v s hp l hl l.length
    rw [show appA p c l = .tup [.agg (Config.c (cfgN p c l l.length)), .slice 1 (idsA p c l), .int .i64 0, .int .i64 0] by simp only [appA, hA]; rfl] at ka
    obtain ⟨r0, r1, r2, r3, hD, hr, hr2⟩ := cfg4 (cfgN p c l l.length)
    have hLd : ∀ N, LoadPost N [] p c (callI Φ f_store_Load [.agg (Prg.c p), .agg (Config.c c)] ⟨[], N⟩) := fun N => Load_ok p op hc c s (fun _ _ => rfl)
    obtain hz | ⟨z, S, O1, N1, e, m1, w1, hk1, hT1, hN1⟩ := hLd 1
    · exact absurd ((cfgE_zero p c).2 v) hz.1
    rw [hC] at ka e ⊢
    rw [hD] at ka
    simp only [Prg.e] at ka e
    have t1 := hT1 N1 (Nat.le_refl _)
    have hT2 : Tail (O1 ++ [(N1, AO.tok 9 0)]) (N1 + 1) := hT1.app1 (Nat.le_refl _)
    have own : ∀ j, S.own j → j < N1 := fun j hj => by
      obtain ⟨x, hx, _⟩ := m1.own_lk hj
      exact hT1.lt hx
    have m2 : StoreM (O1 ++ [(N1, AO.tok 9 0)]) S p c := m1.kp (X := fun _ => False) hT1 (Kp.app Kp.refl (Nat.le_refl _)) (by simp)
    simp [c_txn_Inverse, Prg.e, ka, e, hq, hq2, hr, hr2, t1]
    refine iv0 p f hp v s l h64 hl hb (S := S) (T := N1) (B := N1 + 1) ?_ _ _ _ ⟨⟨by simp [Prg.e], by simp [hC], by simp [hD], by simp⟩, hT2, Nat.le_refl _, by omega, fun h => by have := own _ h; omega, ⟨S, by rw [cfgN_zero]; exact m2, rfl, fun j hj => .inl hj⟩, by simp [lk_app, t1], by simp [undos], by simp, by simp, by simp, by simp⟩
    intro e O N I
    obtain ⟨S2, m3, es, ho⟩ := I.st
    have u0 := I.tl N (Nat.le_refl _)
    have u1 := I.tl (N + 1) (by omega)
    have hB := I.hB
    have own2 : ∀ j, S2.own j → j < N := fun j hj => by
      obtain ⟨x, hx, _⟩ := m3.own_lk hj
      exact I.tl.lt hx
    have hUl : (undos p c l l.length).length = l.length := by simp [undos]
    have hw : IntKind.wrap .i64 ((l.length : Int) - 1) = (l.length : Int) - 1 := wrap64 (by omega) (by omega)
    have hTa : Tail (O ++ [(N, AO.map []), (N + 1, AO.tok 9 0)]) (N + 1 + 1) := I.tl.apps (by omega) (by simp only [List.mem_cons, List.not_mem_nil, or_false]; rintro x (rfl | rfl) <;> simp only <;> omega)
    have m4 : StoreM (O ++ [(N, AO.map []), (N + 1, AO.tok 9 0)]) S2 p (cfgN p c l l.length) := m3.kp (X := fun _ => False) I.tl (Kp.apps (by simp only [List.mem_cons, List.not_mem_nil, or_false]; rintro x (rfl | rfl) <;> simp only <;> omega)) (by simp)
    simp [c_txn_Inverse_k3, I.e13, u0, u1, lk_app, hUl, hw]
    have vS : IvE p c l S2.s e := by rw [es]; exact I.v
    refine iv1 p f hp (c := c) l (undos p c l l.length) (by omega) (undos_s v s hp hl hb) (S := S2) (Mp := N) (T := N + 1) (T0 := N1) (B := N + 1 + 1) ?_ _ _ _ ⟨⟨by simp [vS.e3], by simp [vS.e4], by simp [vS.e8], by simp [vS.e12]⟩, hTa, Nat.le_refl _, by omega, by omega, by omega, fun h => by have := own2 _ h; omega, fun h => by have := own2 _ h; omega, ⟨S2, cfgN p c l l.length, [], [], m4, rfl, fun j hj => .inl hj, v', s', ?_, rfl, by simp, by simp⟩, ?_, by simp [I.e13], by simp, by simp [hUl]⟩
    · intro e T v9 h17 O N hT
      exact iv2 p op hc hp l (invP p c l) s' (bkP_ops p _ _ _ fun u hu => undos_s v s hp hl hb u (by simpa using hu)) hT v9 h17
    · simp [lk_app, u0, rC]
    · simp [lk_app, u1]
end Go.Av
