/-
  Rows with the key of an entry; calls of a table; on both sides.
-/
import Derived.Test.YtjdbnnnakpacjaaGreatQ6
set_option linter.unusedVariables false
set_option linter.unusedSimpArgs false
set_option linter.constructorNameAsVariable false
namespace Go.Av
set_option maxRecDepth 4000
def ckCall (p : Prg) (t : Int) (c : ActionCall) : Int := if tAl p t c.action = false then 8 else callE p c
theorem scall_ok (p : Prg) (f : PrgS p) (t : Int) (c : ActionCall) (hc : c.args.length < 2 ^ 40) : pureI Φ f_store_checkCall [.agg (Prg.c p), .int .i64 t, .agg (ActionCall.c c)] = some (.val (.int .i64 (ckCall p t c))) := by
  rw [pureI_go (fn := c_store_checkCall) rfl rfl]
  have ha := tallows_ok p f t c.action
  have hk := callE_ok p f c hc
  simp only [Prg.e, ActionCall.ce] at ha hk
  cases q : tAl p t c.action with
  | false => rw [q] at ha; simp [c_store_checkCall, Prg.e, ActionCall.ce, ha, ckCall, q]
  | true => rw [q] at ha; simp [c_store_checkCall, Prg.e, ActionCall.ce, ha, hk, ckCall, q]
theorem rcall_ok (p : Prg) (f : PrgS p) (hv : ∀ t ∈ p.tables, ∀ v ∈ t.dflt.args, ok32 0 v) (t : Int) (c : ActionCall) (hc : c.args.length < 2 ^ 40) (hr : ∀ v ∈ c.args, ok32 0 v) : pureI Φ f_ref25_call [.agg (Prg.c p), .int .i64 t, .agg (ActionCall.c c)] = some (.val (.int .i64 (ckCall p t c))) := by
  rw [pureI_go (fn := c_ref25_call) rfl rfl]
  have ha := rallows_ok p f hv t c.action
  have hk := rcallE_ok p f c hc hr
  simp only [Prg.e, ActionCall.ce] at ha hk
  cases q : tAl p t c.action with
  | false => rw [q] at ha; simp [c_ref25_call, Prg.e, ActionCall.ce, ha, ckCall, q]
  | true => rw [q] at ha; simp [c_ref25_call, Prg.e, ActionCall.ce, ha, hk, ckCall, q]
-- the same key
def sk (x y : Entry) : Bool := decide (x.keys = y.keys ∧ x.priority = y.priority)
theorem esk_ok (x y : Entry) (hb : x.keys.length < 2 ^ 40) : pureI Φ f_entry_SameKey [.agg [.slice 2 (x.keys.map KeyMatch.c), .int .i64 x.priority, .int .i64 x.call.action, .slice 1 (x.call.args.map c32)], .agg [.slice 2 (y.keys.map KeyMatch.c), .int .i64 y.priority, .int .i64 y.call.action, .slice 1 (y.call.args.map c32)]] = some (.val (.bool (sk x y))) := eSameKey_ok _ _ _ _ _ _ hb
theorem rsk_ok (x y : Entry) (hb : x.keys.length < 2 ^ 40) : pureI Φ f_ref23_SameKey [.agg [.slice 2 (x.keys.map KeyMatch.c), .int .i64 x.priority, .int .i64 x.call.action, .slice 1 (x.call.args.map c32)], .agg [.slice 2 (y.keys.map KeyMatch.c), .int .i64 y.priority, .int .i64 y.call.action, .slice 1 (y.call.args.map c32)]] = some (.val (.bool (sk x y))) := SameKey_ok _ _ _ _ _ _ hb
theorem ct1_ok (x r : Rw) (hb : x.entry.keys.length < 2 ^ 40) : pureI Φ f_store_checkTable_1 [.agg (Rw.c x), .iptr 5 [Rw.c r] 0 0] = some (.val (.bool (sk x.entry r.entry))) := by
  rw [pureI_go (fn := c_store_checkTable_1) rfl rfl]
  have h := esk_ok x.entry r.entry hb
  simp [c_store_checkTable_1, Rw.ce, h]
theorem idxRow_ok (l : List Rw) (r : Rw) (hl : l.length < 2 ^ 40) (hs : ∀ x ∈ l, x.entry.keys.length < 2 ^ 40) : pureI Φ f_slices_IndexFunc_api_Row_api_Row [.slice 5 (l.map Rw.c), .func (.func f_store_checkTable_1) [] [.iptr 5 [Rw.c r] 0 0]] = some (.val (.int .i64 (ix (fun x => sk x.entry r.entry) l 0))) := by
  rw [pureI_go (fn := c_slices_IndexFunc_api_Row_api_Row) rfl rfl]
  simp [c_slices_IndexFunc_api_Row_api_Row]
  refine (loop_nat0 l.length (fun i e => look 0 e = some (.slice 5 (l.map Rw.c)) ∧ look 1 e = some (.func (.func f_store_checkTable_1) [] [.iptr 5 [Rw.c r] 0 0]) ∧ look 7 e = some (.int .i64 l.length) ∧ look 8 e = some (.int .i64 i))
    (fun i => some (.val (.int .i64 (ix (fun x => sk x.entry r.entry) l i)))) ?_ ?_ 0 _ (Nat.zero_le _) ?_).trans (by simp)
  · rintro i e L hi hL ⟨h0, h1, h7, h8⟩ ih
    have hw : IntKind.wrap .i64 ((i : Int) + 1) = ((i + 1 : Nat) : Int) := wrap64 (by omega) (by omega)
    have hd := ct1_ok l[i] r (hs _ (List.getElem_mem hi))
    simp only [Rw.ce] at hd h1
    cases z : sk l[i].entry r.entry with
    | true =>
      rw [ix_hit hi (by simpa using z)]
      rw [z] at hd
      simp [c_slices_IndexFunc_api_Row_api_Row_l0, Rw.ce, h0, h1, h7, h8, hi, hd]
    | false =>
      rw [ix_miss hi (by simpa using z)]
      rw [z] at hd
      simp [c_slices_IndexFunc_api_Row_api_Row_l0, Rw.ce, h0, h1, h7, h8, hi, hd, hw]
      exact ih _ ⟨by simp [h0], by simp [h1, Rw.ce], by simp [h7], by simp⟩
  · rintro e L hL ⟨h0, h1, h7, h8⟩
    rw [ix_end]
    simp [c_slices_IndexFunc_api_Row_api_Row_l0, c_slices_IndexFunc_api_Row_api_Row_k1, h7, h8, hL]
  · simp
theorem conRow_ok (l : List Rw) (r : Rw) (hl : l.length < 2 ^ 40) (hs : ∀ x ∈ l, x.entry.keys.length < 2 ^ 40) : pureI Φ f_slices_ContainsFunc_api_Row_api_Row [.slice 5 (l.map Rw.c), .func (.func f_store_checkTable_1) [] [.iptr 5 [Rw.c r] 0 0]] = some (.val (.bool (l.any fun x => sk x.entry r.entry))) := by
  rw [pureI_go (fn := c_slices_ContainsFunc_api_Row_api_Row) rfl rfl]
  have h := idxRow_ok l r hl hs
  rw [← ix_any]
  simp [c_slices_ContainsFunc_api_Row_api_Row, h]
theorem taken_ok (l : List Rw) (x : Entry) (hl : l.length < 2 ^ 40) (hs : ∀ x ∈ l, x.entry.keys.length < 2 ^ 40) : pureI Φ f_ref25_taken [.slice 5 (l.map Rw.c), .agg (Entry.c x)] = some (.val (.bool (l.any fun y => sk y.entry x))) := by
  rw [pureI_go (fn := c_ref25_taken) rfl rfl]
  generalize hY : some (Rt.val (AV.bool (l.any fun y => sk y.entry x))) = Y
  simp [c_ref25_taken, Entry.ce]
  rw [show Y = some (Rt.val (AV.bool ((l.drop 0).any fun y => sk y.entry x))) by rw [← hY]; simp]
  refine loop_nat0 l.length (fun i e => look 0 e = some (.slice 5 (l.map Rw.c)) ∧ look 3 e = some (.iptr 4 [Entry.c x] 0 0) ∧ look 5 e = some (.int .i64 i))
    (fun i => some (Rt.val (.bool ((l.drop i).any fun y => sk y.entry x)))) ?_ ?_ 0 _ (Nat.zero_le _) ?_
  · rintro i e L hi hL ⟨h0, h3, h5⟩ ih
    have hw : IntKind.wrap .i64 ((i : Int) + 1) = ((i + 1 : Nat) : Int) := wrap64 (by omega) (by omega)
    have hd := rsk_ok l[i].entry x (hs _ (List.getElem_mem hi))
    rw [Entry.ce] at h3
    rw [List.drop_eq_getElem_cons hi, List.any_cons]
    cases z : sk l[i].entry x with
    | true =>
      rw [z] at hd
      rw [Bool.true_or]
      simp [c_ref25_taken_l0, Rw.ce, h0, h3, h5, hi, hd]
    | false =>
      rw [z] at hd
      rw [Bool.false_or]
      generalize hX : some (Rt.val (AV.bool ((l.drop (i + 1)).any fun y => sk y.entry x))) = X
      simp [c_ref25_taken_l0, Rw.ce, h0, h3, h5, hi, hd, hw]
      rw [← hX]
      exact ih _ ⟨by simp [h0], by simp [h3, Entry.ce], by simp⟩
  · rintro e L hL ⟨h0, h3, h5⟩
    simp [c_ref25_taken_l0, c_ref25_taken_k1, h0, h5, hL]
  · simp [Entry.ce]
end Go.Av
