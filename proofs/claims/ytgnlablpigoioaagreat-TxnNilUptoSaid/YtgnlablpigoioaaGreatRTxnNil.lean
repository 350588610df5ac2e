/-
  The law 'TxnNil' returns true at every input whose readings are of bulk at most 1048576, and leaves its arguments as they were.
  Conditions: none but that bound, which the given statement itself bears.
-/
import Derived.Test.YtgnlablpigoioaaGreatN29
import Derived.Test.YtgnlablpigoioaaGreatFunsBT
import Derived.Test.YtgnlablpigoioaaGreatRTxnNilFa
import Derived.Test.YtgnlablpigoioaaGreatRTxnNilFb
import Derived.Test.YtgnlablpigoioaaGreatRTxnNilFc
import Derived.KernelRfl
import Derived.ClosedOfChecked
set_option linter.unusedVariables false
set_option linter.unusedSimpArgs false
set_option linter.constructorNameAsVariable false
namespace Go.Av
theorem rd_t3 (B : Nat) : Rd Go.Proofs.Tryz.prog B 3 cI (okI B) := rd_int Go.Proofs.Tryz.underlying3
theorem rd_t95 (B : Nat) : Rd Go.Proofs.Tryz.prog B 95 c32 (ok32 B) := rd_u32 Go.Proofs.Tryz.underlying95
theorem rd_t151 (B : Nat) : Rd Go.Proofs.Tryz.prog B 151 KeyMatch.c (KeyMatch.Ok B) := KeyMatch.rd Go.Proofs.Tryz.underlying151 (rd_t95 B) (rd_t95 B)
theorem rd_t35 (B : Nat) : Rd Go.Proofs.Tryz.prog B 35 (cS 2 KeyMatch.c) (okL B (KeyMatch.Ok B)) := rd_slice Go.Proofs.Tryz.underlying35 (by kernel_rfl) (rd_t151 B)
theorem rd_t36 (B : Nat) : Rd Go.Proofs.Tryz.prog B 36 (cS 1 c32) (okL B (ok32 B)) := rd_slice Go.Proofs.Tryz.underlying36 (by kernel_rfl) (rd_t95 B)
theorem rd_t38 (B : Nat) : Rd Go.Proofs.Tryz.prog B 38 ActionCall.c (ActionCall.Ok B) := ActionCall.rd Go.Proofs.Tryz.underlying38 (rd_t3 B) (rd_t36 B)
theorem rd_t40 (B : Nat) : Rd Go.Proofs.Tryz.prog B 40 Entry.c (Entry.Ok B) := Entry.rd Go.Proofs.Tryz.underlying40 (rd_t35 B) (rd_t3 B) (rd_t38 B)
theorem rd_t82 (B : Nat) : Rd Go.Proofs.Tryz.prog B 82 TableOp.c (TableOp.Ok B) := TableOp.rd Go.Proofs.Tryz.underlying82 (rd_t3 B) (rd_t3 B) (rd_t3 B) (rd_t40 B) (rd_t38 B)
theorem rd_t22 (B : Nat) : Rd Go.Proofs.Tryz.prog B 22 (cS 9 TableOp.c) (okL B (TableOp.Ok B)) := rd_slice Go.Proofs.Tryz.underlying22 (by kernel_rfl) (rd_t82 B)
theorem rd_t5 (B : Nat) : Rd Go.Proofs.Tryz.prog B 5 c8 (ok8 B) := rd_u8 Go.Proofs.Tryz.underlying5
def tyL : List Nat := [3, 5, 22, 35, 36, 38, 40, 82, 95, 151]
theorem tyL_ok : plainS Go.Proofs.Tryz.prog tyL = true := by kernel_rfl
theorem bk_pos {H : Type} (d : DataW H) : 1 ≤ Go.Proofs.YtgnlablpigoioaaGreat.Rows.uptoBulk d := by
  cases d with
  | lit l => cases l <;> simp [Go.Proofs.YtgnlablpigoioaaGreat.Rows.uptoBulk]
  | nil => simp [Go.Proofs.YtgnlablpigoioaaGreat.Rows.uptoBulk]
  | ptr d => simp [Go.Proofs.YtgnlablpigoioaaGreat.Rows.uptoBulk]
  | slice elems spare => simp [Go.Proofs.YtgnlablpigoioaaGreat.Rows.uptoBulk]
  | agg parts => simp [Go.Proofs.YtgnlablpigoioaaGreat.Rows.uptoBulk]
  | iface t d => simp [Go.Proofs.YtgnlablpigoioaaGreat.Rows.uptoBulk]
  | map entries => simp [Go.Proofs.YtgnlablpigoioaaGreat.Rows.uptoBulk]
  | held h => simp [Go.Proofs.YtgnlablpigoioaaGreat.Rows.uptoBulk]
def bk (H : Type) : BulkFn H where
  one := Go.Proofs.YtgnlablpigoioaaGreat.Rows.uptoBulk
  all := Go.Proofs.YtgnlablpigoioaaGreat.Rows.uptoBulkAll
  nil := by simp [Go.Proofs.YtgnlablpigoioaaGreat.Rows.uptoBulkAll]
  cons := fun d r => by simp [Go.Proofs.YtgnlablpigoioaaGreat.Rows.uptoBulkAll]
  slice := fun e s => by simp [Go.Proofs.YtgnlablpigoioaaGreat.Rows.uptoBulk]
  agg := fun e => by simp [Go.Proofs.YtgnlablpigoioaaGreat.Rows.uptoBulk]
  str := fun b => by simp [Go.Proofs.YtgnlablpigoioaaGreat.Rows.uptoBulk]
  pos := bk_pos
theorem small {H : Type} {l : List (DataW H)} (h : Go.Proofs.YtgnlablpigoioaaGreat.Rows.uptoSmall H l = true) : (bk H).all l ≤ bulkMax := le_bulkMax (of_decide_eq_true h)
theorem agg_t22 : isAggU Go.Proofs.Tryz.prog 22 = false := by kernel_rfl
theorem agg_t5 : isAggU Go.Proofs.Tryz.prog 5 = false := by kernel_rfl
theorem law_as (vs : List AV) (h : WTVs Go.Proofs.Tryz.prog bulkMax [22, 5] vs) : pureI Φ 7 vs = some (.val (.bool true)) := by
  obtain ⟨a0, vs, rfl, h0, h⟩ := wtvs_cons h
  obtain ⟨a1, vs, rfl, h1, h⟩ := wtvs_cons h
  obtain rfl := wtvs_nil h
  obtain ⟨x0, e0, o0⟩ := wtv_one h0 agg_t22 (rd_t22 bulkMax)
  cases e0
  obtain ⟨x1, e1, o1⟩ := wtv_one h1 agg_t5 (rd_t5 bulkMax)
  cases e1
  exact TxnNil_all x0 x1 o0 o1
end Go.Av
namespace Go.Proofs.YtgnlablpigoioaaGreat
open Go.ChangeShapes Go.WideShapes Go.ChangeAt Go.RowKit Go.Av
theorem own : ownKnob Tryz.prog.godebug = none := by kernel_rfl
theorem laid : laidOutB Tryz.prog = true := closed2.1
theorem facts : joinedFacts Tryz.checked.prog 7 Tryz.f7 (Rows.OpenSpec.upto Rows.txnNilSpec).bare Rows.txnNilUptoRow = true := by
  unfold joinedFacts
  rw [closed2.1, closed2.2, fa1, fa2, fa3, fa4, fa5, fa6, pf1, pf2]
  kernel_rfl
theorem table : TableOk Tryz.prog ann Φ := tabX_ok_of (by kernel_rfl) tab_ok (by kernel_rfl) tabD_ok (by kernel_rfl) tabC_ok1 tabC_ok2 (by kernel_rfl)
set_option maxRecDepth 100000 in
theorem contract (H : Type) (enc : TypeId × Value → H) (W : World) (base : Nat) (args : Array Value) (ds gs : List (DataW H)) (before : List MemPlace)
    (hval : ∀ (j : Nat) t v, Tryz.f7.params[j]? = some t → args[j]? = some v → Value.okWide Tryz.prog W .any base t v)
    (hW : DataW.Whole enc Tryz.prog Tryz.f7.params.toList Rows.txnNilSpec.vars false W args.toList ds gs before) (hk : Rows.uptoSmall H (ds ++ gs) = true) :
    Calls Tryz.prog 7 args W fun e W' => ∃ v, e = .returned v ∧ Rows.txnNilSpec.post enc Tryz.prog Tryz.f7 false true false false W args v W' :=
  row_calls2 table laid (tb := Tryz.f7.resultTypes[0]!) rfl rfl (by kernel_rfl) (by kernel_rfl) (bk H) tyL_ok (by kernel_rfl) hval hW
    (fun l hl => by
      match l, hl with
      | [d0, d1], _ => rfl)
    (small hk) (fun vs h => law_as vs (by rw [Tryz.params7] at h; exact h))
set_option maxRecDepth 100000 in
theorem lifted (os : Os) (started : os.Started) (H : Type) (enc : TypeId × Value → H) (F : Stop.Interp) :
    ReturnsInHanded {} Tryz.checked os 7 .any ((Rows.OpenSpec.upto Rows.txnNilSpec).pre6 enc Tryz.prog Tryz.f7 Rows.txnNilUptoRow.domain false) (((Rows.OpenSpec.upto Rows.txnNilSpec).at F).post enc Tryz.prog Tryz.f7 false true false false) := by
  refine returnsInHanded_of_cond (C := Tryz.checked) (s := Rows.OpenSpec.upto Rows.txnNilSpec) (k := Rows.uptoSmall) rfl own started (by kernel_rfl) Tryz.func7
    (OpenSpec.witness (enc := enc) (C := Tryz.checked) (s := Rows.OpenSpec.upto Rows.txnNilSpec) (k := Rows.uptoSmall) rfl false ⟨#[], #[.slice none 0 0, .int .u8 0], []⟩ 24 (by kernel_rfl) (by kernel_rfl) (by kernel_rfl)
      (x := ([.nil, .lit (.int .u8 0)], [], [])) (by kernel_rfl) rfl (by kernel_rfl)) ?_
  intro W base args ds gs before hval hW _ hk _
  exact contract H enc W base args ds gs before hval hW hk
theorem proved : Rows.TxnNilUptoSaid :=
  OpenClaim.holds_of_cond 7 Tryz.f7 rfl rfl rfl rfl rfl rfl rfl ⟨rfl, rfl, rfl, rfl, rfl⟩ rfl rfl rfl rfl rfl (by kernel_rfl) Tryz.func7 facts
    (of_decide_eq_true (by kernel_rfl)) (by unfold Func.isWrapper; first | (rw [if_pos (by decide +kernel)]; kernel_rfl) | (rw [if_neg (by decide +kernel)]; exact ⟨rfl, rfl⟩))
    (fun os started H enc _ F => lifted os started H enc F)
end Go.Proofs.YtgnlablpigoioaaGreat
