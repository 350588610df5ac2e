/-
  The law 'StoreEquals' returns true at every input whose readings are of bulk at most 1048576, and leaves its arguments as they were.
  Conditions: none but that bound, which the given statement itself bears.
-/
import Derived.Test.YtgnlablpigoioaaGreatS6
import Derived.Test.YtgnlablpigoioaaGreatFunsBS
import Derived.Test.YtgnlablpigoioaaGreatRStoreEqualsFa
import Derived.Test.YtgnlablpigoioaaGreatRStoreEqualsFb
import Derived.Test.YtgnlablpigoioaaGreatRStoreEqualsFc
import Derived.KernelRfl
import Derived.ClosedOfChecked
set_option linter.unusedVariables false
set_option linter.unusedSimpArgs false
set_option linter.constructorNameAsVariable false
namespace Go.Av
theorem rd_t9 (B : Nat) : Rd Go.Proofs.Tryz.prog B 9 cStr (okStr B) := rd_str Go.Proofs.Tryz.underlying9
theorem rd_t3 (B : Nat) : Rd Go.Proofs.Tryz.prog B 3 cI (okI B) := rd_int Go.Proofs.Tryz.underlying3
theorem rd_t134 (B : Nat) : Rd Go.Proofs.Tryz.prog B 134 Fld.c (Fld.Ok B) := Fld.rd Go.Proofs.Tryz.underlying134 (rd_t9 B) (rd_t3 B)
theorem rd_t52 (B : Nat) : Rd Go.Proofs.Tryz.prog B 52 (cS 2 Fld.c) (okL B (Fld.Ok B)) := rd_slice Go.Proofs.Tryz.underlying52 (by kernel_rfl) (rd_t134 B)
theorem rd_t136 (B : Nat) : Rd Go.Proofs.Tryz.prog B 136 Header.c (Header.Ok B) := Header.rd Go.Proofs.Tryz.underlying136 (rd_t9 B) (rd_t52 B)
theorem rd_t51 (B : Nat) : Rd Go.Proofs.Tryz.prog B 51 (cS 2 Header.c) (okL B (Header.Ok B)) := rd_slice Go.Proofs.Tryz.underlying51 (by kernel_rfl) (rd_t136 B)
theorem rd_t208 (B : Nat) : Rd Go.Proofs.Tryz.prog B 208 Register.c (Register.Ok B) := Register.rd Go.Proofs.Tryz.underlying208 (rd_t9 B) (rd_t3 B) (rd_t3 B)
theorem rd_t53 (B : Nat) : Rd Go.Proofs.Tryz.prog B 53 (cS 3 Register.c) (okL B (Register.Ok B)) := rd_slice Go.Proofs.Tryz.underlying53 (by kernel_rfl) (rd_t208 B)
theorem rd_t132 (B : Nat) : Rd Go.Proofs.Tryz.prog B 132 FieldRef.c (FieldRef.Ok B) := FieldRef.rd Go.Proofs.Tryz.underlying132 (rd_t3 B) (rd_t3 B)
theorem rd_t297 (B : Nat) : Rd Go.Proofs.Tryz.prog B 297 ExprNode.c (ExprNode.Ok B) := ExprNode.rd Go.Proofs.Tryz.underlying297 (rd_t3 B) (rd_t3 B) (rd_t3 B)
theorem rd_t179 (B : Nat) : Rd Go.Proofs.Tryz.prog B 179 (cS 3 ExprNode.c) (okL B (ExprNode.Ok B)) := rd_slice Go.Proofs.Tryz.underlying179 (by kernel_rfl) (rd_t297 B)
theorem rd_t256 (B : Nat) : Rd Go.Proofs.Tryz.prog B 256 Statement.c (Statement.Ok B) := Statement.rd Go.Proofs.Tryz.underlying256 (rd_t3 B) (rd_t132 B) (rd_t3 B) (rd_t3 B) (rd_t179 B) (rd_t179 B)
theorem rd_t137 (B : Nat) : Rd Go.Proofs.Tryz.prog B 137 (cS 7 Statement.c) (okL B (Statement.Ok B)) := rd_slice Go.Proofs.Tryz.underlying137 (by kernel_rfl) (rd_t256 B)
theorem rd_t139 (B : Nat) : Rd Go.Proofs.Tryz.prog B 139 Action.c (Action.Ok B) := Action.rd Go.Proofs.Tryz.underlying139 (rd_t9 B) (rd_t52 B) (rd_t137 B)
theorem rd_t54 (B : Nat) : Rd Go.Proofs.Tryz.prog B 54 (cS 3 Action.c) (okL B (Action.Ok B)) := rd_slice Go.Proofs.Tryz.underlying54 (by kernel_rfl) (rd_t139 B)
theorem rd_t141 (B : Nat) : Rd Go.Proofs.Tryz.prog B 141 TableKey.c (TableKey.Ok B) := TableKey.rd Go.Proofs.Tryz.underlying141 (rd_t132 B) (rd_t3 B)
theorem rd_t107 (B : Nat) : Rd Go.Proofs.Tryz.prog B 107 (cS 3 TableKey.c) (okL B (TableKey.Ok B)) := rd_slice Go.Proofs.Tryz.underlying107 (by kernel_rfl) (rd_t141 B)
theorem rd_t28 (B : Nat) : Rd Go.Proofs.Tryz.prog B 28 (cS 1 cI) (okL B (okI B)) := rd_slice Go.Proofs.Tryz.underlying28 (by kernel_rfl) (rd_t3 B)
theorem rd_t95 (B : Nat) : Rd Go.Proofs.Tryz.prog B 95 c32 (ok32 B) := rd_u32 Go.Proofs.Tryz.underlying95
theorem rd_t36 (B : Nat) : Rd Go.Proofs.Tryz.prog B 36 (cS 1 c32) (okL B (ok32 B)) := rd_slice Go.Proofs.Tryz.underlying36 (by kernel_rfl) (rd_t95 B)
theorem rd_t38 (B : Nat) : Rd Go.Proofs.Tryz.prog B 38 ActionCall.c (ActionCall.Ok B) := ActionCall.rd Go.Proofs.Tryz.underlying38 (rd_t3 B) (rd_t36 B)
theorem rd_t109 (B : Nat) : Rd Go.Proofs.Tryz.prog B 109 Tbl.c (Tbl.Ok B) := Tbl.rd Go.Proofs.Tryz.underlying109 (rd_t9 B) (rd_t107 B) (rd_t28 B) (rd_t38 B) (rd_t3 B)
theorem rd_t55 (B : Nat) : Rd Go.Proofs.Tryz.prog B 55 (cS 6 Tbl.c) (okL B (Tbl.Ok B)) := rd_slice Go.Proofs.Tryz.underlying55 (by kernel_rfl) (rd_t109 B)
theorem rd_t4 (B : Nat) : Rd Go.Proofs.Tryz.prog B 4 cB (okT B) := rd_bool Go.Proofs.Tryz.underlying4
theorem rd_t294 (B : Nat) : Rd Go.Proofs.Tryz.prog B 294 SelectCase.c (SelectCase.Ok B) := SelectCase.rd Go.Proofs.Tryz.underlying294 (rd_t95 B) (rd_t95 B) (rd_t3 B)
theorem rd_t142 (B : Nat) : Rd Go.Proofs.Tryz.prog B 142 (cS 3 SelectCase.c) (okL B (SelectCase.Ok B)) := rd_slice Go.Proofs.Tryz.underlying142 (by kernel_rfl) (rd_t294 B)
theorem rd_t144 (B : Nat) : Rd Go.Proofs.Tryz.prog B 144 ParserState.c (ParserState.Ok B) := ParserState.rd Go.Proofs.Tryz.underlying144 (rd_t9 B) (rd_t28 B) (rd_t4 B) (rd_t132 B) (rd_t142 B) (rd_t3 B)
theorem rd_t56 (B : Nat) : Rd Go.Proofs.Tryz.prog B 56 (cS 7 ParserState.c) (okL B (ParserState.Ok B)) := rd_slice Go.Proofs.Tryz.underlying56 (by kernel_rfl) (rd_t144 B)
theorem rd_t181 (B : Nat) : Rd Go.Proofs.Tryz.prog B 181 ControlNode.c (ControlNode.Ok B) := ControlNode.rd Go.Proofs.Tryz.underlying181 (rd_t3 B) (rd_t3 B) (rd_t179 B) rfl rfl Go.Proofs.Tryz.underlying57 (by kernel_rfl)
theorem rd_t57 (B : Nat) : Rd Go.Proofs.Tryz.prog B 57 (cS 5 ControlNode.c) (okL B (ControlNode.Ok B)) := rd_slice Go.Proofs.Tryz.underlying57 (by kernel_rfl) (rd_t181 B)
theorem rd_t59 (B : Nat) : Rd Go.Proofs.Tryz.prog B 59 Prg.c (Prg.Ok B) := Prg.rd Go.Proofs.Tryz.underlying59 (rd_t9 B) (rd_t51 B) (rd_t52 B) (rd_t53 B) (rd_t54 B) (rd_t55 B) (rd_t56 B) (rd_t57 B) (rd_t28 B)
theorem rd_t151 (B : Nat) : Rd Go.Proofs.Tryz.prog B 151 KeyMatch.c (KeyMatch.Ok B) := KeyMatch.rd Go.Proofs.Tryz.underlying151 (rd_t95 B) (rd_t95 B)
theorem rd_t35 (B : Nat) : Rd Go.Proofs.Tryz.prog B 35 (cS 2 KeyMatch.c) (okL B (KeyMatch.Ok B)) := rd_slice Go.Proofs.Tryz.underlying35 (by kernel_rfl) (rd_t151 B)
theorem rd_t40 (B : Nat) : Rd Go.Proofs.Tryz.prog B 40 Entry.c (Entry.Ok B) := Entry.rd Go.Proofs.Tryz.underlying40 (rd_t35 B) (rd_t3 B) (rd_t38 B)
theorem rd_t42 (B : Nat) : Rd Go.Proofs.Tryz.prog B 42 Rw.c (Rw.Ok B) := Rw.rd Go.Proofs.Tryz.underlying42 (rd_t3 B) (rd_t40 B)
theorem rd_t34 (B : Nat) : Rd Go.Proofs.Tryz.prog B 34 (cS 5 Rw.c) (okL B (Rw.Ok B)) := rd_slice Go.Proofs.Tryz.underlying34 (by kernel_rfl) (rd_t42 B)
theorem rd_t27 (B : Nat) : Rd Go.Proofs.Tryz.prog B 27 (cS 1 (cS 5 Rw.c)) (okL B (okL B (Rw.Ok B))) := rd_slice Go.Proofs.Tryz.underlying27 (by kernel_rfl) (rd_t34 B)
theorem rd_t29 (B : Nat) : Rd Go.Proofs.Tryz.prog B 29 (cS 2 ActionCall.c) (okL B (ActionCall.Ok B)) := rd_slice Go.Proofs.Tryz.underlying29 (by kernel_rfl) (rd_t38 B)
theorem rd_t30 (B : Nat) : Rd Go.Proofs.Tryz.prog B 30 (cS 1 (cS 1 c32)) (okL B (okL B (ok32 B))) := rd_slice Go.Proofs.Tryz.underlying30 (by kernel_rfl) (rd_t36 B)
theorem rd_t32 (B : Nat) : Rd Go.Proofs.Tryz.prog B 32 Config.c (Config.Ok B) := Config.rd Go.Proofs.Tryz.underlying32 (rd_t27 B) (rd_t28 B) (rd_t29 B) (rd_t30 B)
def tyL : List Nat := [3, 4, 9, 27, 28, 29, 30, 32, 34, 35, 36, 38, 40, 42, 51, 52, 53, 54, 55, 56, 57, 59, 95, 107, 109, 132, 134, 136, 137, 139, 141, 142, 144, 151, 179, 181, 208, 256, 294, 297]
theorem tyL_ok : plainS Go.Proofs.Tryz.prog tyL = true := by kernel_rfl
theorem bk_pos {H : Type} (d : DataW H) : 1 ≤ Go.Proofs.YtgnlablpigoioaaGreat.Rows.uptoBulk d := by
  cases d with
  | lit l => cases l <;> simp [Go.Proofs.YtgnlablpigoioaaGreat.Rows.uptoBulk]
  | nil => simp [Go.Proofs.YtgnlablpigoioaaGreat.Rows.uptoBulk]
  | ptr d => simp [Go.Proofs.YtgnlablpigoioaaGreat.Rows.uptoBulk]
  | slice elems spare => simp [Go.Proofs.YtgnlablpigoioaaGreat.Rows.uptoBulk]
  | agg parts => simp [Go.Proofs.YtgnlablpigoioaaGreat.Rows.uptoBulk]
  | iface t d => simp [Go.Proofs.YtgnlablpigoioaaGreat.Rows.uptoBulk]
  | map entries => simp [Go.Proofs.YtgnlablpigoioaaGreat.Rows.uptoBulk]
  | held h => simp [Go.Proofs.YtgnlablpigoioaaGreat.Rows.uptoBulk]
def bk (H : Type) : BulkFn H where
  one := Go.Proofs.YtgnlablpigoioaaGreat.Rows.uptoBulk
  all := Go.Proofs.YtgnlablpigoioaaGreat.Rows.uptoBulkAll
  nil := by simp [Go.Proofs.YtgnlablpigoioaaGreat.Rows.uptoBulkAll]
  cons := fun d r => by simp [Go.Proofs.YtgnlablpigoioaaGreat.Rows.uptoBulkAll]
  slice := fun e s => by simp [Go.Proofs.YtgnlablpigoioaaGreat.Rows.uptoBulk]
  agg := fun e => by simp [Go.Proofs.YtgnlablpigoioaaGreat.Rows.uptoBulk]
  str := fun b => by simp [Go.Proofs.YtgnlablpigoioaaGreat.Rows.uptoBulk]
  pos := bk_pos
theorem small {H : Type} {l : List (DataW H)} (h : Go.Proofs.YtgnlablpigoioaaGreat.Rows.uptoSmall H l = true) : (bk H).all l ≤ bulkMax := le_bulkMax (of_decide_eq_true h)
theorem agg_t59 : isAggU Go.Proofs.Tryz.prog 59 = true := by kernel_rfl
theorem agg_t32 : isAggU Go.Proofs.Tryz.prog 32 = true := by kernel_rfl
theorem law_as (vs : List AV) (h : WTVs Go.Proofs.Tryz.prog bulkMax [59, 32, 32] vs) : pureI Φ 6 vs = some (.val (.bool true)) := by
  obtain ⟨a0, vs, rfl, h0, h⟩ := wtvs_cons h
  obtain ⟨a1, vs, rfl, h1, h⟩ := wtvs_cons h
  obtain ⟨a2, vs, rfl, h2, h⟩ := wtvs_cons h
  obtain rfl := wtvs_nil h
  obtain ⟨x0, rfl, o0⟩ := wtv_agg h0 agg_t59 (rd_t59 bulkMax)
  obtain ⟨x1, rfl, o1⟩ := wtv_agg h1 agg_t32 (rd_t32 bulkMax)
  obtain ⟨x2, rfl, o2⟩ := wtv_agg h2 agg_t32 (rd_t32 bulkMax)
  exact StoreEquals_all x0 x1 x2 o0 o1 o2
end Go.Av
namespace Go.Proofs.YtgnlablpigoioaaGreat
open Go.ChangeShapes Go.WideShapes Go.ChangeAt Go.RowKit Go.Av
theorem own : ownKnob Tryz.prog.godebug = none := by kernel_rfl
theorem laid : laidOutB Tryz.prog = true := closed2.1
theorem facts : joinedFacts Tryz.checked.prog 6 Tryz.f6 (Rows.OpenSpec.upto Rows.storeEqualsSpec).bare Rows.storeEqualsUptoRow = true := by
  unfold joinedFacts
  rw [closed2.1, closed2.2, fa1, fa2, fa3, fa4, fa5, fa6, pf1, pf2]
  kernel_rfl
theorem table : TableOk Tryz.prog ann Φ := tabX_ok_of (by kernel_rfl) tab_ok (by kernel_rfl) tabD_ok (by kernel_rfl) tabC_ok1 tabC_ok2 (by kernel_rfl)
set_option maxRecDepth 100000 in
theorem contract (H : Type) (enc : TypeId × Value → H) (W : World) (base : Nat) (args : Array Value) (ds gs : List (DataW H)) (before : List MemPlace)
    (hval : ∀ (j : Nat) t v, Tryz.f6.params[j]? = some t → args[j]? = some v → Value.okWide Tryz.prog W .any base t v)
    (hW : DataW.Whole enc Tryz.prog Tryz.f6.params.toList Rows.storeEqualsSpec.vars false W args.toList ds gs before) (hk : Rows.uptoSmall H (ds ++ gs) = true) :
    Calls Tryz.prog 6 args W fun e W' => ∃ v, e = .returned v ∧ Rows.storeEqualsSpec.post enc Tryz.prog Tryz.f6 false true false false W args v W' :=
  row_calls2 table laid (tb := Tryz.f6.resultTypes[0]!) rfl rfl (by kernel_rfl) (by kernel_rfl) (bk H) tyL_ok (by kernel_rfl) hval hW
    (fun l hl => by
      match l, hl with
      | [d0, d1, d2], _ => rfl)
    (small hk) (fun vs h => law_as vs (by rw [Tryz.params6] at h; exact h))
set_option maxRecDepth 100000 in
theorem lifted (os : Os) (started : os.Started) (H : Type) (enc : TypeId × Value → H) (F : Stop.Interp) :
    ReturnsInHanded {} Tryz.checked os 6 .any ((Rows.OpenSpec.upto Rows.storeEqualsSpec).pre6 enc Tryz.prog Tryz.f6 Rows.storeEqualsUptoRow.domain false) (((Rows.OpenSpec.upto Rows.storeEqualsSpec).at F).post enc Tryz.prog Tryz.f6 false true false false) := by
  refine returnsInHanded_of_cond (C := Tryz.checked) (s := Rows.OpenSpec.upto Rows.storeEqualsSpec) (k := Rows.uptoSmall) rfl own started (by kernel_rfl) Tryz.func6
    (OpenSpec.witness (enc := enc) (C := Tryz.checked) (s := Rows.OpenSpec.upto Rows.storeEqualsSpec) (k := Rows.uptoSmall) rfl false ⟨#[], #[.agg #[.string ByteArray.empty, .slice none 0 0, .slice none 0 0, .slice none 0 0, .slice none 0 0, .slice none 0 0, .slice none 0 0, .slice none 0 0, .slice none 0 0], .agg #[.slice none 0 0, .slice none 0 0, .slice none 0 0, .slice none 0 0], .agg #[.slice none 0 0, .slice none 0 0, .slice none 0 0, .slice none 0 0]], []⟩ 24 (by kernel_rfl) (by kernel_rfl) (by kernel_rfl)
      (x := ([.agg [.lit (.string []), .nil, .nil, .nil, .nil, .nil, .nil, .nil, .nil], .agg [.nil, .nil, .nil, .nil], .agg [.nil, .nil, .nil, .nil]], [], [])) (by kernel_rfl) rfl (by kernel_rfl)) ?_
  intro W base args ds gs before hval hW _ hk _
  exact contract H enc W base args ds gs before hval hW hk
theorem proved : Rows.StoreEqualsUptoSaid :=
  OpenClaim.holds_of_cond 6 Tryz.f6 rfl rfl rfl rfl rfl rfl rfl ⟨rfl, rfl, rfl, rfl, rfl⟩ rfl rfl rfl rfl rfl (by kernel_rfl) Tryz.func6 facts
    (of_decide_eq_true (by kernel_rfl)) (by unfold Func.isWrapper; first | (rw [if_pos (by decide +kernel)]; kernel_rfl) | (rw [if_neg (by decide +kernel)]; exact ⟨rfl, rfl⟩))
    (fun os started H enc _ F => lifted os started H enc F)
end Go.Proofs.YtgnlablpigoioaaGreat
