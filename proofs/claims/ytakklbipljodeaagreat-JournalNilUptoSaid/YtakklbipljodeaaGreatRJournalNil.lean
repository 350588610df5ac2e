/-
  The law 'JournalNil' returns true at every input whose readings are of bulk at most 1048576, and leaves its arguments as they were.
  Conditions: none but that bound, which the given statement itself bears.
-/
import Derived.Test.YtakklbipljodeaaGreatM2
import Derived.Test.YtakklbipljodeaaGreatFunsBK
import Derived.Test.YtakklbipljodeaaGreatRJournalNilFa
import Derived.Test.YtakklbipljodeaaGreatRJournalNilFb
import Derived.Test.YtakklbipljodeaaGreatRJournalNilFc
import Derived.KernelRfl
import Derived.ClosedOfChecked
set_option linter.unusedVariables false
set_option linter.unusedSimpArgs false
set_option linter.constructorNameAsVariable false
namespace Go.Av
theorem rd_t9 (B : Nat) : Rd Go.Proofs.Tryz.prog B 9 cStr (okStr B) := rd_str Go.Proofs.Tryz.underlying9
theorem rd_t3 (B : Nat) : Rd Go.Proofs.Tryz.prog B 3 cI (okI B) := rd_int Go.Proofs.Tryz.underlying3
theorem rd_t200 (B : Nat) : Rd Go.Proofs.Tryz.prog B 200 Fld.c (Fld.Ok B) := Fld.rd Go.Proofs.Tryz.underlying200 (rd_t9 B) (rd_t3 B)
theorem rd_t23 (B : Nat) : Rd Go.Proofs.Tryz.prog B 23 (cS 2 Fld.c) (okL B (Fld.Ok B)) := rd_slice Go.Proofs.Tryz.underlying23 (by kernel_rfl) (rd_t200 B)
theorem rd_t176 (B : Nat) : Rd Go.Proofs.Tryz.prog B 176 Header.c (Header.Ok B) := Header.rd Go.Proofs.Tryz.underlying176 (rd_t9 B) (rd_t23 B)
theorem rd_t22 (B : Nat) : Rd Go.Proofs.Tryz.prog B 22 (cS 2 Header.c) (okL B (Header.Ok B)) := rd_slice Go.Proofs.Tryz.underlying22 (by kernel_rfl) (rd_t176 B)
theorem rd_t211 (B : Nat) : Rd Go.Proofs.Tryz.prog B 211 Register.c (Register.Ok B) := Register.rd Go.Proofs.Tryz.underlying211 (rd_t9 B) (rd_t3 B) (rd_t3 B)
theorem rd_t24 (B : Nat) : Rd Go.Proofs.Tryz.prog B 24 (cS 3 Register.c) (okL B (Register.Ok B)) := rd_slice Go.Proofs.Tryz.underlying24 (by kernel_rfl) (rd_t211 B)
theorem rd_t183 (B : Nat) : Rd Go.Proofs.Tryz.prog B 183 FieldRef.c (FieldRef.Ok B) := FieldRef.rd Go.Proofs.Tryz.underlying183 (rd_t3 B) (rd_t3 B)
theorem rd_t321 (B : Nat) : Rd Go.Proofs.Tryz.prog B 321 ExprNode.c (ExprNode.Ok B) := ExprNode.rd Go.Proofs.Tryz.underlying321 (rd_t3 B) (rd_t3 B) (rd_t3 B)
theorem rd_t203 (B : Nat) : Rd Go.Proofs.Tryz.prog B 203 (cS 3 ExprNode.c) (okL B (ExprNode.Ok B)) := rd_slice Go.Proofs.Tryz.underlying203 (by kernel_rfl) (rd_t321 B)
theorem rd_t241 (B : Nat) : Rd Go.Proofs.Tryz.prog B 241 Statement.c (Statement.Ok B) := Statement.rd Go.Proofs.Tryz.underlying241 (rd_t3 B) (rd_t183 B) (rd_t3 B) (rd_t3 B) (rd_t203 B) (rd_t203 B)
theorem rd_t178 (B : Nat) : Rd Go.Proofs.Tryz.prog B 178 (cS 7 Statement.c) (okL B (Statement.Ok B)) := rd_slice Go.Proofs.Tryz.underlying178 (by kernel_rfl) (rd_t241 B)
theorem rd_t180 (B : Nat) : Rd Go.Proofs.Tryz.prog B 180 Action.c (Action.Ok B) := Action.rd Go.Proofs.Tryz.underlying180 (rd_t9 B) (rd_t23 B) (rd_t178 B)
theorem rd_t25 (B : Nat) : Rd Go.Proofs.Tryz.prog B 25 (cS 3 Action.c) (okL B (Action.Ok B)) := rd_slice Go.Proofs.Tryz.underlying25 (by kernel_rfl) (rd_t180 B)
theorem rd_t202 (B : Nat) : Rd Go.Proofs.Tryz.prog B 202 TableKey.c (TableKey.Ok B) := TableKey.rd Go.Proofs.Tryz.underlying202 (rd_t183 B) (rd_t3 B)
theorem rd_t122 (B : Nat) : Rd Go.Proofs.Tryz.prog B 122 (cS 3 TableKey.c) (okL B (TableKey.Ok B)) := rd_slice Go.Proofs.Tryz.underlying122 (by kernel_rfl) (rd_t202 B)
theorem rd_t29 (B : Nat) : Rd Go.Proofs.Tryz.prog B 29 (cS 1 cI) (okL B (okI B)) := rd_slice Go.Proofs.Tryz.underlying29 (by kernel_rfl) (rd_t3 B)
theorem rd_t112 (B : Nat) : Rd Go.Proofs.Tryz.prog B 112 c32 (ok32 B) := rd_u32 Go.Proofs.Tryz.underlying112
theorem rd_t54 (B : Nat) : Rd Go.Proofs.Tryz.prog B 54 (cS 1 c32) (okL B (ok32 B)) := rd_slice Go.Proofs.Tryz.underlying54 (by kernel_rfl) (rd_t112 B)
theorem rd_t56 (B : Nat) : Rd Go.Proofs.Tryz.prog B 56 ActionCall.c (ActionCall.Ok B) := ActionCall.rd Go.Proofs.Tryz.underlying56 (rd_t3 B) (rd_t54 B)
theorem rd_t124 (B : Nat) : Rd Go.Proofs.Tryz.prog B 124 Tbl.c (Tbl.Ok B) := Tbl.rd Go.Proofs.Tryz.underlying124 (rd_t9 B) (rd_t122 B) (rd_t29 B) (rd_t56 B) (rd_t3 B)
theorem rd_t26 (B : Nat) : Rd Go.Proofs.Tryz.prog B 26 (cS 6 Tbl.c) (okL B (Tbl.Ok B)) := rd_slice Go.Proofs.Tryz.underlying26 (by kernel_rfl) (rd_t124 B)
theorem rd_t4 (B : Nat) : Rd Go.Proofs.Tryz.prog B 4 cB (okT B) := rd_bool Go.Proofs.Tryz.underlying4
theorem rd_t318 (B : Nat) : Rd Go.Proofs.Tryz.prog B 318 SelectCase.c (SelectCase.Ok B) := SelectCase.rd Go.Proofs.Tryz.underlying318 (rd_t112 B) (rd_t112 B) (rd_t3 B)
theorem rd_t184 (B : Nat) : Rd Go.Proofs.Tryz.prog B 184 (cS 3 SelectCase.c) (okL B (SelectCase.Ok B)) := rd_slice Go.Proofs.Tryz.underlying184 (by kernel_rfl) (rd_t318 B)
theorem rd_t186 (B : Nat) : Rd Go.Proofs.Tryz.prog B 186 ParserState.c (ParserState.Ok B) := ParserState.rd Go.Proofs.Tryz.underlying186 (rd_t9 B) (rd_t29 B) (rd_t4 B) (rd_t183 B) (rd_t184 B) (rd_t3 B)
theorem rd_t27 (B : Nat) : Rd Go.Proofs.Tryz.prog B 27 (cS 7 ParserState.c) (okL B (ParserState.Ok B)) := rd_slice Go.Proofs.Tryz.underlying27 (by kernel_rfl) (rd_t186 B)
theorem rd_t205 (B : Nat) : Rd Go.Proofs.Tryz.prog B 205 ControlNode.c (ControlNode.Ok B) := ControlNode.rd Go.Proofs.Tryz.underlying205 (rd_t3 B) (rd_t3 B) (rd_t203 B) rfl rfl Go.Proofs.Tryz.underlying28 (by kernel_rfl)
theorem rd_t28 (B : Nat) : Rd Go.Proofs.Tryz.prog B 28 (cS 5 ControlNode.c) (okL B (ControlNode.Ok B)) := rd_slice Go.Proofs.Tryz.underlying28 (by kernel_rfl) (rd_t205 B)
theorem rd_t31 (B : Nat) : Rd Go.Proofs.Tryz.prog B 31 Prg.c (Prg.Ok B) := Prg.rd Go.Proofs.Tryz.underlying31 (rd_t9 B) (rd_t22 B) (rd_t23 B) (rd_t24 B) (rd_t25 B) (rd_t26 B) (rd_t27 B) (rd_t28 B) (rd_t29 B)
theorem rd_t5 (B : Nat) : Rd Go.Proofs.Tryz.prog B 5 c8 (ok8 B) := rd_u8 Go.Proofs.Tryz.underlying5
theorem rd_t96 (B : Nat) : Rd Go.Proofs.Tryz.prog B 96 (cS 1 c8) (okL B (ok8 B)) := rd_slice Go.Proofs.Tryz.underlying96 (by kernel_rfl) (rd_t5 B)
def tyL : List Nat := [3, 4, 5, 9, 22, 23, 24, 25, 26, 27, 28, 29, 31, 54, 56, 96, 112, 122, 124, 176, 178, 180, 183, 184, 186, 200, 202, 203, 205, 211, 241, 318, 321]
theorem tyL_ok : plainS Go.Proofs.Tryz.prog tyL = true := by kernel_rfl
theorem bk_pos {H : Type} (d : DataW H) : 1 ≤ Go.Proofs.YtakklbipljodeaaGreat.Rows.uptoBulk d := by
  cases d with
  | lit l => cases l <;> simp [Go.Proofs.YtakklbipljodeaaGreat.Rows.uptoBulk]
  | nil => simp [Go.Proofs.YtakklbipljodeaaGreat.Rows.uptoBulk]
  | ptr d => simp [Go.Proofs.YtakklbipljodeaaGreat.Rows.uptoBulk]
  | slice elems spare => simp [Go.Proofs.YtakklbipljodeaaGreat.Rows.uptoBulk]
  | agg parts => simp [Go.Proofs.YtakklbipljodeaaGreat.Rows.uptoBulk]
  | iface t d => simp [Go.Proofs.YtakklbipljodeaaGreat.Rows.uptoBulk]
  | map entries => simp [Go.Proofs.YtakklbipljodeaaGreat.Rows.uptoBulk]
  | held h => simp [Go.Proofs.YtakklbipljodeaaGreat.Rows.uptoBulk]
def bk (H : Type) : BulkFn H where
  one := Go.Proofs.YtakklbipljodeaaGreat.Rows.uptoBulk
  all := Go.Proofs.YtakklbipljodeaaGreat.Rows.uptoBulkAll
  nil := by simp [Go.Proofs.YtakklbipljodeaaGreat.Rows.uptoBulkAll]
  cons := fun d r => by simp [Go.Proofs.YtakklbipljodeaaGreat.Rows.uptoBulkAll]
  slice := fun e s => by simp [Go.Proofs.YtakklbipljodeaaGreat.Rows.uptoBulk]
  agg := fun e => by simp [Go.Proofs.YtakklbipljodeaaGreat.Rows.uptoBulk]
  str := fun b => by simp [Go.Proofs.YtakklbipljodeaaGreat.Rows.uptoBulk]
  pos := bk_pos
theorem small {H : Type} {l : List (DataW H)} (h : Go.Proofs.YtakklbipljodeaaGreat.Rows.uptoSmall H l = true) : (bk H).all l ≤ bulkMax := le_bulkMax (of_decide_eq_true h)
theorem agg_t31 : isAggU Go.Proofs.Tryz.prog 31 = true := by kernel_rfl
theorem agg_t96 : isAggU Go.Proofs.Tryz.prog 96 = false := by kernel_rfl
theorem law_as (vs : List AV) (h : WTVs Go.Proofs.Tryz.prog bulkMax [31, 96] vs) : pureI Φ 14 vs = some (.val (.bool true)) := by
  obtain ⟨a0, vs, rfl, h0, h⟩ := wtvs_cons h
  obtain ⟨a1, vs, rfl, h1, h⟩ := wtvs_cons h
  obtain rfl := wtvs_nil h
  obtain ⟨x0, rfl, o0⟩ := wtv_agg h0 agg_t31 (rd_t31 bulkMax)
  obtain ⟨x1, e1, o1⟩ := wtv_one h1 agg_t96 (rd_t96 bulkMax)
  cases e1
  exact JournalNil_all x0 x1 o0 o1
end Go.Av
namespace Go.Proofs.YtakklbipljodeaaGreat
open Go.ChangeShapes Go.WideShapes Go.ChangeAt Go.RowKit Go.Av
theorem own : ownKnob Tryz.prog.godebug = none := by kernel_rfl
theorem laid : laidOutB Tryz.prog = true := closed2.1
theorem facts : joinedFacts Tryz.checked.prog 14 Tryz.f14 (Rows.OpenSpec.upto Rows.journalNilSpec).bare Rows.journalNilUptoRow = true := by
  unfold joinedFacts
  rw [closed2.1, closed2.2, fa1, fa2, fa3, fa4, fa5, fa6, pf1, pf2]
  kernel_rfl
theorem table : TableOk Tryz.prog ann Φ := tabK_of (tabX_ok_of (by kernel_rfl) tab_ok (by kernel_rfl) tabD_ok (by kernel_rfl) tabC_ok1 tabC_ok2 (by kernel_rfl)) (by kernel_rfl)
set_option maxRecDepth 100000 in
theorem contract (H : Type) (enc : TypeId × Value → H) (W : World) (base : Nat) (args : Array Value) (ds gs : List (DataW H)) (before : List MemPlace)
    (hval : ∀ (j : Nat) t v, Tryz.f14.params[j]? = some t → args[j]? = some v → Value.okWide Tryz.prog W .any base t v)
    (hW : DataW.Whole enc Tryz.prog Tryz.f14.params.toList Rows.journalNilSpec.vars false W args.toList ds gs before) (hk : Rows.uptoSmall H (ds ++ gs) = true) :
    Calls Tryz.prog 14 args W fun e W' => ∃ v, e = .returned v ∧ Rows.journalNilSpec.post enc Tryz.prog Tryz.f14 false true false false W args v W' :=
  row_calls2 table laid (tb := Tryz.f14.resultTypes[0]!) rfl rfl (by kernel_rfl) (by kernel_rfl) (bk H) tyL_ok (by kernel_rfl) hval hW
    (fun l hl => by
      match l, hl with
      | [d0, d1], _ => rfl)
    (small hk) (fun vs h => law_as vs (by rw [Tryz.params14] at h; exact h))
set_option maxRecDepth 100000 in
theorem lifted (os : Os) (started : os.Started) (H : Type) (enc : TypeId × Value → H) (F : Stop.Interp) :
    ReturnsInHanded {} Tryz.checked os 14 .any ((Rows.OpenSpec.upto Rows.journalNilSpec).pre6 enc Tryz.prog Tryz.f14 Rows.journalNilUptoRow.domain false) (((Rows.OpenSpec.upto Rows.journalNilSpec).at F).post enc Tryz.prog Tryz.f14 false true false false) := by
  refine returnsInHanded_of_cond (C := Tryz.checked) (s := Rows.OpenSpec.upto Rows.journalNilSpec) (k := Rows.uptoSmall) rfl own started (by kernel_rfl) Tryz.func14
    (OpenSpec.witness (enc := enc) (C := Tryz.checked) (s := Rows.OpenSpec.upto Rows.journalNilSpec) (k := Rows.uptoSmall) rfl false ⟨#[], #[.agg #[.string ByteArray.empty, .slice none 0 0, .slice none 0 0, .slice none 0 0, .slice none 0 0, .slice none 0 0, .slice none 0 0, .slice none 0 0, .slice none 0 0], .slice none 0 0], []⟩ 24 (by kernel_rfl) (by kernel_rfl) (by kernel_rfl)
      (x := ([.agg [.lit (.string []), .nil, .nil, .nil, .nil, .nil, .nil, .nil, .nil], .nil], [], [])) (by kernel_rfl) rfl (by kernel_rfl)) ?_
  intro W base args ds gs before hval hW _ hk _
  exact contract H enc W base args ds gs before hval hW hk
theorem proved : Rows.JournalNilUptoSaid :=
  OpenClaim.holds_of_cond 14 Tryz.f14 rfl rfl rfl rfl rfl rfl rfl ⟨rfl, rfl, rfl, rfl, rfl⟩ rfl rfl rfl rfl rfl (by kernel_rfl) Tryz.func14 facts
    (of_decide_eq_true (by kernel_rfl)) (by unfold Func.isWrapper; first | (rw [if_pos (by decide +kernel)]; kernel_rfl) | (rw [if_neg (by decide +kernel)]; exact ⟨rfl, rfl⟩))
    (fun os started H enc _ F => lifted os started H enc F)
end Go.Proofs.YtakklbipljodeaaGreat
