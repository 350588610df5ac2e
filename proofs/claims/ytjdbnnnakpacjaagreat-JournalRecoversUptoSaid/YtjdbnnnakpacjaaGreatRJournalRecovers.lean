/-
  The law 'JournalRecovers' returns true at every input whose readings are of bulk at most 1048576, and leaves its arguments as they were.
  Conditions: none but that bound, which the given statement itself bears.
-/
import Derived.Test.YtjdbnnnakpacjaaGreatJC19
import Derived.Test.YtjdbnnnakpacjaaGreatFunsBU
import Derived.Test.YtjdbnnnakpacjaaGreatRJournalRecoversFa
import Derived.Test.YtjdbnnnakpacjaaGreatRJournalRecoversFb
import Derived.Test.YtjdbnnnakpacjaaGreatRJournalRecoversFc
import Derived.Test.YtjdbnnnakpacjaaGreatRW2
import Derived.KernelRfl
import Derived.ClosedOfChecked
set_option linter.unusedVariables false
set_option linter.unusedSimpArgs false
set_option linter.constructorNameAsVariable false
namespace Go.Av
theorem rd_t9 (B : Nat) : Rd Go.Proofs.Tryz.prog B 9 cStr (okStr B) := rd_str Go.Proofs.Tryz.underlying9
theorem rd_t3 (B : Nat) : Rd Go.Proofs.Tryz.prog B 3 cI (okI B) := rd_int Go.Proofs.Tryz.underlying3
theorem rd_t153 (B : Nat) : Rd Go.Proofs.Tryz.prog B 153 Fld.c (Fld.Ok B) := Fld.rd Go.Proofs.Tryz.underlying153 (rd_t9 B) (rd_t3 B)
theorem rd_t23 (B : Nat) : Rd Go.Proofs.Tryz.prog B 23 (cS 2 Fld.c) (okL B (Fld.Ok B)) := rd_slice Go.Proofs.Tryz.underlying23 (by kernel_rfl) (rd_t153 B)
theorem rd_t134 (B : Nat) : Rd Go.Proofs.Tryz.prog B 134 Header.c (Header.Ok B) := Header.rd Go.Proofs.Tryz.underlying134 (rd_t9 B) (rd_t23 B)
theorem rd_t22 (B : Nat) : Rd Go.Proofs.Tryz.prog B 22 (cS 2 Header.c) (okL B (Header.Ok B)) := rd_slice Go.Proofs.Tryz.underlying22 (by kernel_rfl) (rd_t134 B)
theorem rd_t136 (B : Nat) : Rd Go.Proofs.Tryz.prog B 136 Register.c (Register.Ok B) := Register.rd Go.Proofs.Tryz.underlying136 (rd_t9 B) (rd_t3 B) (rd_t3 B)
theorem rd_t24 (B : Nat) : Rd Go.Proofs.Tryz.prog B 24 (cS 3 Register.c) (okL B (Register.Ok B)) := rd_slice Go.Proofs.Tryz.underlying24 (by kernel_rfl) (rd_t136 B)
theorem rd_t145 (B : Nat) : Rd Go.Proofs.Tryz.prog B 145 FieldRef.c (FieldRef.Ok B) := FieldRef.rd Go.Proofs.Tryz.underlying145 (rd_t3 B) (rd_t3 B)
theorem rd_t270 (B : Nat) : Rd Go.Proofs.Tryz.prog B 270 ExprNode.c (ExprNode.Ok B) := ExprNode.rd Go.Proofs.Tryz.underlying270 (rd_t3 B) (rd_t3 B) (rd_t3 B)
theorem rd_t186 (B : Nat) : Rd Go.Proofs.Tryz.prog B 186 (cS 3 ExprNode.c) (okL B (ExprNode.Ok B)) := rd_slice Go.Proofs.Tryz.underlying186 (by kernel_rfl) (rd_t270 B)
theorem rd_t225 (B : Nat) : Rd Go.Proofs.Tryz.prog B 225 Statement.c (Statement.Ok B) := Statement.rd Go.Proofs.Tryz.underlying225 (rd_t3 B) (rd_t145 B) (rd_t3 B) (rd_t3 B) (rd_t186 B) (rd_t186 B)
theorem rd_t138 (B : Nat) : Rd Go.Proofs.Tryz.prog B 138 (cS 7 Statement.c) (okL B (Statement.Ok B)) := rd_slice Go.Proofs.Tryz.underlying138 (by kernel_rfl) (rd_t225 B)
theorem rd_t140 (B : Nat) : Rd Go.Proofs.Tryz.prog B 140 Action.c (Action.Ok B) := Action.rd Go.Proofs.Tryz.underlying140 (rd_t9 B) (rd_t23 B) (rd_t138 B)
theorem rd_t25 (B : Nat) : Rd Go.Proofs.Tryz.prog B 25 (cS 3 Action.c) (okL B (Action.Ok B)) := rd_slice Go.Proofs.Tryz.underlying25 (by kernel_rfl) (rd_t140 B)
theorem rd_t155 (B : Nat) : Rd Go.Proofs.Tryz.prog B 155 TableKey.c (TableKey.Ok B) := TableKey.rd Go.Proofs.Tryz.underlying155 (rd_t145 B) (rd_t3 B)
theorem rd_t141 (B : Nat) : Rd Go.Proofs.Tryz.prog B 141 (cS 3 TableKey.c) (okL B (TableKey.Ok B)) := rd_slice Go.Proofs.Tryz.underlying141 (by kernel_rfl) (rd_t155 B)
theorem rd_t29 (B : Nat) : Rd Go.Proofs.Tryz.prog B 29 (cS 1 cI) (okL B (okI B)) := rd_slice Go.Proofs.Tryz.underlying29 (by kernel_rfl) (rd_t3 B)
theorem rd_t96 (B : Nat) : Rd Go.Proofs.Tryz.prog B 96 c32 (ok32 B) := rd_u32 Go.Proofs.Tryz.underlying96
theorem rd_t47 (B : Nat) : Rd Go.Proofs.Tryz.prog B 47 (cS 1 c32) (okL B (ok32 B)) := rd_slice Go.Proofs.Tryz.underlying47 (by kernel_rfl) (rd_t96 B)
theorem rd_t49 (B : Nat) : Rd Go.Proofs.Tryz.prog B 49 ActionCall.c (ActionCall.Ok B) := ActionCall.rd Go.Proofs.Tryz.underlying49 (rd_t3 B) (rd_t47 B)
theorem rd_t143 (B : Nat) : Rd Go.Proofs.Tryz.prog B 143 Tbl.c (Tbl.Ok B) := Tbl.rd Go.Proofs.Tryz.underlying143 (rd_t9 B) (rd_t141 B) (rd_t29 B) (rd_t49 B) (rd_t3 B)
theorem rd_t26 (B : Nat) : Rd Go.Proofs.Tryz.prog B 26 (cS 6 Tbl.c) (okL B (Tbl.Ok B)) := rd_slice Go.Proofs.Tryz.underlying26 (by kernel_rfl) (rd_t143 B)
theorem rd_t4 (B : Nat) : Rd Go.Proofs.Tryz.prog B 4 cB (okT B) := rd_bool Go.Proofs.Tryz.underlying4
theorem rd_t267 (B : Nat) : Rd Go.Proofs.Tryz.prog B 267 SelectCase.c (SelectCase.Ok B) := SelectCase.rd Go.Proofs.Tryz.underlying267 (rd_t96 B) (rd_t96 B) (rd_t3 B)
theorem rd_t146 (B : Nat) : Rd Go.Proofs.Tryz.prog B 146 (cS 3 SelectCase.c) (okL B (SelectCase.Ok B)) := rd_slice Go.Proofs.Tryz.underlying146 (by kernel_rfl) (rd_t267 B)
theorem rd_t148 (B : Nat) : Rd Go.Proofs.Tryz.prog B 148 ParserState.c (ParserState.Ok B) := ParserState.rd Go.Proofs.Tryz.underlying148 (rd_t9 B) (rd_t29 B) (rd_t4 B) (rd_t145 B) (rd_t146 B) (rd_t3 B)
theorem rd_t27 (B : Nat) : Rd Go.Proofs.Tryz.prog B 27 (cS 7 ParserState.c) (okL B (ParserState.Ok B)) := rd_slice Go.Proofs.Tryz.underlying27 (by kernel_rfl) (rd_t148 B)
theorem rd_t188 (B : Nat) : Rd Go.Proofs.Tryz.prog B 188 ControlNode.c (ControlNode.Ok B) := ControlNode.rd Go.Proofs.Tryz.underlying188 (rd_t3 B) (rd_t3 B) (rd_t186 B) rfl rfl Go.Proofs.Tryz.underlying28 (by kernel_rfl)
theorem rd_t28 (B : Nat) : Rd Go.Proofs.Tryz.prog B 28 (cS 5 ControlNode.c) (okL B (ControlNode.Ok B)) := rd_slice Go.Proofs.Tryz.underlying28 (by kernel_rfl) (rd_t188 B)
theorem rd_t31 (B : Nat) : Rd Go.Proofs.Tryz.prog B 31 Prg.c (Prg.Ok B) := Prg.rd Go.Proofs.Tryz.underlying31 (rd_t9 B) (rd_t22 B) (rd_t23 B) (rd_t24 B) (rd_t25 B) (rd_t26 B) (rd_t27 B) (rd_t28 B) (rd_t29 B)
theorem rd_t120 (B : Nat) : Rd Go.Proofs.Tryz.prog B 120 KeyMatch.c (KeyMatch.Ok B) := KeyMatch.rd Go.Proofs.Tryz.underlying120 (rd_t96 B) (rd_t96 B)
theorem rd_t46 (B : Nat) : Rd Go.Proofs.Tryz.prog B 46 (cS 2 KeyMatch.c) (okL B (KeyMatch.Ok B)) := rd_slice Go.Proofs.Tryz.underlying46 (by kernel_rfl) (rd_t120 B)
theorem rd_t51 (B : Nat) : Rd Go.Proofs.Tryz.prog B 51 Entry.c (Entry.Ok B) := Entry.rd Go.Proofs.Tryz.underlying51 (rd_t46 B) (rd_t3 B) (rd_t49 B)
theorem rd_t53 (B : Nat) : Rd Go.Proofs.Tryz.prog B 53 TableOp.c (TableOp.Ok B) := TableOp.rd Go.Proofs.Tryz.underlying53 (rd_t3 B) (rd_t3 B) (rd_t3 B) (rd_t51 B) (rd_t49 B)
theorem rd_t37 (B : Nat) : Rd Go.Proofs.Tryz.prog B 37 (cS 9 TableOp.c) (okL B (TableOp.Ok B)) := rd_slice Go.Proofs.Tryz.underlying37 (by kernel_rfl) (rd_t53 B)
theorem rd_t63 (B : Nat) : Rd Go.Proofs.Tryz.prog B 63 (cS 1 (cS 9 TableOp.c)) (okL B (okL B (TableOp.Ok B))) := rd_slice Go.Proofs.Tryz.underlying63 (by kernel_rfl) (rd_t37 B)
def tyL : List Nat := [3, 4, 9, 22, 23, 24, 25, 26, 27, 28, 29, 31, 37, 46, 47, 49, 51, 53, 63, 96, 120, 134, 136, 138, 140, 141, 143, 145, 146, 148, 153, 155, 186, 188, 225, 267, 270]
theorem tyL_ok : plainS Go.Proofs.Tryz.prog tyL = true := by kernel_rfl
theorem bk_pos {H : Type} (d : DataW H) : 1 ≤ Go.Proofs.YtjdbnnnakpacjaaGreat.Rows.uptoBulk d := by
  cases d with
  | lit l => cases l <;> simp [Go.Proofs.YtjdbnnnakpacjaaGreat.Rows.uptoBulk]
  | nil => simp [Go.Proofs.YtjdbnnnakpacjaaGreat.Rows.uptoBulk]
  | ptr d => simp [Go.Proofs.YtjdbnnnakpacjaaGreat.Rows.uptoBulk]
  | slice elems spare => simp [Go.Proofs.YtjdbnnnakpacjaaGreat.Rows.uptoBulk]
  | agg parts => simp [Go.Proofs.YtjdbnnnakpacjaaGreat.Rows.uptoBulk]
  | iface t d => simp [Go.Proofs.YtjdbnnnakpacjaaGreat.Rows.uptoBulk]
  | map entries => simp [Go.Proofs.YtjdbnnnakpacjaaGreat.Rows.uptoBulk]
  | held h => simp [Go.Proofs.YtjdbnnnakpacjaaGreat.Rows.uptoBulk]
def bk (H : Type) : BulkFn H where
  one := Go.Proofs.YtjdbnnnakpacjaaGreat.Rows.uptoBulk
  all := Go.Proofs.YtjdbnnnakpacjaaGreat.Rows.uptoBulkAll
  nil := by simp [Go.Proofs.YtjdbnnnakpacjaaGreat.Rows.uptoBulkAll]
  cons := fun d r => by simp [Go.Proofs.YtjdbnnnakpacjaaGreat.Rows.uptoBulkAll]
  slice := fun e s => by simp [Go.Proofs.YtjdbnnnakpacjaaGreat.Rows.uptoBulk]
  agg := fun e => by simp [Go.Proofs.YtjdbnnnakpacjaaGreat.Rows.uptoBulk]
  str := fun b => by simp [Go.Proofs.YtjdbnnnakpacjaaGreat.Rows.uptoBulk]
  pos := bk_pos
theorem small {H : Type} {l : List (DataW H)} (h : Go.Proofs.YtjdbnnnakpacjaaGreat.Rows.uptoSmall H l = true) : (bk H).all l ≤ bulkMax := le_bulkMax (of_decide_eq_true h)
theorem agg_t31 : isAggU Go.Proofs.Tryz.prog 31 = true := by kernel_rfl
theorem agg_t63 : isAggU Go.Proofs.Tryz.prog 63 = false := by kernel_rfl
theorem agg_t3 : isAggU Go.Proofs.Tryz.prog 3 = false := by kernel_rfl
theorem law_as (vs : List AV) (h : WTVs Go.Proofs.Tryz.prog bulkMax [31, 63, 3] vs) (hs : szL vs ≤ bulkMax) : pureI Φ 8 vs = some (.val (.bool true)) := by
  obtain ⟨a0, vs, rfl, h0, h⟩ := wtvs_cons h
  obtain ⟨a1, vs, rfl, h1, h⟩ := wtvs_cons h
  obtain ⟨a2, vs, rfl, h2, h⟩ := wtvs_cons h
  obtain rfl := wtvs_nil h
  obtain ⟨x0, rfl, o0⟩ := wtv_agg h0 agg_t31 (rd_t31 bulkMax)
  obtain ⟨x1, e1, o1⟩ := wtv_one h1 agg_t63 (rd_t63 bulkMax)
  cases e1
  obtain ⟨x2, e2, o2⟩ := wtv_one h2 agg_t3 (rd_t3 bulkMax)
  cases e2
  exact JournalRecovers_all x0 x1 x2 o0 o1 o2 (hc_of hs)
end Go.Av
namespace Go.Proofs.YtjdbnnnakpacjaaGreat
open Go.ChangeShapes Go.WideShapes Go.ChangeAt Go.RowKit Go.Av
theorem own : ownKnob Tryz.prog.godebug = none := by kernel_rfl
theorem laid : laidOutB Tryz.prog = true := closed2.1
theorem facts : joinedFacts Tryz.checked.prog 8 Tryz.f8 (Rows.OpenSpec.upto Rows.journalRecoversSpec).bare Rows.journalRecoversUptoRow = true := by
  unfold joinedFacts
  rw [closed2.1, closed2.2, fa1, fa2, fa3, fa4, fa5, fa6, pf1, pf2]
  kernel_rfl
theorem table : TableOk Tryz.prog ann Φ := tabX_ok_of (by kernel_rfl) tab_ok (by kernel_rfl) tabD_ok (by kernel_rfl) tabC_ok1 tabC_ok2 (by kernel_rfl)
set_option maxRecDepth 100000 in
theorem contract (H : Type) (enc : TypeId × Value → H) (W : World) (base : Nat) (args : Array Value) (ds gs : List (DataW H)) (before : List MemPlace)
    (hval : ∀ (j : Nat) t v, Tryz.f8.params[j]? = some t → args[j]? = some v → Value.okWide Tryz.prog W .any base t v)
    (hW : DataW.Whole enc Tryz.prog Tryz.f8.params.toList Rows.journalRecoversSpec.vars false W args.toList ds gs before) (hk : Rows.uptoSmall H (ds ++ gs) = true) :
    Calls Tryz.prog 8 args W fun e W' => ∃ v, e = .returned v ∧ Rows.journalRecoversSpec.post enc Tryz.prog Tryz.f8 false true false false W args v W' :=
  row_calls3 table laid (tb := Tryz.f8.resultTypes[0]!) rfl rfl (by kernel_rfl) (by kernel_rfl) (bk H) tyL_ok (by kernel_rfl) hval hW
    (fun l hl => by
      match l, hl with
      | [d0, d1, d2], _ => rfl)
    (small hk) (fun vs h hs => law_as vs (by rw [Tryz.params8] at h; exact h) hs)
set_option maxRecDepth 100000 in
theorem lifted (os : Os) (started : os.Started) (H : Type) (enc : TypeId × Value → H) (F : Stop.Interp) :
    ReturnsInHanded {} Tryz.checked os 8 .any ((Rows.OpenSpec.upto Rows.journalRecoversSpec).pre6 enc Tryz.prog Tryz.f8 Rows.journalRecoversUptoRow.domain false) (((Rows.OpenSpec.upto Rows.journalRecoversSpec).at F).post enc Tryz.prog Tryz.f8 false true false false) := by
  refine returnsInHanded_of_cond (C := Tryz.checked) (s := Rows.OpenSpec.upto Rows.journalRecoversSpec) (k := Rows.uptoSmall) rfl own started (by kernel_rfl) Tryz.func8
    (OpenSpec.witness (enc := enc) (C := Tryz.checked) (s := Rows.OpenSpec.upto Rows.journalRecoversSpec) (k := Rows.uptoSmall) rfl false ⟨#[], #[.agg #[.string ByteArray.empty, .slice none 0 0, .slice none 0 0, .slice none 0 0, .slice none 0 0, .slice none 0 0, .slice none 0 0, .slice none 0 0, .slice none 0 0], .slice none 0 0, .int .i64 0], []⟩ 24 (by kernel_rfl) (by kernel_rfl) (by kernel_rfl)
      (x := ([.agg [.lit (.string []), .nil, .nil, .nil, .nil, .nil, .nil, .nil, .nil], .nil, .lit (.int .i64 0)], [], [])) (by kernel_rfl) rfl (by kernel_rfl)) ?_
  intro W base args ds gs before hval hW _ hk _
  exact contract H enc W base args ds gs before hval hW hk
theorem proved : Rows.JournalRecoversUptoSaid :=
  OpenClaim.holds_of_cond 8 Tryz.f8 rfl rfl rfl rfl rfl rfl rfl ⟨rfl, rfl, rfl, rfl, rfl⟩ rfl rfl rfl rfl rfl (by kernel_rfl) Tryz.func8 facts
    (of_decide_eq_true (by kernel_rfl)) (by unfold Func.isWrapper; first | (rw [if_pos (by decide +kernel)]; kernel_rfl) | (rw [if_neg (by decide +kernel)]; exact ⟨rfl, rfl⟩))
    (fun os started H enc _ F => lifted os started H enc F)
end Go.Proofs.YtjdbnnnakpacjaaGreat
