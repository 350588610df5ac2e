/-
  The law 'TxnApplies' returns true at every input whose readings are of bulk at most 1048576, and leaves its arguments as they were.
  Conditions: none but that bound, which the given statement itself bears.
-/
import Derived.Test.YtakklbipljodeaaGreatY6
import Derived.Test.YtakklbipljodeaaGreatFunsBK
import Derived.Test.YtakklbipljodeaaGreatRTxnAppliesFa
import Derived.Test.YtakklbipljodeaaGreatRTxnAppliesFb
import Derived.Test.YtakklbipljodeaaGreatRTxnAppliesFc
import Derived.KernelRfl
import Derived.ClosedOfChecked
set_option linter.unusedVariables false
set_option linter.unusedSimpArgs false
set_option linter.constructorNameAsVariable false
namespace Go.Av
theorem qkg (B:Nat):Rd Go.Proofs.Tryz.prog B 9 cStr (qdx B):=qag2 Go.Proofs.Tryz.underlying9
theorem qcq (B:Nat):Rd Go.Proofs.Tryz.prog B 3 cI (okI B):=qag1 Go.Proofs.Tryz.underlying3
theorem qad9 (B:Nat):Rd Go.Proofs.Tryz.prog B 200 Fld.c (Fld.Ok B):=Fld.rd Go.Proofs.Tryz.underlying200 (qkg B) (qcq B)
theorem qsp (B:Nat):Rd Go.Proofs.Tryz.prog B 23 (cS 2 Fld.c) (okL B (Fld.Ok B)):=qb0 Go.Proofs.Tryz.underlying23 (by kernel_rfl) (qad9 B)
theorem qad3 (B:Nat):Rd Go.Proofs.Tryz.prog B 176 Header.c (Header.Ok B):=Header.rd Go.Proofs.Tryz.underlying176 (qkg B) (qsp B)
theorem qag3 (B:Nat):Rd Go.Proofs.Tryz.prog B 22 (cS 2 Header.c) (okL B (Header.Ok B)):=qb0 Go.Proofs.Tryz.underlying22 (by kernel_rfl) (qad3 B)
theorem qaec (B:Nat):Rd Go.Proofs.Tryz.prog B 211 Register.c (Register.Ok B):=Register.rd Go.Proofs.Tryz.underlying211 (qkg B) (qcq B) (qcq B)
theorem qag4 (B:Nat):Rd Go.Proofs.Tryz.prog B 24 (cS 3 Register.c) (okL B (Register.Ok B)):=qb0 Go.Proofs.Tryz.underlying24 (by kernel_rfl) (qaec B)
theorem qpg (B:Nat):Rd Go.Proofs.Tryz.prog B 183 FieldRef.c (FieldRef.Ok B):=FieldRef.rd Go.Proofs.Tryz.underlying183 (qcq B) (qcq B)
theorem qaef (B:Nat):Rd Go.Proofs.Tryz.prog B 321 ExprNode.c (ExprNode.Ok B):=ExprNode.rd Go.Proofs.Tryz.underlying321 (qcq B) (qcq B) (qcq B)
theorem qph (B:Nat):Rd Go.Proofs.Tryz.prog B 203 (cS 3 ExprNode.c) (okL B (ExprNode.Ok B)):=qb0 Go.Proofs.Tryz.underlying203 (by kernel_rfl) (qaef B)
theorem qaed (B:Nat):Rd Go.Proofs.Tryz.prog B 241 Statement.c (Statement.Ok B):=Statement.rd Go.Proofs.Tryz.underlying241 (qcq B) (qpg B) (qcq B) (qcq B) (qph B) (qph B)
theorem qad4 (B:Nat):Rd Go.Proofs.Tryz.prog B 178 (cS 7 Statement.c) (okL B (Statement.Ok B)):=qb0 Go.Proofs.Tryz.underlying178 (by kernel_rfl) (qaed B)
theorem qad5 (B:Nat):Rd Go.Proofs.Tryz.prog B 180 Action.c (Action.Ok B):=Action.rd Go.Proofs.Tryz.underlying180 (qkg B) (qsp B) (qad4 B)
theorem qag5 (B:Nat):Rd Go.Proofs.Tryz.prog B 25 (cS 3 Action.c) (okL B (Action.Ok B)):=qb0 Go.Proofs.Tryz.underlying25 (by kernel_rfl) (qad5 B)
theorem qaea (B:Nat):Rd Go.Proofs.Tryz.prog B 202 TableKey.c (TableKey.Ok B):=TableKey.rd Go.Proofs.Tryz.underlying202 (qpg B) (qcq B)
theorem qad1 (B:Nat):Rd Go.Proofs.Tryz.prog B 122 (cS 3 TableKey.c) (okL B (TableKey.Ok B)):=qb0 Go.Proofs.Tryz.underlying122 (by kernel_rfl) (qaea B)
theorem qn9 (B:Nat):Rd Go.Proofs.Tryz.prog B 29 (cS 1 cI) (okL B (okI B)):=qb0 Go.Proofs.Tryz.underlying29 (by kernel_rfl) (qcq B)
theorem qjp (B:Nat):Rd Go.Proofs.Tryz.prog B 112 c32 (ok32 B):=qahj Go.Proofs.Tryz.underlying112
theorem qyh (B:Nat):Rd Go.Proofs.Tryz.prog B 54 (cS 1 c32) (okL B (ok32 B)):=qb0 Go.Proofs.Tryz.underlying54 (by kernel_rfl) (qjp B)
theorem qoa (B:Nat):Rd Go.Proofs.Tryz.prog B 56 ActionCall.c (ActionCall.Ok B):=ActionCall.rd Go.Proofs.Tryz.underlying56 (qcq B) (qyh B)
theorem qad2 (B:Nat):Rd Go.Proofs.Tryz.prog B 124 Tbl.c (Tbl.Ok B):=Tbl.rd Go.Proofs.Tryz.underlying124 (qkg B) (qad1 B) (qn9 B) (qoa B) (qcq B)
theorem qag6 (B:Nat):Rd Go.Proofs.Tryz.prog B 26 (cS 6 Tbl.c) (okL B (Tbl.Ok B)):=qb0 Go.Proofs.Tryz.underlying26 (by kernel_rfl) (qad2 B)
theorem rd_t4 (B:Nat):Rd Go.Proofs.Tryz.prog B 4 cB (okT B):=qad0 Go.Proofs.Tryz.underlying4
theorem qaee (B:Nat):Rd Go.Proofs.Tryz.prog B 318 SelectCase.c (SelectCase.Ok B):=SelectCase.rd Go.Proofs.Tryz.underlying318 (qjp B) (qjp B) (qcq B)
theorem qad6 (B:Nat):Rd Go.Proofs.Tryz.prog B 184 (cS 3 SelectCase.c) (okL B (SelectCase.Ok B)):=qb0 Go.Proofs.Tryz.underlying184 (by kernel_rfl) (qaee B)
theorem qad7 (B:Nat):Rd Go.Proofs.Tryz.prog B 186 ParserState.c (ParserState.Ok B):=ParserState.rd Go.Proofs.Tryz.underlying186 (qkg B) (qn9 B) (rd_t4 B) (qpg B) (qad6 B) (qcq B)
theorem qag7 (B:Nat):Rd Go.Proofs.Tryz.prog B 27 (cS 7 ParserState.c) (okL B (ParserState.Ok B)):=qb0 Go.Proofs.Tryz.underlying27 (by kernel_rfl) (qad7 B)
theorem qaeb (B:Nat):Rd Go.Proofs.Tryz.prog B 205 ControlNode.c (ControlNode.Ok B):=ControlNode.rd Go.Proofs.Tryz.underlying205 (qcq B) (qcq B) (qph B) rfl rfl Go.Proofs.Tryz.underlying28 (by kernel_rfl)
theorem qag8 (B:Nat):Rd Go.Proofs.Tryz.prog B 28 (cS 5 ControlNode.c) (okL B (ControlNode.Ok B)):=qb0 Go.Proofs.Tryz.underlying28 (by kernel_rfl) (qaeb B)
theorem qag9 (B:Nat):Rd Go.Proofs.Tryz.prog B 31 Prg.c (Prg.Ok B):=Prg.rd Go.Proofs.Tryz.underlying31 (qkg B) (qag3 B) (qsp B) (qag4 B) (qag5 B) (qag6 B) (qag7 B) (qag8 B) (qn9 B)
theorem qad8 (B:Nat):Rd Go.Proofs.Tryz.prog B 188 KeyMatch.c (KeyMatch.Ok B):=KeyMatch.rd Go.Proofs.Tryz.underlying188 (qjp B) (qjp B)
theorem qahe (B:Nat):Rd Go.Proofs.Tryz.prog B 53 (cS 2 KeyMatch.c) (okL B (KeyMatch.Ok B)):=qb0 Go.Proofs.Tryz.underlying53 (by kernel_rfl) (qad8 B)
theorem qyi (B:Nat):Rd Go.Proofs.Tryz.prog B 58 Entry.c (Entry.Ok B):=Entry.rd Go.Proofs.Tryz.underlying58 (qahe B) (qcq B) (qoa B)
theorem qahf (B:Nat):Rd Go.Proofs.Tryz.prog B 66 Rw.c (Rw.Ok B):=Rw.rd Go.Proofs.Tryz.underlying66 (qcq B) (qyi B)
theorem qahg (B:Nat):Rd Go.Proofs.Tryz.prog B 71 (cS 5 Rw.c) (okL B (Rw.Ok B)):=qb0 Go.Proofs.Tryz.underlying71 (by kernel_rfl) (qahf B)
theorem qaha (B:Nat):Rd Go.Proofs.Tryz.prog B 32 (cS 1 (cS 5 Rw.c)) (okL B (okL B (Rw.Ok B))):=qb0 Go.Proofs.Tryz.underlying32 (by kernel_rfl) (qahg B)
theorem qahb (B:Nat):Rd Go.Proofs.Tryz.prog B 33 (cS 2 ActionCall.c) (okL B (ActionCall.Ok B)):=qb0 Go.Proofs.Tryz.underlying33 (by kernel_rfl) (qoa B)
theorem qahc (B:Nat):Rd Go.Proofs.Tryz.prog B 34 (cS 1 (cS 1 c32)) (okL B (okL B (ok32 B))):=qb0 Go.Proofs.Tryz.underlying34 (by kernel_rfl) (qyh B)
theorem qahd (B:Nat):Rd Go.Proofs.Tryz.prog B 36 Config.c (Config.Ok B):=Config.rd Go.Proofs.Tryz.underlying36 (qaha B) (qn9 B) (qahb B) (qahc B)
theorem qahi (B:Nat):Rd Go.Proofs.Tryz.prog B 85 TableOp.c (TableOp.Ok B):=TableOp.rd Go.Proofs.Tryz.underlying85 (qcq B) (qcq B) (qcq B) (qyi B) (qoa B)
theorem qahh (B:Nat):Rd Go.Proofs.Tryz.prog B 79 (cS 9 TableOp.c) (okL B (TableOp.Ok B)):=qb0 Go.Proofs.Tryz.underlying79 (by kernel_rfl) (qahi B)
def tyL:List Nat:=[3,4,9,22,23,24,25,26,27,28,29,31,32,33,34,36,53,54,56,58,66,71,79,85,112,122,124,176,178,180,183,184,186,188,200,202,203,205,211,241,318,321]
theorem qah3:qhi Go.Proofs.Tryz.prog tyL=true:=by kernel_rfl
theorem qafr {H:Type} (d:DataW H):1≤Go.Proofs.YtakklbipljodeaaGreat.Rows.uptoBulk d:=by
  cases d with
  | lit l=>cases l<;>simp [Go.Proofs.YtakklbipljodeaaGreat.Rows.uptoBulk]
  | nil=>simp [Go.Proofs.YtakklbipljodeaaGreat.Rows.uptoBulk]
  | ptr d=>simp [Go.Proofs.YtakklbipljodeaaGreat.Rows.uptoBulk]
  | slice elems spare=>simp [Go.Proofs.YtakklbipljodeaaGreat.Rows.uptoBulk]
  | agg parts=>simp [Go.Proofs.YtakklbipljodeaaGreat.Rows.uptoBulk]
  | iface t d=>simp [Go.Proofs.YtakklbipljodeaaGreat.Rows.uptoBulk]
  | map entries=>simp [Go.Proofs.YtakklbipljodeaaGreat.Rows.uptoBulk]
  | held h=>simp [Go.Proofs.YtakklbipljodeaaGreat.Rows.uptoBulk]
def bk (H:Type):BulkFn H where
  one:=Go.Proofs.YtakklbipljodeaaGreat.Rows.uptoBulk
  all:=Go.Proofs.YtakklbipljodeaaGreat.Rows.uptoBulkAll
  nil:=by simp [Go.Proofs.YtakklbipljodeaaGreat.Rows.uptoBulkAll]
  cons:=fun d r=>by simp [Go.Proofs.YtakklbipljodeaaGreat.Rows.uptoBulkAll]
  slice:=fun e s=>by simp [Go.Proofs.YtakklbipljodeaaGreat.Rows.uptoBulk]
  agg:=fun e=>by simp [Go.Proofs.YtakklbipljodeaaGreat.Rows.uptoBulk]
  str:=fun b=>by simp [Go.Proofs.YtakklbipljodeaaGreat.Rows.uptoBulk]
  pos:=qafr
theorem small {H:Type} {l:List (DataW H)} (h:Go.Proofs.YtakklbipljodeaaGreat.Rows.uptoSmall H l=true):(bk H).all l≤qbd:=qvu (of_decide_eq_true h)
theorem qab5:qdu Go.Proofs.Tryz.prog 31=true:=by kernel_rfl
theorem qab6:qdu Go.Proofs.Tryz.prog 36=true:=by kernel_rfl
theorem qab7:qdu Go.Proofs.Tryz.prog 79=false:=by kernel_rfl
theorem qagl (vs:List AV) (h:WTVs Go.Proofs.Tryz.prog qbd [31,36,79] vs):qab Φ 11 vs=some (.val (.bool true)):=by
  obtain ⟨a0,vs,rfl,h0,h⟩:=qlt h;obtain ⟨a1,vs,rfl,h1,h⟩:=qlt h;obtain ⟨a2,vs,rfl,h2,h⟩:=qlt h;obtain rfl:=qaby h;obtain ⟨x0,rfl,o0⟩:=quz h0 qab5 (qag9 qbd);obtain ⟨x1,rfl,o1⟩:=quz h1 qab6 (qahd qbd);obtain ⟨x2,e2,o2⟩:=qae9 h2 qab7 (qahh qbd);cases e2;exact qot x0 x1 x2 o0 o1 o2
end Go.Av
namespace Go.Proofs.YtakklbipljodeaaGreat
open Go.ChangeShapes Go.WideShapes Go.ChangeAt Go.RowKit Go.Av
theorem own:ownKnob Tryz.prog.godebug=none:=by kernel_rfl
theorem laid:laidOutB Tryz.prog=true:=closed2.1
theorem qg3:joinedFacts Tryz.checked.prog 11 Tryz.f11 (Rows.OpenSpec.upto Rows.txnAppliesSpec).bare Rows.txnAppliesUptoRow=true:=by
  unfold joinedFacts;rw [closed2.1,closed2.2,fa1,fa2,fa3,fa4,fa5,fa6,pf1,pf2]
  kernel_rfl
theorem table:TableOk Tryz.prog ann Φ:=qadd (qwk (by kernel_rfl) qah1 (by kernel_rfl) qae4 (by kernel_rfl) qabn qabo (by kernel_rfl)) (by kernel_rfl)
set_option maxRecDepth 100000 in
theorem qzm (H:Type) (enc:TypeId×Value→H) (W:World) (base:Nat) (args:Array Value) (ds gs:List (DataW H)) (before:List MemPlace)
    (hval:∀(j:Nat) t v,Tryz.f11.params[j]? =some t→args[j]? =some v→Value.okWide Tryz.prog W .any base t v)
    (hW:DataW.Whole enc Tryz.prog Tryz.f11.params.toList Rows.txnAppliesSpec.vars false W args.toList ds gs before) (hk:Rows.uptoSmall H (ds++gs)=true):
    Calls Tryz.prog 11 args W fun e W'=>∃v,e= .returned v∧Rows.txnAppliesSpec.post enc Tryz.prog Tryz.f11 false true false false W args v W':=
  qv7 table laid (tb:=Tryz.f11.resultTypes[0]!) rfl rfl (by kernel_rfl) (by kernel_rfl) (bk H) qah3 (by kernel_rfl) hval hW
    (fun l hl=>by
      match l,hl with
      | [d0,d1,d2],_=>rfl)
    (small hk) (fun vs h=>qagl vs (by rw [Tryz.params11] at h;exact h))
set_option maxRecDepth 100000 in
theorem lifted (os:Os) (started:os.Started) (H:Type) (enc:TypeId×Value→H) (F:Stop.Interp):
    ReturnsInHanded {} Tryz.checked os 11 .any ((Rows.OpenSpec.upto Rows.txnAppliesSpec).pre6 enc Tryz.prog Tryz.f11 Rows.txnAppliesUptoRow.domain false) (((Rows.OpenSpec.upto Rows.txnAppliesSpec).at F).post enc Tryz.prog Tryz.f11 false true false false):=by
  refine returnsInHanded_of_cond (C:=Tryz.checked) (s:=Rows.OpenSpec.upto Rows.txnAppliesSpec) (k:=Rows.uptoSmall) rfl own started (by kernel_rfl) Tryz.func11
    (OpenSpec.witness (enc:=enc) (C:=Tryz.checked) (s:=Rows.OpenSpec.upto Rows.txnAppliesSpec) (k:=Rows.uptoSmall) rfl false ⟨#[],#[.agg #[.string ByteArray.empty,.slice none 0 0,.slice none 0 0,.slice none 0 0,.slice none 0 0,.slice none 0 0,.slice none 0 0,.slice none 0 0,.slice none 0 0],.agg #[.slice none 0 0,.slice none 0 0,.slice none 0 0,.slice none 0 0],.slice none 0 0],[]⟩ 24 (by kernel_rfl) (by kernel_rfl) (by kernel_rfl)
      (x:=([.agg [.lit (.string []),.nil,.nil,.nil,.nil,.nil,.nil,.nil,.nil],.agg [.nil,.nil,.nil,.nil],.nil],[],[])) (by kernel_rfl) rfl (by kernel_rfl)) ?_
  intro W base args ds gs before hval hW _ hk _;exact qzm H enc W base args ds gs before hval hW hk
theorem proved:Rows.TxnAppliesUptoSaid:=
  OpenClaim.holds_of_cond 11 Tryz.f11 rfl rfl rfl rfl rfl rfl rfl ⟨rfl,rfl,rfl,rfl,rfl⟩ rfl rfl rfl rfl rfl (by kernel_rfl) Tryz.func11 qg3
    (of_decide_eq_true (by kernel_rfl)) (by unfold Func.isWrapper;first | (rw [if_pos (by decide+kernel)];kernel_rfl) | (rw [if_neg (by decide+kernel)];exact ⟨rfl,rfl⟩))
    (fun os started H enc _ F=>lifted os started H enc F)
end Go.Proofs.YtakklbipljodeaaGreat
