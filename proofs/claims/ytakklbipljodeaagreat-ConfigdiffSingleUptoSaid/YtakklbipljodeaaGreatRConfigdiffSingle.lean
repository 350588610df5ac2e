/-
  The law 'ConfigdiffSingle' returns true at every input whose readings are of bulk at most 1048576, and leaves its arguments as they were.
  Conditions: none but that bound, which the given statement itself bears.
-/
import Derived.Test.YtakklbipljodeaaGreatD11
import Derived.Test.YtakklbipljodeaaGreatFunsBK
import Derived.Test.YtakklbipljodeaaGreatRConfigdiffSingleFa
import Derived.Test.YtakklbipljodeaaGreatRConfigdiffSingleFb
import Derived.Test.YtakklbipljodeaaGreatRConfigdiffSingleFc
import Derived.KernelRfl
import Derived.ClosedOfChecked
set_option linter.unusedVariables false
set_option linter.unusedSimpArgs false
set_option linter.constructorNameAsVariable false
namespace Go.Av
theorem qcv (B:Nat):Rd Go.Proofs.Tryz.prog B 9 cStr (qdn B):=qu2 Go.Proofs.Tryz.underlying9
theorem qat (B:Nat):Rd Go.Proofs.Tryz.prog B 3 cI (okI B):=qu1 Go.Proofs.Tryz.underlying3
theorem qkn (B:Nat):Rd Go.Proofs.Tryz.prog B 200 Fld.c (Fld.Ok B):=Fld.rd Go.Proofs.Tryz.underlying200 (qcv B) (qat B)
theorem qe5 (B:Nat):Rd Go.Proofs.Tryz.prog B 23 (cS 2 Fld.c) (okL B (Fld.Ok B)):=qaj Go.Proofs.Tryz.underlying23 (by kernel_rfl) (qkn B)
theorem qkh (B:Nat):Rd Go.Proofs.Tryz.prog B 176 Header.c (Header.Ok B):=Header.rd Go.Proofs.Tryz.underlying176 (qcv B) (qe5 B)
theorem qm0 (B:Nat):Rd Go.Proofs.Tryz.prog B 22 (cS 2 Header.c) (okL B (Header.Ok B)):=qaj Go.Proofs.Tryz.underlying22 (by kernel_rfl) (qkh B)
theorem qkq (B:Nat):Rd Go.Proofs.Tryz.prog B 211 Register.c (Register.Ok B):=Register.rd Go.Proofs.Tryz.underlying211 (qcv B) (qat B) (qat B)
theorem qm1 (B:Nat):Rd Go.Proofs.Tryz.prog B 24 (cS 3 Register.c) (okL B (Register.Ok B)):=qaj Go.Proofs.Tryz.underlying24 (by kernel_rfl) (qkq B)
theorem qee (B:Nat):Rd Go.Proofs.Tryz.prog B 183 FieldRef.c (FieldRef.Ok B):=FieldRef.rd Go.Proofs.Tryz.underlying183 (qat B) (qat B)
theorem qkt (B:Nat):Rd Go.Proofs.Tryz.prog B 321 ExprNode.c (ExprNode.Ok B):=ExprNode.rd Go.Proofs.Tryz.underlying321 (qat B) (qat B) (qat B)
theorem qef (B:Nat):Rd Go.Proofs.Tryz.prog B 203 (cS 3 ExprNode.c) (okL B (ExprNode.Ok B)):=qaj Go.Proofs.Tryz.underlying203 (by kernel_rfl) (qkt B)
theorem qkr (B:Nat):Rd Go.Proofs.Tryz.prog B 241 Statement.c (Statement.Ok B):=Statement.rd Go.Proofs.Tryz.underlying241 (qat B) (qee B) (qat B) (qat B) (qef B) (qef B)
theorem qki (B:Nat):Rd Go.Proofs.Tryz.prog B 178 (cS 7 Statement.c) (okL B (Statement.Ok B)):=qaj Go.Proofs.Tryz.underlying178 (by kernel_rfl) (qkr B)
theorem qkj (B:Nat):Rd Go.Proofs.Tryz.prog B 180 Action.c (Action.Ok B):=Action.rd Go.Proofs.Tryz.underlying180 (qcv B) (qe5 B) (qki B)
theorem qm2 (B:Nat):Rd Go.Proofs.Tryz.prog B 25 (cS 3 Action.c) (okL B (Action.Ok B)):=qaj Go.Proofs.Tryz.underlying25 (by kernel_rfl) (qkj B)
theorem qko (B:Nat):Rd Go.Proofs.Tryz.prog B 202 TableKey.c (TableKey.Ok B):=TableKey.rd Go.Proofs.Tryz.underlying202 (qee B) (qat B)
theorem qkf (B:Nat):Rd Go.Proofs.Tryz.prog B 122 (cS 3 TableKey.c) (okL B (TableKey.Ok B)):=qaj Go.Proofs.Tryz.underlying122 (by kernel_rfl) (qko B)
theorem qd3 (B:Nat):Rd Go.Proofs.Tryz.prog B 29 (cS 1 cI) (okL B (okI B)):=qaj Go.Proofs.Tryz.underlying29 (by kernel_rfl) (qat B)
theorem qcp (B:Nat):Rd Go.Proofs.Tryz.prog B 112 c32 (ok32 B):=qu3 Go.Proofs.Tryz.underlying112
theorem qhr (B:Nat):Rd Go.Proofs.Tryz.prog B 54 (cS 1 c32) (okL B (ok32 B)):=qaj Go.Proofs.Tryz.underlying54 (by kernel_rfl) (qcp B)
theorem qeq (B:Nat):Rd Go.Proofs.Tryz.prog B 56 ActionCall.c (ActionCall.Ok B):=ActionCall.rd Go.Proofs.Tryz.underlying56 (qat B) (qhr B)
theorem qkg (B:Nat):Rd Go.Proofs.Tryz.prog B 124 Tbl.c (Tbl.Ok B):=Tbl.rd Go.Proofs.Tryz.underlying124 (qcv B) (qkf B) (qd3 B) (qeq B) (qat B)
theorem qm3 (B:Nat):Rd Go.Proofs.Tryz.prog B 26 (cS 6 Tbl.c) (okL B (Tbl.Ok B)):=qaj Go.Proofs.Tryz.underlying26 (by kernel_rfl) (qkg B)
theorem qp9 (B:Nat):Rd Go.Proofs.Tryz.prog B 4 cB (okT B):=qrj Go.Proofs.Tryz.underlying4
theorem qks (B:Nat):Rd Go.Proofs.Tryz.prog B 318 SelectCase.c (SelectCase.Ok B):=SelectCase.rd Go.Proofs.Tryz.underlying318 (qcp B) (qcp B) (qat B)
theorem qkk (B:Nat):Rd Go.Proofs.Tryz.prog B 184 (cS 3 SelectCase.c) (okL B (SelectCase.Ok B)):=qaj Go.Proofs.Tryz.underlying184 (by kernel_rfl) (qks B)
theorem qkl (B:Nat):Rd Go.Proofs.Tryz.prog B 186 ParserState.c (ParserState.Ok B):=ParserState.rd Go.Proofs.Tryz.underlying186 (qcv B) (qd3 B) (qp9 B) (qee B) (qkk B) (qat B)
theorem qm4 (B:Nat):Rd Go.Proofs.Tryz.prog B 27 (cS 7 ParserState.c) (okL B (ParserState.Ok B)):=qaj Go.Proofs.Tryz.underlying27 (by kernel_rfl) (qkl B)
theorem qkp (B:Nat):Rd Go.Proofs.Tryz.prog B 205 ControlNode.c (ControlNode.Ok B):=ControlNode.rd Go.Proofs.Tryz.underlying205 (qat B) (qat B) (qef B) rfl rfl Go.Proofs.Tryz.underlying28 (by kernel_rfl)
theorem qm5 (B:Nat):Rd Go.Proofs.Tryz.prog B 28 (cS 5 ControlNode.c) (okL B (ControlNode.Ok B)):=qaj Go.Proofs.Tryz.underlying28 (by kernel_rfl) (qkp B)
theorem qm6 (B:Nat):Rd Go.Proofs.Tryz.prog B 31 Prg.c (Prg.Ok B):=Prg.rd Go.Proofs.Tryz.underlying31 (qcv B) (qm0 B) (qe5 B) (qm1 B) (qm2 B) (qm3 B) (qm4 B) (qm5 B) (qd3 B)
theorem qkm (B:Nat):Rd Go.Proofs.Tryz.prog B 188 KeyMatch.c (KeyMatch.Ok B):=KeyMatch.rd Go.Proofs.Tryz.underlying188 (qcp B) (qcp B)
theorem qna (B:Nat):Rd Go.Proofs.Tryz.prog B 53 (cS 2 KeyMatch.c) (okL B (KeyMatch.Ok B)):=qaj Go.Proofs.Tryz.underlying53 (by kernel_rfl) (qkm B)
theorem qku (B:Nat):Rd Go.Proofs.Tryz.prog B 58 Entry.c (Entry.Ok B):=Entry.rd Go.Proofs.Tryz.underlying58 (qna B) (qat B) (qeq B)
theorem qnb (B:Nat):Rd Go.Proofs.Tryz.prog B 66 Rw.c (Rw.Ok B):=Rw.rd Go.Proofs.Tryz.underlying66 (qat B) (qku B)
theorem qnc (B:Nat):Rd Go.Proofs.Tryz.prog B 71 (cS 5 Rw.c) (okL B (Rw.Ok B)):=qaj Go.Proofs.Tryz.underlying71 (by kernel_rfl) (qnb B)
theorem qm7 (B:Nat):Rd Go.Proofs.Tryz.prog B 32 (cS 1 (cS 5 Rw.c)) (okL B (okL B (Rw.Ok B))):=qaj Go.Proofs.Tryz.underlying32 (by kernel_rfl) (qnc B)
theorem qm8 (B:Nat):Rd Go.Proofs.Tryz.prog B 33 (cS 2 ActionCall.c) (okL B (ActionCall.Ok B)):=qaj Go.Proofs.Tryz.underlying33 (by kernel_rfl) (qeq B)
theorem qm9 (B:Nat):Rd Go.Proofs.Tryz.prog B 34 (cS 1 (cS 1 c32)) (okL B (okL B (ok32 B))):=qaj Go.Proofs.Tryz.underlying34 (by kernel_rfl) (qhr B)
theorem qiw (B:Nat):Rd Go.Proofs.Tryz.prog B 36 Config.c (Config.Ok B):=Config.rd Go.Proofs.Tryz.underlying36 (qm7 B) (qd3 B) (qm8 B) (qm9 B)
theorem qair (B:Nat):Rd Go.Proofs.Tryz.prog B 85 TableOp.c (TableOp.Ok B):=TableOp.rd Go.Proofs.Tryz.underlying85 (qat B) (qat B) (qat B) (qku B) (qeq B)
def tyL:List Nat:=[3,4,9,22,23,24,25,26,27,28,29,31,32,33,34,36,53,54,56,58,66,71,85,112,122,124,176,178,180,183,184,186,188,200,202,203,205,211,241,318,321]
theorem qnm:qfj Go.Proofs.Tryz.prog tyL=true:=by kernel_rfl
theorem qmc {H:Type} (d:DataW H):1<=Go.Proofs.YtakklbipljodeaaGreat.Rows.uptoBulk d:=by
  cases d with
  | lit l=>cases l<;>simp [Go.Proofs.YtakklbipljodeaaGreat.Rows.uptoBulk]
  | nil=>simp [Go.Proofs.YtakklbipljodeaaGreat.Rows.uptoBulk]
  | ptr d=>simp [Go.Proofs.YtakklbipljodeaaGreat.Rows.uptoBulk]
  | slice elems spare=>simp [Go.Proofs.YtakklbipljodeaaGreat.Rows.uptoBulk]
  | agg parts=>simp [Go.Proofs.YtakklbipljodeaaGreat.Rows.uptoBulk]
  | iface t d=>simp [Go.Proofs.YtakklbipljodeaaGreat.Rows.uptoBulk]
  | map entries=>simp [Go.Proofs.YtakklbipljodeaaGreat.Rows.uptoBulk]
  | held h=>simp [Go.Proofs.YtakklbipljodeaaGreat.Rows.uptoBulk]
def bk (H:Type):BulkFn H where
  one:=Go.Proofs.YtakklbipljodeaaGreat.Rows.uptoBulk
  all:=Go.Proofs.YtakklbipljodeaaGreat.Rows.uptoBulkAll
  nil:=by simp [Go.Proofs.YtakklbipljodeaaGreat.Rows.uptoBulkAll]
  cons:=fun d r=>by simp [Go.Proofs.YtakklbipljodeaaGreat.Rows.uptoBulkAll]
  slice:=fun e s=>by simp [Go.Proofs.YtakklbipljodeaaGreat.Rows.uptoBulk]
  agg:=fun e=>by simp [Go.Proofs.YtakklbipljodeaaGreat.Rows.uptoBulk]
  str:=fun b=>by simp [Go.Proofs.YtakklbipljodeaaGreat.Rows.uptoBulk]
  pos:=qmc
theorem small {H:Type} {l:List (DataW H)} (h:Go.Proofs.YtakklbipljodeaaGreat.Rows.uptoSmall H l=true):(bk H).all l<=qa2:=qlg (of_decide_eq_true h)
theorem qjx:qda Go.Proofs.Tryz.prog 31=true:=by kernel_rfl
theorem qgp:qda Go.Proofs.Tryz.prog 36=true:=by kernel_rfl
theorem qaeu:qda Go.Proofs.Tryz.prog 85=true:=by kernel_rfl
theorem qmq (vs:List AV) (h:WTVs Go.Proofs.Tryz.prog qa2 [31,36,85] vs):qab Φ 8 vs=some (.val (.bool true)):=by
  obtain ⟨a0,vs,rfl,h0,h⟩:=qd4 h;obtain ⟨a1,vs,rfl,h1,h⟩:=qd4 h;obtain ⟨a2,vs,rfl,h2,h⟩:=qd4 h;obtain rfl:=qpf h;obtain ⟨x0,rfl,o0⟩:=qff h0 qjx (qm6 qa2);obtain ⟨x1,rfl,o1⟩:=qff h1 qgp (qiw qa2);obtain ⟨x2,rfl,o2⟩:=qff h2 qaeu (qair qa2);exact qky x0 x1 x2 o0 o1 o2
end Go.Av
namespace Go.Proofs.YtakklbipljodeaaGreat
open Go.ChangeShapes Go.WideShapes Go.ChangeAt Go.RowKit Go.Av
theorem own:ownKnob Tryz.prog.godebug=none:=by kernel_rfl
theorem laid:laidOutB Tryz.prog=true:=closed2.1
theorem qdw:joinedFacts Tryz.checked.prog 8 Tryz.f8 (Rows.OpenSpec.upto Rows.configdiffSingleSpec).bare Rows.configdiffSingleUptoRow=true:=by
  unfold joinedFacts;rw [closed2.1,closed2.2,fa1,fa2,fa3,fa4,fa5,fa6,pf1,pf2]
  kernel_rfl
theorem table:TableOk Tryz.prog ann Φ:=qq4 (qly (by kernel_rfl) qvo (by kernel_rfl) qrp (by kernel_rfl) qpc qpd (by kernel_rfl)) (by kernel_rfl)
set_option maxRecDepth 100000 in
theorem qik (H:Type) (enc:TypeId×Value->H) (W:World) (base:Nat) (args:Array Value) (ds gs:List (DataW H)) (before:List MemPlace)
    (hval:∀(j:Nat) t v,Tryz.f8.params[j]? =some t->args[j]? =some v->Value.okWide Tryz.prog W .any base t v)
    (hW:DataW.Whole enc Tryz.prog Tryz.f8.params.toList Rows.configdiffSingleSpec.vars false W args.toList ds gs before) (hk:Rows.uptoSmall H (ds++gs)=true):
    Calls Tryz.prog 8 args W fun e W'=>∃v,e= .returned v/\Rows.configdiffSingleSpec.post enc Tryz.prog Tryz.f8 false true false false W args v W':=
  qls table laid (tb:=Tryz.f8.resultTypes[0]!) rfl rfl (by kernel_rfl) (by kernel_rfl) (bk H) qnm (by kernel_rfl) hval hW
    (fun l hl=>by
      match l,hl with
      | [d0,d1,d2],_=>rfl)
    (small hk) (fun vs h=>qmq vs (by rw [Tryz.params8] at h;exact h))
set_option maxRecDepth 100000 in
theorem lifted (os:Os) (started:os.Started) (H:Type) (enc:TypeId×Value->H) (F:Stop.Interp):
    ReturnsInHanded {} Tryz.checked os 8 .any ((Rows.OpenSpec.upto Rows.configdiffSingleSpec).pre6 enc Tryz.prog Tryz.f8 Rows.configdiffSingleUptoRow.domain false) (((Rows.OpenSpec.upto Rows.configdiffSingleSpec).at F).post enc Tryz.prog Tryz.f8 false true false false):=by
  refine returnsInHanded_of_cond (C:=Tryz.checked) (s:=Rows.OpenSpec.upto Rows.configdiffSingleSpec) (k:=Rows.uptoSmall) rfl own started (by kernel_rfl) Tryz.func8
    (OpenSpec.witness (enc:=enc) (C:=Tryz.checked) (s:=Rows.OpenSpec.upto Rows.configdiffSingleSpec) (k:=Rows.uptoSmall) rfl false ⟨#[],#[.agg #[.string ByteArray.empty,.slice none 0 0,.slice none 0 0,.slice none 0 0,.slice none 0 0,.slice none 0 0,.slice none 0 0,.slice none 0 0,.slice none 0 0],.agg #[.slice none 0 0,.slice none 0 0,.slice none 0 0,.slice none 0 0],.agg #[.int .i64 0,.int .i64 0,.int .i64 0,.slice none 0 0,.int .i64 0,.int .i64 0,.slice none 0 0,.int .i64 0,.slice none 0 0]],[]⟩ 24 (by kernel_rfl) (by kernel_rfl) (by kernel_rfl)
      (x:=([.agg [.lit (.string []),.nil,.nil,.nil,.nil,.nil,.nil,.nil,.nil],.agg [.nil,.nil,.nil,.nil],.agg [.lit (.int .i64 0),.lit (.int .i64 0),.lit (.int .i64 0),.agg [.nil,.lit (.int .i64 0),.agg [.lit (.int .i64 0),.nil]],.agg [.lit (.int .i64 0),.nil]]],[],[])) (by kernel_rfl) rfl (by kernel_rfl)) ?_
  intro W base args ds gs before hval hW _ hk _;exact qik H enc W base args ds gs before hval hW hk
theorem proved:Rows.ConfigdiffSingleUptoSaid:=
  OpenClaim.holds_of_cond 8 Tryz.f8 rfl rfl rfl rfl rfl rfl rfl ⟨rfl,rfl,rfl,rfl,rfl⟩ rfl rfl rfl rfl rfl (by kernel_rfl) Tryz.func8 qdw
    (of_decide_eq_true (by kernel_rfl)) (by unfold Func.isWrapper;first | (rw [if_pos (by decide+kernel)];kernel_rfl) | (rw [if_neg (by decide+kernel)];exact ⟨rfl,rfl⟩))
    (fun os started H enc _ F=>lifted os started H enc F)
end Go.Proofs.YtakklbipljodeaaGreat
