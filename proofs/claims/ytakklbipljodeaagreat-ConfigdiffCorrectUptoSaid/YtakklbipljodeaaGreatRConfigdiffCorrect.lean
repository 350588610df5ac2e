/-
  The law 'ConfigdiffCorrect' returns true at every input whose readings are of bulk at most 1048576, and leaves its arguments as they were.
  Conditions: none but that bound, which the given statement itself bears.
-/
import Derived.Test.YtakklbipljodeaaGreatD20
import Derived.Test.YtakklbipljodeaaGreatFunsBK
import Derived.Test.YtakklbipljodeaaGreatRConfigdiffCorrectFa
import Derived.Test.YtakklbipljodeaaGreatRConfigdiffCorrectFb
import Derived.Test.YtakklbipljodeaaGreatRConfigdiffCorrectFc
import Derived.KernelRfl
import Derived.ClosedOfChecked
set_option linter.unusedVariables false
set_option linter.unusedSimpArgs false
set_option linter.constructorNameAsVariable false
namespace Go.Av
theorem qer (B:Nat):Rd Go.Proofs.Tryz.prog B 9 cStr (qdz B):=qacj Go.Proofs.Tryz.underlying9
theorem qbg (B:Nat):Rd Go.Proofs.Tryz.prog B 3 cI (okI B):=qaci Go.Proofs.Tryz.underlying3
theorem qri (B:Nat):Rd Go.Proofs.Tryz.prog B 200 Fld.c (Fld.Ok B):=Fld.rd Go.Proofs.Tryz.underlying200 (qer B) (qbg B)
theorem qi6 (B:Nat):Rd Go.Proofs.Tryz.prog B 23 (cS 2 Fld.c) (okL B (Fld.Ok B)):=qa1 Go.Proofs.Tryz.underlying23 (by kernel_rfl) (qri B)
theorem qrc (B:Nat):Rd Go.Proofs.Tryz.prog B 176 Header.c (Header.Ok B):=Header.rd Go.Proofs.Tryz.underlying176 (qer B) (qi6 B)
theorem qvj (B:Nat):Rd Go.Proofs.Tryz.prog B 22 (cS 2 Header.c) (okL B (Header.Ok B)):=qa1 Go.Proofs.Tryz.underlying22 (by kernel_rfl) (qrc B)
theorem qrl (B:Nat):Rd Go.Proofs.Tryz.prog B 211 Register.c (Register.Ok B):=Register.rd Go.Proofs.Tryz.underlying211 (qer B) (qbg B) (qbg B)
theorem qvk (B:Nat):Rd Go.Proofs.Tryz.prog B 24 (cS 3 Register.c) (okL B (Register.Ok B)):=qa1 Go.Proofs.Tryz.underlying24 (by kernel_rfl) (qrl B)
theorem qhb (B:Nat):Rd Go.Proofs.Tryz.prog B 183 FieldRef.c (FieldRef.Ok B):=FieldRef.rd Go.Proofs.Tryz.underlying183 (qbg B) (qbg B)
theorem qro (B:Nat):Rd Go.Proofs.Tryz.prog B 321 ExprNode.c (ExprNode.Ok B):=ExprNode.rd Go.Proofs.Tryz.underlying321 (qbg B) (qbg B) (qbg B)
theorem qhc (B:Nat):Rd Go.Proofs.Tryz.prog B 203 (cS 3 ExprNode.c) (okL B (ExprNode.Ok B)):=qa1 Go.Proofs.Tryz.underlying203 (by kernel_rfl) (qro B)
theorem qrm (B:Nat):Rd Go.Proofs.Tryz.prog B 241 Statement.c (Statement.Ok B):=Statement.rd Go.Proofs.Tryz.underlying241 (qbg B) (qhb B) (qbg B) (qbg B) (qhc B) (qhc B)
theorem qrd (B:Nat):Rd Go.Proofs.Tryz.prog B 178 (cS 7 Statement.c) (okL B (Statement.Ok B)):=qa1 Go.Proofs.Tryz.underlying178 (by kernel_rfl) (qrm B)
theorem qre (B:Nat):Rd Go.Proofs.Tryz.prog B 180 Action.c (Action.Ok B):=Action.rd Go.Proofs.Tryz.underlying180 (qer B) (qi6 B) (qrd B)
theorem qvl (B:Nat):Rd Go.Proofs.Tryz.prog B 25 (cS 3 Action.c) (okL B (Action.Ok B)):=qa1 Go.Proofs.Tryz.underlying25 (by kernel_rfl) (qre B)
theorem qrj (B:Nat):Rd Go.Proofs.Tryz.prog B 202 TableKey.c (TableKey.Ok B):=TableKey.rd Go.Proofs.Tryz.underlying202 (qhb B) (qbg B)
theorem qra (B:Nat):Rd Go.Proofs.Tryz.prog B 122 (cS 3 TableKey.c) (okL B (TableKey.Ok B)):=qa1 Go.Proofs.Tryz.underlying122 (by kernel_rfl) (qrj B)
theorem qgt (B:Nat):Rd Go.Proofs.Tryz.prog B 29 (cS 1 cI) (okL B (okI B)):=qa1 Go.Proofs.Tryz.underlying29 (by kernel_rfl) (qbg B)
theorem qej (B:Nat):Rd Go.Proofs.Tryz.prog B 112 c32 (ok32 B):=qack Go.Proofs.Tryz.underlying112
theorem qmn (B:Nat):Rd Go.Proofs.Tryz.prog B 54 (cS 1 c32) (okL B (ok32 B)):=qa1 Go.Proofs.Tryz.underlying54 (by kernel_rfl) (qej B)
theorem qh4 (B:Nat):Rd Go.Proofs.Tryz.prog B 56 ActionCall.c (ActionCall.Ok B):=ActionCall.rd Go.Proofs.Tryz.underlying56 (qbg B) (qmn B)
theorem qrb (B:Nat):Rd Go.Proofs.Tryz.prog B 124 Tbl.c (Tbl.Ok B):=Tbl.rd Go.Proofs.Tryz.underlying124 (qer B) (qra B) (qgt B) (qh4 B) (qbg B)
theorem qvm (B:Nat):Rd Go.Proofs.Tryz.prog B 26 (cS 6 Tbl.c) (okL B (Tbl.Ok B)):=qa1 Go.Proofs.Tryz.underlying26 (by kernel_rfl) (qrb B)
theorem qzt (B:Nat):Rd Go.Proofs.Tryz.prog B 4 cB (okT B):=qyf Go.Proofs.Tryz.underlying4
theorem qrn (B:Nat):Rd Go.Proofs.Tryz.prog B 318 SelectCase.c (SelectCase.Ok B):=SelectCase.rd Go.Proofs.Tryz.underlying318 (qej B) (qej B) (qbg B)
theorem qrf (B:Nat):Rd Go.Proofs.Tryz.prog B 184 (cS 3 SelectCase.c) (okL B (SelectCase.Ok B)):=qa1 Go.Proofs.Tryz.underlying184 (by kernel_rfl) (qrn B)
theorem qrg (B:Nat):Rd Go.Proofs.Tryz.prog B 186 ParserState.c (ParserState.Ok B):=ParserState.rd Go.Proofs.Tryz.underlying186 (qer B) (qgt B) (qzt B) (qhb B) (qrf B) (qbg B)
theorem qvn (B:Nat):Rd Go.Proofs.Tryz.prog B 27 (cS 7 ParserState.c) (okL B (ParserState.Ok B)):=qa1 Go.Proofs.Tryz.underlying27 (by kernel_rfl) (qrg B)
theorem qrk (B:Nat):Rd Go.Proofs.Tryz.prog B 205 ControlNode.c (ControlNode.Ok B):=ControlNode.rd Go.Proofs.Tryz.underlying205 (qbg B) (qbg B) (qhc B) rfl rfl Go.Proofs.Tryz.underlying28 (by kernel_rfl)
theorem qvo (B:Nat):Rd Go.Proofs.Tryz.prog B 28 (cS 5 ControlNode.c) (okL B (ControlNode.Ok B)):=qa1 Go.Proofs.Tryz.underlying28 (by kernel_rfl) (qrk B)
theorem qvp (B:Nat):Rd Go.Proofs.Tryz.prog B 31 Prg.c (Prg.Ok B):=Prg.rd Go.Proofs.Tryz.underlying31 (qer B) (qvj B) (qi6 B) (qvk B) (qvl B) (qvm B) (qvn B) (qvo B) (qgt B)
theorem qrh (B:Nat):Rd Go.Proofs.Tryz.prog B 188 KeyMatch.c (KeyMatch.Ok B):=KeyMatch.rd Go.Proofs.Tryz.underlying188 (qej B) (qej B)
theorem qvt (B:Nat):Rd Go.Proofs.Tryz.prog B 53 (cS 2 KeyMatch.c) (okL B (KeyMatch.Ok B)):=qa1 Go.Proofs.Tryz.underlying53 (by kernel_rfl) (qrh B)
theorem qpw (B:Nat):Rd Go.Proofs.Tryz.prog B 58 Entry.c (Entry.Ok B):=Entry.rd Go.Proofs.Tryz.underlying58 (qvt B) (qbg B) (qh4 B)
theorem qvu (B:Nat):Rd Go.Proofs.Tryz.prog B 66 Rw.c (Rw.Ok B):=Rw.rd Go.Proofs.Tryz.underlying66 (qbg B) (qpw B)
theorem qvv (B:Nat):Rd Go.Proofs.Tryz.prog B 71 (cS 5 Rw.c) (okL B (Rw.Ok B)):=qa1 Go.Proofs.Tryz.underlying71 (by kernel_rfl) (qvu B)
theorem qvq (B:Nat):Rd Go.Proofs.Tryz.prog B 32 (cS 1 (cS 5 Rw.c)) (okL B (okL B (Rw.Ok B))):=qa1 Go.Proofs.Tryz.underlying32 (by kernel_rfl) (qvv B)
theorem qvr (B:Nat):Rd Go.Proofs.Tryz.prog B 33 (cS 2 ActionCall.c) (okL B (ActionCall.Ok B)):=qa1 Go.Proofs.Tryz.underlying33 (by kernel_rfl) (qh4 B)
theorem qvs (B:Nat):Rd Go.Proofs.Tryz.prog B 34 (cS 1 (cS 1 c32)) (okL B (okL B (ok32 B))):=qa1 Go.Proofs.Tryz.underlying34 (by kernel_rfl) (qmn B)
theorem qpv (B:Nat):Rd Go.Proofs.Tryz.prog B 36 Config.c (Config.Ok B):=Config.rd Go.Proofs.Tryz.underlying36 (qvq B) (qgt B) (qvr B) (qvs B)
def tyL:List Nat:=[3,4,9,22,23,24,25,26,27,28,29,31,32,33,34,36,53,54,56,58,66,71,112,122,124,176,178,180,183,184,186,188,200,202,203,205,211,241,318,321]
theorem qwm:qgs Go.Proofs.Tryz.prog tyL=true:=by kernel_rfl
theorem qt1 {H:Type} (d:DataW H):1<=Go.Proofs.YtakklbipljodeaaGreat.Rows.uptoBulk d:=by
  cases d with
  | lit l=>cases l<;>simp [Go.Proofs.YtakklbipljodeaaGreat.Rows.uptoBulk]
  | nil=>simp [Go.Proofs.YtakklbipljodeaaGreat.Rows.uptoBulk]
  | ptr d=>simp [Go.Proofs.YtakklbipljodeaaGreat.Rows.uptoBulk]
  | slice elems spare=>simp [Go.Proofs.YtakklbipljodeaaGreat.Rows.uptoBulk]
  | agg parts=>simp [Go.Proofs.YtakklbipljodeaaGreat.Rows.uptoBulk]
  | iface t d=>simp [Go.Proofs.YtakklbipljodeaaGreat.Rows.uptoBulk]
  | map entries=>simp [Go.Proofs.YtakklbipljodeaaGreat.Rows.uptoBulk]
  | held h=>simp [Go.Proofs.YtakklbipljodeaaGreat.Rows.uptoBulk]
def bk (H:Type):BulkFn H where
  one:=Go.Proofs.YtakklbipljodeaaGreat.Rows.uptoBulk
  all:=Go.Proofs.YtakklbipljodeaaGreat.Rows.uptoBulkAll
  nil:=by simp [Go.Proofs.YtakklbipljodeaaGreat.Rows.uptoBulkAll]
  cons:=fun d r=>by simp [Go.Proofs.YtakklbipljodeaaGreat.Rows.uptoBulkAll]
  slice:=fun e s=>by simp [Go.Proofs.YtakklbipljodeaaGreat.Rows.uptoBulk]
  agg:=fun e=>by simp [Go.Proofs.YtakklbipljodeaaGreat.Rows.uptoBulk]
  str:=fun b=>by simp [Go.Proofs.YtakklbipljodeaaGreat.Rows.uptoBulk]
  pos:=qt1
theorem small {H:Type} {l:List (DataW H)} (h:Go.Proofs.YtakklbipljodeaaGreat.Rows.uptoSmall H l=true):(bk H).all l<=qa6:=qpl (of_decide_eq_true h)
theorem qqi:qdl Go.Proofs.Tryz.prog 31=true:=by kernel_rfl
theorem qmy:qdl Go.Proofs.Tryz.prog 36=true:=by kernel_rfl
theorem qu1 (vs:List AV) (h:WTVs Go.Proofs.Tryz.prog qa6 [31,36,36] vs):qab Φ 10 vs=some (.val (.bool true)):=by
  obtain ⟨a0,vs,rfl,h0,h⟩:=qgh h;obtain ⟨a1,vs,rfl,h1,h⟩:=qgh h;obtain ⟨a2,vs,rfl,h2,h⟩:=qgh h;obtain rfl:=qwr h;obtain ⟨x0,rfl,o0⟩:=qkq h0 qqi (qvp qa6);obtain ⟨x1,rfl,o1⟩:=qkq h1 qmy (qpv qa6);obtain ⟨x2,rfl,o2⟩:=qkq h2 qmy (qpv qa6);exact qj3 x0 x1 x2 o0 o1 o2
end Go.Av
namespace Go.Proofs.YtakklbipljodeaaGreat
open Go.ChangeShapes Go.WideShapes Go.ChangeAt Go.RowKit Go.Av
theorem own:ownKnob Tryz.prog.godebug=none:=by kernel_rfl
theorem laid:laidOutB Tryz.prog=true:=closed2.1
theorem qe3:joinedFacts Tryz.checked.prog 10 Tryz.f10 (Rows.OpenSpec.upto Rows.configdiffCorrectSpec).bare Rows.configdiffCorrectUptoRow=true:=by
  unfold joinedFacts;rw [closed2.1,closed2.2,fa1,fa2,fa3,fa4,fa5,fa6,pf1,pf2]
  kernel_rfl
theorem table:TableOk Tryz.prog ann Φ:=qx4 (qp7 (by kernel_rfl) qac1 (by kernel_rfl) qyk (by kernel_rfl) qwh qwi (by kernel_rfl)) (by kernel_rfl)
set_option maxRecDepth 100000 in
theorem qod (H:Type) (enc:TypeId×Value->H) (W:World) (base:Nat) (args:Array Value) (ds gs:List (DataW H)) (before:List MemPlace)
    (hval:∀(j:Nat) t v,Tryz.f10.params[j]? =some t->args[j]? =some v->Value.okWide Tryz.prog W .any base t v)
    (hW:DataW.Whole enc Tryz.prog Tryz.f10.params.toList Rows.configdiffCorrectSpec.vars false W args.toList ds gs before) (hk:Rows.uptoSmall H (ds++gs)=true):
    Calls Tryz.prog 10 args W fun e W'=>∃v,e= .returned v/\Rows.configdiffCorrectSpec.post enc Tryz.prog Tryz.f10 false true false false W args v W':=
  qp0 table laid (tb:=Tryz.f10.resultTypes[0]!) rfl rfl (by kernel_rfl) (by kernel_rfl) (bk H) qwm (by kernel_rfl) hval hW
    (fun l hl=>by
      match l,hl with
      | [d0,d1,d2],_=>rfl)
    (small hk) (fun vs h=>qu1 vs (by rw [Tryz.params10] at h;exact h))
set_option maxRecDepth 100000 in
theorem lifted (os:Os) (started:os.Started) (H:Type) (enc:TypeId×Value->H) (F:Stop.Interp):
    ReturnsInHanded {} Tryz.checked os 10 .any ((Rows.OpenSpec.upto Rows.configdiffCorrectSpec).pre6 enc Tryz.prog Tryz.f10 Rows.configdiffCorrectUptoRow.domain false) (((Rows.OpenSpec.upto Rows.configdiffCorrectSpec).at F).post enc Tryz.prog Tryz.f10 false true false false):=by
  refine returnsInHanded_of_cond (C:=Tryz.checked) (s:=Rows.OpenSpec.upto Rows.configdiffCorrectSpec) (k:=Rows.uptoSmall) rfl own started (by kernel_rfl) Tryz.func10
    (OpenSpec.witness (enc:=enc) (C:=Tryz.checked) (s:=Rows.OpenSpec.upto Rows.configdiffCorrectSpec) (k:=Rows.uptoSmall) rfl false ⟨#[],#[.agg #[.string ByteArray.empty,.slice none 0 0,.slice none 0 0,.slice none 0 0,.slice none 0 0,.slice none 0 0,.slice none 0 0,.slice none 0 0,.slice none 0 0],.agg #[.slice none 0 0,.slice none 0 0,.slice none 0 0,.slice none 0 0],.agg #[.slice none 0 0,.slice none 0 0,.slice none 0 0,.slice none 0 0]],[]⟩ 24 (by kernel_rfl) (by kernel_rfl) (by kernel_rfl)
      (x:=([.agg [.lit (.string []),.nil,.nil,.nil,.nil,.nil,.nil,.nil,.nil],.agg [.nil,.nil,.nil,.nil],.agg [.nil,.nil,.nil,.nil]],[],[])) (by kernel_rfl) rfl (by kernel_rfl)) ?_
  intro W base args ds gs before hval hW _ hk _;exact qod H enc W base args ds gs before hval hW hk
theorem proved:Rows.ConfigdiffCorrectUptoSaid:=
  OpenClaim.holds_of_cond 10 Tryz.f10 rfl rfl rfl rfl rfl rfl rfl ⟨rfl,rfl,rfl,rfl,rfl⟩ rfl rfl rfl rfl rfl (by kernel_rfl) Tryz.func10 qe3
    (of_decide_eq_true (by kernel_rfl)) (by unfold Func.isWrapper;first | (rw [if_pos (by decide+kernel)];kernel_rfl) | (rw [if_neg (by decide+kernel)];exact ⟨rfl,rfl⟩))
    (fun os started H enc _ F=>lifted os started H enc F)
end Go.Proofs.YtakklbipljodeaaGreat
