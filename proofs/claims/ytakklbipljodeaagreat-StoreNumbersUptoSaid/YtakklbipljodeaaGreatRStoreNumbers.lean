/-
  The law 'StoreNumbers' returns true at every input whose readings are of bulk at most 1048576, and leaves its arguments as they were.
  Conditions: none but that bound, which the given statement itself bears.
-/
import Derived.Test.YtakklbipljodeaaGreatSD5
import Derived.Test.YtakklbipljodeaaGreatFunsBK
import Derived.Test.YtakklbipljodeaaGreatRStoreNumbersFa
import Derived.Test.YtakklbipljodeaaGreatRStoreNumbersFb
import Derived.Test.YtakklbipljodeaaGreatRStoreNumbersFc
import Derived.KernelRfl
import Derived.ClosedOfChecked
set_option linter.unusedVariables false
set_option linter.unusedSimpArgs false
set_option linter.constructorNameAsVariable false
namespace Go.Av
theorem qcx (B:Nat):Rd Go.Proofs.Tryz.prog B 9 cStr (qdn B):=qur Go.Proofs.Tryz.underlying9
theorem qas (B:Nat):Rd Go.Proofs.Tryz.prog B 3 cI (okI B):=quq Go.Proofs.Tryz.underlying3
theorem qka (B:Nat):Rd Go.Proofs.Tryz.prog B 200 Fld.c (Fld.Ok B):=Fld.rd Go.Proofs.Tryz.underlying200 (qcx B) (qas B)
theorem qfe (B:Nat):Rd Go.Proofs.Tryz.prog B 23 (cS 2 Fld.c) (okL B (Fld.Ok B)):=qam Go.Proofs.Tryz.underlying23 (by kernel_rfl) (qka B)
theorem qj4 (B:Nat):Rd Go.Proofs.Tryz.prog B 176 Header.c (Header.Ok B):=Header.rd Go.Proofs.Tryz.underlying176 (qcx B) (qfe B)
theorem qmi (B:Nat):Rd Go.Proofs.Tryz.prog B 22 (cS 2 Header.c) (okL B (Header.Ok B)):=qam Go.Proofs.Tryz.underlying22 (by kernel_rfl) (qj4 B)
theorem qkd (B:Nat):Rd Go.Proofs.Tryz.prog B 211 Register.c (Register.Ok B):=Register.rd Go.Proofs.Tryz.underlying211 (qcx B) (qas B) (qas B)
theorem qmj (B:Nat):Rd Go.Proofs.Tryz.prog B 24 (cS 3 Register.c) (okL B (Register.Ok B)):=qam Go.Proofs.Tryz.underlying24 (by kernel_rfl) (qkd B)
theorem qek (B:Nat):Rd Go.Proofs.Tryz.prog B 183 FieldRef.c (FieldRef.Ok B):=FieldRef.rd Go.Proofs.Tryz.underlying183 (qas B) (qas B)
theorem qkg (B:Nat):Rd Go.Proofs.Tryz.prog B 321 ExprNode.c (ExprNode.Ok B):=ExprNode.rd Go.Proofs.Tryz.underlying321 (qas B) (qas B) (qas B)
theorem qel (B:Nat):Rd Go.Proofs.Tryz.prog B 203 (cS 3 ExprNode.c) (okL B (ExprNode.Ok B)):=qam Go.Proofs.Tryz.underlying203 (by kernel_rfl) (qkg B)
theorem qke (B:Nat):Rd Go.Proofs.Tryz.prog B 241 Statement.c (Statement.Ok B):=Statement.rd Go.Proofs.Tryz.underlying241 (qas B) (qek B) (qas B) (qas B) (qel B) (qel B)
theorem qj5 (B:Nat):Rd Go.Proofs.Tryz.prog B 178 (cS 7 Statement.c) (okL B (Statement.Ok B)):=qam Go.Proofs.Tryz.underlying178 (by kernel_rfl) (qke B)
theorem qj6 (B:Nat):Rd Go.Proofs.Tryz.prog B 180 Action.c (Action.Ok B):=Action.rd Go.Proofs.Tryz.underlying180 (qcx B) (qfe B) (qj5 B)
theorem qmk (B:Nat):Rd Go.Proofs.Tryz.prog B 25 (cS 3 Action.c) (okL B (Action.Ok B)):=qam Go.Proofs.Tryz.underlying25 (by kernel_rfl) (qj6 B)
theorem qkb (B:Nat):Rd Go.Proofs.Tryz.prog B 202 TableKey.c (TableKey.Ok B):=TableKey.rd Go.Proofs.Tryz.underlying202 (qek B) (qas B)
theorem qj2 (B:Nat):Rd Go.Proofs.Tryz.prog B 122 (cS 3 TableKey.c) (okL B (TableKey.Ok B)):=qam Go.Proofs.Tryz.underlying122 (by kernel_rfl) (qkb B)
theorem qd5 (B:Nat):Rd Go.Proofs.Tryz.prog B 29 (cS 1 cI) (okL B (okI B)):=qam Go.Proofs.Tryz.underlying29 (by kernel_rfl) (qas B)
theorem qcr (B:Nat):Rd Go.Proofs.Tryz.prog B 112 c32 (ok32 B):=qus Go.Proofs.Tryz.underlying112
theorem qff (B:Nat):Rd Go.Proofs.Tryz.prog B 54 (cS 1 c32) (okL B (ok32 B)):=qam Go.Proofs.Tryz.underlying54 (by kernel_rfl) (qcr B)
theorem qd6 (B:Nat):Rd Go.Proofs.Tryz.prog B 56 ActionCall.c (ActionCall.Ok B):=ActionCall.rd Go.Proofs.Tryz.underlying56 (qas B) (qff B)
theorem qj3 (B:Nat):Rd Go.Proofs.Tryz.prog B 124 Tbl.c (Tbl.Ok B):=Tbl.rd Go.Proofs.Tryz.underlying124 (qcx B) (qj2 B) (qd5 B) (qd6 B) (qas B)
theorem qml (B:Nat):Rd Go.Proofs.Tryz.prog B 26 (cS 6 Tbl.c) (okL B (Tbl.Ok B)):=qam Go.Proofs.Tryz.underlying26 (by kernel_rfl) (qj3 B)
theorem qpr (B:Nat):Rd Go.Proofs.Tryz.prog B 4 cB (okT B):=qq0 Go.Proofs.Tryz.underlying4
theorem qkf (B:Nat):Rd Go.Proofs.Tryz.prog B 318 SelectCase.c (SelectCase.Ok B):=SelectCase.rd Go.Proofs.Tryz.underlying318 (qcr B) (qcr B) (qas B)
theorem qj7 (B:Nat):Rd Go.Proofs.Tryz.prog B 184 (cS 3 SelectCase.c) (okL B (SelectCase.Ok B)):=qam Go.Proofs.Tryz.underlying184 (by kernel_rfl) (qkf B)
theorem qj8 (B:Nat):Rd Go.Proofs.Tryz.prog B 186 ParserState.c (ParserState.Ok B):=ParserState.rd Go.Proofs.Tryz.underlying186 (qcx B) (qd5 B) (qpr B) (qek B) (qj7 B) (qas B)
theorem qmm (B:Nat):Rd Go.Proofs.Tryz.prog B 27 (cS 7 ParserState.c) (okL B (ParserState.Ok B)):=qam Go.Proofs.Tryz.underlying27 (by kernel_rfl) (qj8 B)
theorem qkc (B:Nat):Rd Go.Proofs.Tryz.prog B 205 ControlNode.c (ControlNode.Ok B):=ControlNode.rd Go.Proofs.Tryz.underlying205 (qas B) (qas B) (qel B) rfl rfl Go.Proofs.Tryz.underlying28 (by kernel_rfl)
theorem qmn (B:Nat):Rd Go.Proofs.Tryz.prog B 28 (cS 5 ControlNode.c) (okL B (ControlNode.Ok B)):=qam Go.Proofs.Tryz.underlying28 (by kernel_rfl) (qkc B)
theorem qmo (B:Nat):Rd Go.Proofs.Tryz.prog B 31 Prg.c (Prg.Ok B):=Prg.rd Go.Proofs.Tryz.underlying31 (qcx B) (qmi B) (qfe B) (qmj B) (qmk B) (qml B) (qmm B) (qmn B) (qd5 B)
theorem qj9 (B:Nat):Rd Go.Proofs.Tryz.prog B 188 KeyMatch.c (KeyMatch.Ok B):=KeyMatch.rd Go.Proofs.Tryz.underlying188 (qcr B) (qcr B)
theorem qmv (B:Nat):Rd Go.Proofs.Tryz.prog B 53 (cS 2 KeyMatch.c) (okL B (KeyMatch.Ok B)):=qam Go.Proofs.Tryz.underlying53 (by kernel_rfl) (qj9 B)
theorem qhw (B:Nat):Rd Go.Proofs.Tryz.prog B 58 Entry.c (Entry.Ok B):=Entry.rd Go.Proofs.Tryz.underlying58 (qmv B) (qas B) (qd6 B)
theorem qmx (B:Nat):Rd Go.Proofs.Tryz.prog B 66 Rw.c (Rw.Ok B):=Rw.rd Go.Proofs.Tryz.underlying66 (qas B) (qhw B)
theorem qmy (B:Nat):Rd Go.Proofs.Tryz.prog B 71 (cS 5 Rw.c) (okL B (Rw.Ok B)):=qam Go.Proofs.Tryz.underlying71 (by kernel_rfl) (qmx B)
theorem qmp (B:Nat):Rd Go.Proofs.Tryz.prog B 32 (cS 1 (cS 5 Rw.c)) (okL B (okL B (Rw.Ok B))):=qam Go.Proofs.Tryz.underlying32 (by kernel_rfl) (qmy B)
theorem qmq (B:Nat):Rd Go.Proofs.Tryz.prog B 33 (cS 2 ActionCall.c) (okL B (ActionCall.Ok B)):=qam Go.Proofs.Tryz.underlying33 (by kernel_rfl) (qd6 B)
theorem qmr (B:Nat):Rd Go.Proofs.Tryz.prog B 34 (cS 1 (cS 1 c32)) (okL B (okL B (ok32 B))):=qam Go.Proofs.Tryz.underlying34 (by kernel_rfl) (qff B)
theorem qms (B:Nat):Rd Go.Proofs.Tryz.prog B 36 Config.c (Config.Ok B):=Config.rd Go.Proofs.Tryz.underlying36 (qmp B) (qd5 B) (qmq B) (qmr B)
theorem qmw (B:Nat):Rd Go.Proofs.Tryz.prog B 60 Call25.c (Call25.Ok B):=Call25.rd Go.Proofs.Tryz.underlying60 (qas B) (qas B) (qas B) (qhw B) (qd6 B) (qff B)
theorem qmt (B:Nat):Rd Go.Proofs.Tryz.prog B 48 (cS 10 Call25.c) (okL B (Call25.Ok B)):=qam Go.Proofs.Tryz.underlying48 (by kernel_rfl) (qmw B)
theorem qmu (B:Nat):Rd Go.Proofs.Tryz.prog B 50 Case25.c (Case25.Ok B):=Case25.rd Go.Proofs.Tryz.underlying50 (qmo B) (qms B) (qmt B)
def tyL:List Nat:=[3,4,9,22,23,24,25,26,27,28,29,31,32,33,34,36,48,50,53,54,56,58,60,66,71,112,122,124,176,178,180,183,184,186,188,200,202,203,205,211,241,318,321]
theorem qm8:qfs Go.Proofs.Tryz.prog tyL=true:=by kernel_rfl
theorem qlx {H:Type} (d:DataW H):1<=Go.Proofs.YtakklbipljodeaaGreat.Rows.uptoBulk d:=by
  cases d with
  | lit l=>cases l<;>simp [Go.Proofs.YtakklbipljodeaaGreat.Rows.uptoBulk]
  | nil=>simp [Go.Proofs.YtakklbipljodeaaGreat.Rows.uptoBulk]
  | ptr d=>simp [Go.Proofs.YtakklbipljodeaaGreat.Rows.uptoBulk]
  | slice elems spare=>simp [Go.Proofs.YtakklbipljodeaaGreat.Rows.uptoBulk]
  | agg parts=>simp [Go.Proofs.YtakklbipljodeaaGreat.Rows.uptoBulk]
  | iface t d=>simp [Go.Proofs.YtakklbipljodeaaGreat.Rows.uptoBulk]
  | map entries=>simp [Go.Proofs.YtakklbipljodeaaGreat.Rows.uptoBulk]
  | held h=>simp [Go.Proofs.YtakklbipljodeaaGreat.Rows.uptoBulk]
def bk (H:Type):BulkFn H where
  one:=Go.Proofs.YtakklbipljodeaaGreat.Rows.uptoBulk
  all:=Go.Proofs.YtakklbipljodeaaGreat.Rows.uptoBulkAll
  nil:=by simp [Go.Proofs.YtakklbipljodeaaGreat.Rows.uptoBulkAll]
  cons:=fun d r=>by simp [Go.Proofs.YtakklbipljodeaaGreat.Rows.uptoBulkAll]
  slice:=fun e s=>by simp [Go.Proofs.YtakklbipljodeaaGreat.Rows.uptoBulk]
  agg:=fun e=>by simp [Go.Proofs.YtakklbipljodeaaGreat.Rows.uptoBulk]
  str:=fun b=>by simp [Go.Proofs.YtakklbipljodeaaGreat.Rows.uptoBulk]
  pos:=qlx
theorem small {H:Type} {l:List (DataW H)} (h:Go.Proofs.YtakklbipljodeaaGreat.Rows.uptoSmall H l=true):(bk H).all l<=qa5:=qk2 (of_decide_eq_true h)
theorem qjm:qeh Go.Proofs.Tryz.prog 50=true:=by kernel_rfl
theorem ql8 (vs:List AV) (h:WTVs Go.Proofs.Tryz.prog qa5 [50] vs):qab Φ 5 vs=some (.val (.bool true)):=by
  obtain ⟨a0,vs,rfl,h0,h⟩:=qna h;obtain rfl:=qoy h;obtain ⟨x0,rfl,o0⟩:=qq9 h0 qjm (qmu qa5);exact qn8 x0 o0
end Go.Av
namespace Go.Proofs.YtakklbipljodeaaGreat
open Go.ChangeShapes Go.WideShapes Go.ChangeAt Go.RowKit Go.Av
theorem own:ownKnob Tryz.prog.godebug=none:=by kernel_rfl
theorem laid:laidOutB Tryz.prog=true:=closed2.1
theorem qdl:joinedFacts Tryz.checked.prog 5 Tryz.f5 (Rows.OpenSpec.upto Rows.storeNumbersSpec).bare Rows.storeNumbersUptoRow=true:=by
  unfold joinedFacts;rw [closed2.1,closed2.2,fa1,fa2,fa3,fa4,fa5,fa6,pf1,pf2]
  kernel_rfl
theorem table:TableOk Tryz.prog ann Φ:=qql (qll (by kernel_rfl) qvc (by kernel_rfl) qq7 (by kernel_rfl) qov qow (by kernel_rfl)) (by kernel_rfl)
set_option maxRecDepth 100000 in
theorem qim (H:Type) (enc:TypeId×Value->H) (W:World) (base:Nat) (args:Array Value) (ds gs:List (DataW H)) (before:List MemPlace)
    (hval:∀(j:Nat) t v,Tryz.f5.params[j]? =some t->args[j]? =some v->Value.okWide Tryz.prog W .any base t v)
    (hW:DataW.Whole enc Tryz.prog Tryz.f5.params.toList Rows.storeNumbersSpec.vars false W args.toList ds gs before) (hk:Rows.uptoSmall H (ds++gs)=true):
    Calls Tryz.prog 5 args W fun e W'=>∃v,e= .returned v/\Rows.storeNumbersSpec.post enc Tryz.prog Tryz.f5 false true false false W args v W':=
  qle table laid (tb:=Tryz.f5.resultTypes[0]!) rfl rfl (by kernel_rfl) (by kernel_rfl) (bk H) qm8 (by kernel_rfl) hval hW
    (fun l hl=>by
      match l,hl with
      | [d0],_=>rfl)
    (small hk) (fun vs h=>ql8 vs (by rw [Tryz.params5] at h;exact h))
set_option maxRecDepth 100000 in
theorem lifted (os:Os) (started:os.Started) (H:Type) (enc:TypeId×Value->H) (F:Stop.Interp):
    ReturnsInHanded {} Tryz.checked os 5 .any ((Rows.OpenSpec.upto Rows.storeNumbersSpec).pre6 enc Tryz.prog Tryz.f5 Rows.storeNumbersUptoRow.domain false) (((Rows.OpenSpec.upto Rows.storeNumbersSpec).at F).post enc Tryz.prog Tryz.f5 false true false false):=by
  refine returnsInHanded_of_cond (C:=Tryz.checked) (s:=Rows.OpenSpec.upto Rows.storeNumbersSpec) (k:=Rows.uptoSmall) rfl own started (by kernel_rfl) Tryz.func5
    (OpenSpec.witness (enc:=enc) (C:=Tryz.checked) (s:=Rows.OpenSpec.upto Rows.storeNumbersSpec) (k:=Rows.uptoSmall) rfl false ⟨#[],#[.agg #[.string ByteArray.empty,.slice none 0 0,.slice none 0 0,.slice none 0 0,.slice none 0 0,.slice none 0 0,.slice none 0 0,.slice none 0 0,.slice none 0 0,.slice none 0 0,.slice none 0 0,.slice none 0 0,.slice none 0 0,.slice none 0 0]],[]⟩ 24 (by kernel_rfl) (by kernel_rfl) (by kernel_rfl)
      (x:=([.agg [.agg [.lit (.string []),.nil,.nil,.nil,.nil,.nil,.nil,.nil,.nil],.agg [.nil,.nil,.nil,.nil],.nil]],[],[])) (by kernel_rfl) rfl (by kernel_rfl)) ?_
  intro W base args ds gs before hval hW _ hk _;exact qim H enc W base args ds gs before hval hW hk
theorem proved:Rows.StoreNumbersUptoSaid:=
  OpenClaim.holds_of_cond 5 Tryz.f5 rfl rfl rfl rfl rfl rfl rfl ⟨rfl,rfl,rfl,rfl,rfl⟩ rfl rfl rfl rfl rfl (by kernel_rfl) Tryz.func5 qdl
    (of_decide_eq_true (by kernel_rfl)) (by unfold Func.isWrapper;first | (rw [if_pos (by decide+kernel)];kernel_rfl) | (rw [if_neg (by decide+kernel)];exact ⟨rfl,rfl⟩))
    (fun os started H enc _ F=>lifted os started H enc F)
end Go.Proofs.YtakklbipljodeaaGreat
