/-
  The law 'TxnInverse' returns true at every input whose readings are of bulk at most 1048576, and leaves its arguments as they were.
  Conditions: none but that bound, which the given statement itself bears.
-/
import Derived.Test.YtakklbipljodeaaGreatZU
import Derived.Test.YtakklbipljodeaaGreatFunsBK
import Derived.Test.YtakklbipljodeaaGreatRTxnInverseFa
import Derived.Test.YtakklbipljodeaaGreatRTxnInverseFb
import Derived.Test.YtakklbipljodeaaGreatRTxnInverseFc
import Derived.KernelRfl
import Derived.ClosedOfChecked
set_option linter.unusedVariables false
set_option linter.unusedSimpArgs false
set_option linter.constructorNameAsVariable false
namespace Go.Av
theorem qkx (B:Nat):Rd Go.Proofs.Tryz.prog B 9 cStr (qd5 B):=qaii Go.Proofs.Tryz.underlying9
theorem qcv (B:Nat):Rd Go.Proofs.Tryz.prog B 3 cI (okI B):=qaih Go.Proofs.Tryz.underlying3
theorem qafr (B:Nat):Rd Go.Proofs.Tryz.prog B 200 Fld.c (Fld.Ok B):=Fld.rd Go.Proofs.Tryz.underlying200 (qkx B) (qcv B)
theorem qtw (B:Nat):Rd Go.Proofs.Tryz.prog B 23 (cS 2 Fld.c) (okL B (Fld.Ok B)):=qb6 Go.Proofs.Tryz.underlying23 (by kernel_rfl) (qafr B)
theorem qafl (B:Nat):Rd Go.Proofs.Tryz.prog B 176 Header.c (Header.Ok B):=Header.rd Go.Proofs.Tryz.underlying176 (qkx B) (qtw B)
theorem qaij (B:Nat):Rd Go.Proofs.Tryz.prog B 22 (cS 2 Header.c) (okL B (Header.Ok B)):=qb6 Go.Proofs.Tryz.underlying22 (by kernel_rfl) (qafl B)
theorem qafu (B:Nat):Rd Go.Proofs.Tryz.prog B 211 Register.c (Register.Ok B):=Register.rd Go.Proofs.Tryz.underlying211 (qkx B) (qcv B) (qcv B)
theorem qaik (B:Nat):Rd Go.Proofs.Tryz.prog B 24 (cS 3 Register.c) (okL B (Register.Ok B)):=qb6 Go.Proofs.Tryz.underlying24 (by kernel_rfl) (qafu B)
theorem qp7 (B:Nat):Rd Go.Proofs.Tryz.prog B 183 FieldRef.c (FieldRef.Ok B):=FieldRef.rd Go.Proofs.Tryz.underlying183 (qcv B) (qcv B)
theorem qafx (B:Nat):Rd Go.Proofs.Tryz.prog B 321 ExprNode.c (ExprNode.Ok B):=ExprNode.rd Go.Proofs.Tryz.underlying321 (qcv B) (qcv B) (qcv B)
theorem qp8 (B:Nat):Rd Go.Proofs.Tryz.prog B 203 (cS 3 ExprNode.c) (okL B (ExprNode.Ok B)):=qb6 Go.Proofs.Tryz.underlying203 (by kernel_rfl) (qafx B)
theorem qafv (B:Nat):Rd Go.Proofs.Tryz.prog B 241 Statement.c (Statement.Ok B):=Statement.rd Go.Proofs.Tryz.underlying241 (qcv B) (qp7 B) (qcv B) (qcv B) (qp8 B) (qp8 B)
theorem qafm (B:Nat):Rd Go.Proofs.Tryz.prog B 178 (cS 7 Statement.c) (okL B (Statement.Ok B)):=qb6 Go.Proofs.Tryz.underlying178 (by kernel_rfl) (qafv B)
theorem qafn (B:Nat):Rd Go.Proofs.Tryz.prog B 180 Action.c (Action.Ok B):=Action.rd Go.Proofs.Tryz.underlying180 (qkx B) (qtw B) (qafm B)
theorem qail (B:Nat):Rd Go.Proofs.Tryz.prog B 25 (cS 3 Action.c) (okL B (Action.Ok B)):=qb6 Go.Proofs.Tryz.underlying25 (by kernel_rfl) (qafn B)
theorem qafs (B:Nat):Rd Go.Proofs.Tryz.prog B 202 TableKey.c (TableKey.Ok B):=TableKey.rd Go.Proofs.Tryz.underlying202 (qp7 B) (qcv B)
theorem qafj (B:Nat):Rd Go.Proofs.Tryz.prog B 122 (cS 3 TableKey.c) (okL B (TableKey.Ok B)):=qb6 Go.Proofs.Tryz.underlying122 (by kernel_rfl) (qafs B)
theorem qor (B:Nat):Rd Go.Proofs.Tryz.prog B 29 (cS 1 cI) (okL B (okI B)):=qb6 Go.Proofs.Tryz.underlying29 (by kernel_rfl) (qcv B)
theorem qj3 (B:Nat):Rd Go.Proofs.Tryz.prog B 112 c32 (ok32 B):=qaiz Go.Proofs.Tryz.underlying112
theorem qz1 (B:Nat):Rd Go.Proofs.Tryz.prog B 54 (cS 1 c32) (okL B (ok32 B)):=qb6 Go.Proofs.Tryz.underlying54 (by kernel_rfl) (qj3 B)
theorem qos (B:Nat):Rd Go.Proofs.Tryz.prog B 56 ActionCall.c (ActionCall.Ok B):=ActionCall.rd Go.Proofs.Tryz.underlying56 (qcv B) (qz1 B)
theorem qafk (B:Nat):Rd Go.Proofs.Tryz.prog B 124 Tbl.c (Tbl.Ok B):=Tbl.rd Go.Proofs.Tryz.underlying124 (qkx B) (qafj B) (qor B) (qos B) (qcv B)
theorem qaim (B:Nat):Rd Go.Proofs.Tryz.prog B 26 (cS 6 Tbl.c) (okL B (Tbl.Ok B)):=qb6 Go.Proofs.Tryz.underlying26 (by kernel_rfl) (qafk B)
theorem rd_t4 (B:Nat):Rd Go.Proofs.Tryz.prog B 4 cB (okT B):=qafi Go.Proofs.Tryz.underlying4
theorem qafw (B:Nat):Rd Go.Proofs.Tryz.prog B 318 SelectCase.c (SelectCase.Ok B):=SelectCase.rd Go.Proofs.Tryz.underlying318 (qj3 B) (qj3 B) (qcv B)
theorem qafo (B:Nat):Rd Go.Proofs.Tryz.prog B 184 (cS 3 SelectCase.c) (okL B (SelectCase.Ok B)):=qb6 Go.Proofs.Tryz.underlying184 (by kernel_rfl) (qafw B)
theorem qafp (B:Nat):Rd Go.Proofs.Tryz.prog B 186 ParserState.c (ParserState.Ok B):=ParserState.rd Go.Proofs.Tryz.underlying186 (qkx B) (qor B) (rd_t4 B) (qp7 B) (qafo B) (qcv B)
theorem qain (B:Nat):Rd Go.Proofs.Tryz.prog B 27 (cS 7 ParserState.c) (okL B (ParserState.Ok B)):=qb6 Go.Proofs.Tryz.underlying27 (by kernel_rfl) (qafp B)
theorem qaft (B:Nat):Rd Go.Proofs.Tryz.prog B 205 ControlNode.c (ControlNode.Ok B):=ControlNode.rd Go.Proofs.Tryz.underlying205 (qcv B) (qcv B) (qp8 B) rfl rfl Go.Proofs.Tryz.underlying28 (by kernel_rfl)
theorem qaio (B:Nat):Rd Go.Proofs.Tryz.prog B 28 (cS 5 ControlNode.c) (okL B (ControlNode.Ok B)):=qb6 Go.Proofs.Tryz.underlying28 (by kernel_rfl) (qaft B)
theorem qaip (B:Nat):Rd Go.Proofs.Tryz.prog B 31 Prg.c (Prg.Ok B):=Prg.rd Go.Proofs.Tryz.underlying31 (qkx B) (qaij B) (qtw B) (qaik B) (qail B) (qaim B) (qain B) (qaio B) (qor B)
theorem qafq (B:Nat):Rd Go.Proofs.Tryz.prog B 188 KeyMatch.c (KeyMatch.Ok B):=KeyMatch.rd Go.Proofs.Tryz.underlying188 (qj3 B) (qj3 B)
theorem qaiu (B:Nat):Rd Go.Proofs.Tryz.prog B 53 (cS 2 KeyMatch.c) (okL B (KeyMatch.Ok B)):=qb6 Go.Proofs.Tryz.underlying53 (by kernel_rfl) (qafq B)
theorem qz2 (B:Nat):Rd Go.Proofs.Tryz.prog B 58 Entry.c (Entry.Ok B):=Entry.rd Go.Proofs.Tryz.underlying58 (qaiu B) (qcv B) (qos B)
theorem qaiv (B:Nat):Rd Go.Proofs.Tryz.prog B 66 Rw.c (Rw.Ok B):=Rw.rd Go.Proofs.Tryz.underlying66 (qcv B) (qz2 B)
theorem qaiw (B:Nat):Rd Go.Proofs.Tryz.prog B 71 (cS 5 Rw.c) (okL B (Rw.Ok B)):=qb6 Go.Proofs.Tryz.underlying71 (by kernel_rfl) (qaiv B)
theorem qaiq (B:Nat):Rd Go.Proofs.Tryz.prog B 32 (cS 1 (cS 5 Rw.c)) (okL B (okL B (Rw.Ok B))):=qb6 Go.Proofs.Tryz.underlying32 (by kernel_rfl) (qaiw B)
theorem qair (B:Nat):Rd Go.Proofs.Tryz.prog B 33 (cS 2 ActionCall.c) (okL B (ActionCall.Ok B)):=qb6 Go.Proofs.Tryz.underlying33 (by kernel_rfl) (qos B)
theorem qais (B:Nat):Rd Go.Proofs.Tryz.prog B 34 (cS 1 (cS 1 c32)) (okL B (okL B (ok32 B))):=qb6 Go.Proofs.Tryz.underlying34 (by kernel_rfl) (qz1 B)
theorem qait (B:Nat):Rd Go.Proofs.Tryz.prog B 36 Config.c (Config.Ok B):=Config.rd Go.Proofs.Tryz.underlying36 (qaiq B) (qor B) (qair B) (qais B)
theorem qaiy (B:Nat):Rd Go.Proofs.Tryz.prog B 85 TableOp.c (TableOp.Ok B):=TableOp.rd Go.Proofs.Tryz.underlying85 (qcv B) (qcv B) (qcv B) (qz2 B) (qos B)
theorem qaix (B:Nat):Rd Go.Proofs.Tryz.prog B 79 (cS 9 TableOp.c) (okL B (TableOp.Ok B)):=qb6 Go.Proofs.Tryz.underlying79 (by kernel_rfl) (qaiy B)
def tyL:List Nat:=[3,4,9,22,23,24,25,26,27,28,29,31,32,33,34,36,53,54,56,58,66,71,79,85,112,122,124,176,178,180,183,184,186,188,200,202,203,205,211,241,318,321]
theorem qajj:qhs Go.Proofs.Tryz.prog tyL=true:=by kernel_rfl
theorem qag8 {H:Type} (d:DataW H):1<=Go.Proofs.YtakklbipljodeaaGreat.Rows.uptoBulk d:=by
  cases d with
  | lit l=>cases l<;>simp [Go.Proofs.YtakklbipljodeaaGreat.Rows.uptoBulk]
  | nil=>simp [Go.Proofs.YtakklbipljodeaaGreat.Rows.uptoBulk]
  | ptr d=>simp [Go.Proofs.YtakklbipljodeaaGreat.Rows.uptoBulk]
  | slice elems spare=>simp [Go.Proofs.YtakklbipljodeaaGreat.Rows.uptoBulk]
  | agg parts=>simp [Go.Proofs.YtakklbipljodeaaGreat.Rows.uptoBulk]
  | iface t d=>simp [Go.Proofs.YtakklbipljodeaaGreat.Rows.uptoBulk]
  | map entries=>simp [Go.Proofs.YtakklbipljodeaaGreat.Rows.uptoBulk]
  | held h=>simp [Go.Proofs.YtakklbipljodeaaGreat.Rows.uptoBulk]
def bk (H:Type):BulkFn H where
  one:=Go.Proofs.YtakklbipljodeaaGreat.Rows.uptoBulk
  all:=Go.Proofs.YtakklbipljodeaaGreat.Rows.uptoBulkAll
  nil:=by simp [Go.Proofs.YtakklbipljodeaaGreat.Rows.uptoBulkAll]
  cons:=fun d r=>by simp [Go.Proofs.YtakklbipljodeaaGreat.Rows.uptoBulkAll]
  slice:=fun e s=>by simp [Go.Proofs.YtakklbipljodeaaGreat.Rows.uptoBulk]
  agg:=fun e=>by simp [Go.Proofs.YtakklbipljodeaaGreat.Rows.uptoBulk]
  str:=fun b=>by simp [Go.Proofs.YtakklbipljodeaaGreat.Rows.uptoBulk]
  pos:=qag8
theorem small {H:Type} {l:List (DataW H)} (h:Go.Proofs.YtakklbipljodeaaGreat.Rows.uptoSmall H l=true):(bk H).all l<=qa9:=qw9 (of_decide_eq_true h)
theorem qadl:qd3 Go.Proofs.Tryz.prog 31=true:=by kernel_rfl
theorem qadm:qd3 Go.Proofs.Tryz.prog 36=true:=by kernel_rfl
theorem qadn:qd3 Go.Proofs.Tryz.prog 79=false:=by kernel_rfl
theorem qah1 (vs:List AV) (h:WTVs Go.Proofs.Tryz.prog qa9 [31,36,79] vs):qab Φ 13 vs=some (.val (.bool true)):=by
  obtain ⟨a0,vs,rfl,h0,h⟩:=qma h;obtain ⟨a1,vs,rfl,h1,h⟩:=qma h;obtain ⟨a2,vs,rfl,h2,h⟩:=qma h;obtain rfl:=qade h;obtain ⟨x0,rfl,o0⟩:=qwe h0 qadl (qaip qa9);obtain ⟨x1,rfl,o1⟩:=qwe h1 qadm (qait qa9);obtain ⟨x2,e2,o2⟩:=qagq h2 qadn (qaix qa9);cases e2;exact qpf x0 x1 x2 o0 o1 o2
end Go.Av
namespace Go.Proofs.YtakklbipljodeaaGreat
open Go.ChangeShapes Go.WideShapes Go.ChangeAt Go.RowKit Go.Av
theorem own:ownKnob Tryz.prog.godebug=none:=by kernel_rfl
theorem laid:laidOutB Tryz.prog=true:=closed2.1
theorem qhe:joinedFacts Tryz.checked.prog 13 Tryz.f13 (Rows.OpenSpec.upto Rows.txnInverseSpec).bare Rows.txnInverseUptoRow=true:=by
  unfold joinedFacts;rw [closed2.1,closed2.2,fa1,fa2,fa3,fa4,fa5,fa6,pf1,pf2]
  kernel_rfl
theorem table:TableOk Tryz.prog ann Φ:=qaev (qx0 (by kernel_rfl) qajh (by kernel_rfl) qagl (by kernel_rfl) qac2 qac3 (by kernel_rfl)) (by kernel_rfl)
set_option maxRecDepth 100000 in
theorem qaa3 (H:Type) (enc:TypeId×Value->H) (W:World) (base:Nat) (args:Array Value) (ds gs:List (DataW H)) (before:List MemPlace)
    (hval:∀(j:Nat) t v,Tryz.f13.params[j]? =some t->args[j]? =some v->Value.okWide Tryz.prog W .any base t v)
    (hW:DataW.Whole enc Tryz.prog Tryz.f13.params.toList Rows.txnInverseSpec.vars false W args.toList ds gs before) (hk:Rows.uptoSmall H (ds++gs)=true):
    Calls Tryz.prog 13 args W fun e W'=>∃v,e= .returned v/\Rows.txnInverseSpec.post enc Tryz.prog Tryz.f13 false true false false W args v W':=
  qxo table laid (tb:=Tryz.f13.resultTypes[0]!) rfl rfl (by kernel_rfl) (by kernel_rfl) (bk H) qajj (by kernel_rfl) hval hW
    (fun l hl=>by
      match l,hl with
      | [d0,d1,d2],_=>rfl)
    (small hk) (fun vs h=>qah1 vs (by rw [Tryz.params13] at h;exact h))
set_option maxRecDepth 100000 in
theorem lifted (os:Os) (started:os.Started) (H:Type) (enc:TypeId×Value->H) (F:Stop.Interp):
    ReturnsInHanded {} Tryz.checked os 13 .any ((Rows.OpenSpec.upto Rows.txnInverseSpec).pre6 enc Tryz.prog Tryz.f13 Rows.txnInverseUptoRow.domain false) (((Rows.OpenSpec.upto Rows.txnInverseSpec).at F).post enc Tryz.prog Tryz.f13 false true false false):=by
  refine returnsInHanded_of_cond (C:=Tryz.checked) (s:=Rows.OpenSpec.upto Rows.txnInverseSpec) (k:=Rows.uptoSmall) rfl own started (by kernel_rfl) Tryz.func13
    (OpenSpec.witness (enc:=enc) (C:=Tryz.checked) (s:=Rows.OpenSpec.upto Rows.txnInverseSpec) (k:=Rows.uptoSmall) rfl false ⟨#[],#[.agg #[.string ByteArray.empty,.slice none 0 0,.slice none 0 0,.slice none 0 0,.slice none 0 0,.slice none 0 0,.slice none 0 0,.slice none 0 0,.slice none 0 0],.agg #[.slice none 0 0,.slice none 0 0,.slice none 0 0,.slice none 0 0],.slice none 0 0],[]⟩ 24 (by kernel_rfl) (by kernel_rfl) (by kernel_rfl)
      (x:=([.agg [.lit (.string []),.nil,.nil,.nil,.nil,.nil,.nil,.nil,.nil],.agg [.nil,.nil,.nil,.nil],.nil],[],[])) (by kernel_rfl) rfl (by kernel_rfl)) ?_
  intro W base args ds gs before hval hW _ hk _;exact qaa3 H enc W base args ds gs before hval hW hk
theorem proved:Rows.TxnInverseUptoSaid:=
  OpenClaim.holds_of_cond 13 Tryz.f13 rfl rfl rfl rfl rfl rfl rfl ⟨rfl,rfl,rfl,rfl,rfl⟩ rfl rfl rfl rfl rfl (by kernel_rfl) Tryz.func13 qhe
    (of_decide_eq_true (by kernel_rfl)) (by unfold Func.isWrapper;first | (rw [if_pos (by decide+kernel)];kernel_rfl) | (rw [if_neg (by decide+kernel)];exact ⟨rfl,rfl⟩))
    (fun os started H enc _ F=>lifted os started H enc F)
end Go.Proofs.YtakklbipljodeaaGreat
