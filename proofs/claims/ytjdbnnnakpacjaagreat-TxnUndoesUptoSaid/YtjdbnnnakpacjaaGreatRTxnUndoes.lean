/-
  The law 'TxnUndoes' returns true at every input whose readings are of bulk at most 1048576, and leaves its arguments as they were.
  Conditions: none but that bound, which the given statement itself bears.
-/
import Derived.Test.YtjdbnnnakpacjaaGreatZY
import Derived.Test.YtjdbnnnakpacjaaGreatFunsBU
import Derived.Test.YtjdbnnnakpacjaaGreatRTxnUndoesFa
import Derived.Test.YtjdbnnnakpacjaaGreatRTxnUndoesFb
import Derived.Test.YtjdbnnnakpacjaaGreatRTxnUndoesFc
import Derived.KernelRfl
import Derived.ClosedOfChecked
set_option linter.unusedVariables false
set_option linter.unusedSimpArgs false
set_option linter.constructorNameAsVariable false
namespace Go.Av
theorem qd9 (B:Nat):Rd Go.Proofs.Tryz.prog B 9 cStr (qdn B):=qzl Go.Proofs.Tryz.underlying9
theorem qa1 (B:Nat):Rd Go.Proofs.Tryz.prog B 3 cI (okI B):=qzk Go.Proofs.Tryz.underlying3
theorem qpr (B:Nat):Rd Go.Proofs.Tryz.prog B 153 Fld.c (Fld.Ok B):=Fld.rd Go.Proofs.Tryz.underlying153 (qd9 B) (qa1 B)
theorem qh8 (B:Nat):Rd Go.Proofs.Tryz.prog B 23 (cS 2 Fld.c) (okL B (Fld.Ok B)):=qas Go.Proofs.Tryz.underlying23 (by kernel_rfl) (qpr B)
theorem qpi (B:Nat):Rd Go.Proofs.Tryz.prog B 134 Header.c (Header.Ok B):=Header.rd Go.Proofs.Tryz.underlying134 (qd9 B) (qh8 B)
theorem qta (B:Nat):Rd Go.Proofs.Tryz.prog B 22 (cS 2 Header.c) (okL B (Header.Ok B)):=qas Go.Proofs.Tryz.underlying22 (by kernel_rfl) (qpi B)
theorem qpj (B:Nat):Rd Go.Proofs.Tryz.prog B 136 Register.c (Register.Ok B):=Register.rd Go.Proofs.Tryz.underlying136 (qd9 B) (qa1 B) (qa1 B)
theorem qtb (B:Nat):Rd Go.Proofs.Tryz.prog B 24 (cS 3 Register.c) (okL B (Register.Ok B)):=qas Go.Proofs.Tryz.underlying24 (by kernel_rfl) (qpj B)
theorem qgp (B:Nat):Rd Go.Proofs.Tryz.prog B 145 FieldRef.c (FieldRef.Ok B):=FieldRef.rd Go.Proofs.Tryz.underlying145 (qa1 B) (qa1 B)
theorem qpw (B:Nat):Rd Go.Proofs.Tryz.prog B 270 ExprNode.c (ExprNode.Ok B):=ExprNode.rd Go.Proofs.Tryz.underlying270 (qa1 B) (qa1 B) (qa1 B)
theorem qgq (B:Nat):Rd Go.Proofs.Tryz.prog B 186 (cS 3 ExprNode.c) (okL B (ExprNode.Ok B)):=qas Go.Proofs.Tryz.underlying186 (by kernel_rfl) (qpw B)
theorem qpu (B:Nat):Rd Go.Proofs.Tryz.prog B 225 Statement.c (Statement.Ok B):=Statement.rd Go.Proofs.Tryz.underlying225 (qa1 B) (qgp B) (qa1 B) (qa1 B) (qgq B) (qgq B)
theorem qpk (B:Nat):Rd Go.Proofs.Tryz.prog B 138 (cS 7 Statement.c) (okL B (Statement.Ok B)):=qas Go.Proofs.Tryz.underlying138 (by kernel_rfl) (qpu B)
theorem qpl (B:Nat):Rd Go.Proofs.Tryz.prog B 140 Action.c (Action.Ok B):=Action.rd Go.Proofs.Tryz.underlying140 (qd9 B) (qh8 B) (qpk B)
theorem qtc (B:Nat):Rd Go.Proofs.Tryz.prog B 25 (cS 3 Action.c) (okL B (Action.Ok B)):=qas Go.Proofs.Tryz.underlying25 (by kernel_rfl) (qpl B)
theorem qps (B:Nat):Rd Go.Proofs.Tryz.prog B 155 TableKey.c (TableKey.Ok B):=TableKey.rd Go.Proofs.Tryz.underlying155 (qgp B) (qa1 B)
theorem qpm (B:Nat):Rd Go.Proofs.Tryz.prog B 141 (cS 3 TableKey.c) (okL B (TableKey.Ok B)):=qas Go.Proofs.Tryz.underlying141 (by kernel_rfl) (qps B)
theorem qf7 (B:Nat):Rd Go.Proofs.Tryz.prog B 29 (cS 1 cI) (okL B (okI B)):=qas Go.Proofs.Tryz.underlying29 (by kernel_rfl) (qa1 B)
theorem qeu (B:Nat):Rd Go.Proofs.Tryz.prog B 96 c32 (ok32 B):=qzm Go.Proofs.Tryz.underlying96
theorem qli (B:Nat):Rd Go.Proofs.Tryz.prog B 47 (cS 1 c32) (okL B (ok32 B)):=qas Go.Proofs.Tryz.underlying47 (by kernel_rfl) (qeu B)
theorem qf8 (B:Nat):Rd Go.Proofs.Tryz.prog B 49 ActionCall.c (ActionCall.Ok B):=ActionCall.rd Go.Proofs.Tryz.underlying49 (qa1 B) (qli B)
theorem qpn (B:Nat):Rd Go.Proofs.Tryz.prog B 143 Tbl.c (Tbl.Ok B):=Tbl.rd Go.Proofs.Tryz.underlying143 (qd9 B) (qpm B) (qf7 B) (qf8 B) (qa1 B)
theorem qtd (B:Nat):Rd Go.Proofs.Tryz.prog B 26 (cS 6 Tbl.c) (okL B (Tbl.Ok B)):=qas Go.Proofs.Tryz.underlying26 (by kernel_rfl) (qpn B)
theorem qxc (B:Nat):Rd Go.Proofs.Tryz.prog B 4 cB (okT B):=qvy Go.Proofs.Tryz.underlying4
theorem qpv (B:Nat):Rd Go.Proofs.Tryz.prog B 267 SelectCase.c (SelectCase.Ok B):=SelectCase.rd Go.Proofs.Tryz.underlying267 (qeu B) (qeu B) (qa1 B)
theorem qpo (B:Nat):Rd Go.Proofs.Tryz.prog B 146 (cS 3 SelectCase.c) (okL B (SelectCase.Ok B)):=qas Go.Proofs.Tryz.underlying146 (by kernel_rfl) (qpv B)
theorem qpp (B:Nat):Rd Go.Proofs.Tryz.prog B 148 ParserState.c (ParserState.Ok B):=ParserState.rd Go.Proofs.Tryz.underlying148 (qd9 B) (qf7 B) (qxc B) (qgp B) (qpo B) (qa1 B)
theorem qte (B:Nat):Rd Go.Proofs.Tryz.prog B 27 (cS 7 ParserState.c) (okL B (ParserState.Ok B)):=qas Go.Proofs.Tryz.underlying27 (by kernel_rfl) (qpp B)
theorem qpt (B:Nat):Rd Go.Proofs.Tryz.prog B 188 ControlNode.c (ControlNode.Ok B):=ControlNode.rd Go.Proofs.Tryz.underlying188 (qa1 B) (qa1 B) (qgq B) rfl rfl Go.Proofs.Tryz.underlying28 (by kernel_rfl)
theorem qtf (B:Nat):Rd Go.Proofs.Tryz.prog B 28 (cS 5 ControlNode.c) (okL B (ControlNode.Ok B)):=qas Go.Proofs.Tryz.underlying28 (by kernel_rfl) (qpt B)
theorem qtg (B:Nat):Rd Go.Proofs.Tryz.prog B 31 Prg.c (Prg.Ok B):=Prg.rd Go.Proofs.Tryz.underlying31 (qd9 B) (qta B) (qh8 B) (qtb B) (qtc B) (qtd B) (qte B) (qtf B) (qf7 B)
theorem qph (B:Nat):Rd Go.Proofs.Tryz.prog B 120 KeyMatch.c (KeyMatch.Ok B):=KeyMatch.rd Go.Proofs.Tryz.underlying120 (qeu B) (qeu B)
theorem qtm (B:Nat):Rd Go.Proofs.Tryz.prog B 46 (cS 2 KeyMatch.c) (okL B (KeyMatch.Ok B)):=qas Go.Proofs.Tryz.underlying46 (by kernel_rfl) (qph B)
theorem qlj (B:Nat):Rd Go.Proofs.Tryz.prog B 51 Entry.c (Entry.Ok B):=Entry.rd Go.Proofs.Tryz.underlying51 (qtm B) (qa1 B) (qf8 B)
theorem qpq (B:Nat):Rd Go.Proofs.Tryz.prog B 151 Rw.c (Rw.Ok B):=Rw.rd Go.Proofs.Tryz.underlying151 (qa1 B) (qlj B)
theorem qto (B:Nat):Rd Go.Proofs.Tryz.prog B 97 (cS 5 Rw.c) (okL B (Rw.Ok B)):=qas Go.Proofs.Tryz.underlying97 (by kernel_rfl) (qpq B)
theorem qth (B:Nat):Rd Go.Proofs.Tryz.prog B 32 (cS 1 (cS 5 Rw.c)) (okL B (okL B (Rw.Ok B))):=qas Go.Proofs.Tryz.underlying32 (by kernel_rfl) (qto B)
theorem qti (B:Nat):Rd Go.Proofs.Tryz.prog B 33 (cS 2 ActionCall.c) (okL B (ActionCall.Ok B)):=qas Go.Proofs.Tryz.underlying33 (by kernel_rfl) (qf8 B)
theorem qtj (B:Nat):Rd Go.Proofs.Tryz.prog B 34 (cS 1 (cS 1 c32)) (okL B (okL B (ok32 B))):=qas Go.Proofs.Tryz.underlying34 (by kernel_rfl) (qli B)
theorem qtk (B:Nat):Rd Go.Proofs.Tryz.prog B 36 Config.c (Config.Ok B):=Config.rd Go.Proofs.Tryz.underlying36 (qth B) (qf7 B) (qti B) (qtj B)
theorem qtn (B:Nat):Rd Go.Proofs.Tryz.prog B 53 TableOp.c (TableOp.Ok B):=TableOp.rd Go.Proofs.Tryz.underlying53 (qa1 B) (qa1 B) (qa1 B) (qlj B) (qf8 B)
theorem qtl (B:Nat):Rd Go.Proofs.Tryz.prog B 37 (cS 9 TableOp.c) (okL B (TableOp.Ok B)):=qas Go.Proofs.Tryz.underlying37 (by kernel_rfl) (qtn B)
def tyL:List Nat:=[3,4,9,22,23,24,25,26,27,28,29,31,32,33,34,36,37,46,47,49,51,53,96,97,120,134,136,138,140,141,143,145,146,148,151,153,155,186,188,225,267,270]
theorem qt7:qf5 Go.Proofs.Tryz.prog tyL=true:=by kernel_rfl
theorem qr2 {H:Type} (d:DataW H):1<=Go.Proofs.YtjdbnnnakpacjaaGreat.Rows.uptoBulk d:=by
  cases d with
  | lit l=>cases l<;>simp [Go.Proofs.YtjdbnnnakpacjaaGreat.Rows.uptoBulk]
  | nil=>simp [Go.Proofs.YtjdbnnnakpacjaaGreat.Rows.uptoBulk]
  | ptr d=>simp [Go.Proofs.YtjdbnnnakpacjaaGreat.Rows.uptoBulk]
  | slice elems spare=>simp [Go.Proofs.YtjdbnnnakpacjaaGreat.Rows.uptoBulk]
  | agg parts=>simp [Go.Proofs.YtjdbnnnakpacjaaGreat.Rows.uptoBulk]
  | iface t d=>simp [Go.Proofs.YtjdbnnnakpacjaaGreat.Rows.uptoBulk]
  | map entries=>simp [Go.Proofs.YtjdbnnnakpacjaaGreat.Rows.uptoBulk]
  | held h=>simp [Go.Proofs.YtjdbnnnakpacjaaGreat.Rows.uptoBulk]
def bk (H:Type):BulkFn H where
  one:=Go.Proofs.YtjdbnnnakpacjaaGreat.Rows.uptoBulk
  all:=Go.Proofs.YtjdbnnnakpacjaaGreat.Rows.uptoBulkAll
  nil:=by simp [Go.Proofs.YtjdbnnnakpacjaaGreat.Rows.uptoBulkAll]
  cons:=fun d r=>by simp [Go.Proofs.YtjdbnnnakpacjaaGreat.Rows.uptoBulkAll]
  slice:=fun e s=>by simp [Go.Proofs.YtjdbnnnakpacjaaGreat.Rows.uptoBulk]
  agg:=fun e=>by simp [Go.Proofs.YtjdbnnnakpacjaaGreat.Rows.uptoBulk]
  str:=fun b=>by simp [Go.Proofs.YtjdbnnnakpacjaaGreat.Rows.uptoBulk]
  pos:=qr2
theorem small {H:Type} {l:List (DataW H)} (h:Go.Proofs.YtjdbnnnakpacjaaGreat.Rows.uptoSmall H l=true):(bk H).all l<=qau:=qn0 (of_decide_eq_true h)
theorem qow:qdc Go.Proofs.Tryz.prog 31=true:=by kernel_rfl
theorem qox:qdc Go.Proofs.Tryz.prog 36=true:=by kernel_rfl
theorem qack:qdc Go.Proofs.Tryz.prog 37=false:=by kernel_rfl
theorem wtv_one {α:Type} {P:Program} {B:Nat} {t:TypeId} {v:AV} {c:α->List AV} {ok:α->Prop} (h:WTV P B t v) (hu:qdc P t=false) (hr:∀xs,WT P B t xs->∃x,xs=c x/\ok x):∃x,[v]=c x/\ok x:=by
  unfold WTV at h;rw [if_neg (by rw [hu];simp)] at h;exact hr _ h
theorem qsx (vs:List AV) (h:WTVs Go.Proofs.Tryz.prog qau [31,36,37] vs):qac Φ 3 vs=some (.val (.bool true)):=by
  obtain ⟨a0,vs,rfl,h0,h⟩:=qfu h;obtain ⟨a1,vs,rfl,h1,h⟩:=qfu h;obtain ⟨a2,vs,rfl,h2,h⟩:=qfu h;obtain rfl:=quc h;obtain ⟨x0,rfl,o0⟩:=qjm h0 qow (qtg qau);obtain ⟨x1,rfl,o1⟩:=qjm h1 qox (qtk qau);obtain ⟨x2,e2,o2⟩:=wtv_one h2 qack (qtl qau);cases e2;exact qq2 x0 x1 x2 o0 o1 o2
end Go.Av
namespace Go.Proofs.YtjdbnnnakpacjaaGreat
open Go.ChangeShapes Go.WideShapes Go.ChangeAt Go.RowKit Go.Av
theorem own:ownKnob Tryz.prog.godebug=none:=by kernel_rfl
theorem laid:laidOutB Tryz.prog=true:=closed2.1
theorem qei:joinedFacts Tryz.checked.prog 3 Tryz.f3 (Rows.OpenSpec.upto Rows.txnUndoesSpec).bare Rows.txnUndoesUptoRow=true:=by
  unfold joinedFacts;rw [closed2.1,closed2.2,fa1,fa2,fa3,fa4,fa5,fa6,pf1,pf2]
  kernel_rfl
theorem table:TableOk Tryz.prog ann Φ:=qvn (qoj (by kernel_rfl) qzw (by kernel_rfl) qv3 (by kernel_rfl) qt4 qt5 (by kernel_rfl)) (by kernel_rfl)
set_option maxRecDepth 100000 in
theorem qmy (H:Type) (enc:TypeId×Value->H) (W:World) (base:Nat) (args:Array Value) (ds gs:List (DataW H)) (before:List MemPlace)
    (hval:∀(j:Nat) t v,Tryz.f3.params[j]? =some t->args[j]? =some v->Value.okWide Tryz.prog W .any base t v)
    (hW:DataW.Whole enc Tryz.prog Tryz.f3.params.toList Rows.txnUndoesSpec.vars false W args.toList ds gs before) (hk:Rows.uptoSmall H (ds++gs)=true):
    Calls Tryz.prog 3 args W fun e W'=>∃v,e= .returned v/\Rows.txnUndoesSpec.post enc Tryz.prog Tryz.f3 false true false false W args v W':=
  qn8 table laid (tb:=Tryz.f3.resultTypes[0]!) rfl rfl (by kernel_rfl) (by kernel_rfl) (bk H) qt7 (by kernel_rfl) hval hW
    (fun l hl=>by
      match l,hl with
      | [d0,d1,d2],_=>rfl)
    (small hk) (fun vs h=>qsx vs (by rw [Tryz.params3] at h;exact h))
set_option maxRecDepth 100000 in
theorem lifted (os:Os) (started:os.Started) (H:Type) (enc:TypeId×Value->H) (F:Stop.Interp):
    ReturnsInHanded {} Tryz.checked os 3 .any ((Rows.OpenSpec.upto Rows.txnUndoesSpec).pre6 enc Tryz.prog Tryz.f3 Rows.txnUndoesUptoRow.domain false) (((Rows.OpenSpec.upto Rows.txnUndoesSpec).at F).post enc Tryz.prog Tryz.f3 false true false false):=by
  refine returnsInHanded_of_cond (C:=Tryz.checked) (s:=Rows.OpenSpec.upto Rows.txnUndoesSpec) (k:=Rows.uptoSmall) rfl own started (by kernel_rfl) Tryz.func3
    (OpenSpec.witness (enc:=enc) (C:=Tryz.checked) (s:=Rows.OpenSpec.upto Rows.txnUndoesSpec) (k:=Rows.uptoSmall) rfl false ⟨#[],#[.agg #[.string ByteArray.empty,.slice none 0 0,.slice none 0 0,.slice none 0 0,.slice none 0 0,.slice none 0 0,.slice none 0 0,.slice none 0 0,.slice none 0 0],.agg #[.slice none 0 0,.slice none 0 0,.slice none 0 0,.slice none 0 0],.slice none 0 0],[]⟩ 24 (by kernel_rfl) (by kernel_rfl) (by kernel_rfl)
      (x:=([.agg [.lit (.string []),.nil,.nil,.nil,.nil,.nil,.nil,.nil,.nil],.agg [.nil,.nil,.nil,.nil],.nil],[],[])) (by kernel_rfl) rfl (by kernel_rfl)) ?_
  intro W base args ds gs before hval hW _ hk _;exact qmy H enc W base args ds gs before hval hW hk
theorem proved:Rows.TxnUndoesUptoSaid:=
  OpenClaim.holds_of_cond 3 Tryz.f3 rfl rfl rfl rfl rfl rfl rfl ⟨rfl,rfl,rfl,rfl,rfl⟩ rfl rfl rfl rfl rfl (by kernel_rfl) Tryz.func3 qei
    (of_decide_eq_true (by kernel_rfl)) (by unfold Func.isWrapper;first | (rw [if_pos (by decide+kernel)];kernel_rfl) | (rw [if_neg (by decide+kernel)];exact ⟨rfl,rfl⟩))
    (fun os started H enc _ F=>lifted os started H enc F)
end Go.Proofs.YtjdbnnnakpacjaaGreat
