/-
  The law 'StoreChecks' returns true at every input whose readings are of bulk at most 1048576, and leaves its arguments as they were.
  Conditions: none but that bound, which the given statement itself bears.
-/
import Derived.Test.YtakklbipljodeaaGreatH12
import Derived.Test.YtakklbipljodeaaGreatFunsBK
import Derived.Test.YtakklbipljodeaaGreatRStoreChecksFa
import Derived.Test.YtakklbipljodeaaGreatRStoreChecksFb
import Derived.Test.YtakklbipljodeaaGreatRStoreChecksFc
import Derived.KernelRfl
import Derived.ClosedOfChecked
set_option linter.unusedVariables false
set_option linter.unusedSimpArgs false
set_option linter.constructorNameAsVariable false
namespace Go.Av
theorem qjs (B:Nat):Rd Go.Proofs.Tryz.prog B 9 cStr (qdq B):=qaej Go.Proofs.Tryz.underlying9
theorem qc0 (B:Nat):Rd Go.Proofs.Tryz.prog B 3 cI (okI B):=qaei Go.Proofs.Tryz.underlying3
theorem qaby (B:Nat):Rd Go.Proofs.Tryz.prog B 200 Fld.c (Fld.Ok B):=Fld.rd Go.Proofs.Tryz.underlying200 (qjs B) (qc0 B)
theorem qrg (B:Nat):Rd Go.Proofs.Tryz.prog B 23 (cS 2 Fld.c) (okL B (Fld.Ok B)):=qb0 Go.Proofs.Tryz.underlying23 (by kernel_rfl) (qaby B)
theorem qabs (B:Nat):Rd Go.Proofs.Tryz.prog B 176 Header.c (Header.Ok B):=Header.rd Go.Proofs.Tryz.underlying176 (qjs B) (qrg B)
theorem qaek (B:Nat):Rd Go.Proofs.Tryz.prog B 22 (cS 2 Header.c) (okL B (Header.Ok B)):=qb0 Go.Proofs.Tryz.underlying22 (by kernel_rfl) (qabs B)
theorem qab1 (B:Nat):Rd Go.Proofs.Tryz.prog B 211 Register.c (Register.Ok B):=Register.rd Go.Proofs.Tryz.underlying211 (qjs B) (qc0 B) (qc0 B)
theorem qael (B:Nat):Rd Go.Proofs.Tryz.prog B 24 (cS 3 Register.c) (okL B (Register.Ok B)):=qb0 Go.Proofs.Tryz.underlying24 (by kernel_rfl) (qab1 B)
theorem qn7 (B:Nat):Rd Go.Proofs.Tryz.prog B 183 FieldRef.c (FieldRef.Ok B):=FieldRef.rd Go.Proofs.Tryz.underlying183 (qc0 B) (qc0 B)
theorem qab4 (B:Nat):Rd Go.Proofs.Tryz.prog B 321 ExprNode.c (ExprNode.Ok B):=ExprNode.rd Go.Proofs.Tryz.underlying321 (qc0 B) (qc0 B) (qc0 B)
theorem qn8 (B:Nat):Rd Go.Proofs.Tryz.prog B 203 (cS 3 ExprNode.c) (okL B (ExprNode.Ok B)):=qb0 Go.Proofs.Tryz.underlying203 (by kernel_rfl) (qab4 B)
theorem qab2 (B:Nat):Rd Go.Proofs.Tryz.prog B 241 Statement.c (Statement.Ok B):=Statement.rd Go.Proofs.Tryz.underlying241 (qc0 B) (qn7 B) (qc0 B) (qc0 B) (qn8 B) (qn8 B)
theorem qabt (B:Nat):Rd Go.Proofs.Tryz.prog B 178 (cS 7 Statement.c) (okL B (Statement.Ok B)):=qb0 Go.Proofs.Tryz.underlying178 (by kernel_rfl) (qab2 B)
theorem qabu (B:Nat):Rd Go.Proofs.Tryz.prog B 180 Action.c (Action.Ok B):=Action.rd Go.Proofs.Tryz.underlying180 (qjs B) (qrg B) (qabt B)
theorem qaem (B:Nat):Rd Go.Proofs.Tryz.prog B 25 (cS 3 Action.c) (okL B (Action.Ok B)):=qb0 Go.Proofs.Tryz.underlying25 (by kernel_rfl) (qabu B)
theorem qabz (B:Nat):Rd Go.Proofs.Tryz.prog B 202 TableKey.c (TableKey.Ok B):=TableKey.rd Go.Proofs.Tryz.underlying202 (qn7 B) (qc0 B)
theorem qabq (B:Nat):Rd Go.Proofs.Tryz.prog B 122 (cS 3 TableKey.c) (okL B (TableKey.Ok B)):=qb0 Go.Proofs.Tryz.underlying122 (by kernel_rfl) (qabz B)
theorem qm6 (B:Nat):Rd Go.Proofs.Tryz.prog B 29 (cS 1 cI) (okL B (okI B)):=qb0 Go.Proofs.Tryz.underlying29 (by kernel_rfl) (qc0 B)
theorem qi0 (B:Nat):Rd Go.Proofs.Tryz.prog B 112 c32 (ok32 B):=qaez Go.Proofs.Tryz.underlying112
theorem qwq (B:Nat):Rd Go.Proofs.Tryz.prog B 54 (cS 1 c32) (okL B (ok32 B)):=qb0 Go.Proofs.Tryz.underlying54 (by kernel_rfl) (qi0 B)
theorem qrh (B:Nat):Rd Go.Proofs.Tryz.prog B 56 ActionCall.c (ActionCall.Ok B):=ActionCall.rd Go.Proofs.Tryz.underlying56 (qc0 B) (qwq B)
theorem qabr (B:Nat):Rd Go.Proofs.Tryz.prog B 124 Tbl.c (Tbl.Ok B):=Tbl.rd Go.Proofs.Tryz.underlying124 (qjs B) (qabq B) (qm6 B) (qrh B) (qc0 B)
theorem qaen (B:Nat):Rd Go.Proofs.Tryz.prog B 26 (cS 6 Tbl.c) (okL B (Tbl.Ok B)):=qb0 Go.Proofs.Tryz.underlying26 (by kernel_rfl) (qabr B)
theorem rd_t4 (B:Nat):Rd Go.Proofs.Tryz.prog B 4 cB (okT B):=qabp Go.Proofs.Tryz.underlying4
theorem qab3 (B:Nat):Rd Go.Proofs.Tryz.prog B 318 SelectCase.c (SelectCase.Ok B):=SelectCase.rd Go.Proofs.Tryz.underlying318 (qi0 B) (qi0 B) (qc0 B)
theorem qabv (B:Nat):Rd Go.Proofs.Tryz.prog B 184 (cS 3 SelectCase.c) (okL B (SelectCase.Ok B)):=qb0 Go.Proofs.Tryz.underlying184 (by kernel_rfl) (qab3 B)
theorem qabw (B:Nat):Rd Go.Proofs.Tryz.prog B 186 ParserState.c (ParserState.Ok B):=ParserState.rd Go.Proofs.Tryz.underlying186 (qjs B) (qm6 B) (rd_t4 B) (qn7 B) (qabv B) (qc0 B)
theorem qaeo (B:Nat):Rd Go.Proofs.Tryz.prog B 27 (cS 7 ParserState.c) (okL B (ParserState.Ok B)):=qb0 Go.Proofs.Tryz.underlying27 (by kernel_rfl) (qabw B)
theorem qab0 (B:Nat):Rd Go.Proofs.Tryz.prog B 205 ControlNode.c (ControlNode.Ok B):=ControlNode.rd Go.Proofs.Tryz.underlying205 (qc0 B) (qc0 B) (qn8 B) rfl rfl Go.Proofs.Tryz.underlying28 (by kernel_rfl)
theorem qaep (B:Nat):Rd Go.Proofs.Tryz.prog B 28 (cS 5 ControlNode.c) (okL B (ControlNode.Ok B)):=qb0 Go.Proofs.Tryz.underlying28 (by kernel_rfl) (qab0 B)
theorem qaeq (B:Nat):Rd Go.Proofs.Tryz.prog B 31 Prg.c (Prg.Ok B):=Prg.rd Go.Proofs.Tryz.underlying31 (qjs B) (qaek B) (qrg B) (qael B) (qaem B) (qaen B) (qaeo B) (qaep B) (qm6 B)
theorem qabx (B:Nat):Rd Go.Proofs.Tryz.prog B 188 KeyMatch.c (KeyMatch.Ok B):=KeyMatch.rd Go.Proofs.Tryz.underlying188 (qi0 B) (qi0 B)
theorem qaev (B:Nat):Rd Go.Proofs.Tryz.prog B 53 (cS 2 KeyMatch.c) (okL B (KeyMatch.Ok B)):=qb0 Go.Proofs.Tryz.underlying53 (by kernel_rfl) (qabx B)
theorem qaew (B:Nat):Rd Go.Proofs.Tryz.prog B 58 Entry.c (Entry.Ok B):=Entry.rd Go.Proofs.Tryz.underlying58 (qaev B) (qc0 B) (qrh B)
theorem qaex (B:Nat):Rd Go.Proofs.Tryz.prog B 66 Rw.c (Rw.Ok B):=Rw.rd Go.Proofs.Tryz.underlying66 (qc0 B) (qaew B)
theorem qaey (B:Nat):Rd Go.Proofs.Tryz.prog B 71 (cS 5 Rw.c) (okL B (Rw.Ok B)):=qb0 Go.Proofs.Tryz.underlying71 (by kernel_rfl) (qaex B)
theorem qaer (B:Nat):Rd Go.Proofs.Tryz.prog B 32 (cS 1 (cS 5 Rw.c)) (okL B (okL B (Rw.Ok B))):=qb0 Go.Proofs.Tryz.underlying32 (by kernel_rfl) (qaey B)
theorem qaes (B:Nat):Rd Go.Proofs.Tryz.prog B 33 (cS 2 ActionCall.c) (okL B (ActionCall.Ok B)):=qb0 Go.Proofs.Tryz.underlying33 (by kernel_rfl) (qrh B)
theorem qaet (B:Nat):Rd Go.Proofs.Tryz.prog B 34 (cS 1 (cS 1 c32)) (okL B (okL B (ok32 B))):=qb0 Go.Proofs.Tryz.underlying34 (by kernel_rfl) (qwq B)
theorem qaeu (B:Nat):Rd Go.Proofs.Tryz.prog B 36 Config.c (Config.Ok B):=Config.rd Go.Proofs.Tryz.underlying36 (qaer B) (qm6 B) (qaes B) (qaet B)
def tyL:List Nat:=[3,4,9,22,23,24,25,26,27,28,29,31,32,33,34,36,53,54,56,58,66,71,112,122,124,176,178,180,183,184,186,188,200,202,203,205,211,241,318,321]
theorem qafk:qgv Go.Proofs.Tryz.prog tyL=true:=by kernel_rfl
theorem qadc {H:Type} (d:DataW H):1≤Go.Proofs.YtakklbipljodeaaGreat.Rows.uptoBulk d:=by
  cases d with
  | lit l=>cases l<;>simp [Go.Proofs.YtakklbipljodeaaGreat.Rows.uptoBulk]
  | nil=>simp [Go.Proofs.YtakklbipljodeaaGreat.Rows.uptoBulk]
  | ptr d=>simp [Go.Proofs.YtakklbipljodeaaGreat.Rows.uptoBulk]
  | slice elems spare=>simp [Go.Proofs.YtakklbipljodeaaGreat.Rows.uptoBulk]
  | agg parts=>simp [Go.Proofs.YtakklbipljodeaaGreat.Rows.uptoBulk]
  | iface t d=>simp [Go.Proofs.YtakklbipljodeaaGreat.Rows.uptoBulk]
  | map entries=>simp [Go.Proofs.YtakklbipljodeaaGreat.Rows.uptoBulk]
  | held h=>simp [Go.Proofs.YtakklbipljodeaaGreat.Rows.uptoBulk]
def bk (H:Type):BulkFn H where
  one:=Go.Proofs.YtakklbipljodeaaGreat.Rows.uptoBulk
  all:=Go.Proofs.YtakklbipljodeaaGreat.Rows.uptoBulkAll
  nil:=by simp [Go.Proofs.YtakklbipljodeaaGreat.Rows.uptoBulkAll]
  cons:=fun d r=>by simp [Go.Proofs.YtakklbipljodeaaGreat.Rows.uptoBulkAll]
  slice:=fun e s=>by simp [Go.Proofs.YtakklbipljodeaaGreat.Rows.uptoBulk]
  agg:=fun e=>by simp [Go.Proofs.YtakklbipljodeaaGreat.Rows.uptoBulk]
  str:=fun b=>by simp [Go.Proofs.YtakklbipljodeaaGreat.Rows.uptoBulk]
  pos:=qadc
theorem small {H:Type} {l:List (DataW H)} (h:Go.Proofs.YtakklbipljodeaaGreat.Rows.uptoSmall H l=true):(bk H).all l≤qbo:=quc (of_decide_eq_true h)
theorem qz5:qd7 Go.Proofs.Tryz.prog 31=true:=by kernel_rfl
theorem qz6:qd7 Go.Proofs.Tryz.prog 36=true:=by kernel_rfl
theorem qad0 (vs:List AV) (h:WTVs Go.Proofs.Tryz.prog qbo [31,36] vs):qab Φ 3 vs=some (.val (.bool true)):=by
  obtain ⟨a0,vs,rfl,h0,h⟩:=qpf h
  obtain ⟨a1,vs,rfl,h1,h⟩:=qpf h
  obtain rfl:=qzz h
  obtain ⟨x0,rfl,o0⟩:=qtj h0 qz5 (qaeq qbo)
  obtain ⟨x1,rfl,o1⟩:=qtj h1 qz6 (qaeu qbo)
  exact qmh x0 x1 o0 o1
end Go.Av
namespace Go.Proofs.YtakklbipljodeaaGreat
open Go.ChangeShapes Go.WideShapes Go.ChangeAt Go.RowKit Go.Av
theorem own:ownKnob Tryz.prog.godebug=none:=by kernel_rfl
theorem laid:laidOutB Tryz.prog=true:=closed2.1
theorem qgn:joinedFacts Tryz.checked.prog 3 Tryz.f3 (Rows.OpenSpec.upto Rows.storeChecksSpec).bare Rows.storeChecksUptoRow=true:=by
  unfold joinedFacts
  rw [closed2.1,closed2.2,fa1,fa2,fa3,fa4,fa5,fa6,pf1,pf2]
  kernel_rfl
theorem table:TableOk Tryz.prog ann Φ:=ktab_of (qux (by kernel_rfl) qafi (by kernel_rfl) qact (by kernel_rfl) qzn qzo (by kernel_rfl)) (by kernel_rfl)
set_option maxRecDepth 100000 in
theorem qxq (H:Type) (enc:TypeId×Value→H) (W:World) (base:Nat) (args:Array Value) (ds gs:List (DataW H)) (before:List MemPlace)
    (hval:∀(j:Nat) t v,Tryz.f3.params[j]? =some t→args[j]? =some v→Value.okWide Tryz.prog W .any base t v)
    (hW:DataW.Whole enc Tryz.prog Tryz.f3.params.toList Rows.storeChecksSpec.vars false W args.toList ds gs before) (hk:Rows.uptoSmall H (ds++gs)=true):
    Calls Tryz.prog 3 args W fun e W'=>∃v,e= .returned v∧Rows.storeChecksSpec.post enc Tryz.prog Tryz.f3 false true false false W args v W':=
  qum table laid (tb:=Tryz.f3.resultTypes[0]!) rfl rfl (by kernel_rfl) (by kernel_rfl) (bk H) qafk (by kernel_rfl) hval hW
    (fun l hl=>by
      match l,hl with
      | [d0,d1],_=>rfl)
    (small hk) (fun vs h=>qad0 vs (by rw [Tryz.params3] at h;exact h))
set_option maxRecDepth 100000 in
theorem lifted (os:Os) (started:os.Started) (H:Type) (enc:TypeId×Value→H) (F:Stop.Interp):
    ReturnsInHanded {} Tryz.checked os 3 .any ((Rows.OpenSpec.upto Rows.storeChecksSpec).pre6 enc Tryz.prog Tryz.f3 Rows.storeChecksUptoRow.domain false) (((Rows.OpenSpec.upto Rows.storeChecksSpec).at F).post enc Tryz.prog Tryz.f3 false true false false):=by
  refine returnsInHanded_of_cond (C:=Tryz.checked) (s:=Rows.OpenSpec.upto Rows.storeChecksSpec) (k:=Rows.uptoSmall) rfl own started (by kernel_rfl) Tryz.func3
    (OpenSpec.witness (enc:=enc) (C:=Tryz.checked) (s:=Rows.OpenSpec.upto Rows.storeChecksSpec) (k:=Rows.uptoSmall) rfl false ⟨#[],#[.agg #[.string ByteArray.empty,.slice none 0 0,.slice none 0 0,.slice none 0 0,.slice none 0 0,.slice none 0 0,.slice none 0 0,.slice none 0 0,.slice none 0 0],.agg #[.slice none 0 0,.slice none 0 0,.slice none 0 0,.slice none 0 0]],[]⟩ 24 (by kernel_rfl) (by kernel_rfl) (by kernel_rfl)
      (x:=([.agg [.lit (.string []),.nil,.nil,.nil,.nil,.nil,.nil,.nil,.nil],.agg [.nil,.nil,.nil,.nil]],[],[])) (by kernel_rfl) rfl (by kernel_rfl)) ?_
  intro W base args ds gs before hval hW _ hk _
  exact qxq H enc W base args ds gs before hval hW hk
theorem proved:Rows.StoreChecksUptoSaid:=
  OpenClaim.holds_of_cond 3 Tryz.f3 rfl rfl rfl rfl rfl rfl rfl ⟨rfl,rfl,rfl,rfl,rfl⟩ rfl rfl rfl rfl rfl (by kernel_rfl) Tryz.func3 qgn
    (of_decide_eq_true (by kernel_rfl)) (by unfold Func.isWrapper;first | (rw [if_pos (by decide+kernel)];kernel_rfl) | (rw [if_neg (by decide+kernel)];exact ⟨rfl,rfl⟩))
    (fun os started H enc _ F=>lifted os started H enc F)
end Go.Proofs.YtakklbipljodeaaGreat
