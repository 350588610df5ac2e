/-
  The law 'JournalRecords' returns true at every input whose readings are of bulk at most 1048576, and leaves its arguments as they were.
  Conditions: none but that bound, which the given statement itself bears.
-/
import Derived.Test.YtjdbnnnakpacjaaGreatJC16
import Derived.Test.YtjdbnnnakpacjaaGreatFunsBU
import Derived.Test.YtjdbnnnakpacjaaGreatRJournalRecordsFa
import Derived.Test.YtjdbnnnakpacjaaGreatRJournalRecordsFb
import Derived.Test.YtjdbnnnakpacjaaGreatRJournalRecordsFc
import Derived.Test.YtjdbnnnakpacjaaGreatRW2
import Derived.KernelRfl
import Derived.ClosedOfChecked
set_option linter.unusedVariables false
set_option linter.unusedSimpArgs false
set_option linter.constructorNameAsVariable false
namespace Go.Av
theorem qjx (B:Nat):Rd Go.Proofs.Tryz.prog B 9 cStr (qdt B):=qagj Go.Proofs.Tryz.underlying9
theorem qcq (B:Nat):Rd Go.Proofs.Tryz.prog B 3 cI (okI B):=qagi Go.Proofs.Tryz.underlying3
theorem qadm (B:Nat):Rd Go.Proofs.Tryz.prog B 153 Fld.c (Fld.Ok B):=Fld.rd Go.Proofs.Tryz.underlying153 (qjx B) (qcq B)
theorem qr5 (B:Nat):Rd Go.Proofs.Tryz.prog B 23 (cS 2 Fld.c) (okL B (Fld.Ok B)):=qch Go.Proofs.Tryz.underlying23 (by kernel_rfl) (qadm B)
theorem qade (B:Nat):Rd Go.Proofs.Tryz.prog B 134 Xj.c (Xj.Ok B):=Xj.rd Go.Proofs.Tryz.underlying134 (qjx B) (qr5 B)
theorem qagk (B:Nat):Rd Go.Proofs.Tryz.prog B 22 (cS 2 Xj.c) (okL B (Xj.Ok B)):=qch Go.Proofs.Tryz.underlying22 (by kernel_rfl) (qade B)
theorem qadf (B:Nat):Rd Go.Proofs.Tryz.prog B 136 Xh.c (Xh.Ok B):=Xh.rd Go.Proofs.Tryz.underlying136 (qjx B) (qcq B) (qcq B)
theorem qagl (B:Nat):Rd Go.Proofs.Tryz.prog B 24 (cS 3 Xh.c) (okL B (Xh.Ok B)):=qch Go.Proofs.Tryz.underlying24 (by kernel_rfl) (qadf B)
theorem qo0 (B:Nat):Rd Go.Proofs.Tryz.prog B 145 FieldRef.c (FieldRef.Ok B):=FieldRef.rd Go.Proofs.Tryz.underlying145 (qcq B) (qcq B)
theorem qadr (B:Nat):Rd Go.Proofs.Tryz.prog B 270 Xe.c (Xe.Ok B):=Xe.rd Go.Proofs.Tryz.underlying270 (qcq B) (qcq B) (qcq B)
theorem qo1 (B:Nat):Rd Go.Proofs.Tryz.prog B 186 (cS 3 Xe.c) (okL B (Xe.Ok B)):=qch Go.Proofs.Tryz.underlying186 (by kernel_rfl) (qadr B)
theorem qadp (B:Nat):Rd Go.Proofs.Tryz.prog B 225 Xg.c (Xg.Ok B):=Xg.rd Go.Proofs.Tryz.underlying225 (qcq B) (qo0 B) (qcq B) (qcq B) (qo1 B) (qo1 B)
theorem qadg (B:Nat):Rd Go.Proofs.Tryz.prog B 138 (cS 7 Xg.c) (okL B (Xg.Ok B)):=qch Go.Proofs.Tryz.underlying138 (by kernel_rfl) (qadp B)
theorem qadh (B:Nat):Rd Go.Proofs.Tryz.prog B 140 Action.c (Action.Ok B):=Action.rd Go.Proofs.Tryz.underlying140 (qjx B) (qr5 B) (qadg B)
theorem qagm (B:Nat):Rd Go.Proofs.Tryz.prog B 25 (cS 3 Action.c) (okL B (Action.Ok B)):=qch Go.Proofs.Tryz.underlying25 (by kernel_rfl) (qadh B)
theorem qadn (B:Nat):Rd Go.Proofs.Tryz.prog B 155 Xl.c (Xl.Ok B):=Xl.rd Go.Proofs.Tryz.underlying155 (qo0 B) (qcq B)
theorem qadi (B:Nat):Rd Go.Proofs.Tryz.prog B 141 (cS 3 Xl.c) (okL B (Xl.Ok B)):=qch Go.Proofs.Tryz.underlying141 (by kernel_rfl) (qadn B)
theorem qr6 (B:Nat):Rd Go.Proofs.Tryz.prog B 29 (cS 1 cI) (okL B (okI B)):=qch Go.Proofs.Tryz.underlying29 (by kernel_rfl) (qcq B)
theorem qk4 (B:Nat):Rd Go.Proofs.Tryz.prog B 96 c32 (ok32 B):=qagw Go.Proofs.Tryz.underlying96
theorem qagt (B:Nat):Rd Go.Proofs.Tryz.prog B 47 (cS 1 c32) (okL B (ok32 B)):=qch Go.Proofs.Tryz.underlying47 (by kernel_rfl) (qk4 B)
theorem qr7 (B:Nat):Rd Go.Proofs.Tryz.prog B 49 Xb.c (Xb.Ok B):=Xb.rd Go.Proofs.Tryz.underlying49 (qcq B) (qagt B)
theorem qadj (B:Nat):Rd Go.Proofs.Tryz.prog B 143 Tbl.c (Tbl.Ok B):=Tbl.rd Go.Proofs.Tryz.underlying143 (qjx B) (qadi B) (qr6 B) (qr7 B) (qcq B)
theorem qagn (B:Nat):Rd Go.Proofs.Tryz.prog B 26 (cS 6 Tbl.c) (okL B (Tbl.Ok B)):=qch Go.Proofs.Tryz.underlying26 (by kernel_rfl) (qadj B)
theorem rd_t4 (B:Nat):Rd Go.Proofs.Tryz.prog B 4 cB (okT B):=qadc Go.Proofs.Tryz.underlying4
theorem qadq (B:Nat):Rd Go.Proofs.Tryz.prog B 267 Xk.c (Xk.Ok B):=Xk.rd Go.Proofs.Tryz.underlying267 (qk4 B) (qk4 B) (qcq B)
theorem qadk (B:Nat):Rd Go.Proofs.Tryz.prog B 146 (cS 3 Xk.c) (okL B (Xk.Ok B)):=qch Go.Proofs.Tryz.underlying146 (by kernel_rfl) (qadq B)
theorem qadl (B:Nat):Rd Go.Proofs.Tryz.prog B 148 Xd.c (Xd.Ok B):=Xd.rd Go.Proofs.Tryz.underlying148 (qjx B) (qr6 B) (rd_t4 B) (qo0 B) (qadk B) (qcq B)
theorem qago (B:Nat):Rd Go.Proofs.Tryz.prog B 27 (cS 7 Xd.c) (okL B (Xd.Ok B)):=qch Go.Proofs.Tryz.underlying27 (by kernel_rfl) (qadl B)
theorem qado (B:Nat):Rd Go.Proofs.Tryz.prog B 188 Xa.c (Xa.Ok B):=Xa.rd Go.Proofs.Tryz.underlying188 (qcq B) (qcq B) (qo1 B) rfl rfl Go.Proofs.Tryz.underlying28 (by kernel_rfl)
theorem qagp (B:Nat):Rd Go.Proofs.Tryz.prog B 28 (cS 5 Xa.c) (okL B (Xa.Ok B)):=qch Go.Proofs.Tryz.underlying28 (by kernel_rfl) (qado B)
theorem qagq (B:Nat):Rd Go.Proofs.Tryz.prog B 31 Prg.c (Prg.Ok B):=Prg.rd Go.Proofs.Tryz.underlying31 (qjx B) (qagk B) (qr5 B) (qagl B) (qagm B) (qagn B) (qago B) (qagp B) (qr6 B)
theorem qadd (B:Nat):Rd Go.Proofs.Tryz.prog B 120 Xi.c (Xi.Ok B):=Xi.rd Go.Proofs.Tryz.underlying120 (qk4 B) (qk4 B)
theorem qags (B:Nat):Rd Go.Proofs.Tryz.prog B 46 (cS 2 Xi.c) (okL B (Xi.Ok B)):=qch Go.Proofs.Tryz.underlying46 (by kernel_rfl) (qadd B)
theorem qagu (B:Nat):Rd Go.Proofs.Tryz.prog B 51 Entry.c (Entry.Ok B):=Entry.rd Go.Proofs.Tryz.underlying51 (qags B) (qcq B) (qr7 B)
theorem qagv (B:Nat):Rd Go.Proofs.Tryz.prog B 53 Xc.c (Xc.Ok B):=Xc.rd Go.Proofs.Tryz.underlying53 (qcq B) (qcq B) (qcq B) (qagu B) (qr7 B)
theorem qagr (B:Nat):Rd Go.Proofs.Tryz.prog B 37 (cS 9 Xc.c) (okL B (Xc.Ok B)):=qch Go.Proofs.Tryz.underlying37 (by kernel_rfl) (qagv B)
def tyL:List Nat:=[3,4,9,22,23,24,25,26,27,28,29,31,37,46,47,49,51,53,96,120,134,136,138,140,141,143,145,146,148,153,155,186,188,225,267,270]
theorem qahf:qg3 Go.Proofs.Tryz.prog tyL=true:=by kernel_rfl
theorem qaev {H:Type} (d:DataW H):1<=Go.Proofs.YtjdbnnnakpacjaaGreat.Rows.uptoBulk d:=by
  cases d with
  | lit l=>cases l<;>simp [Go.Proofs.YtjdbnnnakpacjaaGreat.Rows.uptoBulk]
  | nil=>simp [Go.Proofs.YtjdbnnnakpacjaaGreat.Rows.uptoBulk]
  | ptr d=>simp [Go.Proofs.YtjdbnnnakpacjaaGreat.Rows.uptoBulk]
  | slice elems spare=>simp [Go.Proofs.YtjdbnnnakpacjaaGreat.Rows.uptoBulk]
  | agg parts=>simp [Go.Proofs.YtjdbnnnakpacjaaGreat.Rows.uptoBulk]
  | iface t d=>simp [Go.Proofs.YtjdbnnnakpacjaaGreat.Rows.uptoBulk]
  | map entries=>simp [Go.Proofs.YtjdbnnnakpacjaaGreat.Rows.uptoBulk]
  | held h=>simp [Go.Proofs.YtjdbnnnakpacjaaGreat.Rows.uptoBulk]
def bk (H:Type):BulkFn H where
  one:=Go.Proofs.YtjdbnnnakpacjaaGreat.Rows.uptoBulk
  all:=Go.Proofs.YtjdbnnnakpacjaaGreat.Rows.uptoBulkAll
  nil:=by simp [Go.Proofs.YtjdbnnnakpacjaaGreat.Rows.uptoBulkAll]
  cons:=fun d r=>by simp [Go.Proofs.YtjdbnnnakpacjaaGreat.Rows.uptoBulkAll]
  slice:=fun e s=>by simp [Go.Proofs.YtjdbnnnakpacjaaGreat.Rows.uptoBulk]
  agg:=fun e=>by simp [Go.Proofs.YtjdbnnnakpacjaaGreat.Rows.uptoBulk]
  str:=fun b=>by simp [Go.Proofs.YtjdbnnnakpacjaaGreat.Rows.uptoBulk]
  pos:=qaev
theorem small {H:Type} {l:List (DataW H)} (h:Go.Proofs.YtjdbnnnakpacjaaGreat.Rows.uptoSmall H l=true):(bk H).all l<=qbd:=qvr (of_decide_eq_true h)
theorem qaa9:qd5 Go.Proofs.Tryz.prog 31=true:=by kernel_rfl
theorem qaba:qd5 Go.Proofs.Tryz.prog 37=false:=by kernel_rfl
theorem qafx (vs:List AV) (h:WTVs Go.Proofs.Tryz.prog qbd [31,37] vs) (hs:szL vs<=qbd):qad Φ 5 vs=some (.val (.bool true)):=by
  obtain ⟨a0,vs,rfl,h0,h⟩:=qp5 h;obtain ⟨a1,vs,rfl,h1,h⟩:=qp5 h;obtain rfl:=qaa4 h;obtain ⟨x0,rfl,o0⟩:=qaec h0 qaa9 (qagq qbd);obtain ⟨x1,e1,o1⟩:=qaed h1 qaba (qagr qbd);cases e1;exact qkd x0 x1 o0 o1 (hc_of hs)
end Go.Av
namespace Go.Proofs.YtjdbnnnakpacjaaGreat
open Go.ChangeShapes Go.WideShapes Go.ChangeAt Go.RowKit Go.Av
theorem own:ownKnob Tryz.prog.godebug=none:=by kernel_rfl
theorem laid:laidOutB Tryz.prog=true:=closed2.1
theorem qgs:joinedFacts Tryz.checked.prog 5 Tryz.f5 (Rows.OpenSpec.upto Rows.journalRecordsSpec).bare Rows.journalRecordsUptoRow=true:=by
  unfold joinedFacts;rw [closed2.1,closed2.2,fa1,fa2,fa3,fa4,fa5,fa6,pf1,pf2]
  kernel_rfl
theorem table:TableOk Tryz.prog ann Φ:=qacn (qwe (by kernel_rfl) qag9 (by kernel_rfl) qad8 (by kernel_rfl) qaat qaau (by kernel_rfl)) (by kernel_rfl)
set_option maxRecDepth 100000 in
theorem qy3 (H:Type) (enc:TypeId×Value->H) (W:World) (base:Nat) (args:Array Value) (ds gs:List (DataW H)) (before:List MemPlace)
    (hval:∀(j:Nat) t v,Tryz.f5.params[j]? =some t->args[j]? =some v->Value.okWide Tryz.prog W .any base t v)
    (hW:DataW.Whole enc Tryz.prog Tryz.f5.params.toList Rows.journalRecordsSpec.vars false W args.toList ds gs before) (hk:Rows.uptoSmall H (ds++gs)=true):
    Calls Tryz.prog 5 args W fun e W'=>∃v,e= .returned v/\Rows.journalRecordsSpec.post enc Tryz.prog Tryz.f5 false true false false W args v W':=
  qv3 table laid (tb:=Tryz.f5.resultTypes[0]!) rfl rfl (by kernel_rfl) (by kernel_rfl) (bk H) qahf (by kernel_rfl) hval hW
    (fun l hl=>by
      match l,hl with
      | [d0,d1],_=>rfl)
    (small hk) (fun vs h hs=>qafx vs (by rw [Tryz.params5] at h;exact h) hs)
set_option maxRecDepth 100000 in
theorem lifted (os:Os) (started:os.Started) (H:Type) (enc:TypeId×Value->H) (F:Stop.Interp):
    ReturnsInHanded {} Tryz.checked os 5 .any ((Rows.OpenSpec.upto Rows.journalRecordsSpec).pre6 enc Tryz.prog Tryz.f5 Rows.journalRecordsUptoRow.domain false) (((Rows.OpenSpec.upto Rows.journalRecordsSpec).at F).post enc Tryz.prog Tryz.f5 false true false false):=by
  refine returnsInHanded_of_cond (C:=Tryz.checked) (s:=Rows.OpenSpec.upto Rows.journalRecordsSpec) (k:=Rows.uptoSmall) rfl own started (by kernel_rfl) Tryz.func5
    (OpenSpec.witness (enc:=enc) (C:=Tryz.checked) (s:=Rows.OpenSpec.upto Rows.journalRecordsSpec) (k:=Rows.uptoSmall) rfl false ⟨#[],#[.agg #[.string ByteArray.empty,.slice none 0 0,.slice none 0 0,.slice none 0 0,.slice none 0 0,.slice none 0 0,.slice none 0 0,.slice none 0 0,.slice none 0 0],.slice none 0 0],[]⟩ 24 (by kernel_rfl) (by kernel_rfl) (by kernel_rfl)
      (x:=([.agg [.lit (.string []),.nil,.nil,.nil,.nil,.nil,.nil,.nil,.nil],.nil],[],[])) (by kernel_rfl) rfl (by kernel_rfl)) ?_
  intro W base args ds gs before hval hW _ hk _;exact qy3 H enc W base args ds gs before hval hW hk
theorem proved:Rows.JournalRecordsUptoSaid:=
  OpenClaim.holds_of_cond 5 Tryz.f5 rfl rfl rfl rfl rfl rfl rfl ⟨rfl,rfl,rfl,rfl,rfl⟩ rfl rfl rfl rfl rfl (by kernel_rfl) Tryz.func5 qgs
    (of_decide_eq_true (by kernel_rfl)) (by unfold Func.isWrapper;first | (rw [if_pos (by decide+kernel)];kernel_rfl) | (rw [if_neg (by decide+kernel)];exact ⟨rfl,rfl⟩))
    (fun os started H enc _ F=>lifted os started H enc F)
end Go.Proofs.YtjdbnnnakpacjaaGreat
