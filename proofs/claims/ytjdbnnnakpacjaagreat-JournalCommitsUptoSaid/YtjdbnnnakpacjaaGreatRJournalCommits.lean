/-
  The law 'JournalCommits' returns true at every input whose readings are of bulk at most 1048576, and leaves its arguments as they were.
  Conditions: none but that bound, which the given statement itself bears.
-/
import Derived.Test.YtjdbnnnakpacjaaGreatJC12
import Derived.Test.YtjdbnnnakpacjaaGreatFunsBU
import Derived.Test.YtjdbnnnakpacjaaGreatRJournalCommitsFa
import Derived.Test.YtjdbnnnakpacjaaGreatRJournalCommitsFb
import Derived.Test.YtjdbnnnakpacjaaGreatRJournalCommitsFc
import Derived.KernelRfl
import Derived.ClosedOfChecked
set_option linter.unusedVariables false
set_option linter.unusedSimpArgs false
set_option linter.constructorNameAsVariable false
namespace Go.Av
theorem qk5 (B:Nat):Rd Go.Proofs.Tryz.prog B 9 cStr (qef B):=qaki Go.Proofs.Tryz.underlying9
theorem qc9 (B:Nat):Rd Go.Proofs.Tryz.prog B 3 cI (okI B):=qakh Go.Proofs.Tryz.underlying3
theorem qag7 (B:Nat):Rd Go.Proofs.Tryz.prog B 153 Fld.c (Fld.Ok B):=Fld.rd Go.Proofs.Tryz.underlying153 (qk5 B) (qc9 B)
theorem quc (B:Nat):Rd Go.Proofs.Tryz.prog B 23 (cS 2 Fld.c) (okL B (Fld.Ok B)):=qcs Go.Proofs.Tryz.underlying23 (by kernel_rfl) (qag7 B)
theorem qagz (B:Nat):Rd Go.Proofs.Tryz.prog B 134 Xj.c (Xj.Ok B):=Xj.rd Go.Proofs.Tryz.underlying134 (qk5 B) (quc B)
theorem qakj (B:Nat):Rd Go.Proofs.Tryz.prog B 22 (cS 2 Xj.c) (okL B (Xj.Ok B)):=qcs Go.Proofs.Tryz.underlying22 (by kernel_rfl) (qagz B)
theorem qag0 (B:Nat):Rd Go.Proofs.Tryz.prog B 136 Xh.c (Xh.Ok B):=Xh.rd Go.Proofs.Tryz.underlying136 (qk5 B) (qc9 B) (qc9 B)
theorem qakk (B:Nat):Rd Go.Proofs.Tryz.prog B 24 (cS 3 Xh.c) (okL B (Xh.Ok B)):=qcs Go.Proofs.Tryz.underlying24 (by kernel_rfl) (qag0 B)
theorem qql (B:Nat):Rd Go.Proofs.Tryz.prog B 145 FieldRef.c (FieldRef.Ok B):=FieldRef.rd Go.Proofs.Tryz.underlying145 (qc9 B) (qc9 B)
theorem qahc (B:Nat):Rd Go.Proofs.Tryz.prog B 270 Xe.c (Xe.Ok B):=Xe.rd Go.Proofs.Tryz.underlying270 (qc9 B) (qc9 B) (qc9 B)
theorem qqm (B:Nat):Rd Go.Proofs.Tryz.prog B 186 (cS 3 Xe.c) (okL B (Xe.Ok B)):=qcs Go.Proofs.Tryz.underlying186 (by kernel_rfl) (qahc B)
theorem qaha (B:Nat):Rd Go.Proofs.Tryz.prog B 225 Xg.c (Xg.Ok B):=Xg.rd Go.Proofs.Tryz.underlying225 (qc9 B) (qql B) (qc9 B) (qc9 B) (qqm B) (qqm B)
theorem qag1 (B:Nat):Rd Go.Proofs.Tryz.prog B 138 (cS 7 Xg.c) (okL B (Xg.Ok B)):=qcs Go.Proofs.Tryz.underlying138 (by kernel_rfl) (qaha B)
theorem qag2 (B:Nat):Rd Go.Proofs.Tryz.prog B 140 Action.c (Action.Ok B):=Action.rd Go.Proofs.Tryz.underlying140 (qk5 B) (quc B) (qag1 B)
theorem qakl (B:Nat):Rd Go.Proofs.Tryz.prog B 25 (cS 3 Action.c) (okL B (Action.Ok B)):=qcs Go.Proofs.Tryz.underlying25 (by kernel_rfl) (qag2 B)
theorem qag8 (B:Nat):Rd Go.Proofs.Tryz.prog B 155 Xl.c (Xl.Ok B):=Xl.rd Go.Proofs.Tryz.underlying155 (qql B) (qc9 B)
theorem qag3 (B:Nat):Rd Go.Proofs.Tryz.prog B 141 (cS 3 Xl.c) (okL B (Xl.Ok B)):=qcs Go.Proofs.Tryz.underlying141 (by kernel_rfl) (qag8 B)
theorem qud (B:Nat):Rd Go.Proofs.Tryz.prog B 29 (cS 1 cI) (okL B (okI B)):=qcs Go.Proofs.Tryz.underlying29 (by kernel_rfl) (qc9 B)
theorem qma (B:Nat):Rd Go.Proofs.Tryz.prog B 96 c32 (ok32 B):=qakw Go.Proofs.Tryz.underlying96
theorem qaks (B:Nat):Rd Go.Proofs.Tryz.prog B 47 (cS 1 c32) (okL B (ok32 B)):=qcs Go.Proofs.Tryz.underlying47 (by kernel_rfl) (qma B)
theorem que (B:Nat):Rd Go.Proofs.Tryz.prog B 49 Xb.c (Xb.Ok B):=Xb.rd Go.Proofs.Tryz.underlying49 (qc9 B) (qaks B)
theorem qag4 (B:Nat):Rd Go.Proofs.Tryz.prog B 143 Tbl.c (Tbl.Ok B):=Tbl.rd Go.Proofs.Tryz.underlying143 (qk5 B) (qag3 B) (qud B) (que B) (qc9 B)
theorem qakm (B:Nat):Rd Go.Proofs.Tryz.prog B 26 (cS 6 Tbl.c) (okL B (Tbl.Ok B)):=qcs Go.Proofs.Tryz.underlying26 (by kernel_rfl) (qag4 B)
theorem rd_t4 (B:Nat):Rd Go.Proofs.Tryz.prog B 4 cB (okT B):=qagx Go.Proofs.Tryz.underlying4
theorem qahb (B:Nat):Rd Go.Proofs.Tryz.prog B 267 Xk.c (Xk.Ok B):=Xk.rd Go.Proofs.Tryz.underlying267 (qma B) (qma B) (qc9 B)
theorem qag5 (B:Nat):Rd Go.Proofs.Tryz.prog B 146 (cS 3 Xk.c) (okL B (Xk.Ok B)):=qcs Go.Proofs.Tryz.underlying146 (by kernel_rfl) (qahb B)
theorem qag6 (B:Nat):Rd Go.Proofs.Tryz.prog B 148 Xd.c (Xd.Ok B):=Xd.rd Go.Proofs.Tryz.underlying148 (qk5 B) (qud B) (rd_t4 B) (qql B) (qag5 B) (qc9 B)
theorem qakn (B:Nat):Rd Go.Proofs.Tryz.prog B 27 (cS 7 Xd.c) (okL B (Xd.Ok B)):=qcs Go.Proofs.Tryz.underlying27 (by kernel_rfl) (qag6 B)
theorem qag9 (B:Nat):Rd Go.Proofs.Tryz.prog B 188 Xa.c (Xa.Ok B):=Xa.rd Go.Proofs.Tryz.underlying188 (qc9 B) (qc9 B) (qqm B) rfl rfl Go.Proofs.Tryz.underlying28 (by kernel_rfl)
theorem qako (B:Nat):Rd Go.Proofs.Tryz.prog B 28 (cS 5 Xa.c) (okL B (Xa.Ok B)):=qcs Go.Proofs.Tryz.underlying28 (by kernel_rfl) (qag9 B)
theorem qakp (B:Nat):Rd Go.Proofs.Tryz.prog B 31 Prg.c (Prg.Ok B):=Prg.rd Go.Proofs.Tryz.underlying31 (qk5 B) (qakj B) (quc B) (qakk B) (qakl B) (qakm B) (qakn B) (qako B) (qud B)
theorem qagy (B:Nat):Rd Go.Proofs.Tryz.prog B 120 Xi.c (Xi.Ok B):=Xi.rd Go.Proofs.Tryz.underlying120 (qma B) (qma B)
theorem qakr (B:Nat):Rd Go.Proofs.Tryz.prog B 46 (cS 2 Xi.c) (okL B (Xi.Ok B)):=qcs Go.Proofs.Tryz.underlying46 (by kernel_rfl) (qagy B)
theorem qakt (B:Nat):Rd Go.Proofs.Tryz.prog B 51 Entry.c (Entry.Ok B):=Entry.rd Go.Proofs.Tryz.underlying51 (qakr B) (qc9 B) (que B)
theorem qaku (B:Nat):Rd Go.Proofs.Tryz.prog B 53 Xc.c (Xc.Ok B):=Xc.rd Go.Proofs.Tryz.underlying53 (qc9 B) (qc9 B) (qc9 B) (qakt B) (que B)
theorem qakq (B:Nat):Rd Go.Proofs.Tryz.prog B 37 (cS 9 Xc.c) (okL B (Xc.Ok B)):=qcs Go.Proofs.Tryz.underlying37 (by kernel_rfl) (qaku B)
theorem qakv (B:Nat):Rd Go.Proofs.Tryz.prog B 63 (cS 1 (cS 9 Xc.c)) (okL B (okL B (Xc.Ok B))):=qcs Go.Proofs.Tryz.underlying63 (by kernel_rfl) (qakq B)
def tyL:List Nat:=[3,4,9,22,23,24,25,26,27,28,29,31,37,46,47,49,51,53,63,96,120,134,136,138,140,141,143,145,146,148,153,155,186,188,225,267,270]
theorem qalk:qh8 Go.Proofs.Tryz.prog tyL=true:=by kernel_rfl
theorem qaiq {H:Type} (d:DataW H):1<=Go.Proofs.YtjdbnnnakpacjaaGreat.Rows.uptoBulk d:=by
  cases d with
  | lit l=>cases l<;>simp [Go.Proofs.YtjdbnnnakpacjaaGreat.Rows.uptoBulk]
  | nil=>simp [Go.Proofs.YtjdbnnnakpacjaaGreat.Rows.uptoBulk]
  | ptr d=>simp [Go.Proofs.YtjdbnnnakpacjaaGreat.Rows.uptoBulk]
  | slice elems spare=>simp [Go.Proofs.YtjdbnnnakpacjaaGreat.Rows.uptoBulk]
  | agg parts=>simp [Go.Proofs.YtjdbnnnakpacjaaGreat.Rows.uptoBulk]
  | iface t d=>simp [Go.Proofs.YtjdbnnnakpacjaaGreat.Rows.uptoBulk]
  | map entries=>simp [Go.Proofs.YtjdbnnnakpacjaaGreat.Rows.uptoBulk]
  | held h=>simp [Go.Proofs.YtjdbnnnakpacjaaGreat.Rows.uptoBulk]
def bk (H:Type):BulkFn H where
  one:=Go.Proofs.YtjdbnnnakpacjaaGreat.Rows.uptoBulk
  all:=Go.Proofs.YtjdbnnnakpacjaaGreat.Rows.uptoBulkAll
  nil:=by simp [Go.Proofs.YtjdbnnnakpacjaaGreat.Rows.uptoBulkAll]
  cons:=fun d r=>by simp [Go.Proofs.YtjdbnnnakpacjaaGreat.Rows.uptoBulkAll]
  slice:=fun e s=>by simp [Go.Proofs.YtjdbnnnakpacjaaGreat.Rows.uptoBulk]
  agg:=fun e=>by simp [Go.Proofs.YtjdbnnnakpacjaaGreat.Rows.uptoBulk]
  str:=fun b=>by simp [Go.Proofs.YtjdbnnnakpacjaaGreat.Rows.uptoBulk]
  pos:=qaiq
theorem small {H:Type} {l:List (DataW H)} (h:Go.Proofs.YtjdbnnnakpacjaaGreat.Rows.uptoSmall H l=true):(bk H).all l<=qbe:=qx0 (of_decide_eq_true h)
theorem qaer:qet Go.Proofs.Tryz.prog 31=true:=by kernel_rfl
theorem qaes:qet Go.Proofs.Tryz.prog 63=false:=by kernel_rfl
theorem qajx (vs:List AV) (h:WTVs Go.Proofs.Tryz.prog qbe [31,63] vs):qab Φ 6 vs=some (.val (.bool true)):=by
  obtain ⟨a0,vs,rfl,h0,h⟩:=qr1 h;obtain ⟨a1,vs,rfl,h1,h⟩:=qr1 h;obtain rfl:=qaen h;obtain ⟨x0,rfl,o0⟩:=qah6 h0 qaer (qakp qbe);obtain ⟨x1,e1,o1⟩:=qah7 h1 qaes (qakv qbe);cases e1;exact qln x0 x1 o0 o1
end Go.Av
namespace Go.Proofs.YtjdbnnnakpacjaaGreat
open Go.ChangeShapes Go.WideShapes Go.ChangeAt Go.RowKit Go.Av
theorem own:ownKnob Tryz.prog.godebug=none:=by kernel_rfl
theorem laid:laidOutB Tryz.prog=true:=closed2.1
theorem qhu:joinedFacts Tryz.checked.prog 6 Tryz.f6 (Rows.OpenSpec.upto Rows.journalCommitsSpec).bare Rows.journalCommitsUptoRow=true:=by
  unfold joinedFacts;rw [closed2.1,closed2.2,fa1,fa2,fa3,fa4,fa5,fa6,pf1,pf2]
  kernel_rfl
theorem table:TableOk Tryz.prog ann Φ:=qaf6 (qyt (by kernel_rfl) qale (by kernel_rfl) qah1 (by kernel_rfl) qaeb qaec (by kernel_rfl)) (by kernel_rfl)
set_option maxRecDepth 100000 in
theorem qab0 (H:Type) (enc:TypeId×Value->H) (W:World) (base:Nat) (args:Array Value) (ds gs:List (DataW H)) (before:List MemPlace)
    (hval:∀(j:Nat) t v,Tryz.f6.params[j]? =some t->args[j]? =some v->Value.okWide Tryz.prog W .any base t v)
    (hW:DataW.Whole enc Tryz.prog Tryz.f6.params.toList Rows.journalCommitsSpec.vars false W args.toList ds gs before) (hk:Rows.uptoSmall H (ds++gs)=true):
    Calls Tryz.prog 6 args W fun e W'=>∃v,e= .returned v/\Rows.journalCommitsSpec.post enc Tryz.prog Tryz.f6 false true false false W args v W':=
  qyf table laid (tb:=Tryz.f6.resultTypes[0]!) rfl rfl (by kernel_rfl) (by kernel_rfl) (bk H) qalk (by kernel_rfl) hval hW
    (fun l hl=>by
      match l,hl with
      | [d0,d1],_=>rfl)
    (small hk) (fun vs h=>qajx vs (by rw [Tryz.params6] at h;exact h))
set_option maxRecDepth 100000 in
theorem lifted (os:Os) (started:os.Started) (H:Type) (enc:TypeId×Value->H) (F:Stop.Interp):
    ReturnsInHanded {} Tryz.checked os 6 .any ((Rows.OpenSpec.upto Rows.journalCommitsSpec).pre6 enc Tryz.prog Tryz.f6 Rows.journalCommitsUptoRow.domain false) (((Rows.OpenSpec.upto Rows.journalCommitsSpec).at F).post enc Tryz.prog Tryz.f6 false true false false):=by
  refine returnsInHanded_of_cond (C:=Tryz.checked) (s:=Rows.OpenSpec.upto Rows.journalCommitsSpec) (k:=Rows.uptoSmall) rfl own started (by kernel_rfl) Tryz.func6
    (OpenSpec.witness (enc:=enc) (C:=Tryz.checked) (s:=Rows.OpenSpec.upto Rows.journalCommitsSpec) (k:=Rows.uptoSmall) rfl false ⟨#[],#[.agg #[.string ByteArray.empty,.slice none 0 0,.slice none 0 0,.slice none 0 0,.slice none 0 0,.slice none 0 0,.slice none 0 0,.slice none 0 0,.slice none 0 0],.slice none 0 0],[]⟩ 24 (by kernel_rfl) (by kernel_rfl) (by kernel_rfl)
      (x:=([.agg [.lit (.string []),.nil,.nil,.nil,.nil,.nil,.nil,.nil,.nil],.nil],[],[])) (by kernel_rfl) rfl (by kernel_rfl)) ?_
  intro W base args ds gs before hval hW _ hk _;exact qab0 H enc W base args ds gs before hval hW hk
theorem proved:Rows.JournalCommitsUptoSaid:=
  OpenClaim.holds_of_cond 6 Tryz.f6 rfl rfl rfl rfl rfl rfl rfl ⟨rfl,rfl,rfl,rfl,rfl⟩ rfl rfl rfl rfl rfl (by kernel_rfl) Tryz.func6 qhu
    (of_decide_eq_true (by kernel_rfl)) (by unfold Func.isWrapper;first | (rw [if_pos (by decide+kernel)];kernel_rfl) | (rw [if_neg (by decide+kernel)];exact ⟨rfl,rfl⟩))
    (fun os started H enc _ F=>lifted os started H enc F)
end Go.Proofs.YtjdbnnnakpacjaaGreat
