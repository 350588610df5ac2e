/-
  The law 'JournalRecovers' returns true at every input whose readings are of bulk at most 1048576, and leaves its arguments as they were.
  Conditions: none but that bound, which the given statement itself bears.
-/
import Derived.Test.YtjdbnnnakpacjaaGreatJC13
import Derived.Test.YtjdbnnnakpacjaaGreatFunsBU
import Derived.Test.YtjdbnnnakpacjaaGreatRJournalRecoversFa
import Derived.Test.YtjdbnnnakpacjaaGreatRJournalRecoversFb
import Derived.Test.YtjdbnnnakpacjaaGreatRJournalRecoversFc
import Derived.Test.YtjdbnnnakpacjaaGreatRW2
import Derived.KernelRfl
import Derived.ClosedOfChecked
set_option linter.unusedVariables false
set_option linter.unusedSimpArgs false
set_option linter.constructorNameAsVariable false
namespace Go.Av
theorem qlf (B:Nat):Rd Go.Proofs.Tryz.prog B 9 cStr (qed B):=qaky Go.Proofs.Tryz.underlying9
theorem qc6 (B:Nat):Rd Go.Proofs.Tryz.prog B 3 cI (okI B):=qakx Go.Proofs.Tryz.underlying3
theorem qahq (B:Nat):Rd Go.Proofs.Tryz.prog B 153 Fld.c (Fld.Ok B):=Fld.rd Go.Proofs.Tryz.underlying153 (qlf B) (qc6 B)
theorem qus (B:Nat):Rd Go.Proofs.Tryz.prog B 23 (cS 2 Fld.c) (okL B (Fld.Ok B)):=qcs Go.Proofs.Tryz.underlying23 (by kernel_rfl) (qahq B)
theorem qahi (B:Nat):Rd Go.Proofs.Tryz.prog B 134 Xj.c (Xj.Ok B):=Xj.rd Go.Proofs.Tryz.underlying134 (qlf B) (qus B)
theorem qakz (B:Nat):Rd Go.Proofs.Tryz.prog B 22 (cS 2 Xj.c) (okL B (Xj.Ok B)):=qcs Go.Proofs.Tryz.underlying22 (by kernel_rfl) (qahi B)
theorem qahj (B:Nat):Rd Go.Proofs.Tryz.prog B 136 Xh.c (Xh.Ok B):=Xh.rd Go.Proofs.Tryz.underlying136 (qlf B) (qc6 B) (qc6 B)
theorem qak0 (B:Nat):Rd Go.Proofs.Tryz.prog B 24 (cS 3 Xh.c) (okL B (Xh.Ok B)):=qcs Go.Proofs.Tryz.underlying24 (by kernel_rfl) (qahj B)
theorem qqy (B:Nat):Rd Go.Proofs.Tryz.prog B 145 FieldRef.c (FieldRef.Ok B):=FieldRef.rd Go.Proofs.Tryz.underlying145 (qc6 B) (qc6 B)
theorem qahv (B:Nat):Rd Go.Proofs.Tryz.prog B 270 Xe.c (Xe.Ok B):=Xe.rd Go.Proofs.Tryz.underlying270 (qc6 B) (qc6 B) (qc6 B)
theorem qqz (B:Nat):Rd Go.Proofs.Tryz.prog B 186 (cS 3 Xe.c) (okL B (Xe.Ok B)):=qcs Go.Proofs.Tryz.underlying186 (by kernel_rfl) (qahv B)
theorem qaht (B:Nat):Rd Go.Proofs.Tryz.prog B 225 Xg.c (Xg.Ok B):=Xg.rd Go.Proofs.Tryz.underlying225 (qc6 B) (qqy B) (qc6 B) (qc6 B) (qqz B) (qqz B)
theorem qahk (B:Nat):Rd Go.Proofs.Tryz.prog B 138 (cS 7 Xg.c) (okL B (Xg.Ok B)):=qcs Go.Proofs.Tryz.underlying138 (by kernel_rfl) (qaht B)
theorem qahl (B:Nat):Rd Go.Proofs.Tryz.prog B 140 Action.c (Action.Ok B):=Action.rd Go.Proofs.Tryz.underlying140 (qlf B) (qus B) (qahk B)
theorem qak1 (B:Nat):Rd Go.Proofs.Tryz.prog B 25 (cS 3 Action.c) (okL B (Action.Ok B)):=qcs Go.Proofs.Tryz.underlying25 (by kernel_rfl) (qahl B)
theorem qahr (B:Nat):Rd Go.Proofs.Tryz.prog B 155 Xl.c (Xl.Ok B):=Xl.rd Go.Proofs.Tryz.underlying155 (qqy B) (qc6 B)
theorem qahm (B:Nat):Rd Go.Proofs.Tryz.prog B 141 (cS 3 Xl.c) (okL B (Xl.Ok B)):=qcs Go.Proofs.Tryz.underlying141 (by kernel_rfl) (qahr B)
theorem qut (B:Nat):Rd Go.Proofs.Tryz.prog B 29 (cS 1 cI) (okL B (okI B)):=qcs Go.Proofs.Tryz.underlying29 (by kernel_rfl) (qc6 B)
theorem qmk (B:Nat):Rd Go.Proofs.Tryz.prog B 96 c32 (ok32 B):=qalc Go.Proofs.Tryz.underlying96
theorem qak8 (B:Nat):Rd Go.Proofs.Tryz.prog B 47 (cS 1 c32) (okL B (ok32 B)):=qcs Go.Proofs.Tryz.underlying47 (by kernel_rfl) (qmk B)
theorem quu (B:Nat):Rd Go.Proofs.Tryz.prog B 49 Xb.c (Xb.Ok B):=Xb.rd Go.Proofs.Tryz.underlying49 (qc6 B) (qak8 B)
theorem qahn (B:Nat):Rd Go.Proofs.Tryz.prog B 143 Tbl.c (Tbl.Ok B):=Tbl.rd Go.Proofs.Tryz.underlying143 (qlf B) (qahm B) (qut B) (quu B) (qc6 B)
theorem qak2 (B:Nat):Rd Go.Proofs.Tryz.prog B 26 (cS 6 Tbl.c) (okL B (Tbl.Ok B)):=qcs Go.Proofs.Tryz.underlying26 (by kernel_rfl) (qahn B)
theorem rd_t4 (B:Nat):Rd Go.Proofs.Tryz.prog B 4 cB (okT B):=qahg Go.Proofs.Tryz.underlying4
theorem qahu (B:Nat):Rd Go.Proofs.Tryz.prog B 267 Xk.c (Xk.Ok B):=Xk.rd Go.Proofs.Tryz.underlying267 (qmk B) (qmk B) (qc6 B)
theorem qaho (B:Nat):Rd Go.Proofs.Tryz.prog B 146 (cS 3 Xk.c) (okL B (Xk.Ok B)):=qcs Go.Proofs.Tryz.underlying146 (by kernel_rfl) (qahu B)
theorem qahp (B:Nat):Rd Go.Proofs.Tryz.prog B 148 Xd.c (Xd.Ok B):=Xd.rd Go.Proofs.Tryz.underlying148 (qlf B) (qut B) (rd_t4 B) (qqy B) (qaho B) (qc6 B)
theorem qak3 (B:Nat):Rd Go.Proofs.Tryz.prog B 27 (cS 7 Xd.c) (okL B (Xd.Ok B)):=qcs Go.Proofs.Tryz.underlying27 (by kernel_rfl) (qahp B)
theorem qahs (B:Nat):Rd Go.Proofs.Tryz.prog B 188 Xa.c (Xa.Ok B):=Xa.rd Go.Proofs.Tryz.underlying188 (qc6 B) (qc6 B) (qqz B) rfl rfl Go.Proofs.Tryz.underlying28 (by kernel_rfl)
theorem qak4 (B:Nat):Rd Go.Proofs.Tryz.prog B 28 (cS 5 Xa.c) (okL B (Xa.Ok B)):=qcs Go.Proofs.Tryz.underlying28 (by kernel_rfl) (qahs B)
theorem qak5 (B:Nat):Rd Go.Proofs.Tryz.prog B 31 Prg.c (Prg.Ok B):=Prg.rd Go.Proofs.Tryz.underlying31 (qlf B) (qakz B) (qus B) (qak0 B) (qak1 B) (qak2 B) (qak3 B) (qak4 B) (qut B)
theorem qahh (B:Nat):Rd Go.Proofs.Tryz.prog B 120 Xi.c (Xi.Ok B):=Xi.rd Go.Proofs.Tryz.underlying120 (qmk B) (qmk B)
theorem qak7 (B:Nat):Rd Go.Proofs.Tryz.prog B 46 (cS 2 Xi.c) (okL B (Xi.Ok B)):=qcs Go.Proofs.Tryz.underlying46 (by kernel_rfl) (qahh B)
theorem qak9 (B:Nat):Rd Go.Proofs.Tryz.prog B 51 Entry.c (Entry.Ok B):=Entry.rd Go.Proofs.Tryz.underlying51 (qak7 B) (qc6 B) (quu B)
theorem qala (B:Nat):Rd Go.Proofs.Tryz.prog B 53 Xc.c (Xc.Ok B):=Xc.rd Go.Proofs.Tryz.underlying53 (qc6 B) (qc6 B) (qc6 B) (qak9 B) (quu B)
theorem qak6 (B:Nat):Rd Go.Proofs.Tryz.prog B 37 (cS 9 Xc.c) (okL B (Xc.Ok B)):=qcs Go.Proofs.Tryz.underlying37 (by kernel_rfl) (qala B)
theorem qalb (B:Nat):Rd Go.Proofs.Tryz.prog B 63 (cS 1 (cS 9 Xc.c)) (okL B (okL B (Xc.Ok B))):=qcs Go.Proofs.Tryz.underlying63 (by kernel_rfl) (qak6 B)
def tyL:List Nat:=[3,4,9,22,23,24,25,26,27,28,29,31,37,46,47,49,51,53,63,96,120,134,136,138,140,141,143,145,146,148,153,155,186,188,225,267,270]
theorem qalv:qhz Go.Proofs.Tryz.prog tyL=true:=by kernel_rfl
theorem qai4 {H:Type} (d:DataW H):1<=Go.Proofs.YtjdbnnnakpacjaaGreat.Rows.uptoBulk d:=by
  cases d with
  | lit l=>cases l<;>simp [Go.Proofs.YtjdbnnnakpacjaaGreat.Rows.uptoBulk]
  | nil=>simp [Go.Proofs.YtjdbnnnakpacjaaGreat.Rows.uptoBulk]
  | ptr d=>simp [Go.Proofs.YtjdbnnnakpacjaaGreat.Rows.uptoBulk]
  | slice elems spare=>simp [Go.Proofs.YtjdbnnnakpacjaaGreat.Rows.uptoBulk]
  | agg parts=>simp [Go.Proofs.YtjdbnnnakpacjaaGreat.Rows.uptoBulk]
  | iface t d=>simp [Go.Proofs.YtjdbnnnakpacjaaGreat.Rows.uptoBulk]
  | map entries=>simp [Go.Proofs.YtjdbnnnakpacjaaGreat.Rows.uptoBulk]
  | held h=>simp [Go.Proofs.YtjdbnnnakpacjaaGreat.Rows.uptoBulk]
def bk (H:Type):BulkFn H where
  one:=Go.Proofs.YtjdbnnnakpacjaaGreat.Rows.uptoBulk
  all:=Go.Proofs.YtjdbnnnakpacjaaGreat.Rows.uptoBulkAll
  nil:=by simp [Go.Proofs.YtjdbnnnakpacjaaGreat.Rows.uptoBulkAll]
  cons:=fun d r=>by simp [Go.Proofs.YtjdbnnnakpacjaaGreat.Rows.uptoBulkAll]
  slice:=fun e s=>by simp [Go.Proofs.YtjdbnnnakpacjaaGreat.Rows.uptoBulk]
  agg:=fun e=>by simp [Go.Proofs.YtjdbnnnakpacjaaGreat.Rows.uptoBulk]
  str:=fun b=>by simp [Go.Proofs.YtjdbnnnakpacjaaGreat.Rows.uptoBulk]
  pos:=qai4
theorem small {H:Type} {l:List (DataW H)} (h:Go.Proofs.YtjdbnnnakpacjaaGreat.Rows.uptoSmall H l=true):(bk H).all l<=qaz:=qyt (of_decide_eq_true h)
theorem qae0:qeb Go.Proofs.Tryz.prog 31=true:=by kernel_rfl
theorem qae1:qeb Go.Proofs.Tryz.prog 63=false:=by kernel_rfl
theorem qai3:qeb Go.Proofs.Tryz.prog 3=false:=by kernel_rfl
theorem qaj9 (vs:List AV) (h:WTVs Go.Proofs.Tryz.prog qaz [31,63,3] vs) (hs:szL vs<=qaz):qad Φ 8 vs=some (.val (.bool true)):=by
  obtain ⟨a0,vs,rfl,h0,h⟩:=qmr h;obtain ⟨a1,vs,rfl,h1,h⟩:=qmr h;obtain ⟨a2,vs,rfl,h2,h⟩:=qmr h;obtain rfl:=qaew h;obtain ⟨x0,rfl,o0⟩:=qaik h0 qae0 (qak5 qaz);obtain ⟨x1,e1,o1⟩:=qxg h1 qae1 (qalb qaz);cases e1;obtain ⟨x2,e2,o2⟩:=qxg h2 qai3 (qc6 qaz);cases e2;exact qlu x0 x1 x2 o0 o1 o2 (hc_of hs)
end Go.Av
namespace Go.Proofs.YtjdbnnnakpacjaaGreat
open Go.ChangeShapes Go.WideShapes Go.ChangeAt Go.RowKit Go.Av
theorem own:ownKnob Tryz.prog.godebug=none:=by kernel_rfl
theorem laid:laidOutB Tryz.prog=true:=closed2.1
theorem qhk:joinedFacts Tryz.checked.prog 8 Tryz.f8 (Rows.OpenSpec.upto Rows.journalRecoversSpec).bare Rows.journalRecoversUptoRow=true:=by
  unfold joinedFacts;rw [closed2.1,closed2.2,fa1,fa2,fa3,fa4,fa5,fa6,pf1,pf2]
  kernel_rfl
theorem table:TableOk Tryz.prog ann Φ:=qagj (qzk (by kernel_rfl) qalp (by kernel_rfl) qaie (by kernel_rfl) qaek qael (by kernel_rfl)) (by kernel_rfl)
set_option maxRecDepth 100000 in
theorem qacr (H:Type) (enc:TypeId×Value->H) (W:World) (base:Nat) (args:Array Value) (ds gs:List (DataW H)) (before:List MemPlace)
    (hval:∀(j:Nat) t v,Tryz.f8.params[j]? =some t->args[j]? =some v->Value.okWide Tryz.prog W .any base t v)
    (hW:DataW.Whole enc Tryz.prog Tryz.f8.params.toList Rows.journalRecoversSpec.vars false W args.toList ds gs before) (hk:Rows.uptoSmall H (ds++gs)=true):
    Calls Tryz.prog 8 args W fun e W'=>∃v,e= .returned v/\Rows.journalRecoversSpec.post enc Tryz.prog Tryz.f8 false true false false W args v W':=
  qy7 table laid (tb:=Tryz.f8.resultTypes[0]!) rfl rfl (by kernel_rfl) (by kernel_rfl) (bk H) qalv (by kernel_rfl) hval hW
    (fun l hl=>by
      match l,hl with
      | [d0,d1,d2],_=>rfl)
    (small hk) (fun vs h hs=>qaj9 vs (by rw [Tryz.params8] at h;exact h) hs)
set_option maxRecDepth 100000 in
theorem lifted (os:Os) (started:os.Started) (H:Type) (enc:TypeId×Value->H) (F:Stop.Interp):
    ReturnsInHanded {} Tryz.checked os 8 .any ((Rows.OpenSpec.upto Rows.journalRecoversSpec).pre6 enc Tryz.prog Tryz.f8 Rows.journalRecoversUptoRow.domain false) (((Rows.OpenSpec.upto Rows.journalRecoversSpec).at F).post enc Tryz.prog Tryz.f8 false true false false):=by
  refine returnsInHanded_of_cond (C:=Tryz.checked) (s:=Rows.OpenSpec.upto Rows.journalRecoversSpec) (k:=Rows.uptoSmall) rfl own started (by kernel_rfl) Tryz.func8
    (OpenSpec.witness (enc:=enc) (C:=Tryz.checked) (s:=Rows.OpenSpec.upto Rows.journalRecoversSpec) (k:=Rows.uptoSmall) rfl false ⟨#[],#[.agg #[.string ByteArray.empty,.slice none 0 0,.slice none 0 0,.slice none 0 0,.slice none 0 0,.slice none 0 0,.slice none 0 0,.slice none 0 0,.slice none 0 0],.slice none 0 0,.int .i64 0],[]⟩ 24 (by kernel_rfl) (by kernel_rfl) (by kernel_rfl)
      (x:=([.agg [.lit (.string []),.nil,.nil,.nil,.nil,.nil,.nil,.nil,.nil],.nil,.lit (.int .i64 0)],[],[])) (by kernel_rfl) rfl (by kernel_rfl)) ?_
  intro W base args ds gs before hval hW _ hk _;exact qacr H enc W base args ds gs before hval hW hk
theorem proved:Rows.JournalRecoversUptoSaid:=
  OpenClaim.holds_of_cond 8 Tryz.f8 rfl rfl rfl rfl rfl rfl rfl ⟨rfl,rfl,rfl,rfl,rfl⟩ rfl rfl rfl rfl rfl (by kernel_rfl) Tryz.func8 qhk
    (of_decide_eq_true (by kernel_rfl)) (by unfold Func.isWrapper;first | (rw [if_pos (by decide+kernel)];kernel_rfl) | (rw [if_neg (by decide+kernel)];exact ⟨rfl,rfl⟩))
    (fun os started H enc _ F=>lifted os started H enc F)
end Go.Proofs.YtjdbnnnakpacjaaGreat
