/-
  The law 'NetworkEvents' returns true at every input whose readings are of bulk at most 1048576, and leaves its arguments as they were.
  Conditions: none but that bound, which the given statement itself bears.
-/
import Derived.Test.YtknmfocedphgmaaGreatNL7
import Derived.Test.YtknmfocedphgmaaGreatFunsBR
import Derived.Test.YtknmfocedphgmaaGreatRNetworkEventsFa
import Derived.Test.YtknmfocedphgmaaGreatRNetworkEventsFb
import Derived.Test.YtknmfocedphgmaaGreatRNetworkEventsFc
import Derived.KernelRfl
import Derived.ClosedOfChecked
set_option linter.unusedVariables false
set_option linter.unusedSimpArgs false
set_option linter.constructorNameAsVariable false
namespace Go.Av
theorem qeo (B:Nat):Rd Go.Proofs.Tryz.prog B 3 cI (okI B):=qagh Go.Proofs.Tryz.underlying3
theorem qxm (B:Nat):Rd Go.Proofs.Tryz.prog B 22 (cS 1 cI) (okL B (okI B)):=qcu Go.Proofs.Tryz.underlying22 (by kernel_rfl) (qeo B)
theorem qq9 (B:Nat):Rd Go.Proofs.Tryz.prog B 62 PortID.c (PortID.Ok B):=PortID.rd Go.Proofs.Tryz.underlying62 (qeo B) (qeo B)
theorem rd_t4 (B:Nat):Rd Go.Proofs.Tryz.prog B 4 cB (okT B):=qadf Go.Proofs.Tryz.underlying4
theorem qadg (B:Nat):Rd Go.Proofs.Tryz.prog B 129 Link.c (Link.Ok B):=Link.rd Go.Proofs.Tryz.underlying129 (qq9 B) (qq9 B) (rd_t4 B)
theorem qagi (B:Nat):Rd Go.Proofs.Tryz.prog B 23 (cS 5 Link.c) (okL B (Link.Ok B)):=qcu Go.Proofs.Tryz.underlying23 (by kernel_rfl) (qadg B)
theorem qagj (B:Nat):Rd Go.Proofs.Tryz.prog B 24 (cS 2 PortID.c) (okL B (PortID.Ok B)):=qcu Go.Proofs.Tryz.underlying24 (by kernel_rfl) (qq9 B)
theorem qagk (B:Nat):Rd Go.Proofs.Tryz.prog B 26 Topology.c (Topology.Ok B):=Topology.rd Go.Proofs.Tryz.underlying26 (qxm B) (qagi B) (qagj B)
theorem qof (B:Nat):Rd Go.Proofs.Tryz.prog B 117 c32 (ok32 B):=qagw Go.Proofs.Tryz.underlying117
theorem qadj (B:Nat):Rd Go.Proofs.Tryz.prog B 239 Xi.c (Xi.Ok B):=Xi.rd Go.Proofs.Tryz.underlying239 (qof B) (qof B)
theorem qadh (B:Nat):Rd Go.Proofs.Tryz.prog B 232 (cS 2 Xi.c) (okL B (Xi.Ok B)):=qcu Go.Proofs.Tryz.underlying232 (by kernel_rfl) (qadj B)
theorem qtl (B:Nat):Rd Go.Proofs.Tryz.prog B 118 (cS 1 c32) (okL B (ok32 B)):=qcu Go.Proofs.Tryz.underlying118 (by kernel_rfl) (qof B)
theorem qog (B:Nat):Rd Go.Proofs.Tryz.prog B 148 Xb.c (Xb.Ok B):=Xb.rd Go.Proofs.Tryz.underlying148 (qeo B) (qtl B)
theorem qtm (B:Nat):Rd Go.Proofs.Tryz.prog B 234 Entry.c (Entry.Ok B):=Entry.rd Go.Proofs.Tryz.underlying234 (qadh B) (qeo B) (qog B)
theorem qadi (B:Nat):Rd Go.Proofs.Tryz.prog B 236 Rw.c (Rw.Ok B):=Rw.rd Go.Proofs.Tryz.underlying236 (qeo B) (qtm B)
theorem qagv (B:Nat):Rd Go.Proofs.Tryz.prog B 80 (cS 5 Rw.c) (okL B (Rw.Ok B)):=qcu Go.Proofs.Tryz.underlying80 (by kernel_rfl) (qadi B)
theorem qagr (B:Nat):Rd Go.Proofs.Tryz.prog B 75 (cS 1 (cS 5 Rw.c)) (okL B (okL B (Rw.Ok B))):=qcu Go.Proofs.Tryz.underlying75 (by kernel_rfl) (qagv B)
theorem qags (B:Nat):Rd Go.Proofs.Tryz.prog B 76 (cS 2 Xb.c) (okL B (Xb.Ok B)):=qcu Go.Proofs.Tryz.underlying76 (by kernel_rfl) (qog B)
theorem qagt (B:Nat):Rd Go.Proofs.Tryz.prog B 77 (cS 1 (cS 1 c32)) (okL B (okL B (ok32 B))):=qcu Go.Proofs.Tryz.underlying77 (by kernel_rfl) (qtl B)
theorem qagu (B:Nat):Rd Go.Proofs.Tryz.prog B 79 Xf.c (Xf.Ok B):=Xf.rd Go.Proofs.Tryz.underlying79 (qagr B) (qxm B) (qags B) (qagt B)
theorem qagl (B:Nat):Rd Go.Proofs.Tryz.prog B 27 (cS 4 Xf.c) (okL B (Xf.Ok B)):=qcu Go.Proofs.Tryz.underlying27 (by kernel_rfl) (qagu B)
theorem rd_t5 (B:Nat):Rd Go.Proofs.Tryz.prog B 5 c8 (ok8 B):=rd_u8 Go.Proofs.Tryz.underlying5
theorem qagn (B:Nat):Rd Go.Proofs.Tryz.prog B 43 (cS 1 c8) (okL B (ok8 B)):=qcu Go.Proofs.Tryz.underlying43 (by kernel_rfl) (rd_t5 B)
theorem qadk (B:Nat):Rd Go.Proofs.Tryz.prog B 347 Xc.c (Xc.Ok B):=Xc.rd Go.Proofs.Tryz.underlying347 (qeo B) (qeo B) (qeo B) (qtm B) (qog B)
theorem qago (B:Nat):Rd Go.Proofs.Tryz.prog B 44 (cS 9 Xc.c) (okL B (Xc.Ok B)):=qcu Go.Proofs.Tryz.underlying44 (by kernel_rfl) (qadk B)
theorem qagp (B:Nat):Rd Go.Proofs.Tryz.prog B 46 UpdateStep.c (UpdateStep.Ok B):=UpdateStep.rd Go.Proofs.Tryz.underlying46 (qeo B) (qago B)
theorem qagq (B:Nat):Rd Go.Proofs.Tryz.prog B 48 Act.c (Act.Ok B):=Act.rd Go.Proofs.Tryz.underlying48 (qeo B) (qeo B) (qeo B) (qagn B) (qagp B)
theorem qagm (B:Nat):Rd Go.Proofs.Tryz.prog B 28 (cS 6 Act.c) (okL B (Act.Ok B)):=qcu Go.Proofs.Tryz.underlying28 (by kernel_rfl) (qagq B)
def tyL:List Nat:=[3,4,5,22,23,24,26,27,28,43,44,46,48,62,75,76,77,79,80,117,118,129,148,232,234,236,239,347]
theorem qahh:qgq Go.Proofs.Tryz.prog tyL=true:=by kernel_rfl
theorem qae2 {H:Type} (d:DataW H):1<=Go.Proofs.YtknmfocedphgmaaGreat.Rows.uptoBulk d:=by
  cases d with
  | lit l=>cases l<;>simp [Go.Proofs.YtknmfocedphgmaaGreat.Rows.uptoBulk]
  | nil=>simp [Go.Proofs.YtknmfocedphgmaaGreat.Rows.uptoBulk]
  | ptr d=>simp [Go.Proofs.YtknmfocedphgmaaGreat.Rows.uptoBulk]
  | slice elems spare=>simp [Go.Proofs.YtknmfocedphgmaaGreat.Rows.uptoBulk]
  | agg parts=>simp [Go.Proofs.YtknmfocedphgmaaGreat.Rows.uptoBulk]
  | iface t d=>simp [Go.Proofs.YtknmfocedphgmaaGreat.Rows.uptoBulk]
  | map entries=>simp [Go.Proofs.YtknmfocedphgmaaGreat.Rows.uptoBulk]
  | held h=>simp [Go.Proofs.YtknmfocedphgmaaGreat.Rows.uptoBulk]
def bk (H:Type):BulkFn H where
  one:=Go.Proofs.YtknmfocedphgmaaGreat.Rows.uptoBulk
  all:=Go.Proofs.YtknmfocedphgmaaGreat.Rows.uptoBulkAll
  nil:=by simp [Go.Proofs.YtknmfocedphgmaaGreat.Rows.uptoBulkAll]
  cons:=fun d r=>by simp [Go.Proofs.YtknmfocedphgmaaGreat.Rows.uptoBulkAll]
  slice:=fun e s=>by simp [Go.Proofs.YtknmfocedphgmaaGreat.Rows.uptoBulk]
  agg:=fun e=>by simp [Go.Proofs.YtknmfocedphgmaaGreat.Rows.uptoBulk]
  str:=fun b=>by simp [Go.Proofs.YtknmfocedphgmaaGreat.Rows.uptoBulk]
  pos:=qae2
theorem small {H:Type} {l:List (DataW H)} (h:Go.Proofs.YtknmfocedphgmaaGreat.Rows.uptoSmall H l=true):(bk H).all l<=qba:=quu (of_decide_eq_true h)
theorem qabc:qdi Go.Proofs.Tryz.prog 26=true:=by kernel_rfl
theorem qabd:qdi Go.Proofs.Tryz.prog 27=false:=by kernel_rfl
theorem qabe:qdi Go.Proofs.Tryz.prog 28=false:=by kernel_rfl
theorem qafy (vs:List AV) (h:WTVs Go.Proofs.Tryz.prog qba [26,27,28] vs):qac Φ 5 vs=some (.val (.bool true)):=by
  obtain ⟨a0,vs,rfl,h0,h⟩:=qkz h;obtain ⟨a1,vs,rfl,h1,h⟩:=qkz h;obtain ⟨a2,vs,rfl,h2,h⟩:=qkz h;obtain rfl:=qaa7 h;obtain ⟨x0,rfl,o0⟩:=qaef h0 qabc (qagk qba);obtain ⟨x1,e1,o1⟩:=qtu h1 qabd (qagl qba);cases e1;obtain ⟨x2,e2,o2⟩:=qtu h2 qabe (qagm qba);cases e2;exact qlo x0 x1 x2 o0 o1 o2
end Go.Av
namespace Go.Proofs.YtknmfocedphgmaaGreat
open Go.ChangeShapes Go.WideShapes Go.ChangeAt Go.RowKit Go.Av
theorem own:ownKnob Tryz.prog.godebug=none:=by kernel_rfl
theorem laid:laidOutB Tryz.prog=true:=closed2.1
theorem qgj:joinedFacts Tryz.checked.prog 5 Tryz.f5 (Rows.OpenSpec.upto Rows.networkEventsSpec).bare Rows.networkEventsUptoRow=true:=by
  unfold joinedFacts;rw [closed2.1,closed2.2,fa1,fa2,fa3,fa4,fa5,fa6,pf1,pf2]
  kernel_rfl
theorem table:TableOk Tryz.prog ann Φ:=qacm (qvh (by kernel_rfl) qahd (by kernel_rfl) qaeb (by kernel_rfl) qaau qaav (by kernel_rfl)) (by kernel_rfl)
set_option maxRecDepth 100000 in
theorem qyu (H:Type) (enc:TypeId×Value->H) (W:World) (base:Nat) (args:Array Value) (ds gs:List (DataW H)) (before:List MemPlace)
    (hval:∀(j:Nat) t v,Tryz.f5.params[j]? =some t->args[j]? =some v->Value.okWide Tryz.prog W .any base t v)
    (hW:DataW.Whole enc Tryz.prog Tryz.f5.params.toList Rows.networkEventsSpec.vars false W args.toList ds gs before) (hk:Rows.uptoSmall H (ds++gs)=true):
    Calls Tryz.prog 5 args W fun e W'=>∃v,e= .returned v/\Rows.networkEventsSpec.post enc Tryz.prog Tryz.f5 false true false false W args v W':=
  qu2 table laid (tb:=Tryz.f5.resultTypes[0]!) rfl rfl (by kernel_rfl) (by kernel_rfl) (bk H) qahh (by kernel_rfl) hval hW
    (fun l hl=>by
      match l,hl with
      | [d0,d1,d2],_=>rfl)
    (small hk) (fun vs h=>qafy vs (by rw [Tryz.params5] at h;exact h))
set_option maxRecDepth 100000 in
theorem lifted (os:Os) (started:os.Started) (H:Type) (enc:TypeId×Value->H) (F:Stop.Interp):
    ReturnsInHanded {} Tryz.checked os 5 .any ((Rows.OpenSpec.upto Rows.networkEventsSpec).pre6 enc Tryz.prog Tryz.f5 Rows.networkEventsUptoRow.domain false) (((Rows.OpenSpec.upto Rows.networkEventsSpec).at F).post enc Tryz.prog Tryz.f5 false true false false):=by
  refine returnsInHanded_of_cond (C:=Tryz.checked) (s:=Rows.OpenSpec.upto Rows.networkEventsSpec) (k:=Rows.uptoSmall) rfl own started (by kernel_rfl) Tryz.func5
    (OpenSpec.witness (enc:=enc) (C:=Tryz.checked) (s:=Rows.OpenSpec.upto Rows.networkEventsSpec) (k:=Rows.uptoSmall) rfl false ⟨#[],#[.agg #[.slice none 0 0,.slice none 0 0,.slice none 0 0],.slice none 0 0,.slice none 0 0],[]⟩ 24 (by kernel_rfl) (by kernel_rfl) (by kernel_rfl)
      (x:=([.agg [.nil,.nil,.nil],.nil,.nil],[],[])) (by kernel_rfl) rfl (by kernel_rfl)) ?_
  intro W base args ds gs before hval hW _ hk _;exact qyu H enc W base args ds gs before hval hW hk
theorem proved:Rows.NetworkEventsUptoSaid:=
  OpenClaim.holds_of_cond 5 Tryz.f5 rfl rfl rfl rfl rfl rfl rfl ⟨rfl,rfl,rfl,rfl,rfl⟩ rfl rfl rfl rfl rfl (by kernel_rfl) Tryz.func5 qgj
    (of_decide_eq_true (by kernel_rfl)) (by unfold Func.isWrapper;first | (rw [if_pos (by decide+kernel)];kernel_rfl) | (rw [if_neg (by decide+kernel)];exact ⟨rfl,rfl⟩))
    (fun os started H enc _ F=>lifted os started H enc F)
end Go.Proofs.YtknmfocedphgmaaGreat
