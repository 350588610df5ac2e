/-
  The law 'NetworkRuns' returns true at every input whose readings are of bulk at most 1048576, and leaves its arguments as they were.
  Conditions: none but that bound, which the given statement itself bears.
-/
import Derived.Test.YtknmfocedphgmaaGreatNL7
import Derived.Test.YtknmfocedphgmaaGreatFunsBR
import Derived.Test.YtknmfocedphgmaaGreatRNetworkRunsFa
import Derived.Test.YtknmfocedphgmaaGreatRNetworkRunsFb
import Derived.Test.YtknmfocedphgmaaGreatRNetworkRunsFc
import Derived.KernelRfl
import Derived.ClosedOfChecked
set_option linter.unusedVariables false
set_option linter.unusedSimpArgs false
set_option linter.constructorNameAsVariable false
namespace Go.Av
theorem gJ (B:Nat):Rd Go.Proofs.Tryz.prog B 3 cI (okI B):=MU Go.Proofs.Tryz.underlying3
theorem OD (B:Nat):Rd Go.Proofs.Tryz.prog B 22 (cS 1 cI) (okL B (okI B)):=gT Go.Proofs.Tryz.underlying22 (by kernel_rfl) (gJ B)
theorem IV (B:Nat):Rd Go.Proofs.Tryz.prog B 62 PortID.c (PortID.Ok B):=PortID.rd Go.Proofs.Tryz.underlying62 (gJ B) (gJ B)
theorem Hk (B:Nat):Rd Go.Proofs.Tryz.prog B 4 cB (okT B):=Pq Go.Proofs.Tryz.underlying4
theorem Fi (B:Nat):Rd Go.Proofs.Tryz.prog B 129 Link.c (Link.Ok B):=Link.rd Go.Proofs.Tryz.underlying129 (IV B) (IV B) (Hk B)
theorem Gr (B:Nat):Rd Go.Proofs.Tryz.prog B 23 (cS 5 Link.c) (okL B (Link.Ok B)):=gT Go.Proofs.Tryz.underlying23 (by kernel_rfl) (Fi B)
theorem Gs (B:Nat):Rd Go.Proofs.Tryz.prog B 24 (cS 2 PortID.c) (okL B (PortID.Ok B)):=gT Go.Proofs.Tryz.underlying24 (by kernel_rfl) (IV B)
theorem Gt (B:Nat):Rd Go.Proofs.Tryz.prog B 26 Topology.c (Topology.Ok B):=Topology.rd Go.Proofs.Tryz.underlying26 (OD B) (Gr B) (Gs B)
theorem IP (B:Nat):Rd Go.Proofs.Tryz.prog B 117 c32 (ok32 B):=MV Go.Proofs.Tryz.underlying117
theorem Fl (B:Nat):Rd Go.Proofs.Tryz.prog B 239 Xi.c (Xi.Ok B):=Xi.rd Go.Proofs.Tryz.underlying239 (IP B) (IP B)
theorem Fj (B:Nat):Rd Go.Proofs.Tryz.prog B 232 (cS 2 Xi.c) (okL B (Xi.Ok B)):=gT Go.Proofs.Tryz.underlying232 (by kernel_rfl) (Fl B)
theorem OB (B:Nat):Rd Go.Proofs.Tryz.prog B 118 (cS 1 c32) (okL B (ok32 B)):=gT Go.Proofs.Tryz.underlying118 (by kernel_rfl) (IP B)
theorem IQ (B:Nat):Rd Go.Proofs.Tryz.prog B 148 Xb.c (Xb.Ok B):=Xb.rd Go.Proofs.Tryz.underlying148 (gJ B) (OB B)
theorem OC (B:Nat):Rd Go.Proofs.Tryz.prog B 234 Entry.c (Entry.Ok B):=Entry.rd Go.Proofs.Tryz.underlying234 (Fj B) (gJ B) (IQ B)
theorem Fk (B:Nat):Rd Go.Proofs.Tryz.prog B 236 Rw.c (Rw.Ok B):=Rw.rd Go.Proofs.Tryz.underlying236 (gJ B) (OC B)
theorem Gn (B:Nat):Rd Go.Proofs.Tryz.prog B 80 (cS 5 Rw.c) (okL B (Rw.Ok B)):=gT Go.Proofs.Tryz.underlying80 (by kernel_rfl) (Fk B)
theorem Gj (B:Nat):Rd Go.Proofs.Tryz.prog B 75 (cS 1 (cS 5 Rw.c)) (okL B (okL B (Rw.Ok B))):=gT Go.Proofs.Tryz.underlying75 (by kernel_rfl) (Gn B)
theorem Gk (B:Nat):Rd Go.Proofs.Tryz.prog B 76 (cS 2 Xb.c) (okL B (Xb.Ok B)):=gT Go.Proofs.Tryz.underlying76 (by kernel_rfl) (IQ B)
theorem Gl (B:Nat):Rd Go.Proofs.Tryz.prog B 77 (cS 1 (cS 1 c32)) (okL B (okL B (ok32 B))):=gT Go.Proofs.Tryz.underlying77 (by kernel_rfl) (OB B)
theorem Gm (B:Nat):Rd Go.Proofs.Tryz.prog B 79 Xf.c (Xf.Ok B):=Xf.rd Go.Proofs.Tryz.underlying79 (Gj B) (OD B) (Gk B) (Gl B)
theorem Gu (B:Nat):Rd Go.Proofs.Tryz.prog B 27 (cS 4 Xf.c) (okL B (Xf.Ok B)):=gT Go.Proofs.Tryz.underlying27 (by kernel_rfl) (Gm B)
theorem Hl (B:Nat):Rd Go.Proofs.Tryz.prog B 5 c8 (ok8 B):=rd_u8 Go.Proofs.Tryz.underlying5
theorem Gw (B:Nat):Rd Go.Proofs.Tryz.prog B 43 (cS 1 c8) (okL B (ok8 B)):=gT Go.Proofs.Tryz.underlying43 (by kernel_rfl) (Hl B)
theorem Fm (B:Nat):Rd Go.Proofs.Tryz.prog B 347 Xc.c (Xc.Ok B):=Xc.rd Go.Proofs.Tryz.underlying347 (gJ B) (gJ B) (gJ B) (OC B) (IQ B)
theorem Gx (B:Nat):Rd Go.Proofs.Tryz.prog B 44 (cS 9 Xc.c) (okL B (Xc.Ok B)):=gT Go.Proofs.Tryz.underlying44 (by kernel_rfl) (Fm B)
theorem Gh (B:Nat):Rd Go.Proofs.Tryz.prog B 46 UpdateStep.c (UpdateStep.Ok B):=UpdateStep.rd Go.Proofs.Tryz.underlying46 (gJ B) (Gx B)
theorem Gi (B:Nat):Rd Go.Proofs.Tryz.prog B 48 Act.c (Act.Ok B):=Act.rd Go.Proofs.Tryz.underlying48 (gJ B) (gJ B) (gJ B) (Gw B) (Gh B)
theorem Gv (B:Nat):Rd Go.Proofs.Tryz.prog B 28 (cS 6 Act.c) (okL B (Act.Ok B)):=gT Go.Proofs.Tryz.underlying28 (by kernel_rfl) (Gi B)
def tyL:List Nat:=[3,4,5,22,23,24,26,27,28,43,44,46,48,62,75,76,77,79,80,117,118,129,148,232,234,236,239,347]
theorem He:D8 Go.Proofs.Tryz.prog tyL=true:=by kernel_rfl
theorem Gb {H:Type} (d:DataW H):1<=Go.Proofs.YtknmfocedphgmaaGreat.Rows.uptoBulk d:=by
  cases d with
  | lit l=>cases l<;>simp [Go.Proofs.YtknmfocedphgmaaGreat.Rows.uptoBulk]
  | nil=>simp [Go.Proofs.YtknmfocedphgmaaGreat.Rows.uptoBulk]
  | ptr d=>simp [Go.Proofs.YtknmfocedphgmaaGreat.Rows.uptoBulk]
  | slice elems spare=>simp [Go.Proofs.YtknmfocedphgmaaGreat.Rows.uptoBulk]
  | agg parts=>simp [Go.Proofs.YtknmfocedphgmaaGreat.Rows.uptoBulk]
  | iface t d=>simp [Go.Proofs.YtknmfocedphgmaaGreat.Rows.uptoBulk]
  | map entries=>simp [Go.Proofs.YtknmfocedphgmaaGreat.Rows.uptoBulk]
  | held h=>simp [Go.Proofs.YtknmfocedphgmaaGreat.Rows.uptoBulk]
def bk (H:Type):BulkFn H where
  one:=Go.Proofs.YtknmfocedphgmaaGreat.Rows.uptoBulk
  all:=Go.Proofs.YtknmfocedphgmaaGreat.Rows.uptoBulkAll
  nil:=by simp [Go.Proofs.YtknmfocedphgmaaGreat.Rows.uptoBulkAll]
  cons:=fun d r=>by simp [Go.Proofs.YtknmfocedphgmaaGreat.Rows.uptoBulkAll]
  slice:=fun e s=>by simp [Go.Proofs.YtknmfocedphgmaaGreat.Rows.uptoBulk]
  agg:=fun e=>by simp [Go.Proofs.YtknmfocedphgmaaGreat.Rows.uptoBulk]
  str:=fun b=>by simp [Go.Proofs.YtknmfocedphgmaaGreat.Rows.uptoBulk]
  pos:=Gb
theorem small {H:Type} {l:List (DataW H)} (h:Go.Proofs.YtknmfocedphgmaaGreat.Rows.uptoSmall H l=true):(bk H).all l<=dO:=Km (of_decide_eq_true h)
theorem Fd:oJ Go.Proofs.Tryz.prog 26=true:=by kernel_rfl
theorem Fe:oJ Go.Proofs.Tryz.prog 27=false:=by kernel_rfl
theorem XN:oJ Go.Proofs.Tryz.prog 28=false:=by kernel_rfl
theorem Gq (vs:List AV) (h:WTVs Go.Proofs.Tryz.prog dO [26,27,28] vs):aA Φ 3 vs=some (.val (.bool true)):=by
  obtain ⟨a0,vs,rfl,h0,h⟩:=KD h;obtain ⟨a1,vs,rfl,h1,h⟩:=KD h;obtain ⟨a2,vs,rfl,h2,h⟩:=KD h;obtain rfl:=Ni h;obtain ⟨x0,rfl,o0⟩:=Fu h0 Fd (Gt dO);obtain ⟨x1,e1,o1⟩:=Fv h1 Fe (Gu dO);cases e1;obtain ⟨x2,e2,o2⟩:=Fv h2 XN (Gv dO);cases e2;exact qoc x0 x1 x2 o0 o1 o2
end Go.Av
namespace Go.Proofs.YtknmfocedphgmaaGreat
open Go.ChangeShapes Go.WideShapes Go.ChangeAt Go.RowKit Go.Av
theorem own:ownKnob Tryz.prog.godebug=none:=by kernel_rfl
theorem laid:laidOutB Tryz.prog=true:=closed2.1
theorem BG:joinedFacts Tryz.checked.prog 3 Tryz.f3 (Rows.OpenSpec.upto Rows.networkRunsSpec).bare Rows.networkRunsUptoRow=true:=by
  unfold joinedFacts;rw [closed2.1,closed2.2,fa1,fa2,fa3,fa4,fa5,fa6,pf1,pf2]
  kernel_rfl
theorem table:TableOk Tryz.prog ann Φ:=Pb (Kx (by kernel_rfl) NA (by kernel_rfl) Oj (by kernel_rfl) Ns Nt (by kernel_rfl)) (by kernel_rfl)
set_option maxRecDepth 100000 in
theorem Ek (H:Type) (enc:TypeId×Value->H) (W:World) (base:Nat) (args:Array Value) (ds gs:List (DataW H)) (before:List MemPlace)
    (hval:∀(j:Nat) t v,Tryz.f3.params[j]? =some t->args[j]? =some v->Value.okWide Tryz.prog W .any base t v)
    (hW:DataW.Whole enc Tryz.prog Tryz.f3.params.toList Rows.networkRunsSpec.vars false W args.toList ds gs before) (hk:Rows.uptoSmall H (ds++gs)=true):
    Calls Tryz.prog 3 args W fun e W'=>∃v,e= .returned v/\Rows.networkRunsSpec.post enc Tryz.prog Tryz.f3 false true false false W args v W':=
  Ks table laid (tb:=Tryz.f3.resultTypes[0]!) rfl rfl (by kernel_rfl) (by kernel_rfl) (bk H) He (by kernel_rfl) hval hW
    (fun l hl=>by
      match l,hl with
      | [d0,d1,d2],_=>rfl)
    (small hk) (fun vs h=>Gq vs (by rw [Tryz.params3] at h;exact h))
set_option maxRecDepth 100000 in
theorem lifted (os:Os) (started:os.Started) (H:Type) (enc:TypeId×Value->H) (F:Stop.Interp):
    ReturnsInHanded {} Tryz.checked os 3 .any ((Rows.OpenSpec.upto Rows.networkRunsSpec).pre6 enc Tryz.prog Tryz.f3 Rows.networkRunsUptoRow.domain false) (((Rows.OpenSpec.upto Rows.networkRunsSpec).at F).post enc Tryz.prog Tryz.f3 false true false false):=by
  refine returnsInHanded_of_cond (C:=Tryz.checked) (s:=Rows.OpenSpec.upto Rows.networkRunsSpec) (k:=Rows.uptoSmall) rfl own started (by kernel_rfl) Tryz.func3
    (OpenSpec.witness (enc:=enc) (C:=Tryz.checked) (s:=Rows.OpenSpec.upto Rows.networkRunsSpec) (k:=Rows.uptoSmall) rfl false ⟨#[],#[.agg #[.slice none 0 0,.slice none 0 0,.slice none 0 0],.slice none 0 0,.slice none 0 0],[]⟩ 24 (by kernel_rfl) (by kernel_rfl) (by kernel_rfl)
      (x:=([.agg [.nil,.nil,.nil],.nil,.nil],[],[])) (by kernel_rfl) rfl (by kernel_rfl)) ?_
  intro W base args ds gs before hval hW _ hk _;exact Ek H enc W base args ds gs before hval hW hk
theorem proved:Rows.NetworkRunsUptoSaid:=
  OpenClaim.holds_of_cond 3 Tryz.f3 rfl rfl rfl rfl rfl rfl rfl ⟨rfl,rfl,rfl,rfl,rfl⟩ rfl rfl rfl rfl rfl (by kernel_rfl) Tryz.func3 BG
    (of_decide_eq_true (by kernel_rfl)) (by unfold Func.isWrapper;first | (rw [if_pos (by decide+kernel)];kernel_rfl) | (rw [if_neg (by decide+kernel)];exact ⟨rfl,rfl⟩))
    (fun os started H enc _ F=>lifted os started H enc F)
end Go.Proofs.YtknmfocedphgmaaGreat
