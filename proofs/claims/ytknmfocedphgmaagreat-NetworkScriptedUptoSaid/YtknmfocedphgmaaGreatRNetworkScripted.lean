/-
  The law 'NetworkScripted' returns true at every input whose readings are of bulk at most 1048576, and leaves its arguments as they were.
  Conditions: none but that bound, which the given statement itself bears.
-/
import Derived.Test.YtknmfocedphgmaaGreatNL7
import Derived.Test.YtknmfocedphgmaaGreatFunsBR
import Derived.Test.YtknmfocedphgmaaGreatRNetworkScriptedFa
import Derived.Test.YtknmfocedphgmaaGreatRNetworkScriptedFb
import Derived.Test.YtknmfocedphgmaaGreatRNetworkScriptedFc
import Derived.KernelRfl
import Derived.ClosedOfChecked
set_option linter.unusedVariables false
set_option linter.unusedSimpArgs false
set_option linter.constructorNameAsVariable false
namespace Go.Av
theorem qd7 (B:Nat):Rd Go.Proofs.Tryz.prog B 3 cI (okI B):=qab2 Go.Proofs.Tryz.underlying3
theorem qvn (B:Nat):Rd Go.Proofs.Tryz.prog B 22 (cS 1 cI) (okL B (okI B)):=qcp Go.Proofs.Tryz.underlying22 (by kernel_rfl) (qd7 B)
theorem qql (B:Nat):Rd Go.Proofs.Tryz.prog B 62 PortID.c (PortID.Ok B):=PortID.rd Go.Proofs.Tryz.underlying62 (qd7 B) (qd7 B)
theorem rd_t4 (B:Nat):Rd Go.Proofs.Tryz.prog B 4 cB (okT B):=qzl Go.Proofs.Tryz.underlying4
theorem qzm (B:Nat):Rd Go.Proofs.Tryz.prog B 129 Link.c (Link.Ok B):=Link.rd Go.Proofs.Tryz.underlying129 (qql B) (qql B) (rd_t4 B)
theorem qab3 (B:Nat):Rd Go.Proofs.Tryz.prog B 23 (cS 5 Link.c) (okL B (Link.Ok B)):=qcp Go.Proofs.Tryz.underlying23 (by kernel_rfl) (qzm B)
theorem qab4 (B:Nat):Rd Go.Proofs.Tryz.prog B 24 (cS 2 PortID.c) (okL B (PortID.Ok B)):=qcp Go.Proofs.Tryz.underlying24 (by kernel_rfl) (qql B)
theorem qab5 (B:Nat):Rd Go.Proofs.Tryz.prog B 26 Topology.c (Topology.Ok B):=Topology.rd Go.Proofs.Tryz.underlying26 (qvn B) (qab3 B) (qab4 B)
theorem qns (B:Nat):Rd Go.Proofs.Tryz.prog B 117 c32 (ok32 B):=qach Go.Proofs.Tryz.underlying117
theorem qzp (B:Nat):Rd Go.Proofs.Tryz.prog B 239 Xi.c (Xi.Ok B):=Xi.rd Go.Proofs.Tryz.underlying239 (qns B) (qns B)
theorem qzn (B:Nat):Rd Go.Proofs.Tryz.prog B 232 (cS 2 Xi.c) (okL B (Xi.Ok B)):=qcp Go.Proofs.Tryz.underlying232 (by kernel_rfl) (qzp B)
theorem qsl (B:Nat):Rd Go.Proofs.Tryz.prog B 118 (cS 1 c32) (okL B (ok32 B)):=qcp Go.Proofs.Tryz.underlying118 (by kernel_rfl) (qns B)
theorem qnt (B:Nat):Rd Go.Proofs.Tryz.prog B 148 Xb.c (Xb.Ok B):=Xb.rd Go.Proofs.Tryz.underlying148 (qd7 B) (qsl B)
theorem qsm (B:Nat):Rd Go.Proofs.Tryz.prog B 234 Entry.c (Entry.Ok B):=Entry.rd Go.Proofs.Tryz.underlying234 (qzn B) (qd7 B) (qnt B)
theorem qzo (B:Nat):Rd Go.Proofs.Tryz.prog B 236 Rw.c (Rw.Ok B):=Rw.rd Go.Proofs.Tryz.underlying236 (qd7 B) (qsm B)
theorem qacg (B:Nat):Rd Go.Proofs.Tryz.prog B 80 (cS 5 Rw.c) (okL B (Rw.Ok B)):=qcp Go.Proofs.Tryz.underlying80 (by kernel_rfl) (qzo B)
theorem qacc (B:Nat):Rd Go.Proofs.Tryz.prog B 75 (cS 1 (cS 5 Rw.c)) (okL B (okL B (Rw.Ok B))):=qcp Go.Proofs.Tryz.underlying75 (by kernel_rfl) (qacg B)
theorem qacd (B:Nat):Rd Go.Proofs.Tryz.prog B 76 (cS 2 Xb.c) (okL B (Xb.Ok B)):=qcp Go.Proofs.Tryz.underlying76 (by kernel_rfl) (qnt B)
theorem qace (B:Nat):Rd Go.Proofs.Tryz.prog B 77 (cS 1 (cS 1 c32)) (okL B (okL B (ok32 B))):=qcp Go.Proofs.Tryz.underlying77 (by kernel_rfl) (qsl B)
theorem qacf (B:Nat):Rd Go.Proofs.Tryz.prog B 79 Xf.c (Xf.Ok B):=Xf.rd Go.Proofs.Tryz.underlying79 (qacc B) (qvn B) (qacd B) (qace B)
theorem qab6 (B:Nat):Rd Go.Proofs.Tryz.prog B 27 (cS 4 Xf.c) (okL B (Xf.Ok B)):=qcp Go.Proofs.Tryz.underlying27 (by kernel_rfl) (qacf B)
theorem rd_t5 (B:Nat):Rd Go.Proofs.Tryz.prog B 5 c8 (ok8 B):=rd_u8 Go.Proofs.Tryz.underlying5
theorem qab8 (B:Nat):Rd Go.Proofs.Tryz.prog B 43 (cS 1 c8) (okL B (ok8 B)):=qcp Go.Proofs.Tryz.underlying43 (by kernel_rfl) (rd_t5 B)
theorem qzq (B:Nat):Rd Go.Proofs.Tryz.prog B 347 Xc.c (Xc.Ok B):=Xc.rd Go.Proofs.Tryz.underlying347 (qd7 B) (qd7 B) (qd7 B) (qsm B) (qnt B)
theorem qab9 (B:Nat):Rd Go.Proofs.Tryz.prog B 44 (cS 9 Xc.c) (okL B (Xc.Ok B)):=qcp Go.Proofs.Tryz.underlying44 (by kernel_rfl) (qzq B)
theorem qaca (B:Nat):Rd Go.Proofs.Tryz.prog B 46 UpdateStep.c (UpdateStep.Ok B):=UpdateStep.rd Go.Proofs.Tryz.underlying46 (qd7 B) (qab9 B)
theorem qacb (B:Nat):Rd Go.Proofs.Tryz.prog B 48 Act.c (Act.Ok B):=Act.rd Go.Proofs.Tryz.underlying48 (qd7 B) (qd7 B) (qd7 B) (qab8 B) (qaca B)
theorem qab7 (B:Nat):Rd Go.Proofs.Tryz.prog B 28 (cS 6 Act.c) (okL B (Act.Ok B)):=qcp Go.Proofs.Tryz.underlying28 (by kernel_rfl) (qacb B)
def tyL:List Nat:=[3,4,5,22,23,24,26,27,28,43,44,46,48,62,75,76,77,79,80,117,118,129,148,232,234,236,239,347]
theorem qacu:qgg Go.Proofs.Tryz.prog tyL=true:=by kernel_rfl
theorem qaax {H:Type} (d:DataW H):1<=Go.Proofs.YtknmfocedphgmaaGreat.Rows.uptoBulk d:=by
  cases d with
  | lit l=>cases l<;>simp [Go.Proofs.YtknmfocedphgmaaGreat.Rows.uptoBulk]
  | nil=>simp [Go.Proofs.YtknmfocedphgmaaGreat.Rows.uptoBulk]
  | ptr d=>simp [Go.Proofs.YtknmfocedphgmaaGreat.Rows.uptoBulk]
  | slice elems spare=>simp [Go.Proofs.YtknmfocedphgmaaGreat.Rows.uptoBulk]
  | agg parts=>simp [Go.Proofs.YtknmfocedphgmaaGreat.Rows.uptoBulk]
  | iface t d=>simp [Go.Proofs.YtknmfocedphgmaaGreat.Rows.uptoBulk]
  | map entries=>simp [Go.Proofs.YtknmfocedphgmaaGreat.Rows.uptoBulk]
  | held h=>simp [Go.Proofs.YtknmfocedphgmaaGreat.Rows.uptoBulk]
def bk (H:Type):BulkFn H where
  one:=Go.Proofs.YtknmfocedphgmaaGreat.Rows.uptoBulk
  all:=Go.Proofs.YtknmfocedphgmaaGreat.Rows.uptoBulkAll
  nil:=by simp [Go.Proofs.YtknmfocedphgmaaGreat.Rows.uptoBulkAll]
  cons:=fun d r=>by simp [Go.Proofs.YtknmfocedphgmaaGreat.Rows.uptoBulkAll]
  slice:=fun e s=>by simp [Go.Proofs.YtknmfocedphgmaaGreat.Rows.uptoBulk]
  agg:=fun e=>by simp [Go.Proofs.YtknmfocedphgmaaGreat.Rows.uptoBulk]
  str:=fun b=>by simp [Go.Proofs.YtknmfocedphgmaaGreat.Rows.uptoBulk]
  pos:=qaax
theorem small {H:Type} {l:List (DataW H)} (h:Go.Proofs.YtknmfocedphgmaaGreat.Rows.uptoSmall H l=true):(bk H).all l<=qbw:=qtn (of_decide_eq_true h)
theorem qyf:qc9 Go.Proofs.Tryz.prog 26=true:=by kernel_rfl
theorem qyg:qc9 Go.Proofs.Tryz.prog 27=false:=by kernel_rfl
theorem qyh:qc9 Go.Proofs.Tryz.prog 28=false:=by kernel_rfl
theorem qabk (vs:List AV) (h:WTVs Go.Proofs.Tryz.prog qbw [26,27,28] vs):qac Φ 4 vs=some (.val (.bool true)):=by
  obtain ⟨a0,vs,rfl,h0,h⟩:=qkp h;obtain ⟨a1,vs,rfl,h1,h⟩:=qkp h;obtain ⟨a2,vs,rfl,h2,h⟩:=qkp h;obtain rfl:=qyc h;obtain ⟨x0,rfl,o0⟩:=qaaf h0 qyf (qab5 qbw);obtain ⟨x1,e1,o1⟩:=qsu h1 qyg (qab6 qbw);cases e1;obtain ⟨x2,e2,o2⟩:=qsu h2 qyh (qab7 qbw);cases e2;exact qjv x0 x1 x2 o0 o1 o2
end Go.Av
namespace Go.Proofs.YtknmfocedphgmaaGreat
open Go.ChangeShapes Go.WideShapes Go.ChangeAt Go.RowKit Go.Av
theorem own:ownKnob Tryz.prog.godebug=none:=by kernel_rfl
theorem laid:laidOutB Tryz.prog=true:=closed2.1
theorem qf3:joinedFacts Tryz.checked.prog 4 Tryz.f4 (Rows.OpenSpec.upto Rows.networkScriptedSpec).bare Rows.networkScriptedUptoRow=true:=by
  unfold joinedFacts;rw [closed2.1,closed2.2,fa1,fa2,fa3,fa4,fa5,fa6,pf1,pf2]
  kernel_rfl
theorem table:TableOk Tryz.prog ann Φ:=qy8 (qub (by kernel_rfl) qacs (by kernel_rfl) qaad (by kernel_rfl) qx1 qx2 (by kernel_rfl)) (by kernel_rfl)
set_option maxRecDepth 100000 in
theorem qwh (H:Type) (enc:TypeId×Value->H) (W:World) (base:Nat) (args:Array Value) (ds gs:List (DataW H)) (before:List MemPlace)
    (hval:∀(j:Nat) t v,Tryz.f4.params[j]? =some t->args[j]? =some v->Value.okWide Tryz.prog W .any base t v)
    (hW:DataW.Whole enc Tryz.prog Tryz.f4.params.toList Rows.networkScriptedSpec.vars false W args.toList ds gs before) (hk:Rows.uptoSmall H (ds++gs)=true):
    Calls Tryz.prog 4 args W fun e W'=>∃v,e= .returned v/\Rows.networkScriptedSpec.post enc Tryz.prog Tryz.f4 false true false false W args v W':=
  qtw table laid (tb:=Tryz.f4.resultTypes[0]!) rfl rfl (by kernel_rfl) (by kernel_rfl) (bk H) qacu (by kernel_rfl) hval hW
    (fun l hl=>by
      match l,hl with
      | [d0,d1,d2],_=>rfl)
    (small hk) (fun vs h=>qabk vs (by rw [Tryz.params4] at h;exact h))
set_option maxRecDepth 100000 in
theorem lifted (os:Os) (started:os.Started) (H:Type) (enc:TypeId×Value->H) (F:Stop.Interp):
    ReturnsInHanded {} Tryz.checked os 4 .any ((Rows.OpenSpec.upto Rows.networkScriptedSpec).pre6 enc Tryz.prog Tryz.f4 Rows.networkScriptedUptoRow.domain false) (((Rows.OpenSpec.upto Rows.networkScriptedSpec).at F).post enc Tryz.prog Tryz.f4 false true false false):=by
  refine returnsInHanded_of_cond (C:=Tryz.checked) (s:=Rows.OpenSpec.upto Rows.networkScriptedSpec) (k:=Rows.uptoSmall) rfl own started (by kernel_rfl) Tryz.func4
    (OpenSpec.witness (enc:=enc) (C:=Tryz.checked) (s:=Rows.OpenSpec.upto Rows.networkScriptedSpec) (k:=Rows.uptoSmall) rfl false ⟨#[],#[.agg #[.slice none 0 0,.slice none 0 0,.slice none 0 0],.slice none 0 0,.slice none 0 0],[]⟩ 24 (by kernel_rfl) (by kernel_rfl) (by kernel_rfl)
      (x:=([.agg [.nil,.nil,.nil],.nil,.nil],[],[])) (by kernel_rfl) rfl (by kernel_rfl)) ?_
  intro W base args ds gs before hval hW _ hk _;exact qwh H enc W base args ds gs before hval hW hk
theorem proved:Rows.NetworkScriptedUptoSaid:=
  OpenClaim.holds_of_cond 4 Tryz.f4 rfl rfl rfl rfl rfl rfl rfl ⟨rfl,rfl,rfl,rfl,rfl⟩ rfl rfl rfl rfl rfl (by kernel_rfl) Tryz.func4 qf3
    (of_decide_eq_true (by kernel_rfl)) (by unfold Func.isWrapper;first | (rw [if_pos (by decide+kernel)];kernel_rfl) | (rw [if_neg (by decide+kernel)];exact ⟨rfl,rfl⟩))
    (fun os started H enc _ F=>lifted os started H enc F)
end Go.Proofs.YtknmfocedphgmaaGreat
