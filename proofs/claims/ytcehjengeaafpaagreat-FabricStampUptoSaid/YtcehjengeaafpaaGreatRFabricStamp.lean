/-
  The law 'FabricStamp' returns true at every input whose readings are of bulk at most 1048576, and leaves its arguments as they were.
  Conditions: none but that bound, which the given statement itself bears.
-/
import Derived.Test.YtcehjengeaafpaaGreatPX32
import Derived.Test.YtcehjengeaafpaaGreatFunsBM
import Derived.Test.YtcehjengeaafpaaGreatRFabricStampFa
import Derived.Test.YtcehjengeaafpaaGreatRFabricStampFb
import Derived.Test.YtcehjengeaafpaaGreatRFabricStampFc
import Derived.KernelRfl
import Derived.ClosedOfChecked
set_option linter.all false
namespace Go.Av
theorem oU (B:Nat):Rd Go.Proofs.Tryz.prog B 5 c8 (ok8 B):=rd_u8 Go.Proofs.Tryz.underlying5
theorem GI (B:Nat):Rd Go.Proofs.Tryz.prog B 69 c64 (ok64 B):=FF Go.Proofs.Tryz.underlying69
theorem Ei (B:Nat):Rd Go.Proofs.Tryz.prog B 71 Cube.c (Cube.Ok B):=Cube.rd Go.Proofs.Tryz.underlying71 (GI B) (GI B)
theorem Ej (B:Nat):Rd Go.Proofs.Tryz.prog B 73 Flow.c (Flow.Ok B):=Flow.rd Go.Proofs.Tryz.underlying73 (oU B) (oU B) (oU B)
theorem Ek (B:Nat):Rd Go.Proofs.Tryz.prog B 75 Ingress.c (Ingress.Ok B):=Ingress.rd Go.Proofs.Tryz.underlying75 (oU B) (oU B) (oU B) (oU B) (Ei B) (Ej B)
def tyL:List Nat:=[5,69,71,73,75]
theorem Ez:uX Go.Proofs.Tryz.prog tyL=true:=by kernel_rfl
theorem Eb {H:Type} (d:DataW H):1<=Go.Proofs.YtcehjengeaafpaaGreat.Rows.uptoBulk d:=by
  cases d with
  | lit l=>cases l<;>simp [Go.Proofs.YtcehjengeaafpaaGreat.Rows.uptoBulk]
  | nil=>simp [Go.Proofs.YtcehjengeaafpaaGreat.Rows.uptoBulk]
  | ptr d=>simp [Go.Proofs.YtcehjengeaafpaaGreat.Rows.uptoBulk]
  | slice elems spare=>simp [Go.Proofs.YtcehjengeaafpaaGreat.Rows.uptoBulk]
  | agg parts=>simp [Go.Proofs.YtcehjengeaafpaaGreat.Rows.uptoBulk]
  | iface t d=>simp [Go.Proofs.YtcehjengeaafpaaGreat.Rows.uptoBulk]
  | map entries=>simp [Go.Proofs.YtcehjengeaafpaaGreat.Rows.uptoBulk]
  | held h=>simp [Go.Proofs.YtcehjengeaafpaaGreat.Rows.uptoBulk]
def bk (H:Type):BulkFn H where
  one:=Go.Proofs.YtcehjengeaafpaaGreat.Rows.uptoBulk
  all:=Go.Proofs.YtcehjengeaafpaaGreat.Rows.uptoBulkAll
  nil:=by simp [Go.Proofs.YtcehjengeaafpaaGreat.Rows.uptoBulkAll]
  cons:=fun d r=>by simp [Go.Proofs.YtcehjengeaafpaaGreat.Rows.uptoBulkAll]
  slice:=fun e s=>by simp [Go.Proofs.YtcehjengeaafpaaGreat.Rows.uptoBulk]
  agg:=fun e=>by simp [Go.Proofs.YtcehjengeaafpaaGreat.Rows.uptoBulk]
  str:=fun b=>by simp [Go.Proofs.YtcehjengeaafpaaGreat.Rows.uptoBulk]
  pos:=Eb
theorem small {H:Type} {l:List (DataW H)} (h:Go.Proofs.YtcehjengeaafpaaGreat.Rows.uptoSmall H l=true):(bk H).all l<=iH:=Hi (of_decide_eq_true h)
theorem Dj:qB Go.Proofs.Tryz.prog 75=true:=by kernel_rfl
theorem Eo (vs:List AV) (h:WTVs Go.Proofs.Tryz.prog iH [75] vs):a9 Φ 10 vs=some (.val (.bool true)):=by
  obtain ⟨a0,vs,rfl,h0,h⟩:=Bu h;obtain rfl:=Kz h;obtain ⟨x0,rfl,o0⟩:=Ob h0 Dj (Ek iH);exact Vt x0 o0
end Go.Av
namespace Go.Proofs.YtcehjengeaafpaaGreat
open Go.ChangeShapes Go.WideShapes Go.ChangeAt Go.RowKit Go.Av
theorem own:ownKnob Tryz.prog.godebug=none:=by kernel_rfl
theorem laid:laidOutB Tryz.prog=true:=closed2.1
theorem tY:joinedFacts Tryz.checked.prog 10 Tryz.f10 (Rows.OpenSpec.upto Rows.fabricStampSpec).bare Rows.fabricStampUptoRow=true:=by
  unfold joinedFacts;rw [closed2.1,closed2.2,fa1,fa2,fa3,fa4,fa5,fa6,pf1,pf2]
  kernel_rfl
theorem table:TableOk Tryz.prog ann Φ:=Na (Hq (by kernel_rfl) F9 (by kernel_rfl) Nu (by kernel_rfl) Lh Li (by kernel_rfl)) (by kernel_rfl)
set_option maxRecDepth 100000 in
theorem Cl (H:Type) (enc:TypeId×Value->H) (W:World) (base:Nat) (args:Array Value) (ds gs:List (DataW H)) (before:List MemPlace)
    (hval:∀(j:Nat) t v,Tryz.f10.params[j]? =some t->args[j]? =some v->Value.okWide Tryz.prog W .any base t v)
    (hW:DataW.Whole enc Tryz.prog Tryz.f10.params.toList Rows.fabricStampSpec.vars false W args.toList ds gs before) (hk:Rows.uptoSmall H (ds++gs)=true):
    Calls Tryz.prog 10 args W fun e W'=>∃v,e= .returned v/\Rows.fabricStampSpec.post enc Tryz.prog Tryz.f10 false true false false W args v W':=
  Gx table laid (tb:=Tryz.f10.resultTypes[0]!) rfl rfl (by kernel_rfl) (by kernel_rfl) (bk H) Ez (by kernel_rfl) hval hW
    (fun l hl=>by
      match l,hl with
      | [d0],_=>rfl)
    (small hk) (fun vs h=>Eo vs (by rw [Tryz.params10] at h;exact h))
set_option maxRecDepth 100000 in
theorem lifted (os:Os) (started:os.Started) (H:Type) (enc:TypeId×Value->H) (F:Stop.Interp):
    ReturnsInHanded {} Tryz.checked os 10 .any ((Rows.OpenSpec.upto Rows.fabricStampSpec).pre6 enc Tryz.prog Tryz.f10 Rows.fabricStampUptoRow.domain false) (((Rows.OpenSpec.upto Rows.fabricStampSpec).at F).post enc Tryz.prog Tryz.f10 false true false false):=by
  refine returnsInHanded_of_cond (C:=Tryz.checked) (s:=Rows.OpenSpec.upto Rows.fabricStampSpec) (k:=Rows.uptoSmall) rfl own started (by kernel_rfl) Tryz.func10
    (OpenSpec.witness (enc:=enc) (C:=Tryz.checked) (s:=Rows.OpenSpec.upto Rows.fabricStampSpec) (k:=Rows.uptoSmall) rfl false ⟨#[],#[.agg #[.int .u8 0,.int .u8 0,.int .u8 0,.int .u8 0,.int .u64 0,.int .u64 0,.int .u8 0,.int .u8 0,.int .u8 0]],[]⟩ 24 (by kernel_rfl) (by kernel_rfl) (by kernel_rfl)
      (x:=([.agg [.lit (.int .u8 0),.lit (.int .u8 0),.lit (.int .u8 0),.lit (.int .u8 0),.agg [.lit (.int .u64 0),.lit (.int .u64 0)],.agg [.lit (.int .u8 0),.lit (.int .u8 0),.lit (.int .u8 0)]]],[],[])) (by kernel_rfl) rfl (by kernel_rfl)) ?_
  intro W base args ds gs before hval hW _ hk _;exact Cl H enc W base args ds gs before hval hW hk
theorem proved:Rows.FabricStampUptoSaid:=
  OpenClaim.holds_of_cond 10 Tryz.f10 rfl rfl rfl rfl rfl rfl rfl ⟨rfl,rfl,rfl,rfl,rfl⟩ rfl rfl rfl rfl rfl (by kernel_rfl) Tryz.func10 tY
    (of_decide_eq_true (by kernel_rfl)) (by unfold Func.isWrapper;first | (rw [if_pos (by decide+kernel)];kernel_rfl) | (rw [if_neg (by decide+kernel)];exact ⟨rfl,rfl⟩))
    (fun os started H enc _ F=>lifted os started H enc F)
end Go.Proofs.YtcehjengeaafpaaGreat
