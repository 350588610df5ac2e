/-
  The law 'HsaChecks' returns true at every input whose readings are of bulk at most 1048576, and leaves its arguments as they were.
  Conditions: none but that bound, which the given statement itself bears.
-/
import Derived.Test.YtbhkkpfccfoioaaGreatHW3
import Derived.Test.YtbhkkpfccfoioaaGreatFunsBH
import Derived.Test.YtbhkkpfccfoioaaGreatRHsaChecksFa
import Derived.Test.YtbhkkpfccfoioaaGreatRHsaChecksFb
import Derived.Test.YtbhkkpfccfoioaaGreatRHsaChecksFc
import Derived.KernelRfl
import Derived.ClosedOfChecked
set_option linter.unusedVariables false
set_option linter.unusedSimpArgs false
set_option linter.constructorNameAsVariable false
namespace Go.Av
theorem VG (B:Nat):Rd Go.Proofs.Tryz.prog B 23 c64 (ok64 B):=Lr Go.Proofs.Tryz.underlying23
theorem Lq (B:Nat):Rd Go.Proofs.Tryz.prog B 55 Cube.c (Cube.Ok B):=Cube.rd Go.Proofs.Tryz.underlying55 (VG B) (VG B)
theorem Lp (B:Nat):Rd Go.Proofs.Tryz.prog B 22 (cS 2 Cube.c) (okL B (Cube.Ok B)):=Iv Go.Proofs.Tryz.underlying22 (by kernel_rfl) (Lq B)
theorem rd_t4 (B:Nat):Rd Go.Proofs.Tryz.prog B 4 cB (okT B):=Jo Go.Proofs.Tryz.underlying4
def tyL:List Nat:=[4,22,23,55]
theorem Mr:CN Go.Proofs.Tryz.prog tyL=true:=by kernel_rfl
theorem Kt {H:Type} (d:DataW H):1<=Go.Proofs.YtbhkkpfccfoioaaGreat.Rows.uptoBulk d:=by
  cases d with
  | lit l=>cases l<;>simp [Go.Proofs.YtbhkkpfccfoioaaGreat.Rows.uptoBulk]
  | nil=>simp [Go.Proofs.YtbhkkpfccfoioaaGreat.Rows.uptoBulk]
  | ptr d=>simp [Go.Proofs.YtbhkkpfccfoioaaGreat.Rows.uptoBulk]
  | slice elems spare=>simp [Go.Proofs.YtbhkkpfccfoioaaGreat.Rows.uptoBulk]
  | agg parts=>simp [Go.Proofs.YtbhkkpfccfoioaaGreat.Rows.uptoBulk]
  | iface t d=>simp [Go.Proofs.YtbhkkpfccfoioaaGreat.Rows.uptoBulk]
  | map entries=>simp [Go.Proofs.YtbhkkpfccfoioaaGreat.Rows.uptoBulk]
  | held h=>simp [Go.Proofs.YtbhkkpfccfoioaaGreat.Rows.uptoBulk]
def bk (H:Type):BulkFn H where
  one:=Go.Proofs.YtbhkkpfccfoioaaGreat.Rows.uptoBulk
  all:=Go.Proofs.YtbhkkpfccfoioaaGreat.Rows.uptoBulkAll
  nil:=by simp [Go.Proofs.YtbhkkpfccfoioaaGreat.Rows.uptoBulkAll]
  cons:=fun d r=>by simp [Go.Proofs.YtbhkkpfccfoioaaGreat.Rows.uptoBulkAll]
  slice:=fun e s=>by simp [Go.Proofs.YtbhkkpfccfoioaaGreat.Rows.uptoBulk]
  agg:=fun e=>by simp [Go.Proofs.YtbhkkpfccfoioaaGreat.Rows.uptoBulk]
  str:=fun b=>by simp [Go.Proofs.YtbhkkpfccfoioaaGreat.Rows.uptoBulk]
  pos:=Kt
theorem small {H:Type} {l:List (DataW H)} (h:Go.Proofs.YtbhkkpfccfoioaaGreat.Rows.uptoSmall H l=true):(bk H).all l<=mD:=Ee (of_decide_eq_true h)
theorem Ju:mH Go.Proofs.Tryz.prog 22=false:=by kernel_rfl
theorem Jv:mH Go.Proofs.Tryz.prog 23=false:=by kernel_rfl
theorem Lo:mH Go.Proofs.Tryz.prog 4=false:=by kernel_rfl
theorem Me (vs:List AV) (h:WTVs Go.Proofs.Tryz.prog mD [22,23,4] vs):dK Φ 3 vs=some (.val (.bool true)):=by
  obtain ⟨a0,vs,rfl,h0,h⟩:=UI h;obtain ⟨a1,vs,rfl,h1,h⟩:=UI h;obtain ⟨a2,vs,rfl,h2,h⟩:=UI h;obtain rfl:=Jt h;obtain ⟨x0,e0,o0⟩:=VA h0 Ju (Lp mD);cases e0;obtain ⟨x1,e1,o1⟩:=VA h1 Jv (VG mD);cases e1;obtain ⟨x2,e2,o2⟩:=VA h2 Lo (rd_t4 mD);cases e2;exact Bq x0 x1 x2 o0 o1 o2
end Go.Av
namespace Go.Proofs.YtbhkkpfccfoioaaGreat
open Go.ChangeShapes Go.WideShapes Go.ChangeAt Go.RowKit Go.Av
theorem own:ownKnob Tryz.prog.godebug=none:=by kernel_rfl
theorem laid:laidOutB Tryz.prog=true:=closed2.1
theorem CP:joinedFacts Tryz.checked.prog 3 Tryz.f3 (Rows.OpenSpec.upto Rows.hsaChecksSpec).bare Rows.hsaChecksUptoRow=true:=by
  unfold joinedFacts;rw [closed2.1,closed2.2,fa1,fa2,fa3,fa4,fa5,fa6,pf1,pf2]
  kernel_rfl
theorem table:TableOk Tryz.prog ann Φ:=Ge (Gf (by kernel_rfl) Ly (by kernel_rfl) Lj (by kernel_rfl) Hw Hx (by kernel_rfl)) Lk (by kernel_rfl)
set_option maxRecDepth 100000 in
theorem Gv (H:Type) (enc:TypeId×Value->H) (W:World) (base:Nat) (args:Array Value) (ds gs:List (DataW H)) (before:List MemPlace)
    (hval:∀(j:Nat) t v,Tryz.f3.params[j]? =some t->args[j]? =some v->Value.okWide Tryz.prog W .any base t v)
    (hW:DataW.Whole enc Tryz.prog Tryz.f3.params.toList Rows.hsaChecksSpec.vars false W args.toList ds gs before) (hk:Rows.uptoSmall H (ds++gs)=true):
    Calls Tryz.prog 3 args W fun e W'=>∃v,e= .returned v/\Rows.hsaChecksSpec.post enc Tryz.prog Tryz.f3 false true false false W args v W':=
  Fu table laid (tb:=Tryz.f3.resultTypes[0]!) rfl rfl (by kernel_rfl) (by kernel_rfl) (bk H) Mr (by kernel_rfl) hval hW
    (fun l hl=>by
      match l,hl with
      | [d0,d1,d2],_=>rfl)
    (small hk) (fun vs h=>Me vs (by rw [Tryz.params3] at h;exact h))
set_option maxRecDepth 100000 in
theorem lifted (os:Os) (started:os.Started) (H:Type) (enc:TypeId×Value->H) (F:Stop.Interp):
    ReturnsInHanded {} Tryz.checked os 3 .any ((Rows.OpenSpec.upto Rows.hsaChecksSpec).pre6 enc Tryz.prog Tryz.f3 Rows.hsaChecksUptoRow.domain false) (((Rows.OpenSpec.upto Rows.hsaChecksSpec).at F).post enc Tryz.prog Tryz.f3 false true false false):=by
  refine returnsInHanded_of_cond (C:=Tryz.checked) (s:=Rows.OpenSpec.upto Rows.hsaChecksSpec) (k:=Rows.uptoSmall) rfl own started (by kernel_rfl) Tryz.func3
    (OpenSpec.witness (enc:=enc) (C:=Tryz.checked) (s:=Rows.OpenSpec.upto Rows.hsaChecksSpec) (k:=Rows.uptoSmall) rfl false ⟨#[],#[.slice none 0 0,.int .u64 0,.bool false],[]⟩ 24 (by kernel_rfl) (by kernel_rfl) (by kernel_rfl)
      (x:=([.nil,.lit (.int .u64 0),.lit (.bool false)],[],[])) (by kernel_rfl) rfl (by kernel_rfl)) ?_
  intro W base args ds gs before hval hW _ hk _;exact Gv H enc W base args ds gs before hval hW hk
theorem proved:Rows.HsaChecksUptoSaid:=
  OpenClaim.holds_of_cond 3 Tryz.f3 rfl rfl rfl rfl rfl rfl rfl ⟨rfl,rfl,rfl,rfl,rfl⟩ rfl rfl rfl rfl rfl (by kernel_rfl) Tryz.func3 CP
    (of_decide_eq_true (by kernel_rfl)) (by unfold Func.isWrapper;first | (rw [if_pos (by decide+kernel)];kernel_rfl) | (rw [if_neg (by decide+kernel)];exact ⟨rfl,rfl⟩))
    (fun os started H enc _ F=>lifted os started H enc F)
end Go.Proofs.YtbhkkpfccfoioaaGreat
