/-
  The law 'InterpInvariants' returns true at every input whose readings are of bulk at most 1048576, and leaves its arguments as they were.
  Conditions: none but that bound, which the given statement itself bears.
-/
import Derived.Test.YtcehjengeaafpaaGreatPX40
import Derived.Test.YtcehjengeaafpaaGreatFunsBM
import Derived.Test.YtcehjengeaafpaaGreatRInterpInvariantsFa
import Derived.Test.YtcehjengeaafpaaGreatRInterpInvariantsFb
import Derived.Test.YtcehjengeaafpaaGreatRInterpInvariantsFc
import Derived.KernelRfl
import Derived.ClosedOfChecked
set_option linter.unusedVariables false
set_option linter.unusedSimpArgs false
set_option linter.constructorNameAsVariable false
namespace Go.Av
theorem GK (B:Nat):Rd Go.Proofs.Tryz.prog B 9 cStr (mV B):=Z4 Go.Proofs.Tryz.underlying9
theorem iR (B:Nat):Rd Go.Proofs.Tryz.prog B 3 cI (okI B):=Z3 Go.Proofs.Tryz.underlying3
theorem V5 (B:Nat):Rd Go.Proofs.Tryz.prog B 133 Fld.c (Fld.Ok B):=Fld.rd Go.Proofs.Tryz.underlying133 (GK B) (iR B)
theorem Ec (B:Nat):Rd Go.Proofs.Tryz.prog B 23 (cS 2 Fld.c) (okL B (Fld.Ok B)):=kN Go.Proofs.Tryz.underlying23 (by kernel_rfl) (V5 B)
theorem W6 (B:Nat):Rd Go.Proofs.Tryz.prog B 131 Xi.c (Xi.Ok B):=Xi.rd Go.Proofs.Tryz.underlying131 (GK B) (Ec B)
theorem Z5 (B:Nat):Rd Go.Proofs.Tryz.prog B 22 (cS 2 Xi.c) (okL B (Xi.Ok B)):=kN Go.Proofs.Tryz.underlying22 (by kernel_rfl) (W6 B)
theorem V6 (B:Nat):Rd Go.Proofs.Tryz.prog B 135 Xg.c (Xg.Ok B):=Xg.rd Go.Proofs.Tryz.underlying135 (GK B) (iR B) (iR B)
theorem Z6 (B:Nat):Rd Go.Proofs.Tryz.prog B 24 (cS 3 Xg.c) (okL B (Xg.Ok B)):=kN Go.Proofs.Tryz.underlying24 (by kernel_rfl) (V6 B)
theorem Dj (B:Nat):Rd Go.Proofs.Tryz.prog B 139 FieldRef.c (FieldRef.Ok B):=FieldRef.rd Go.Proofs.Tryz.underlying139 (iR B) (iR B)
theorem VA (B:Nat):Rd Go.Proofs.Tryz.prog B 148 Xd.c (Xd.Ok B):=Xd.rd Go.Proofs.Tryz.underlying148 (iR B) (iR B) (iR B)
theorem Di (B:Nat):Rd Go.Proofs.Tryz.prog B 125 (cS 3 Xd.c) (okL B (Xd.Ok B)):=kN Go.Proofs.Tryz.underlying125 (by kernel_rfl) (VA B)
theorem WH (B:Nat):Rd Go.Proofs.Tryz.prog B 177 Xf.c (Xf.Ok B):=Xf.rd Go.Proofs.Tryz.underlying177 (iR B) (Dj B) (iR B) (iR B) (Di B) (Di B)
theorem YP (B:Nat):Rd Go.Proofs.Tryz.prog B 97 (cS 7 Xf.c) (okL B (Xf.Ok B)):=kN Go.Proofs.Tryz.underlying97 (by kernel_rfl) (WH B)
theorem YQ (B:Nat):Rd Go.Proofs.Tryz.prog B 99 Action.c (Action.Ok B):=Action.rd Go.Proofs.Tryz.underlying99 (GK B) (Ec B) (YP B)
theorem Z7 (B:Nat):Rd Go.Proofs.Tryz.prog B 25 (cS 3 Action.c) (okL B (Action.Ok B)):=kN Go.Proofs.Tryz.underlying25 (by kernel_rfl) (YQ B)
theorem WI (B:Nat):Rd Go.Proofs.Tryz.prog B 222 Xk.c (Xk.Ok B):=Xk.rd Go.Proofs.Tryz.underlying222 (Dj B) (iR B)
theorem VC (B:Nat):Rd Go.Proofs.Tryz.prog B 165 (cS 3 Xk.c) (okL B (Xk.Ok B)):=kN Go.Proofs.Tryz.underlying165 (by kernel_rfl) (WI B)
theorem OK (B:Nat):Rd Go.Proofs.Tryz.prog B 29 (cS 1 cI) (okL B (okI B)):=kN Go.Proofs.Tryz.underlying29 (by kernel_rfl) (iR B)
theorem KU (B:Nat):Rd Go.Proofs.Tryz.prog B 89 c32 (ok32 B):=YR Go.Proofs.Tryz.underlying89
theorem Nc (B:Nat):Rd Go.Proofs.Tryz.prog B 67 (cS 1 c32) (okL B (ok32 B)):=kN Go.Proofs.Tryz.underlying67 (by kernel_rfl) (KU B)
theorem Ed (B:Nat):Rd Go.Proofs.Tryz.prog B 84 Xb.c (Xb.Ok B):=Xb.rd Go.Proofs.Tryz.underlying84 (iR B) (Nc B)
theorem VD (B:Nat):Rd Go.Proofs.Tryz.prog B 167 Tbl.c (Tbl.Ok B):=Tbl.rd Go.Proofs.Tryz.underlying167 (GK B) (VC B) (OK B) (Ed B) (iR B)
theorem Z8 (B:Nat):Rd Go.Proofs.Tryz.prog B 26 (cS 6 Tbl.c) (okL B (Tbl.Ok B)):=kN Go.Proofs.Tryz.underlying26 (by kernel_rfl) (VD B)
theorem rd_t4 (B:Nat):Rd Go.Proofs.Tryz.prog B 4 cB (okT B):=W4 Go.Proofs.Tryz.underlying4
theorem V7 (B:Nat):Rd Go.Proofs.Tryz.prog B 142 Xj.c (Xj.Ok B):=Xj.rd Go.Proofs.Tryz.underlying142 (KU B) (KU B) (iR B)
theorem V8 (B:Nat):Rd Go.Proofs.Tryz.prog B 143 (cS 3 Xj.c) (okL B (Xj.Ok B)):=kN Go.Proofs.Tryz.underlying143 (by kernel_rfl) (V7 B)
theorem V9 (B:Nat):Rd Go.Proofs.Tryz.prog B 145 Xc.c (Xc.Ok B):=Xc.rd Go.Proofs.Tryz.underlying145 (GK B) (OK B) (rd_t4 B) (Dj B) (V8 B) (iR B)
theorem Z9 (B:Nat):Rd Go.Proofs.Tryz.prog B 27 (cS 7 Xc.c) (okL B (Xc.Ok B)):=kN Go.Proofs.Tryz.underlying27 (by kernel_rfl) (V9 B)
theorem W5 (B:Nat):Rd Go.Proofs.Tryz.prog B 127 Xa.c (Xa.Ok B):=Xa.rd Go.Proofs.Tryz.underlying127 (iR B) (iR B) (Di B) rfl rfl Go.Proofs.Tryz.underlying28 (by kernel_rfl)
theorem ZA (B:Nat):Rd Go.Proofs.Tryz.prog B 28 (cS 5 Xa.c) (okL B (Xa.Ok B)):=kN Go.Proofs.Tryz.underlying28 (by kernel_rfl) (W5 B)
theorem ZB (B:Nat):Rd Go.Proofs.Tryz.prog B 31 Prg.c (Prg.Ok B):=Prg.rd Go.Proofs.Tryz.underlying31 (GK B) (Z5 B) (Ec B) (Z6 B) (Z7 B) (Z8 B) (Z9 B) (ZA B) (OK B)
theorem VE (B:Nat):Rd Go.Proofs.Tryz.prog B 172 Xh.c (Xh.Ok B):=Xh.rd Go.Proofs.Tryz.underlying172 (KU B) (KU B)
theorem YM (B:Nat):Rd Go.Proofs.Tryz.prog B 82 (cS 2 Xh.c) (okL B (Xh.Ok B)):=kN Go.Proofs.Tryz.underlying82 (by kernel_rfl) (VE B)
theorem YN (B:Nat):Rd Go.Proofs.Tryz.prog B 86 Entry.c (Entry.Ok B):=Entry.rd Go.Proofs.Tryz.underlying86 (YM B) (iR B) (Ed B)
theorem VB (B:Nat):Rd Go.Proofs.Tryz.prog B 162 Rw.c (Rw.Ok B):=Rw.rd Go.Proofs.Tryz.underlying162 (iR B) (YN B)
theorem YO (B:Nat):Rd Go.Proofs.Tryz.prog B 96 (cS 5 Rw.c) (okL B (Rw.Ok B)):=kN Go.Proofs.Tryz.underlying96 (by kernel_rfl) (VB B)
theorem ZC (B:Nat):Rd Go.Proofs.Tryz.prog B 32 (cS 1 (cS 5 Rw.c)) (okL B (okL B (Rw.Ok B))):=kN Go.Proofs.Tryz.underlying32 (by kernel_rfl) (YO B)
theorem ZD (B:Nat):Rd Go.Proofs.Tryz.prog B 33 (cS 2 Xb.c) (okL B (Xb.Ok B)):=kN Go.Proofs.Tryz.underlying33 (by kernel_rfl) (Ed B)
theorem ZE (B:Nat):Rd Go.Proofs.Tryz.prog B 34 (cS 1 (cS 1 c32)) (okL B (okL B (ok32 B))):=kN Go.Proofs.Tryz.underlying34 (by kernel_rfl) (Nc B)
theorem ZF (B:Nat):Rd Go.Proofs.Tryz.prog B 36 Xe.c (Xe.Ok B):=Xe.rd Go.Proofs.Tryz.underlying36 (ZC B) (OK B) (ZD B) (ZE B)
theorem rd_t5 (B:Nat):Rd Go.Proofs.Tryz.prog B 5 c8 (ok8 B):=rd_u8 Go.Proofs.Tryz.underlying5
theorem ZG (B:Nat):Rd Go.Proofs.Tryz.prog B 37 (cS 1 c8) (okL B (ok8 B)):=kN Go.Proofs.Tryz.underlying37 (by kernel_rfl) (rd_t5 B)
theorem ZH (B:Nat):Rd Go.Proofs.Tryz.prog B 39 Packet.c (Packet.Ok B):=Packet.rd Go.Proofs.Tryz.underlying39 (iR B) (ZG B)
theorem ZI (B:Nat):Rd Go.Proofs.Tryz.prog B 41 Case25.c (Case25.Ok B):=Case25.rd Go.Proofs.Tryz.underlying41 (ZB B) (ZF B) (ZH B)
def tyL:List Nat:=[3,4,5,9,22,23,24,25,26,27,28,29,31,32,33,34,36,37,39,41,67,82,84,86,89,96,97,99,125,127,131,133,135,139,142,143,145,148,162,165,167,172,177,222]
theorem U':EJ Go.Proofs.Tryz.prog tyL=true:=by kernel_rfl
theorem XA {H:Type} (d:DataW H):1<=Go.Proofs.YtcehjengeaafpaaGreat.Rows.uptoBulk d:=by
  cases d with
  | lit l=>cases l<;>simp [Go.Proofs.YtcehjengeaafpaaGreat.Rows.uptoBulk]
  | nil=>simp [Go.Proofs.YtcehjengeaafpaaGreat.Rows.uptoBulk]
  | ptr d=>simp [Go.Proofs.YtcehjengeaafpaaGreat.Rows.uptoBulk]
  | slice elems spare=>simp [Go.Proofs.YtcehjengeaafpaaGreat.Rows.uptoBulk]
  | agg parts=>simp [Go.Proofs.YtcehjengeaafpaaGreat.Rows.uptoBulk]
  | iface t d=>simp [Go.Proofs.YtcehjengeaafpaaGreat.Rows.uptoBulk]
  | map entries=>simp [Go.Proofs.YtcehjengeaafpaaGreat.Rows.uptoBulk]
  | held h=>simp [Go.Proofs.YtcehjengeaafpaaGreat.Rows.uptoBulk]
def bk (H:Type):BulkFn H where
  one:=Go.Proofs.YtcehjengeaafpaaGreat.Rows.uptoBulk
  all:=Go.Proofs.YtcehjengeaafpaaGreat.Rows.uptoBulkAll
  nil:=by simp [Go.Proofs.YtcehjengeaafpaaGreat.Rows.uptoBulkAll]
  cons:=fun d r=>by simp [Go.Proofs.YtcehjengeaafpaaGreat.Rows.uptoBulkAll]
  slice:=fun e s=>by simp [Go.Proofs.YtcehjengeaafpaaGreat.Rows.uptoBulk]
  agg:=fun e=>by simp [Go.Proofs.YtcehjengeaafpaaGreat.Rows.uptoBulk]
  str:=fun b=>by simp [Go.Proofs.YtcehjengeaafpaaGreat.Rows.uptoBulk]
  pos:=XA
theorem small {H:Type} {l:List (DataW H)} (h:Go.Proofs.YtcehjengeaafpaaGreat.Rows.uptoSmall H l=true):(bk H).all l<=kD:=qwv (of_decide_eq_true h)
theorem TK:wC Go.Proofs.Tryz.prog 41=true:=by kernel_rfl
theorem YK (vs:List AV) (h:WTVs Go.Proofs.Tryz.prog kD [41] vs) (hs:szL vs<=kD):aB Φ 5 vs=some (.val (.bool true)):=by
  obtain ⟨a0,vs,rfl,h0,h⟩:=qz3 h;obtain rfl:=S6 h;obtain ⟨x0,rfl,o0⟩:=XM h0 TK (ZI kD);exact Vh x0 o0 (YE hs)
end Go.Av
namespace Go.Proofs.YtcehjengeaafpaaGreat
open Go.ChangeShapes Go.WideShapes Go.ChangeAt Go.RowKit Go.Av
theorem own:ownKnob Tryz.prog.godebug=none:=by kernel_rfl
theorem laid:laidOutB Tryz.prog=true:=closed2.1
theorem EK:joinedFacts Tryz.checked.prog 5 Tryz.f5 (Rows.OpenSpec.upto Rows.interpInvariantsSpec).bare Rows.interpInvariantsUptoRow=true:=by
  unfold joinedFacts;rw [closed2.1,closed2.2,fa1,fa2,fa3,fa4,fa5,fa6,pf1,pf2]
  kernel_rfl
theorem table:TableOk Tryz.prog ann Φ:=U8 (qxi (by kernel_rfl) S' (by kernel_rfl) W9 (by kernel_rfl) ST SU (by kernel_rfl)) (by kernel_rfl)
set_option maxRecDepth 100000 in
theorem QG (H:Type) (enc:TypeId×Value->H) (W:World) (base:Nat) (args:Array Value) (ds gs:List (DataW H)) (before:List MemPlace)
    (hval:∀(j:Nat) t v,Tryz.f5.params[j]? =some t->args[j]? =some v->Value.okWide Tryz.prog W .any base t v)
    (hW:DataW.Whole enc Tryz.prog Tryz.f5.params.toList Rows.interpInvariantsSpec.vars false W args.toList ds gs before) (hk:Rows.uptoSmall H (ds++gs)=true):
    Calls Tryz.prog 5 args W fun e W'=>∃v,e= .returned v/\Rows.interpInvariantsSpec.post enc Tryz.prog Tryz.f5 false true false false W args v W':=
  qw7 table laid (tb:=Tryz.f5.resultTypes[0]!) rfl rfl (by kernel_rfl) (by kernel_rfl) (bk H) U' (by kernel_rfl) hval hW
    (fun l hl=>by
      match l,hl with
      | [d0],_=>rfl)
    (small hk) (fun vs h hs=>YK vs (by rw [Tryz.params5] at h;exact h) hs)
set_option maxRecDepth 100000 in
theorem lifted (os:Os) (started:os.Started) (H:Type) (enc:TypeId×Value->H) (F:Stop.Interp):
    ReturnsInHanded {} Tryz.checked os 5 .any ((Rows.OpenSpec.upto Rows.interpInvariantsSpec).pre6 enc Tryz.prog Tryz.f5 Rows.interpInvariantsUptoRow.domain false) (((Rows.OpenSpec.upto Rows.interpInvariantsSpec).at F).post enc Tryz.prog Tryz.f5 false true false false):=by
  refine returnsInHanded_of_cond (C:=Tryz.checked) (s:=Rows.OpenSpec.upto Rows.interpInvariantsSpec) (k:=Rows.uptoSmall) rfl own started (by kernel_rfl) Tryz.func5
    (OpenSpec.witness (enc:=enc) (C:=Tryz.checked) (s:=Rows.OpenSpec.upto Rows.interpInvariantsSpec) (k:=Rows.uptoSmall) rfl false ⟨#[],#[.agg #[.string ByteArray.empty,.slice none 0 0,.slice none 0 0,.slice none 0 0,.slice none 0 0,.slice none 0 0,.slice none 0 0,.slice none 0 0,.slice none 0 0,.slice none 0 0,.slice none 0 0,.slice none 0 0,.slice none 0 0,.int .i64 0,.slice none 0 0]],[]⟩ 24 (by kernel_rfl) (by kernel_rfl) (by kernel_rfl)
      (x:=([.agg [.agg [.lit (.string []),.nil,.nil,.nil,.nil,.nil,.nil,.nil,.nil],.agg [.nil,.nil,.nil,.nil],.agg [.lit (.int .i64 0),.nil]]],[],[])) (by kernel_rfl) rfl (by kernel_rfl)) ?_
  intro W base args ds gs before hval hW _ hk _;exact QG H enc W base args ds gs before hval hW hk
theorem proved:Rows.InterpInvariantsUptoSaid:=
  OpenClaim.holds_of_cond 5 Tryz.f5 rfl rfl rfl rfl rfl rfl rfl ⟨rfl,rfl,rfl,rfl,rfl⟩ rfl rfl rfl rfl rfl (by kernel_rfl) Tryz.func5 EK
    (of_decide_eq_true (by kernel_rfl)) (by unfold Func.isWrapper;first | (rw [if_pos (by decide+kernel)];kernel_rfl) | (rw [if_neg (by decide+kernel)];exact ⟨rfl,rfl⟩))
    (fun os started H enc _ F=>lifted os started H enc F)
end Go.Proofs.YtcehjengeaafpaaGreat
