/-
  The law 'InterpSplit' returns true at every input whose readings are of bulk at most 1048576, and leaves its arguments as they were.
  Conditions: none but that bound, which the given statement itself bears.
-/
import Derived.Test.YtcehjengeaafpaaGreatPX40
import Derived.Test.YtcehjengeaafpaaGreatFunsBM
import Derived.Test.YtcehjengeaafpaaGreatRInterpSplitFa
import Derived.Test.YtcehjengeaafpaaGreatRInterpSplitFb
import Derived.Test.YtcehjengeaafpaaGreatRInterpSplitFc
import Derived.KernelRfl
import Derived.ClosedOfChecked
set_option linter.unusedVariables false
set_option linter.unusedSimpArgs false
set_option linter.constructorNameAsVariable false
namespace Go.Av
theorem GR (B:Nat):Rd Go.Proofs.Tryz.prog B 9 cStr (mV B):=ZQ Go.Proofs.Tryz.underlying9
theorem iP (B:Nat):Rd Go.Proofs.Tryz.prog B 3 cI (okI B):=ZP Go.Proofs.Tryz.underlying3
theorem WR (B:Nat):Rd Go.Proofs.Tryz.prog B 133 Fld.c (Fld.Ok B):=Fld.rd Go.Proofs.Tryz.underlying133 (GR B) (iP B)
theorem Fh (B:Nat):Rd Go.Proofs.Tryz.prog B 23 (cS 2 Fld.c) (okL B (Fld.Ok B)):=jZ Go.Proofs.Tryz.underlying23 (by kernel_rfl) (WR B)
theorem WQ (B:Nat):Rd Go.Proofs.Tryz.prog B 131 Xi.c (Xi.Ok B):=Xi.rd Go.Proofs.Tryz.underlying131 (GR B) (Fh B)
theorem YU (B:Nat):Rd Go.Proofs.Tryz.prog B 22 (cS 2 Xi.c) (okL B (Xi.Ok B)):=jZ Go.Proofs.Tryz.underlying22 (by kernel_rfl) (WQ B)
theorem WS (B:Nat):Rd Go.Proofs.Tryz.prog B 135 Xg.c (Xg.Ok B):=Xg.rd Go.Proofs.Tryz.underlying135 (GR B) (iP B) (iP B)
theorem YV (B:Nat):Rd Go.Proofs.Tryz.prog B 24 (cS 3 Xg.c) (okL B (Xg.Ok B)):=jZ Go.Proofs.Tryz.underlying24 (by kernel_rfl) (WS B)
theorem Ek (B:Nat):Rd Go.Proofs.Tryz.prog B 139 FieldRef.c (FieldRef.Ok B):=FieldRef.rd Go.Proofs.Tryz.underlying139 (iP B) (iP B)
theorem WX (B:Nat):Rd Go.Proofs.Tryz.prog B 148 Xd.c (Xd.Ok B):=Xd.rd Go.Proofs.Tryz.underlying148 (iP B) (iP B) (iP B)
theorem Ej (B:Nat):Rd Go.Proofs.Tryz.prog B 125 (cS 3 Xd.c) (okL B (Xd.Ok B)):=jZ Go.Proofs.Tryz.underlying125 (by kernel_rfl) (WX B)
theorem X3 (B:Nat):Rd Go.Proofs.Tryz.prog B 177 Xf.c (Xf.Ok B):=Xf.rd Go.Proofs.Tryz.underlying177 (iP B) (Ek B) (iP B) (iP B) (Ej B) (Ej B)
theorem S' (B:Nat):Rd Go.Proofs.Tryz.prog B 97 (cS 7 Xf.c) (okL B (Xf.Ok B)):=jZ Go.Proofs.Tryz.underlying97 (by kernel_rfl) (X3 B)
theorem U' (B:Nat):Rd Go.Proofs.Tryz.prog B 99 Action.c (Action.Ok B):=Action.rd Go.Proofs.Tryz.underlying99 (GR B) (Fh B) (S' B)
theorem YW (B:Nat):Rd Go.Proofs.Tryz.prog B 25 (cS 3 Action.c) (okL B (Action.Ok B)):=jZ Go.Proofs.Tryz.underlying25 (by kernel_rfl) (U' B)
theorem X4 (B:Nat):Rd Go.Proofs.Tryz.prog B 222 Xk.c (Xk.Ok B):=Xk.rd Go.Proofs.Tryz.underlying222 (Ek B) (iP B)
theorem WZ (B:Nat):Rd Go.Proofs.Tryz.prog B 165 (cS 3 Xk.c) (okL B (Xk.Ok B)):=jZ Go.Proofs.Tryz.underlying165 (by kernel_rfl) (X4 B)
theorem OI (B:Nat):Rd Go.Proofs.Tryz.prog B 29 (cS 1 cI) (okL B (okI B)):=jZ Go.Proofs.Tryz.underlying29 (by kernel_rfl) (iP B)
theorem L6 (B:Nat):Rd Go.Proofs.Tryz.prog B 89 c32 (ok32 B):=V' Go.Proofs.Tryz.underlying89
theorem Om (B:Nat):Rd Go.Proofs.Tryz.prog B 67 (cS 1 c32) (okL B (ok32 B)):=jZ Go.Proofs.Tryz.underlying67 (by kernel_rfl) (L6 B)
theorem Fi (B:Nat):Rd Go.Proofs.Tryz.prog B 84 Xb.c (Xb.Ok B):=Xb.rd Go.Proofs.Tryz.underlying84 (iP B) (Om B)
theorem X0 (B:Nat):Rd Go.Proofs.Tryz.prog B 167 Tbl.c (Tbl.Ok B):=Tbl.rd Go.Proofs.Tryz.underlying167 (GR B) (WZ B) (OI B) (Fi B) (iP B)
theorem YX (B:Nat):Rd Go.Proofs.Tryz.prog B 26 (cS 6 Tbl.c) (okL B (Tbl.Ok B)):=jZ Go.Proofs.Tryz.underlying26 (by kernel_rfl) (X0 B)
theorem rd_t4 (B:Nat):Rd Go.Proofs.Tryz.prog B 4 cB (okT B):=VK Go.Proofs.Tryz.underlying4
theorem WU (B:Nat):Rd Go.Proofs.Tryz.prog B 142 Xj.c (Xj.Ok B):=Xj.rd Go.Proofs.Tryz.underlying142 (L6 B) (L6 B) (iP B)
theorem WV (B:Nat):Rd Go.Proofs.Tryz.prog B 143 (cS 3 Xj.c) (okL B (Xj.Ok B)):=jZ Go.Proofs.Tryz.underlying143 (by kernel_rfl) (WU B)
theorem WW (B:Nat):Rd Go.Proofs.Tryz.prog B 145 Xc.c (Xc.Ok B):=Xc.rd Go.Proofs.Tryz.underlying145 (GR B) (OI B) (rd_t4 B) (Ek B) (WV B) (iP B)
theorem YY (B:Nat):Rd Go.Proofs.Tryz.prog B 27 (cS 7 Xc.c) (okL B (Xc.Ok B)):=jZ Go.Proofs.Tryz.underlying27 (by kernel_rfl) (WW B)
theorem VL (B:Nat):Rd Go.Proofs.Tryz.prog B 127 Xa.c (Xa.Ok B):=Xa.rd Go.Proofs.Tryz.underlying127 (iP B) (iP B) (Ej B) rfl rfl Go.Proofs.Tryz.underlying28 (by kernel_rfl)
theorem YZ (B:Nat):Rd Go.Proofs.Tryz.prog B 28 (cS 5 Xa.c) (okL B (Xa.Ok B)):=jZ Go.Proofs.Tryz.underlying28 (by kernel_rfl) (VL B)
theorem Z0 (B:Nat):Rd Go.Proofs.Tryz.prog B 31 Prg.c (Prg.Ok B):=Prg.rd Go.Proofs.Tryz.underlying31 (GR B) (YU B) (Fh B) (YV B) (YW B) (YX B) (YY B) (YZ B) (OI B)
theorem X1 (B:Nat):Rd Go.Proofs.Tryz.prog B 172 Xh.c (Xh.Ok B):=Xh.rd Go.Proofs.Tryz.underlying172 (L6 B) (L6 B)
theorem J' (B:Nat):Rd Go.Proofs.Tryz.prog B 82 (cS 2 Xh.c) (okL B (Xh.Ok B)):=jZ Go.Proofs.Tryz.underlying82 (by kernel_rfl) (X1 B)
theorem K' (B:Nat):Rd Go.Proofs.Tryz.prog B 86 Entry.c (Entry.Ok B):=Entry.rd Go.Proofs.Tryz.underlying86 (J' B) (iP B) (Fi B)
theorem WY (B:Nat):Rd Go.Proofs.Tryz.prog B 162 Rw.c (Rw.Ok B):=Rw.rd Go.Proofs.Tryz.underlying162 (iP B) (K' B)
theorem P' (B:Nat):Rd Go.Proofs.Tryz.prog B 96 (cS 5 Rw.c) (okL B (Rw.Ok B)):=jZ Go.Proofs.Tryz.underlying96 (by kernel_rfl) (WY B)
theorem Z1 (B:Nat):Rd Go.Proofs.Tryz.prog B 32 (cS 1 (cS 5 Rw.c)) (okL B (okL B (Rw.Ok B))):=jZ Go.Proofs.Tryz.underlying32 (by kernel_rfl) (P' B)
theorem Z2 (B:Nat):Rd Go.Proofs.Tryz.prog B 33 (cS 2 Xb.c) (okL B (Xb.Ok B)):=jZ Go.Proofs.Tryz.underlying33 (by kernel_rfl) (Fi B)
theorem Z3 (B:Nat):Rd Go.Proofs.Tryz.prog B 34 (cS 1 (cS 1 c32)) (okL B (okL B (ok32 B))):=jZ Go.Proofs.Tryz.underlying34 (by kernel_rfl) (Om B)
theorem B' (B:Nat):Rd Go.Proofs.Tryz.prog B 36 Xe.c (Xe.Ok B):=Xe.rd Go.Proofs.Tryz.underlying36 (Z1 B) (OI B) (Z2 B) (Z3 B)
theorem rd_t5 (B:Nat):Rd Go.Proofs.Tryz.prog B 5 c8 (ok8 B):=rd_u8 Go.Proofs.Tryz.underlying5
theorem C' (B:Nat):Rd Go.Proofs.Tryz.prog B 37 (cS 1 c8) (okL B (ok8 B)):=jZ Go.Proofs.Tryz.underlying37 (by kernel_rfl) (rd_t5 B)
theorem Ol (B:Nat):Rd Go.Proofs.Tryz.prog B 39 Packet.c (Packet.Ok B):=Packet.rd Go.Proofs.Tryz.underlying39 (iP B) (C' B)
theorem D' (B:Nat):Rd Go.Proofs.Tryz.prog B 41 Case25.c (Case25.Ok B):=Case25.rd Go.Proofs.Tryz.underlying41 (Z0 B) (B' B) (Ol B)
theorem G' (B:Nat):Rd Go.Proofs.Tryz.prog B 52 (cS 2 Packet.c) (okL B (Packet.Ok B)):=jZ Go.Proofs.Tryz.underlying52 (by kernel_rfl) (Ol B)
def tyL:List Nat:=[3,4,5,9,22,23,24,25,26,27,28,29,31,32,33,34,36,37,39,41,52,67,82,84,86,89,96,97,99,125,127,131,133,135,139,142,143,145,148,162,165,167,172,177,222]
theorem Ap:EK Go.Proofs.Tryz.prog tyL=true:=by kernel_rfl
theorem YI {H:Type} (d:DataW H):1<=Go.Proofs.YtcehjengeaafpaaGreat.Rows.uptoBulk d:=by
  cases d with
  | lit l=>cases l<;>simp [Go.Proofs.YtcehjengeaafpaaGreat.Rows.uptoBulk]
  | nil=>simp [Go.Proofs.YtcehjengeaafpaaGreat.Rows.uptoBulk]
  | ptr d=>simp [Go.Proofs.YtcehjengeaafpaaGreat.Rows.uptoBulk]
  | slice elems spare=>simp [Go.Proofs.YtcehjengeaafpaaGreat.Rows.uptoBulk]
  | agg parts=>simp [Go.Proofs.YtcehjengeaafpaaGreat.Rows.uptoBulk]
  | iface t d=>simp [Go.Proofs.YtcehjengeaafpaaGreat.Rows.uptoBulk]
  | map entries=>simp [Go.Proofs.YtcehjengeaafpaaGreat.Rows.uptoBulk]
  | held h=>simp [Go.Proofs.YtcehjengeaafpaaGreat.Rows.uptoBulk]
def bk (H:Type):BulkFn H where
  one:=Go.Proofs.YtcehjengeaafpaaGreat.Rows.uptoBulk
  all:=Go.Proofs.YtcehjengeaafpaaGreat.Rows.uptoBulkAll
  nil:=by simp [Go.Proofs.YtcehjengeaafpaaGreat.Rows.uptoBulkAll]
  cons:=fun d r=>by simp [Go.Proofs.YtcehjengeaafpaaGreat.Rows.uptoBulkAll]
  slice:=fun e s=>by simp [Go.Proofs.YtcehjengeaafpaaGreat.Rows.uptoBulk]
  agg:=fun e=>by simp [Go.Proofs.YtcehjengeaafpaaGreat.Rows.uptoBulk]
  str:=fun b=>by simp [Go.Proofs.YtcehjengeaafpaaGreat.Rows.uptoBulk]
  pos:=YI
theorem small {H:Type} {l:List (DataW H)} (h:Go.Proofs.YtcehjengeaafpaaGreat.Rows.uptoSmall H l=true):(bk H).all l<=gG:=qw6 (of_decide_eq_true h)
theorem U4:qT Go.Proofs.Tryz.prog 41=true:=by kernel_rfl
theorem U5:qT Go.Proofs.Tryz.prog 52=false:=by kernel_rfl
theorem XM:qT Go.Proofs.Tryz.prog 5=false:=by kernel_rfl
theorem Z5 (vs:List AV) (h:WTVs Go.Proofs.Tryz.prog gG [41,52,5] vs) (hs:szL vs<=gG):aB Φ 6 vs=some (.val (.bool true)):=by
  obtain ⟨a0,vs,rfl,h0,h⟩:=Co h;obtain ⟨a1,vs,rfl,h1,h⟩:=Co h;obtain ⟨a2,vs,rfl,h2,h⟩:=Co h;obtain rfl:=TW h;obtain ⟨x0,rfl,o0⟩:=Y5 h0 U4 (D' gG);obtain ⟨x1,e1,o1⟩:=Ml h1 U5 (G' gG);cases e1;obtain ⟨x2,e2,o2⟩:=Ml h2 XM (rd_t5 gG);cases e2;exact Wo x0 x1 x2 o0 o1 o2 (YC hs)
end Go.Av
namespace Go.Proofs.YtcehjengeaafpaaGreat
open Go.ChangeShapes Go.WideShapes Go.ChangeAt Go.RowKit Go.Av
theorem own:ownKnob Tryz.prog.godebug=none:=by kernel_rfl
theorem laid:laidOutB Tryz.prog=true:=closed2.1
theorem EL:joinedFacts Tryz.checked.prog 6 Tryz.f6 (Rows.OpenSpec.upto Rows.interpSplitSpec).bare Rows.interpSplitUptoRow=true:=by
  unfold joinedFacts;rw [closed2.1,closed2.2,fa1,fa2,fa3,fa4,fa5,fa6,pf1,pf2]
  kernel_rfl
theorem table:TableOk Tryz.prog ann Φ:=VQ (qxt (by kernel_rfl) Ao (by kernel_rfl) XT (by kernel_rfl) SC SD (by kernel_rfl)) (by kernel_rfl)
set_option maxRecDepth 100000 in
theorem R0 (H:Type) (enc:TypeId×Value->H) (W:World) (base:Nat) (args:Array Value) (ds gs:List (DataW H)) (before:List MemPlace)
    (hval:∀(j:Nat) t v,Tryz.f6.params[j]? =some t->args[j]? =some v->Value.okWide Tryz.prog W .any base t v)
    (hW:DataW.Whole enc Tryz.prog Tryz.f6.params.toList Rows.interpSplitSpec.vars false W args.toList ds gs before) (hk:Rows.uptoSmall H (ds++gs)=true):
    Calls Tryz.prog 6 args W fun e W'=>∃v,e= .returned v/\Rows.interpSplitSpec.post enc Tryz.prog Tryz.f6 false true false false W args v W':=
  qxi table laid (tb:=Tryz.f6.resultTypes[0]!) rfl rfl (by kernel_rfl) (by kernel_rfl) (bk H) Ap (by kernel_rfl) hval hW
    (fun l hl=>by
      match l,hl with
      | [d0,d1,d2],_=>rfl)
    (small hk) (fun vs h hs=>Z5 vs (by rw [Tryz.params6] at h;exact h) hs)
set_option maxRecDepth 100000 in
theorem lifted (os:Os) (started:os.Started) (H:Type) (enc:TypeId×Value->H) (F:Stop.Interp):
    ReturnsInHanded {} Tryz.checked os 6 .any ((Rows.OpenSpec.upto Rows.interpSplitSpec).pre6 enc Tryz.prog Tryz.f6 Rows.interpSplitUptoRow.domain false) (((Rows.OpenSpec.upto Rows.interpSplitSpec).at F).post enc Tryz.prog Tryz.f6 false true false false):=by
  refine returnsInHanded_of_cond (C:=Tryz.checked) (s:=Rows.OpenSpec.upto Rows.interpSplitSpec) (k:=Rows.uptoSmall) rfl own started (by kernel_rfl) Tryz.func6
    (OpenSpec.witness (enc:=enc) (C:=Tryz.checked) (s:=Rows.OpenSpec.upto Rows.interpSplitSpec) (k:=Rows.uptoSmall) rfl false ⟨#[],#[.agg #[.string ByteArray.empty,.slice none 0 0,.slice none 0 0,.slice none 0 0,.slice none 0 0,.slice none 0 0,.slice none 0 0,.slice none 0 0,.slice none 0 0,.slice none 0 0,.slice none 0 0,.slice none 0 0,.slice none 0 0,.int .i64 0,.slice none 0 0],.slice none 0 0,.int .u8 0],[]⟩ 24 (by kernel_rfl) (by kernel_rfl) (by kernel_rfl)
      (x:=([.agg [.agg [.lit (.string []),.nil,.nil,.nil,.nil,.nil,.nil,.nil,.nil],.agg [.nil,.nil,.nil,.nil],.agg [.lit (.int .i64 0),.nil]],.nil,.lit (.int .u8 0)],[],[])) (by kernel_rfl) rfl (by kernel_rfl)) ?_
  intro W base args ds gs before hval hW _ hk _;exact R0 H enc W base args ds gs before hval hW hk
theorem proved:Rows.InterpSplitUptoSaid:=
  OpenClaim.holds_of_cond 6 Tryz.f6 rfl rfl rfl rfl rfl rfl rfl ⟨rfl,rfl,rfl,rfl,rfl⟩ rfl rfl rfl rfl rfl (by kernel_rfl) Tryz.func6 EL
    (of_decide_eq_true (by kernel_rfl)) (by unfold Func.isWrapper;first | (rw [if_pos (by decide+kernel)];kernel_rfl) | (rw [if_neg (by decide+kernel)];exact ⟨rfl,rfl⟩))
    (fun os started H enc _ F=>lifted os started H enc F)
end Go.Proofs.YtcehjengeaafpaaGreat
