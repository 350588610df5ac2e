/-
  The law 'InterpPure' returns true at every input whose readings are of bulk at most 1048576, and leaves its arguments as they were.
  Conditions: none but that bound, which the given statement itself bears.
-/
import Derived.Test.YtcehjengeaafpaaGreatPX40
import Derived.Test.YtcehjengeaafpaaGreatFunsBM
import Derived.Test.YtcehjengeaafpaaGreatRInterpPureFa
import Derived.Test.YtcehjengeaafpaaGreatRInterpPureFb
import Derived.Test.YtcehjengeaafpaaGreatRInterpPureFc
import Derived.KernelRfl
import Derived.ClosedOfChecked
set_option linter.unusedVariables false
set_option linter.unusedSimpArgs false
set_option linter.constructorNameAsVariable false
namespace Go.Av
theorem GS (B:Nat):Rd Go.Proofs.Tryz.prog B 9 cStr (mT B):=ZD Go.Proofs.Tryz.underlying9
theorem iM (B:Nat):Rd Go.Proofs.Tryz.prog B 3 cI (okI B):=ZC Go.Proofs.Tryz.underlying3
theorem VD (B:Nat):Rd Go.Proofs.Tryz.prog B 133 Fld.c (Fld.Ok B):=Fld.rd Go.Proofs.Tryz.underlying133 (GS B) (iM B)
theorem Eh (B:Nat):Rd Go.Proofs.Tryz.prog B 23 (cS 2 Fld.c) (okL B (Fld.Ok B)):=kL Go.Proofs.Tryz.underlying23 (by kernel_rfl) (VD B)
theorem VC (B:Nat):Rd Go.Proofs.Tryz.prog B 131 Xi.c (Xi.Ok B):=Xi.rd Go.Proofs.Tryz.underlying131 (GS B) (Eh B)
theorem ZE (B:Nat):Rd Go.Proofs.Tryz.prog B 22 (cS 2 Xi.c) (okL B (Xi.Ok B)):=kL Go.Proofs.Tryz.underlying22 (by kernel_rfl) (VC B)
theorem VE (B:Nat):Rd Go.Proofs.Tryz.prog B 135 Xg.c (Xg.Ok B):=Xg.rd Go.Proofs.Tryz.underlying135 (GS B) (iM B) (iM B)
theorem ZF (B:Nat):Rd Go.Proofs.Tryz.prog B 24 (cS 3 Xg.c) (okL B (Xg.Ok B)):=kL Go.Proofs.Tryz.underlying24 (by kernel_rfl) (VE B)
theorem Dp (B:Nat):Rd Go.Proofs.Tryz.prog B 139 FieldRef.c (FieldRef.Ok B):=FieldRef.rd Go.Proofs.Tryz.underlying139 (iM B) (iM B)
theorem VI (B:Nat):Rd Go.Proofs.Tryz.prog B 148 Xd.c (Xd.Ok B):=Xd.rd Go.Proofs.Tryz.underlying148 (iM B) (iM B) (iM B)
theorem Do (B:Nat):Rd Go.Proofs.Tryz.prog B 125 (cS 3 Xd.c) (okL B (Xd.Ok B)):=kL Go.Proofs.Tryz.underlying125 (by kernel_rfl) (VI B)
theorem WQ (B:Nat):Rd Go.Proofs.Tryz.prog B 177 Xf.c (Xf.Ok B):=Xf.rd Go.Proofs.Tryz.underlying177 (iM B) (Dp B) (iM B) (iM B) (Do B) (Do B)
theorem YY (B:Nat):Rd Go.Proofs.Tryz.prog B 97 (cS 7 Xf.c) (okL B (Xf.Ok B)):=kL Go.Proofs.Tryz.underlying97 (by kernel_rfl) (WQ B)
theorem YZ (B:Nat):Rd Go.Proofs.Tryz.prog B 99 Action.c (Action.Ok B):=Action.rd Go.Proofs.Tryz.underlying99 (GS B) (Eh B) (YY B)
theorem ZG (B:Nat):Rd Go.Proofs.Tryz.prog B 25 (cS 3 Action.c) (okL B (Action.Ok B)):=kL Go.Proofs.Tryz.underlying25 (by kernel_rfl) (YZ B)
theorem WR (B:Nat):Rd Go.Proofs.Tryz.prog B 222 Xk.c (Xk.Ok B):=Xk.rd Go.Proofs.Tryz.underlying222 (Dp B) (iM B)
theorem VK (B:Nat):Rd Go.Proofs.Tryz.prog B 165 (cS 3 Xk.c) (okL B (Xk.Ok B)):=kL Go.Proofs.Tryz.underlying165 (by kernel_rfl) (WR B)
theorem OS (B:Nat):Rd Go.Proofs.Tryz.prog B 29 (cS 1 cI) (okL B (okI B)):=kL Go.Proofs.Tryz.underlying29 (by kernel_rfl) (iM B)
theorem L5 (B:Nat):Rd Go.Proofs.Tryz.prog B 89 c32 (ok32 B):=Z0 Go.Proofs.Tryz.underlying89
theorem Np (B:Nat):Rd Go.Proofs.Tryz.prog B 67 (cS 1 c32) (okL B (ok32 B)):=kL Go.Proofs.Tryz.underlying67 (by kernel_rfl) (L5 B)
theorem Ei (B:Nat):Rd Go.Proofs.Tryz.prog B 84 Xb.c (Xb.Ok B):=Xb.rd Go.Proofs.Tryz.underlying84 (iM B) (Np B)
theorem VL (B:Nat):Rd Go.Proofs.Tryz.prog B 167 Tbl.c (Tbl.Ok B):=Tbl.rd Go.Proofs.Tryz.underlying167 (GS B) (VK B) (OS B) (Ei B) (iM B)
theorem ZH (B:Nat):Rd Go.Proofs.Tryz.prog B 26 (cS 6 Tbl.c) (okL B (Tbl.Ok B)):=kL Go.Proofs.Tryz.underlying26 (by kernel_rfl) (VL B)
theorem rd_t4 (B:Nat):Rd Go.Proofs.Tryz.prog B 4 cB (okT B):=WC Go.Proofs.Tryz.underlying4
theorem VF (B:Nat):Rd Go.Proofs.Tryz.prog B 142 Xj.c (Xj.Ok B):=Xj.rd Go.Proofs.Tryz.underlying142 (L5 B) (L5 B) (iM B)
theorem VG (B:Nat):Rd Go.Proofs.Tryz.prog B 143 (cS 3 Xj.c) (okL B (Xj.Ok B)):=kL Go.Proofs.Tryz.underlying143 (by kernel_rfl) (VF B)
theorem VH (B:Nat):Rd Go.Proofs.Tryz.prog B 145 Xc.c (Xc.Ok B):=Xc.rd Go.Proofs.Tryz.underlying145 (GS B) (OS B) (rd_t4 B) (Dp B) (VG B) (iM B)
theorem ZI (B:Nat):Rd Go.Proofs.Tryz.prog B 27 (cS 7 Xc.c) (okL B (Xc.Ok B)):=kL Go.Proofs.Tryz.underlying27 (by kernel_rfl) (VH B)
theorem WD (B:Nat):Rd Go.Proofs.Tryz.prog B 127 Xa.c (Xa.Ok B):=Xa.rd Go.Proofs.Tryz.underlying127 (iM B) (iM B) (Do B) rfl rfl Go.Proofs.Tryz.underlying28 (by kernel_rfl)
theorem ZJ (B:Nat):Rd Go.Proofs.Tryz.prog B 28 (cS 5 Xa.c) (okL B (Xa.Ok B)):=kL Go.Proofs.Tryz.underlying28 (by kernel_rfl) (WD B)
theorem ZK (B:Nat):Rd Go.Proofs.Tryz.prog B 31 Prg.c (Prg.Ok B):=Prg.rd Go.Proofs.Tryz.underlying31 (GS B) (ZE B) (Eh B) (ZF B) (ZG B) (ZH B) (ZI B) (ZJ B) (OS B)
theorem WP (B:Nat):Rd Go.Proofs.Tryz.prog B 172 Xh.c (Xh.Ok B):=Xh.rd Go.Proofs.Tryz.underlying172 (L5 B) (L5 B)
theorem YV (B:Nat):Rd Go.Proofs.Tryz.prog B 82 (cS 2 Xh.c) (okL B (Xh.Ok B)):=kL Go.Proofs.Tryz.underlying82 (by kernel_rfl) (WP B)
theorem YW (B:Nat):Rd Go.Proofs.Tryz.prog B 86 Entry.c (Entry.Ok B):=Entry.rd Go.Proofs.Tryz.underlying86 (YV B) (iM B) (Ei B)
theorem VJ (B:Nat):Rd Go.Proofs.Tryz.prog B 162 Rw.c (Rw.Ok B):=Rw.rd Go.Proofs.Tryz.underlying162 (iM B) (YW B)
theorem YX (B:Nat):Rd Go.Proofs.Tryz.prog B 96 (cS 5 Rw.c) (okL B (Rw.Ok B)):=kL Go.Proofs.Tryz.underlying96 (by kernel_rfl) (VJ B)
theorem ZL (B:Nat):Rd Go.Proofs.Tryz.prog B 32 (cS 1 (cS 5 Rw.c)) (okL B (okL B (Rw.Ok B))):=kL Go.Proofs.Tryz.underlying32 (by kernel_rfl) (YX B)
theorem ZM (B:Nat):Rd Go.Proofs.Tryz.prog B 33 (cS 2 Xb.c) (okL B (Xb.Ok B)):=kL Go.Proofs.Tryz.underlying33 (by kernel_rfl) (Ei B)
theorem ZN (B:Nat):Rd Go.Proofs.Tryz.prog B 34 (cS 1 (cS 1 c32)) (okL B (okL B (ok32 B))):=kL Go.Proofs.Tryz.underlying34 (by kernel_rfl) (Np B)
theorem ZO (B:Nat):Rd Go.Proofs.Tryz.prog B 36 Xe.c (Xe.Ok B):=Xe.rd Go.Proofs.Tryz.underlying36 (ZL B) (OS B) (ZM B) (ZN B)
theorem rd_t5 (B:Nat):Rd Go.Proofs.Tryz.prog B 5 c8 (ok8 B):=rd_u8 Go.Proofs.Tryz.underlying5
theorem ZP (B:Nat):Rd Go.Proofs.Tryz.prog B 37 (cS 1 c8) (okL B (ok8 B)):=kL Go.Proofs.Tryz.underlying37 (by kernel_rfl) (rd_t5 B)
theorem YT (B:Nat):Rd Go.Proofs.Tryz.prog B 39 Packet.c (Packet.Ok B):=Packet.rd Go.Proofs.Tryz.underlying39 (iM B) (ZP B)
theorem YU (B:Nat):Rd Go.Proofs.Tryz.prog B 41 Case25.c (Case25.Ok B):=Case25.rd Go.Proofs.Tryz.underlying41 (ZK B) (ZO B) (YT B)
def tyL:List Nat:=[3,4,5,9,22,23,24,25,26,27,28,29,31,32,33,34,36,37,39,41,67,82,84,86,89,96,97,99,125,127,131,133,135,139,142,143,145,148,162,165,167,172,177,222]
theorem Ae:EO Go.Proofs.Tryz.prog tyL=true:=by kernel_rfl
theorem XJ {H:Type} (d:DataW H):1<=Go.Proofs.YtcehjengeaafpaaGreat.Rows.uptoBulk d:=by
  cases d with
  | lit l=>cases l<;>simp [Go.Proofs.YtcehjengeaafpaaGreat.Rows.uptoBulk]
  | nil=>simp [Go.Proofs.YtcehjengeaafpaaGreat.Rows.uptoBulk]
  | ptr d=>simp [Go.Proofs.YtcehjengeaafpaaGreat.Rows.uptoBulk]
  | slice elems spare=>simp [Go.Proofs.YtcehjengeaafpaaGreat.Rows.uptoBulk]
  | agg parts=>simp [Go.Proofs.YtcehjengeaafpaaGreat.Rows.uptoBulk]
  | iface t d=>simp [Go.Proofs.YtcehjengeaafpaaGreat.Rows.uptoBulk]
  | map entries=>simp [Go.Proofs.YtcehjengeaafpaaGreat.Rows.uptoBulk]
  | held h=>simp [Go.Proofs.YtcehjengeaafpaaGreat.Rows.uptoBulk]
def bk (H:Type):BulkFn H where
  one:=Go.Proofs.YtcehjengeaafpaaGreat.Rows.uptoBulk
  all:=Go.Proofs.YtcehjengeaafpaaGreat.Rows.uptoBulkAll
  nil:=by simp [Go.Proofs.YtcehjengeaafpaaGreat.Rows.uptoBulkAll]
  cons:=fun d r=>by simp [Go.Proofs.YtcehjengeaafpaaGreat.Rows.uptoBulkAll]
  slice:=fun e s=>by simp [Go.Proofs.YtcehjengeaafpaaGreat.Rows.uptoBulk]
  agg:=fun e=>by simp [Go.Proofs.YtcehjengeaafpaaGreat.Rows.uptoBulk]
  str:=fun b=>by simp [Go.Proofs.YtcehjengeaafpaaGreat.Rows.uptoBulk]
  pos:=XJ
theorem small {H:Type} {l:List (DataW H)} (h:Go.Proofs.YtcehjengeaafpaaGreat.Rows.uptoSmall H l=true):(bk H).all l<=jY:=qww (of_decide_eq_true h)
theorem TT:wD Go.Proofs.Tryz.prog 41=true:=by kernel_rfl
theorem Y4 (vs:List AV) (h:WTVs Go.Proofs.Tryz.prog jY [41] vs) (hs:szL vs<=jY):aB Φ 8 vs=some (.val (.bool true)):=by
  obtain ⟨a0,vs,rfl,h0,h⟩:=qz4 h;obtain rfl:=SF h;obtain ⟨x0,rfl,o0⟩:=XW h0 TT (YU jY);exact Vy x0 o0 (YN hs)
end Go.Av
namespace Go.Proofs.YtcehjengeaafpaaGreat
open Go.ChangeShapes Go.WideShapes Go.ChangeAt Go.RowKit Go.Av
theorem own:ownKnob Tryz.prog.godebug=none:=by kernel_rfl
theorem laid:laidOutB Tryz.prog=true:=closed2.1
theorem EP:joinedFacts Tryz.checked.prog 8 Tryz.f8 (Rows.OpenSpec.upto Rows.interpPureSpec).bare Rows.interpPureUptoRow=true:=by
  unfold joinedFacts;rw [closed2.1,closed2.2,fa1,fa2,fa3,fa4,fa5,fa6,pf1,pf2]
  kernel_rfl
theorem table:TableOk Tryz.prog ann Φ:=UH (qxj (by kernel_rfl) Ad (by kernel_rfl) WH (by kernel_rfl) T6 T7 (by kernel_rfl)) (by kernel_rfl)
set_option maxRecDepth 100000 in
theorem QO (H:Type) (enc:TypeId×Value->H) (W:World) (base:Nat) (args:Array Value) (ds gs:List (DataW H)) (before:List MemPlace)
    (hval:∀(j:Nat) t v,Tryz.f8.params[j]? =some t->args[j]? =some v->Value.okWide Tryz.prog W .any base t v)
    (hW:DataW.Whole enc Tryz.prog Tryz.f8.params.toList Rows.interpPureSpec.vars false W args.toList ds gs before) (hk:Rows.uptoSmall H (ds++gs)=true):
    Calls Tryz.prog 8 args W fun e W'=>∃v,e= .returned v/\Rows.interpPureSpec.post enc Tryz.prog Tryz.f8 false true false false W args v W':=
  qw8 table laid (tb:=Tryz.f8.resultTypes[0]!) rfl rfl (by kernel_rfl) (by kernel_rfl) (bk H) Ae (by kernel_rfl) hval hW
    (fun l hl=>by
      match l,hl with
      | [d0],_=>rfl)
    (small hk) (fun vs h hs=>Y4 vs (by rw [Tryz.params8] at h;exact h) hs)
set_option maxRecDepth 100000 in
theorem lifted (os:Os) (started:os.Started) (H:Type) (enc:TypeId×Value->H) (F:Stop.Interp):
    ReturnsInHanded {} Tryz.checked os 8 .any ((Rows.OpenSpec.upto Rows.interpPureSpec).pre6 enc Tryz.prog Tryz.f8 Rows.interpPureUptoRow.domain false) (((Rows.OpenSpec.upto Rows.interpPureSpec).at F).post enc Tryz.prog Tryz.f8 false true false false):=by
  refine returnsInHanded_of_cond (C:=Tryz.checked) (s:=Rows.OpenSpec.upto Rows.interpPureSpec) (k:=Rows.uptoSmall) rfl own started (by kernel_rfl) Tryz.func8
    (OpenSpec.witness (enc:=enc) (C:=Tryz.checked) (s:=Rows.OpenSpec.upto Rows.interpPureSpec) (k:=Rows.uptoSmall) rfl false ⟨#[],#[.agg #[.string ByteArray.empty,.slice none 0 0,.slice none 0 0,.slice none 0 0,.slice none 0 0,.slice none 0 0,.slice none 0 0,.slice none 0 0,.slice none 0 0,.slice none 0 0,.slice none 0 0,.slice none 0 0,.slice none 0 0,.int .i64 0,.slice none 0 0]],[]⟩ 24 (by kernel_rfl) (by kernel_rfl) (by kernel_rfl)
      (x:=([.agg [.agg [.lit (.string []),.nil,.nil,.nil,.nil,.nil,.nil,.nil,.nil],.agg [.nil,.nil,.nil,.nil],.agg [.lit (.int .i64 0),.nil]]],[],[])) (by kernel_rfl) rfl (by kernel_rfl)) ?_
  intro W base args ds gs before hval hW _ hk _;exact QO H enc W base args ds gs before hval hW hk
theorem proved:Rows.InterpPureUptoSaid:=
  OpenClaim.holds_of_cond 8 Tryz.f8 rfl rfl rfl rfl rfl rfl rfl ⟨rfl,rfl,rfl,rfl,rfl⟩ rfl rfl rfl rfl rfl (by kernel_rfl) Tryz.func8 EP
    (of_decide_eq_true (by kernel_rfl)) (by unfold Func.isWrapper;first | (rw [if_pos (by decide+kernel)];kernel_rfl) | (rw [if_neg (by decide+kernel)];exact ⟨rfl,rfl⟩))
    (fun os started H enc _ F=>lifted os started H enc F)
end Go.Proofs.YtcehjengeaafpaaGreat
