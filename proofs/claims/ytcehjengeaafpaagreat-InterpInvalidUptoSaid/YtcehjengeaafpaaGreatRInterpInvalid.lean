/-
  The law 'InterpInvalid' returns true at every input whose readings are of bulk at most 1048576, and leaves its arguments as they were.
  Conditions: none but that bound, which the given statement itself bears.
-/
import Derived.Test.YtcehjengeaafpaaGreatPX40
import Derived.Test.YtcehjengeaafpaaGreatFunsBM
import Derived.Test.YtcehjengeaafpaaGreatRInterpInvalidFa
import Derived.Test.YtcehjengeaafpaaGreatRInterpInvalidFb
import Derived.Test.YtcehjengeaafpaaGreatRInterpInvalidFc
import Derived.KernelRfl
import Derived.ClosedOfChecked
set_option linter.unusedVariables false
set_option linter.unusedSimpArgs false
set_option linter.constructorNameAsVariable false
namespace Go.Av
theorem NC (B:Nat):Rd Go.Proofs.Tryz.prog B 9 cStr (pZ B):=Ma Go.Proofs.Tryz.underlying9
theorem kZ (B:Nat):Rd Go.Proofs.Tryz.prog B 3 cI (okI B):=Lz Go.Proofs.Tryz.underlying3
theorem Ho (B:Nat):Rd Go.Proofs.Tryz.prog B 133 Fld.c (Fld.Ok B):=Fld.rd Go.Proofs.Tryz.underlying133 (NC B) (kZ B)
theorem Tj (B:Nat):Rd Go.Proofs.Tryz.prog B 23 (cS 2 Fld.c) (okL B (Fld.Ok B)):=nC Go.Proofs.Tryz.underlying23 (by kernel_rfl) (Ho B)
theorem Hn (B:Nat):Rd Go.Proofs.Tryz.prog B 131 Xi.c (Xi.Ok B):=Xi.rd Go.Proofs.Tryz.underlying131 (NC B) (Tj B)
theorem Mb (B:Nat):Rd Go.Proofs.Tryz.prog B 22 (cS 2 Xi.c) (okL B (Xi.Ok B)):=nC Go.Proofs.Tryz.underlying22 (by kernel_rfl) (Hn B)
theorem Hp (B:Nat):Rd Go.Proofs.Tryz.prog B 135 Xg.c (Xg.Ok B):=Xg.rd Go.Proofs.Tryz.underlying135 (NC B) (kZ B) (kZ B)
theorem Mc (B:Nat):Rd Go.Proofs.Tryz.prog B 24 (cS 3 Xg.c) (okL B (Xg.Ok B)):=nC Go.Proofs.Tryz.underlying24 (by kernel_rfl) (Hp B)
theorem Ss (B:Nat):Rd Go.Proofs.Tryz.prog B 139 FieldRef.c (FieldRef.Ok B):=FieldRef.rd Go.Proofs.Tryz.underlying139 (kZ B) (kZ B)
theorem Ht (B:Nat):Rd Go.Proofs.Tryz.prog B 148 Xd.c (Xd.Ok B):=Xd.rd Go.Proofs.Tryz.underlying148 (kZ B) (kZ B) (kZ B)
theorem Sr (B:Nat):Rd Go.Proofs.Tryz.prog B 125 (cS 3 Xd.c) (okL B (Xd.Ok B)):=nC Go.Proofs.Tryz.underlying125 (by kernel_rfl) (Ht B)
theorem Hy (B:Nat):Rd Go.Proofs.Tryz.prog B 177 Xf.c (Xf.Ok B):=Xf.rd Go.Proofs.Tryz.underlying177 (kZ B) (Ss B) (kZ B) (kZ B) (Sr B) (Sr B)
theorem Ms (B:Nat):Rd Go.Proofs.Tryz.prog B 97 (cS 7 Xf.c) (okL B (Xf.Ok B)):=nC Go.Proofs.Tryz.underlying97 (by kernel_rfl) (Hy B)
theorem Mt (B:Nat):Rd Go.Proofs.Tryz.prog B 99 Action.c (Action.Ok B):=Action.rd Go.Proofs.Tryz.underlying99 (NC B) (Tj B) (Ms B)
theorem Md (B:Nat):Rd Go.Proofs.Tryz.prog B 25 (cS 3 Action.c) (okL B (Action.Ok B)):=nC Go.Proofs.Tryz.underlying25 (by kernel_rfl) (Mt B)
theorem Hz (B:Nat):Rd Go.Proofs.Tryz.prog B 222 Xk.c (Xk.Ok B):=Xk.rd Go.Proofs.Tryz.underlying222 (Ss B) (kZ B)
theorem Hv (B:Nat):Rd Go.Proofs.Tryz.prog B 165 (cS 3 Xk.c) (okL B (Xk.Ok B)):=nC Go.Proofs.Tryz.underlying165 (by kernel_rfl) (Hz B)
theorem WG (B:Nat):Rd Go.Proofs.Tryz.prog B 29 (cS 1 cI) (okL B (okI B)):=nC Go.Proofs.Tryz.underlying29 (by kernel_rfl) (kZ B)
theorem SB (B:Nat):Rd Go.Proofs.Tryz.prog B 89 c32 (ok32 B):=Mv Go.Proofs.Tryz.underlying89
theorem R9 (B:Nat):Rd Go.Proofs.Tryz.prog B 67 (cS 1 c32) (okL B (ok32 B)):=nC Go.Proofs.Tryz.underlying67 (by kernel_rfl) (SB B)
theorem Tk (B:Nat):Rd Go.Proofs.Tryz.prog B 84 Xb.c (Xb.Ok B):=Xb.rd Go.Proofs.Tryz.underlying84 (kZ B) (R9 B)
theorem Hw (B:Nat):Rd Go.Proofs.Tryz.prog B 167 Tbl.c (Tbl.Ok B):=Tbl.rd Go.Proofs.Tryz.underlying167 (NC B) (Hv B) (WG B) (Tk B) (kZ B)
theorem Me (B:Nat):Rd Go.Proofs.Tryz.prog B 26 (cS 6 Tbl.c) (okL B (Tbl.Ok B)):=nC Go.Proofs.Tryz.underlying26 (by kernel_rfl) (Hw B)
theorem rd_t4 (B:Nat):Rd Go.Proofs.Tryz.prog B 4 cB (okT B):=Hl Go.Proofs.Tryz.underlying4
theorem Hq (B:Nat):Rd Go.Proofs.Tryz.prog B 142 Xj.c (Xj.Ok B):=Xj.rd Go.Proofs.Tryz.underlying142 (SB B) (SB B) (kZ B)
theorem Hr (B:Nat):Rd Go.Proofs.Tryz.prog B 143 (cS 3 Xj.c) (okL B (Xj.Ok B)):=nC Go.Proofs.Tryz.underlying143 (by kernel_rfl) (Hq B)
theorem Hs (B:Nat):Rd Go.Proofs.Tryz.prog B 145 Xc.c (Xc.Ok B):=Xc.rd Go.Proofs.Tryz.underlying145 (NC B) (WG B) (rd_t4 B) (Ss B) (Hr B) (kZ B)
theorem Mf (B:Nat):Rd Go.Proofs.Tryz.prog B 27 (cS 7 Xc.c) (okL B (Xc.Ok B)):=nC Go.Proofs.Tryz.underlying27 (by kernel_rfl) (Hs B)
theorem Hm (B:Nat):Rd Go.Proofs.Tryz.prog B 127 Xa.c (Xa.Ok B):=Xa.rd Go.Proofs.Tryz.underlying127 (kZ B) (kZ B) (Sr B) rfl rfl Go.Proofs.Tryz.underlying28 (by kernel_rfl)
theorem Mg (B:Nat):Rd Go.Proofs.Tryz.prog B 28 (cS 5 Xa.c) (okL B (Xa.Ok B)):=nC Go.Proofs.Tryz.underlying28 (by kernel_rfl) (Hm B)
theorem Mh (B:Nat):Rd Go.Proofs.Tryz.prog B 31 Prg.c (Prg.Ok B):=Prg.rd Go.Proofs.Tryz.underlying31 (NC B) (Mb B) (Tj B) (Mc B) (Md B) (Me B) (Mf B) (Mg B) (WG B)
theorem Hx (B:Nat):Rd Go.Proofs.Tryz.prog B 172 Xh.c (Xh.Ok B):=Xh.rd Go.Proofs.Tryz.underlying172 (SB B) (SB B)
theorem Mp (B:Nat):Rd Go.Proofs.Tryz.prog B 82 (cS 2 Xh.c) (okL B (Xh.Ok B)):=nC Go.Proofs.Tryz.underlying82 (by kernel_rfl) (Hx B)
theorem Mq (B:Nat):Rd Go.Proofs.Tryz.prog B 86 Entry.c (Entry.Ok B):=Entry.rd Go.Proofs.Tryz.underlying86 (Mp B) (kZ B) (Tk B)
theorem Hu (B:Nat):Rd Go.Proofs.Tryz.prog B 162 Rw.c (Rw.Ok B):=Rw.rd Go.Proofs.Tryz.underlying162 (kZ B) (Mq B)
theorem Mr (B:Nat):Rd Go.Proofs.Tryz.prog B 96 (cS 5 Rw.c) (okL B (Rw.Ok B)):=nC Go.Proofs.Tryz.underlying96 (by kernel_rfl) (Hu B)
theorem Mi (B:Nat):Rd Go.Proofs.Tryz.prog B 32 (cS 1 (cS 5 Rw.c)) (okL B (okL B (Rw.Ok B))):=nC Go.Proofs.Tryz.underlying32 (by kernel_rfl) (Mr B)
theorem Mj (B:Nat):Rd Go.Proofs.Tryz.prog B 33 (cS 2 Xb.c) (okL B (Xb.Ok B)):=nC Go.Proofs.Tryz.underlying33 (by kernel_rfl) (Tk B)
theorem Mk (B:Nat):Rd Go.Proofs.Tryz.prog B 34 (cS 1 (cS 1 c32)) (okL B (okL B (ok32 B))):=nC Go.Proofs.Tryz.underlying34 (by kernel_rfl) (R9 B)
theorem Ml (B:Nat):Rd Go.Proofs.Tryz.prog B 36 Xe.c (Xe.Ok B):=Xe.rd Go.Proofs.Tryz.underlying36 (Mi B) (WG B) (Mj B) (Mk B)
theorem rd_t5 (B:Nat):Rd Go.Proofs.Tryz.prog B 5 c8 (ok8 B):=rd_u8 Go.Proofs.Tryz.underlying5
theorem Mm (B:Nat):Rd Go.Proofs.Tryz.prog B 37 (cS 1 c8) (okL B (ok8 B)):=nC Go.Proofs.Tryz.underlying37 (by kernel_rfl) (rd_t5 B)
theorem Mn (B:Nat):Rd Go.Proofs.Tryz.prog B 39 Packet.c (Packet.Ok B):=Packet.rd Go.Proofs.Tryz.underlying39 (kZ B) (Mm B)
theorem Mo (B:Nat):Rd Go.Proofs.Tryz.prog B 41 Case25.c (Case25.Ok B):=Case25.rd Go.Proofs.Tryz.underlying41 (Mh B) (Ml B) (Mn B)
def tyL:List Nat:=[3,4,5,9,22,23,24,25,26,27,28,29,31,32,33,34,36,37,39,41,67,82,84,86,89,96,97,99,125,127,131,133,135,139,142,143,145,148,162,165,167,172,177,222]
theorem Ns:KP Go.Proofs.Tryz.prog tyL=true:=by kernel_rfl
theorem Jw {H:Type} (d:DataW H):1<=Go.Proofs.YtcehjengeaafpaaGreat.Rows.uptoBulk d:=by
  cases d with
  | lit l=>cases l<;>simp [Go.Proofs.YtcehjengeaafpaaGreat.Rows.uptoBulk]
  | nil=>simp [Go.Proofs.YtcehjengeaafpaaGreat.Rows.uptoBulk]
  | ptr d=>simp [Go.Proofs.YtcehjengeaafpaaGreat.Rows.uptoBulk]
  | slice elems spare=>simp [Go.Proofs.YtcehjengeaafpaaGreat.Rows.uptoBulk]
  | agg parts=>simp [Go.Proofs.YtcehjengeaafpaaGreat.Rows.uptoBulk]
  | iface t d=>simp [Go.Proofs.YtcehjengeaafpaaGreat.Rows.uptoBulk]
  | map entries=>simp [Go.Proofs.YtcehjengeaafpaaGreat.Rows.uptoBulk]
  | held h=>simp [Go.Proofs.YtcehjengeaafpaaGreat.Rows.uptoBulk]
def bk (H:Type):BulkFn H where
  one:=Go.Proofs.YtcehjengeaafpaaGreat.Rows.uptoBulk
  all:=Go.Proofs.YtcehjengeaafpaaGreat.Rows.uptoBulkAll
  nil:=by simp [Go.Proofs.YtcehjengeaafpaaGreat.Rows.uptoBulkAll]
  cons:=fun d r=>by simp [Go.Proofs.YtcehjengeaafpaaGreat.Rows.uptoBulkAll]
  slice:=fun e s=>by simp [Go.Proofs.YtcehjengeaafpaaGreat.Rows.uptoBulk]
  agg:=fun e=>by simp [Go.Proofs.YtcehjengeaafpaaGreat.Rows.uptoBulk]
  str:=fun b=>by simp [Go.Proofs.YtcehjengeaafpaaGreat.Rows.uptoBulk]
  pos:=Jw
theorem small {H:Type} {l:List (DataW H)} (h:Go.Proofs.YtcehjengeaafpaaGreat.Rows.uptoSmall H l=true):(bk H).all l<=lK:=qyc (of_decide_eq_true h)
theorem Dv:CW Go.Proofs.Tryz.prog 41=true:=by kernel_rfl
theorem Lb (vs:List AV) (h:WTVs Go.Proofs.Tryz.prog lK [41] vs) (hs:szL vs<=lK):a8 Φ 7 vs=some (.val (.bool true)):=by
  obtain ⟨a0,vs,rfl,h0,h⟩:=Z5 h;obtain rfl:=Dn h;obtain ⟨x0,rfl,o0⟩:=Ik h0 Dv (Mo lK);exact qmz x0 o0 (Kv hs)
end Go.Av
namespace Go.Proofs.YtcehjengeaafpaaGreat
open Go.ChangeShapes Go.WideShapes Go.ChangeAt Go.RowKit Go.Av
theorem own:ownKnob Tryz.prog.godebug=none:=by kernel_rfl
theorem laid:laidOutB Tryz.prog=true:=closed2.1
theorem KK:joinedFacts Tryz.checked.prog 7 Tryz.f7 (Rows.OpenSpec.upto Rows.interpInvalidSpec).bare Rows.interpInvalidUptoRow=true:=by
  unfold joinedFacts;rw [closed2.1,closed2.2,fa1,fa2,fa3,fa4,fa5,fa6,pf1,pf2]
  kernel_rfl
theorem table:TableOk Tryz.prog ann Φ:=Ge (qyz (by kernel_rfl) Nr (by kernel_rfl) Jd (by kernel_rfl) Bn Bo (by kernel_rfl)) (by kernel_rfl)
set_option maxRecDepth 100000 in
theorem ZO (H:Type) (enc:TypeId×Value->H) (W:World) (base:Nat) (args:Array Value) (ds gs:List (DataW H)) (before:List MemPlace)
    (hval:∀(j:Nat) t v,Tryz.f7.params[j]? =some t->args[j]? =some v->Value.okWide Tryz.prog W .any base t v)
    (hW:DataW.Whole enc Tryz.prog Tryz.f7.params.toList Rows.interpInvalidSpec.vars false W args.toList ds gs before) (hk:Rows.uptoSmall H (ds++gs)=true):
    Calls Tryz.prog 7 args W fun e W'=>∃v,e= .returned v/\Rows.interpInvalidSpec.post enc Tryz.prog Tryz.f7 false true false false W args v W':=
  qyn table laid (tb:=Tryz.f7.resultTypes[0]!) rfl rfl (by kernel_rfl) (by kernel_rfl) (bk H) Ns (by kernel_rfl) hval hW
    (fun l hl=>by
      match l,hl with
      | [d0],_=>rfl)
    (small hk) (fun vs h hs=>Lb vs (by rw [Tryz.params7] at h;exact h) hs)
set_option maxRecDepth 100000 in
theorem lifted (os:Os) (started:os.Started) (H:Type) (enc:TypeId×Value->H) (F:Stop.Interp):
    ReturnsInHanded {} Tryz.checked os 7 .any ((Rows.OpenSpec.upto Rows.interpInvalidSpec).pre6 enc Tryz.prog Tryz.f7 Rows.interpInvalidUptoRow.domain false) (((Rows.OpenSpec.upto Rows.interpInvalidSpec).at F).post enc Tryz.prog Tryz.f7 false true false false):=by
  refine returnsInHanded_of_cond (C:=Tryz.checked) (s:=Rows.OpenSpec.upto Rows.interpInvalidSpec) (k:=Rows.uptoSmall) rfl own started (by kernel_rfl) Tryz.func7
    (OpenSpec.witness (enc:=enc) (C:=Tryz.checked) (s:=Rows.OpenSpec.upto Rows.interpInvalidSpec) (k:=Rows.uptoSmall) rfl false ⟨#[],#[.agg #[.string ByteArray.empty,.slice none 0 0,.slice none 0 0,.slice none 0 0,.slice none 0 0,.slice none 0 0,.slice none 0 0,.slice none 0 0,.slice none 0 0,.slice none 0 0,.slice none 0 0,.slice none 0 0,.slice none 0 0,.int .i64 0,.slice none 0 0]],[]⟩ 24 (by kernel_rfl) (by kernel_rfl) (by kernel_rfl)
      (x:=([.agg [.agg [.lit (.string []),.nil,.nil,.nil,.nil,.nil,.nil,.nil,.nil],.agg [.nil,.nil,.nil,.nil],.agg [.lit (.int .i64 0),.nil]]],[],[])) (by kernel_rfl) rfl (by kernel_rfl)) ?_
  intro W base args ds gs before hval hW _ hk _;exact ZO H enc W base args ds gs before hval hW hk
theorem proved:Rows.InterpInvalidUptoSaid:=
  OpenClaim.holds_of_cond 7 Tryz.f7 rfl rfl rfl rfl rfl rfl rfl ⟨rfl,rfl,rfl,rfl,rfl⟩ rfl rfl rfl rfl rfl (by kernel_rfl) Tryz.func7 KK
    (of_decide_eq_true (by kernel_rfl)) (by unfold Func.isWrapper;first | (rw [if_pos (by decide+kernel)];kernel_rfl) | (rw [if_neg (by decide+kernel)];exact ⟨rfl,rfl⟩))
    (fun os started H enc _ F=>lifted os started H enc F)
end Go.Proofs.YtcehjengeaafpaaGreat
