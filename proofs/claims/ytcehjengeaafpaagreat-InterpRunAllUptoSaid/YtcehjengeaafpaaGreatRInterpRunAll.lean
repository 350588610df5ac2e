/-
  The law 'InterpRunAll' returns true at every input whose readings are of bulk at most 1048576, and leaves its arguments as they were.
  Conditions: none but that bound, which the given statement itself bears.
-/
import Derived.Test.YtcehjengeaafpaaGreatPX40
import Derived.Test.YtcehjengeaafpaaGreatFunsBM
import Derived.Test.YtcehjengeaafpaaGreatRInterpRunAllFa
import Derived.Test.YtcehjengeaafpaaGreatRInterpRunAllFb
import Derived.Test.YtcehjengeaafpaaGreatRInterpRunAllFc
import Derived.KernelRfl
import Derived.ClosedOfChecked
set_option linter.all false
namespace Go.Av
theorem M4 (B:Nat):Rd Go.Proofs.Tryz.prog B 9 cStr (vY B):=Sx Go.Proofs.Tryz.underlying9
theorem sK (B:Nat):Rd Go.Proofs.Tryz.prog B 3 cI (okI B):=Sw Go.Proofs.Tryz.underlying3
theorem Md (B:Nat):Rd Go.Proofs.Tryz.prog B 133 Fld.c (Fld.Ok B):=Fld.rd Go.Proofs.Tryz.underlying133 (M4 B) (sK B)
theorem mb (B:Nat):Rd Go.Proofs.Tryz.prog B 23 (cS 2 Fld.c) (okL B (Fld.Ok B)):=tB Go.Proofs.Tryz.underlying23 (by kernel_rfl) (Md B)
theorem Ks (B:Nat):Rd Go.Proofs.Tryz.prog B 131 Xi.c (Xi.Ok B):=Xi.rd Go.Proofs.Tryz.underlying131 (M4 B) (mb B)
theorem Ro (B:Nat):Rd Go.Proofs.Tryz.prog B 22 (cS 2 Xi.c) (okL B (Xi.Ok B)):=tB Go.Proofs.Tryz.underlying22 (by kernel_rfl) (Ks B)
theorem Me (B:Nat):Rd Go.Proofs.Tryz.prog B 135 Xg.c (Xg.Ok B):=Xg.rd Go.Proofs.Tryz.underlying135 (M4 B) (sK B) (sK B)
theorem Rp (B:Nat):Rd Go.Proofs.Tryz.prog B 24 (cS 3 Xg.c) (okL B (Xg.Ok B)):=tB Go.Proofs.Tryz.underlying24 (by kernel_rfl) (Me B)
theorem jy (B:Nat):Rd Go.Proofs.Tryz.prog B 139 FieldRef.c (FieldRef.Ok B):=FieldRef.rd Go.Proofs.Tryz.underlying139 (sK B) (sK B)
theorem Mi (B:Nat):Rd Go.Proofs.Tryz.prog B 148 Xd.c (Xd.Ok B):=Xd.rd Go.Proofs.Tryz.underlying148 (sK B) (sK B) (sK B)
theorem jx (B:Nat):Rd Go.Proofs.Tryz.prog B 125 (cS 3 Xd.c) (okL B (Xd.Ok B)):=tB Go.Proofs.Tryz.underlying125 (by kernel_rfl) (Mi B)
theorem Mn (B:Nat):Rd Go.Proofs.Tryz.prog B 177 Xf.c (Xf.Ok B):=Xf.rd Go.Proofs.Tryz.underlying177 (sK B) (jy B) (sK B) (sK B) (jx B) (jx B)
theorem Tp (B:Nat):Rd Go.Proofs.Tryz.prog B 97 (cS 7 Xf.c) (okL B (Xf.Ok B)):=tB Go.Proofs.Tryz.underlying97 (by kernel_rfl) (Mn B)
theorem Tq (B:Nat):Rd Go.Proofs.Tryz.prog B 99 Action.c (Action.Ok B):=Action.rd Go.Proofs.Tryz.underlying99 (M4 B) (mb B) (Tp B)
theorem Rq (B:Nat):Rd Go.Proofs.Tryz.prog B 25 (cS 3 Action.c) (okL B (Action.Ok B)):=tB Go.Proofs.Tryz.underlying25 (by kernel_rfl) (Tq B)
theorem Mo (B:Nat):Rd Go.Proofs.Tryz.prog B 222 Xk.c (Xk.Ok B):=Xk.rd Go.Proofs.Tryz.underlying222 (jy B) (sK B)
theorem Mk (B:Nat):Rd Go.Proofs.Tryz.prog B 165 (cS 3 Xk.c) (okL B (Xk.Ok B)):=tB Go.Proofs.Tryz.underlying165 (by kernel_rfl) (Mo B)
theorem W1 (B:Nat):Rd Go.Proofs.Tryz.prog B 29 (cS 1 cI) (okL B (okI B)):=tB Go.Proofs.Tryz.underlying29 (by kernel_rfl) (sK B)
theorem SW (B:Nat):Rd Go.Proofs.Tryz.prog B 89 c32 (ok32 B):=Ts Go.Proofs.Tryz.underlying89
theorem R8 (B:Nat):Rd Go.Proofs.Tryz.prog B 67 (cS 1 c32) (okL B (ok32 B)):=tB Go.Proofs.Tryz.underlying67 (by kernel_rfl) (SW B)
theorem mc (B:Nat):Rd Go.Proofs.Tryz.prog B 84 Xb.c (Xb.Ok B):=Xb.rd Go.Proofs.Tryz.underlying84 (sK B) (R8 B)
theorem Ml (B:Nat):Rd Go.Proofs.Tryz.prog B 167 Tbl.c (Tbl.Ok B):=Tbl.rd Go.Proofs.Tryz.underlying167 (M4 B) (Mk B) (W1 B) (mc B) (sK B)
theorem Rr (B:Nat):Rd Go.Proofs.Tryz.prog B 26 (cS 6 Tbl.c) (okL B (Tbl.Ok B)):=tB Go.Proofs.Tryz.underlying26 (by kernel_rfl) (Ml B)
theorem rd_t4 (B:Nat):Rd Go.Proofs.Tryz.prog B 4 cB (okT B):=Kq Go.Proofs.Tryz.underlying4
theorem Mf (B:Nat):Rd Go.Proofs.Tryz.prog B 142 Xj.c (Xj.Ok B):=Xj.rd Go.Proofs.Tryz.underlying142 (SW B) (SW B) (sK B)
theorem Mg (B:Nat):Rd Go.Proofs.Tryz.prog B 143 (cS 3 Xj.c) (okL B (Xj.Ok B)):=tB Go.Proofs.Tryz.underlying143 (by kernel_rfl) (Mf B)
theorem Mh (B:Nat):Rd Go.Proofs.Tryz.prog B 145 Xc.c (Xc.Ok B):=Xc.rd Go.Proofs.Tryz.underlying145 (M4 B) (W1 B) (rd_t4 B) (jy B) (Mg B) (sK B)
theorem Rs (B:Nat):Rd Go.Proofs.Tryz.prog B 27 (cS 7 Xc.c) (okL B (Xc.Ok B)):=tB Go.Proofs.Tryz.underlying27 (by kernel_rfl) (Mh B)
theorem Kr (B:Nat):Rd Go.Proofs.Tryz.prog B 127 Xa.c (Xa.Ok B):=Xa.rd Go.Proofs.Tryz.underlying127 (sK B) (sK B) (jx B) rfl rfl Go.Proofs.Tryz.underlying28 (by kernel_rfl)
theorem Ru (B:Nat):Rd Go.Proofs.Tryz.prog B 28 (cS 5 Xa.c) (okL B (Xa.Ok B)):=tB Go.Proofs.Tryz.underlying28 (by kernel_rfl) (Kr B)
theorem Rv (B:Nat):Rd Go.Proofs.Tryz.prog B 31 Prg.c (Prg.Ok B):=Prg.rd Go.Proofs.Tryz.underlying31 (M4 B) (Ro B) (mb B) (Rp B) (Rq B) (Rr B) (Rs B) (Ru B) (W1 B)
theorem Mm (B:Nat):Rd Go.Proofs.Tryz.prog B 172 Xh.c (Xh.Ok B):=Xh.rd Go.Proofs.Tryz.underlying172 (SW B) (SW B)
theorem Tm (B:Nat):Rd Go.Proofs.Tryz.prog B 82 (cS 2 Xh.c) (okL B (Xh.Ok B)):=tB Go.Proofs.Tryz.underlying82 (by kernel_rfl) (Mm B)
theorem Tn (B:Nat):Rd Go.Proofs.Tryz.prog B 86 Entry.c (Entry.Ok B):=Entry.rd Go.Proofs.Tryz.underlying86 (Tm B) (sK B) (mc B)
theorem Mj (B:Nat):Rd Go.Proofs.Tryz.prog B 162 Rw.c (Rw.Ok B):=Rw.rd Go.Proofs.Tryz.underlying162 (sK B) (Tn B)
theorem To (B:Nat):Rd Go.Proofs.Tryz.prog B 96 (cS 5 Rw.c) (okL B (Rw.Ok B)):=tB Go.Proofs.Tryz.underlying96 (by kernel_rfl) (Mj B)
theorem Rx (B:Nat):Rd Go.Proofs.Tryz.prog B 32 (cS 1 (cS 5 Rw.c)) (okL B (okL B (Rw.Ok B))):=tB Go.Proofs.Tryz.underlying32 (by kernel_rfl) (To B)
theorem Ry (B:Nat):Rd Go.Proofs.Tryz.prog B 33 (cS 2 Xb.c) (okL B (Xb.Ok B)):=tB Go.Proofs.Tryz.underlying33 (by kernel_rfl) (mc B)
theorem Rz (B:Nat):Rd Go.Proofs.Tryz.prog B 34 (cS 1 (cS 1 c32)) (okL B (okL B (ok32 B))):=tB Go.Proofs.Tryz.underlying34 (by kernel_rfl) (R8 B)
theorem Ti (B:Nat):Rd Go.Proofs.Tryz.prog B 36 Xe.c (Xe.Ok B):=Xe.rd Go.Proofs.Tryz.underlying36 (Rx B) (W1 B) (Ry B) (Rz B)
theorem rd_t5 (B:Nat):Rd Go.Proofs.Tryz.prog B 5 c8 (ok8 B):=rd_u8 Go.Proofs.Tryz.underlying5
theorem Tj (B:Nat):Rd Go.Proofs.Tryz.prog B 37 (cS 1 c8) (okL B (ok8 B)):=tB Go.Proofs.Tryz.underlying37 (by kernel_rfl) (rd_t5 B)
theorem R7 (B:Nat):Rd Go.Proofs.Tryz.prog B 39 Packet.c (Packet.Ok B):=Packet.rd Go.Proofs.Tryz.underlying39 (sK B) (Tj B)
theorem Tk (B:Nat):Rd Go.Proofs.Tryz.prog B 41 Case25.c (Case25.Ok B):=Case25.rd Go.Proofs.Tryz.underlying41 (Rv B) (Ti B) (R7 B)
theorem Tl (B:Nat):Rd Go.Proofs.Tryz.prog B 52 (cS 2 Packet.c) (okL B (Packet.Ok B)):=tB Go.Proofs.Tryz.underlying52 (by kernel_rfl) (R7 B)
def tyL:List Nat:=[3,4,5,9,22,23,24,25,26,27,28,29,31,32,33,34,36,37,39,41,52,67,82,84,86,89,96,97,99,125,127,131,133,135,139,142,143,145,148,162,165,167,172,177,222]
theorem Un:JX Go.Proofs.Tryz.prog tyL=true:=by kernel_rfl
theorem Ox {H:Type} (d:DataW H):1<=Go.Proofs.YtcehjengeaafpaaGreat.Rows.uptoBulk d:=by
  cases d with
  | lit l=>cases l<;>simp [Go.Proofs.YtcehjengeaafpaaGreat.Rows.uptoBulk]
  | nil=>simp [Go.Proofs.YtcehjengeaafpaaGreat.Rows.uptoBulk]
  | ptr d=>simp [Go.Proofs.YtcehjengeaafpaaGreat.Rows.uptoBulk]
  | slice elems spare=>simp [Go.Proofs.YtcehjengeaafpaaGreat.Rows.uptoBulk]
  | agg parts=>simp [Go.Proofs.YtcehjengeaafpaaGreat.Rows.uptoBulk]
  | iface t d=>simp [Go.Proofs.YtcehjengeaafpaaGreat.Rows.uptoBulk]
  | map entries=>simp [Go.Proofs.YtcehjengeaafpaaGreat.Rows.uptoBulk]
  | held h=>simp [Go.Proofs.YtcehjengeaafpaaGreat.Rows.uptoBulk]
def bk (H:Type):BulkFn H where
  one:=Go.Proofs.YtcehjengeaafpaaGreat.Rows.uptoBulk
  all:=Go.Proofs.YtcehjengeaafpaaGreat.Rows.uptoBulkAll
  nil:=by simp [Go.Proofs.YtcehjengeaafpaaGreat.Rows.uptoBulkAll]
  cons:=fun d r=>by simp [Go.Proofs.YtcehjengeaafpaaGreat.Rows.uptoBulkAll]
  slice:=fun e s=>by simp [Go.Proofs.YtcehjengeaafpaaGreat.Rows.uptoBulk]
  agg:=fun e=>by simp [Go.Proofs.YtcehjengeaafpaaGreat.Rows.uptoBulk]
  str:=fun b=>by simp [Go.Proofs.YtcehjengeaafpaaGreat.Rows.uptoBulk]
  pos:=Ox
theorem small {H:Type} {l:List (DataW H)} (h:Go.Proofs.YtcehjengeaafpaaGreat.Rows.uptoSmall H l=true):(bk H).all l<=oU:=Z5 (of_decide_eq_true h)
theorem Iq:zO Go.Proofs.Tryz.prog 41=true:=by kernel_rfl
theorem Ir:zO Go.Proofs.Tryz.prog 52=false:=by kernel_rfl
theorem Py (vs:List AV) (h:WTVs Go.Proofs.Tryz.prog oU [41,52] vs) (hs:szL vs<=oU):a8 Φ 4 vs=some (.val (.bool true)):=by
  obtain ⟨a0,vs,rfl,h0,h⟩:=uk h;obtain ⟨a1,vs,rfl,h1,h⟩:=uk h;obtain rfl:=Gl h;obtain ⟨x0,rfl,o0⟩:=Oj h0 Iq (Tk oU);obtain ⟨x1,e1,o1⟩:=Ol h1 Ir (Tl oU);cases e1;exact qr7 x0 x1 o0 o1 (Pr hs)
end Go.Av
namespace Go.Proofs.YtcehjengeaafpaaGreat
open Go.ChangeShapes Go.WideShapes Go.ChangeAt Go.RowKit Go.Av
theorem own:ownKnob Tryz.prog.godebug=none:=by kernel_rfl
theorem laid:laidOutB Tryz.prog=true:=closed2.1
theorem JZ:joinedFacts Tryz.checked.prog 4 Tryz.f4 (Rows.OpenSpec.upto Rows.interpRunAllSpec).bare Rows.interpRunAllUptoRow=true:=by
  unfold joinedFacts;rw [closed2.1,closed2.2,fa1,fa2,fa3,fa4,fa5,fa6,pf1,pf2]
  kernel_rfl
theorem table:TableOk Tryz.prog ann Φ:=Ku (ZR (by kernel_rfl) Um (by kernel_rfl) Nx (by kernel_rfl) Hi Hj (by kernel_rfl)) (by kernel_rfl)
set_option maxRecDepth 100000 in
theorem Do (H:Type) (enc:TypeId×Value->H) (W:World) (base:Nat) (args:Array Value) (ds gs:List (DataW H)) (before:List MemPlace)
    (hval:∀(j:Nat) t v,Tryz.f4.params[j]? =some t->args[j]? =some v->Value.okWide Tryz.prog W .any base t v)
    (hW:DataW.Whole enc Tryz.prog Tryz.f4.params.toList Rows.interpRunAllSpec.vars false W args.toList ds gs before) (hk:Rows.uptoSmall H (ds++gs)=true):
    Calls Tryz.prog 4 args W fun e W'=>∃v,e= .returned v/\Rows.interpRunAllSpec.post enc Tryz.prog Tryz.f4 false true false false W args v W':=
  YG table laid (tb:=Tryz.f4.resultTypes[0]!) rfl rfl (by kernel_rfl) (by kernel_rfl) (bk H) Un (by kernel_rfl) hval hW
    (fun l hl=>by
      match l,hl with
      | [d0,d1],_=>rfl)
    (small hk) (fun vs h hs=>Py vs (by rw [Tryz.params4] at h;exact h) hs)
set_option maxRecDepth 100000 in
theorem lifted (os:Os) (started:os.Started) (H:Type) (enc:TypeId×Value->H) (F:Stop.Interp):
    ReturnsInHanded {} Tryz.checked os 4 .any ((Rows.OpenSpec.upto Rows.interpRunAllSpec).pre6 enc Tryz.prog Tryz.f4 Rows.interpRunAllUptoRow.domain false) (((Rows.OpenSpec.upto Rows.interpRunAllSpec).at F).post enc Tryz.prog Tryz.f4 false true false false):=by
  refine returnsInHanded_of_cond (C:=Tryz.checked) (s:=Rows.OpenSpec.upto Rows.interpRunAllSpec) (k:=Rows.uptoSmall) rfl own started (by kernel_rfl) Tryz.func4
    (OpenSpec.witness (enc:=enc) (C:=Tryz.checked) (s:=Rows.OpenSpec.upto Rows.interpRunAllSpec) (k:=Rows.uptoSmall) rfl false ⟨#[],#[.agg #[.string ByteArray.empty,.slice none 0 0,.slice none 0 0,.slice none 0 0,.slice none 0 0,.slice none 0 0,.slice none 0 0,.slice none 0 0,.slice none 0 0,.slice none 0 0,.slice none 0 0,.slice none 0 0,.slice none 0 0,.int .i64 0,.slice none 0 0],.slice none 0 0],[]⟩ 24 (by kernel_rfl) (by kernel_rfl) (by kernel_rfl)
      (x:=([.agg [.agg [.lit (.string []),.nil,.nil,.nil,.nil,.nil,.nil,.nil,.nil],.agg [.nil,.nil,.nil,.nil],.agg [.lit (.int .i64 0),.nil]],.nil],[],[])) (by kernel_rfl) rfl (by kernel_rfl)) ?_
  intro W base args ds gs before hval hW _ hk _;exact Do H enc W base args ds gs before hval hW hk
theorem proved:Rows.InterpRunAllUptoSaid:=
  OpenClaim.holds_of_cond 4 Tryz.f4 rfl rfl rfl rfl rfl rfl rfl ⟨rfl,rfl,rfl,rfl,rfl⟩ rfl rfl rfl rfl rfl (by kernel_rfl) Tryz.func4 JZ
    (of_decide_eq_true (by kernel_rfl)) (by unfold Func.isWrapper;first | (rw [if_pos (by decide+kernel)];kernel_rfl) | (rw [if_neg (by decide+kernel)];exact ⟨rfl,rfl⟩))
    (fun os started H enc _ F=>lifted os started H enc F)
end Go.Proofs.YtcehjengeaafpaaGreat
