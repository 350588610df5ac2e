/-
  The law 'InterpRun' returns true at every input whose readings are of bulk at most 1048576, and leaves its arguments as they were.
  Conditions: none but that bound, which the given statement itself bears.
-/
import Derived.Test.YtcehjengeaafpaaGreatPX40
import Derived.Test.YtcehjengeaafpaaGreatFunsBM
import Derived.Test.YtcehjengeaafpaaGreatRInterpRunFa
import Derived.Test.YtcehjengeaafpaaGreatRInterpRunFb
import Derived.Test.YtcehjengeaafpaaGreatRInterpRunFc
import Derived.KernelRfl
import Derived.ClosedOfChecked
set_option linter.all false
namespace Go.Av
theorem LU (B:Nat):Rd Go.Proofs.Tryz.prog B 9 cStr (vW B):=Sc Go.Proofs.Tryz.underlying9
theorem sF (B:Nat):Rd Go.Proofs.Tryz.prog B 3 cI (okI B):=Sb Go.Proofs.Tryz.underlying3
theorem Kc (B:Nat):Rd Go.Proofs.Tryz.prog B 133 Fld.c (Fld.Ok B):=Fld.rd Go.Proofs.Tryz.underlying133 (LU B) (sF B)
theorem ju (B:Nat):Rd Go.Proofs.Tryz.prog B 23 (cS 2 Fld.c) (okL B (Fld.Ok B)):=uG Go.Proofs.Tryz.underlying23 (by kernel_rfl) (Kc B)
theorem Kb (B:Nat):Rd Go.Proofs.Tryz.prog B 131 Xi.c (Xi.Ok B):=Xi.rd Go.Proofs.Tryz.underlying131 (LU B) (ju B)
theorem Sd (B:Nat):Rd Go.Proofs.Tryz.prog B 22 (cS 2 Xi.c) (okL B (Xi.Ok B)):=uG Go.Proofs.Tryz.underlying22 (by kernel_rfl) (Kb B)
theorem Ke (B:Nat):Rd Go.Proofs.Tryz.prog B 135 Xg.c (Xg.Ok B):=Xg.rd Go.Proofs.Tryz.underlying135 (LU B) (sF B) (sF B)
theorem Se (B:Nat):Rd Go.Proofs.Tryz.prog B 24 (cS 3 Xg.c) (okL B (Xg.Ok B)):=uG Go.Proofs.Tryz.underlying24 (by kernel_rfl) (Ke B)
theorem iz (B:Nat):Rd Go.Proofs.Tryz.prog B 139 FieldRef.c (FieldRef.Ok B):=FieldRef.rd Go.Proofs.Tryz.underlying139 (sF B) (sF B)
theorem Ki (B:Nat):Rd Go.Proofs.Tryz.prog B 148 Xd.c (Xd.Ok B):=Xd.rd Go.Proofs.Tryz.underlying148 (sF B) (sF B) (sF B)
theorem iy (B:Nat):Rd Go.Proofs.Tryz.prog B 125 (cS 3 Xd.c) (okL B (Xd.Ok B)):=uG Go.Proofs.Tryz.underlying125 (by kernel_rfl) (Ki B)
theorem Lx (B:Nat):Rd Go.Proofs.Tryz.prog B 177 Xf.c (Xf.Ok B):=Xf.rd Go.Proofs.Tryz.underlying177 (sF B) (iz B) (sF B) (sF B) (iy B) (iy B)
theorem Rl (B:Nat):Rd Go.Proofs.Tryz.prog B 97 (cS 7 Xf.c) (okL B (Xf.Ok B)):=uG Go.Proofs.Tryz.underlying97 (by kernel_rfl) (Lx B)
theorem Rm (B:Nat):Rd Go.Proofs.Tryz.prog B 99 Action.c (Action.Ok B):=Action.rd Go.Proofs.Tryz.underlying99 (LU B) (ju B) (Rl B)
theorem Sf (B:Nat):Rd Go.Proofs.Tryz.prog B 25 (cS 3 Action.c) (okL B (Action.Ok B)):=uG Go.Proofs.Tryz.underlying25 (by kernel_rfl) (Rm B)
theorem Ly (B:Nat):Rd Go.Proofs.Tryz.prog B 222 Xk.c (Xk.Ok B):=Xk.rd Go.Proofs.Tryz.underlying222 (iz B) (sF B)
theorem Kk (B:Nat):Rd Go.Proofs.Tryz.prog B 165 (cS 3 Xk.c) (okL B (Xk.Ok B)):=uG Go.Proofs.Tryz.underlying165 (by kernel_rfl) (Ly B)
theorem VM (B:Nat):Rd Go.Proofs.Tryz.prog B 29 (cS 1 cI) (okL B (okI B)):=uG Go.Proofs.Tryz.underlying29 (by kernel_rfl) (sF B)
theorem SI (B:Nat):Rd Go.Proofs.Tryz.prog B 89 c32 (ok32 B):=Rn Go.Proofs.Tryz.underlying89
theorem QI (B:Nat):Rd Go.Proofs.Tryz.prog B 67 (cS 1 c32) (okL B (ok32 B)):=uG Go.Proofs.Tryz.underlying67 (by kernel_rfl) (SI B)
theorem jv (B:Nat):Rd Go.Proofs.Tryz.prog B 84 Xb.c (Xb.Ok B):=Xb.rd Go.Proofs.Tryz.underlying84 (sF B) (QI B)
theorem Lv (B:Nat):Rd Go.Proofs.Tryz.prog B 167 Tbl.c (Tbl.Ok B):=Tbl.rd Go.Proofs.Tryz.underlying167 (LU B) (Kk B) (VM B) (jv B) (sF B)
theorem Sg (B:Nat):Rd Go.Proofs.Tryz.prog B 26 (cS 6 Tbl.c) (okL B (Tbl.Ok B)):=uG Go.Proofs.Tryz.underlying26 (by kernel_rfl) (Lv B)
theorem rd_t4 (B:Nat):Rd Go.Proofs.Tryz.prog B 4 cB (okT B):=Lk Go.Proofs.Tryz.underlying4
theorem Kf (B:Nat):Rd Go.Proofs.Tryz.prog B 142 Xj.c (Xj.Ok B):=Xj.rd Go.Proofs.Tryz.underlying142 (SI B) (SI B) (sF B)
theorem Kg (B:Nat):Rd Go.Proofs.Tryz.prog B 143 (cS 3 Xj.c) (okL B (Xj.Ok B)):=uG Go.Proofs.Tryz.underlying143 (by kernel_rfl) (Kf B)
theorem Kh (B:Nat):Rd Go.Proofs.Tryz.prog B 145 Xc.c (Xc.Ok B):=Xc.rd Go.Proofs.Tryz.underlying145 (LU B) (VM B) (rd_t4 B) (iz B) (Kg B) (sF B)
theorem Sh (B:Nat):Rd Go.Proofs.Tryz.prog B 27 (cS 7 Xc.c) (okL B (Xc.Ok B)):=uG Go.Proofs.Tryz.underlying27 (by kernel_rfl) (Kh B)
theorem Ka (B:Nat):Rd Go.Proofs.Tryz.prog B 127 Xa.c (Xa.Ok B):=Xa.rd Go.Proofs.Tryz.underlying127 (sF B) (sF B) (iy B) rfl rfl Go.Proofs.Tryz.underlying28 (by kernel_rfl)
theorem Si (B:Nat):Rd Go.Proofs.Tryz.prog B 28 (cS 5 Xa.c) (okL B (Xa.Ok B)):=uG Go.Proofs.Tryz.underlying28 (by kernel_rfl) (Ka B)
theorem Sj (B:Nat):Rd Go.Proofs.Tryz.prog B 31 Prg.c (Prg.Ok B):=Prg.rd Go.Proofs.Tryz.underlying31 (LU B) (Sd B) (ju B) (Se B) (Sf B) (Sg B) (Sh B) (Si B) (VM B)
theorem Lw (B:Nat):Rd Go.Proofs.Tryz.prog B 172 Xh.c (Xh.Ok B):=Xh.rd Go.Proofs.Tryz.underlying172 (SI B) (SI B)
theorem Ri (B:Nat):Rd Go.Proofs.Tryz.prog B 82 (cS 2 Xh.c) (okL B (Xh.Ok B)):=uG Go.Proofs.Tryz.underlying82 (by kernel_rfl) (Lw B)
theorem Rj (B:Nat):Rd Go.Proofs.Tryz.prog B 86 Entry.c (Entry.Ok B):=Entry.rd Go.Proofs.Tryz.underlying86 (Ri B) (sF B) (jv B)
theorem Kj (B:Nat):Rd Go.Proofs.Tryz.prog B 162 Rw.c (Rw.Ok B):=Rw.rd Go.Proofs.Tryz.underlying162 (sF B) (Rj B)
theorem Rk (B:Nat):Rd Go.Proofs.Tryz.prog B 96 (cS 5 Rw.c) (okL B (Rw.Ok B)):=uG Go.Proofs.Tryz.underlying96 (by kernel_rfl) (Kj B)
theorem Sk (B:Nat):Rd Go.Proofs.Tryz.prog B 32 (cS 1 (cS 5 Rw.c)) (okL B (okL B (Rw.Ok B))):=uG Go.Proofs.Tryz.underlying32 (by kernel_rfl) (Rk B)
theorem Sl (B:Nat):Rd Go.Proofs.Tryz.prog B 33 (cS 2 Xb.c) (okL B (Xb.Ok B)):=uG Go.Proofs.Tryz.underlying33 (by kernel_rfl) (jv B)
theorem Sm (B:Nat):Rd Go.Proofs.Tryz.prog B 34 (cS 1 (cS 1 c32)) (okL B (okL B (ok32 B))):=uG Go.Proofs.Tryz.underlying34 (by kernel_rfl) (QI B)
theorem Sn (B:Nat):Rd Go.Proofs.Tryz.prog B 36 Xe.c (Xe.Ok B):=Xe.rd Go.Proofs.Tryz.underlying36 (Sk B) (VM B) (Sl B) (Sm B)
theorem rd_t5 (B:Nat):Rd Go.Proofs.Tryz.prog B 5 c8 (ok8 B):=rd_u8 Go.Proofs.Tryz.underlying5
theorem So (B:Nat):Rd Go.Proofs.Tryz.prog B 37 (cS 1 c8) (okL B (ok8 B)):=uG Go.Proofs.Tryz.underlying37 (by kernel_rfl) (rd_t5 B)
theorem Rg (B:Nat):Rd Go.Proofs.Tryz.prog B 39 Packet.c (Packet.Ok B):=Packet.rd Go.Proofs.Tryz.underlying39 (sF B) (So B)
theorem Rh (B:Nat):Rd Go.Proofs.Tryz.prog B 41 Case25.c (Case25.Ok B):=Case25.rd Go.Proofs.Tryz.underlying41 (Sj B) (Sn B) (Rg B)
def tyL:List Nat:=[3,4,5,9,22,23,24,25,26,27,28,29,31,32,33,34,36,37,39,41,67,82,84,86,89,96,97,99,125,127,131,133,135,139,142,143,145,148,162,165,167,172,177,222]
theorem Sr:JQ Go.Proofs.Tryz.prog tyL=true:=by kernel_rfl
theorem Ox {H:Type} (d:DataW H):1<=Go.Proofs.YtcehjengeaafpaaGreat.Rows.uptoBulk d:=by
  cases d with
  | lit l=>cases l<;>simp [Go.Proofs.YtcehjengeaafpaaGreat.Rows.uptoBulk]
  | nil=>simp [Go.Proofs.YtcehjengeaafpaaGreat.Rows.uptoBulk]
  | ptr d=>simp [Go.Proofs.YtcehjengeaafpaaGreat.Rows.uptoBulk]
  | slice elems spare=>simp [Go.Proofs.YtcehjengeaafpaaGreat.Rows.uptoBulk]
  | agg parts=>simp [Go.Proofs.YtcehjengeaafpaaGreat.Rows.uptoBulk]
  | iface t d=>simp [Go.Proofs.YtcehjengeaafpaaGreat.Rows.uptoBulk]
  | map entries=>simp [Go.Proofs.YtcehjengeaafpaaGreat.Rows.uptoBulk]
  | held h=>simp [Go.Proofs.YtcehjengeaafpaaGreat.Rows.uptoBulk]
def bk (H:Type):BulkFn H where
  one:=Go.Proofs.YtcehjengeaafpaaGreat.Rows.uptoBulk
  all:=Go.Proofs.YtcehjengeaafpaaGreat.Rows.uptoBulkAll
  nil:=by simp [Go.Proofs.YtcehjengeaafpaaGreat.Rows.uptoBulkAll]
  cons:=fun d r=>by simp [Go.Proofs.YtcehjengeaafpaaGreat.Rows.uptoBulkAll]
  slice:=fun e s=>by simp [Go.Proofs.YtcehjengeaafpaaGreat.Rows.uptoBulk]
  agg:=fun e=>by simp [Go.Proofs.YtcehjengeaafpaaGreat.Rows.uptoBulk]
  str:=fun b=>by simp [Go.Proofs.YtcehjengeaafpaaGreat.Rows.uptoBulk]
  pos:=Ox
theorem small {H:Type} {l:List (DataW H)} (h:Go.Proofs.YtcehjengeaafpaaGreat.Rows.uptoSmall H l=true):(bk H).all l<=sL:=YK (of_decide_eq_true h)
theorem Ht:CK Go.Proofs.Tryz.prog 41=true:=by kernel_rfl
theorem Rc (vs:List AV) (h:WTVs Go.Proofs.Tryz.prog sL [41] vs) (hs:szL vs<=sL):a8 Φ 3 vs=some (.val (.bool true)):=by
  obtain ⟨a0,vs,rfl,h0,h⟩:=Ah h;obtain rfl:=Hd h;obtain ⟨x0,rfl,o0⟩:=Ns h0 Ht (Rh sL);exact qws x0 o0 (Px hs)
end Go.Av
namespace Go.Proofs.YtcehjengeaafpaaGreat
open Go.ChangeShapes Go.WideShapes Go.ChangeAt Go.RowKit Go.Av
theorem own:ownKnob Tryz.prog.godebug=none:=by kernel_rfl
theorem laid:laidOutB Tryz.prog=true:=closed2.1
theorem JS:joinedFacts Tryz.checked.prog 3 Tryz.f3 (Rows.OpenSpec.upto Rows.interpRunSpec).bare Rows.interpRunUptoRow=true:=by
  unfold joinedFacts;rw [closed2.1,closed2.2,fa1,fa2,fa3,fa4,fa5,fa6,pf1,pf2]
  kernel_rfl
theorem table:TableOk Tryz.prog ann Φ:=Iv (Y7 (by kernel_rfl) Sq (by kernel_rfl) Ng (by kernel_rfl) Gp Gq (by kernel_rfl)) (by kernel_rfl)
set_option maxRecDepth 100000 in
theorem Ct (H:Type) (enc:TypeId×Value->H) (W:World) (base:Nat) (args:Array Value) (ds gs:List (DataW H)) (before:List MemPlace)
    (hval:∀(j:Nat) t v,Tryz.f3.params[j]? =some t->args[j]? =some v->Value.okWide Tryz.prog W .any base t v)
    (hW:DataW.Whole enc Tryz.prog Tryz.f3.params.toList Rows.interpRunSpec.vars false W args.toList ds gs before) (hk:Rows.uptoSmall H (ds++gs)=true):
    Calls Tryz.prog 3 args W fun e W'=>∃v,e= .returned v/\Rows.interpRunSpec.post enc Tryz.prog Tryz.f3 false true false false W args v W':=
  YV table laid (tb:=Tryz.f3.resultTypes[0]!) rfl rfl (by kernel_rfl) (by kernel_rfl) (bk H) Sr (by kernel_rfl) hval hW
    (fun l hl=>by
      match l,hl with
      | [d0],_=>rfl)
    (small hk) (fun vs h hs=>Rc vs (by rw [Tryz.params3] at h;exact h) hs)
set_option maxRecDepth 100000 in
theorem lifted (os:Os) (started:os.Started) (H:Type) (enc:TypeId×Value->H) (F:Stop.Interp):
    ReturnsInHanded {} Tryz.checked os 3 .any ((Rows.OpenSpec.upto Rows.interpRunSpec).pre6 enc Tryz.prog Tryz.f3 Rows.interpRunUptoRow.domain false) (((Rows.OpenSpec.upto Rows.interpRunSpec).at F).post enc Tryz.prog Tryz.f3 false true false false):=by
  refine returnsInHanded_of_cond (C:=Tryz.checked) (s:=Rows.OpenSpec.upto Rows.interpRunSpec) (k:=Rows.uptoSmall) rfl own started (by kernel_rfl) Tryz.func3
    (OpenSpec.witness (enc:=enc) (C:=Tryz.checked) (s:=Rows.OpenSpec.upto Rows.interpRunSpec) (k:=Rows.uptoSmall) rfl false ⟨#[],#[.agg #[.string ByteArray.empty,.slice none 0 0,.slice none 0 0,.slice none 0 0,.slice none 0 0,.slice none 0 0,.slice none 0 0,.slice none 0 0,.slice none 0 0,.slice none 0 0,.slice none 0 0,.slice none 0 0,.slice none 0 0,.int .i64 0,.slice none 0 0]],[]⟩ 24 (by kernel_rfl) (by kernel_rfl) (by kernel_rfl)
      (x:=([.agg [.agg [.lit (.string []),.nil,.nil,.nil,.nil,.nil,.nil,.nil,.nil],.agg [.nil,.nil,.nil,.nil],.agg [.lit (.int .i64 0),.nil]]],[],[])) (by kernel_rfl) rfl (by kernel_rfl)) ?_
  intro W base args ds gs before hval hW _ hk _;exact Ct H enc W base args ds gs before hval hW hk
theorem proved:Rows.InterpRunUptoSaid:=
  OpenClaim.holds_of_cond 3 Tryz.f3 rfl rfl rfl rfl rfl rfl rfl ⟨rfl,rfl,rfl,rfl,rfl⟩ rfl rfl rfl rfl rfl (by kernel_rfl) Tryz.func3 JS
    (of_decide_eq_true (by kernel_rfl)) (by unfold Func.isWrapper;first | (rw [if_pos (by decide+kernel)];kernel_rfl) | (rw [if_neg (by decide+kernel)];exact ⟨rfl,rfl⟩))
    (fun os started H enc _ F=>lifted os started H enc F)
end Go.Proofs.YtcehjengeaafpaaGreat
