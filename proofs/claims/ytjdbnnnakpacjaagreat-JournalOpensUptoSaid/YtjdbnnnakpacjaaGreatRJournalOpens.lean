/-
  The law 'JournalOpens' returns true at every input whose readings are of bulk at most 1048576, and leaves its arguments as they were.
  Conditions: none but that bound, which the given statement itself bears.
-/
import Derived.Test.YtjdbnnnakpacjaaGreatJ19
import Derived.Test.YtjdbnnnakpacjaaGreatFunsBU
import Derived.Test.YtjdbnnnakpacjaaGreatRJournalOpensFa
import Derived.Test.YtjdbnnnakpacjaaGreatRJournalOpensFb
import Derived.Test.YtjdbnnnakpacjaaGreatRJournalOpensFc
import Derived.KernelRfl
import Derived.ClosedOfChecked
set_option linter.unusedVariables false
set_option linter.unusedSimpArgs false
namespace Go.Av
variable (B:Nat)
theorem PA:Rd Go.Proofs.Tryz.prog B 9 cStr (sA B):=Pq Go.Proofs.Tryz.underlying9
theorem oU:Rd Go.Proofs.Tryz.prog B 3 cI (okI B):=Pp Go.Proofs.Tryz.underlying3
theorem Ls:Rd Go.Proofs.Tryz.prog B 153 Fld.c (Fld.Ok B):=Fld.rd Go.Proofs.Tryz.underlying153 (PA B) (oU B)
theorem Yj:Rd Go.Proofs.Tryz.prog B 23 (cS 2 Fld.c) (okL B (Fld.Ok B)):=wP Go.Proofs.Tryz.underlying23 (by kernel_rfl) (Ls B)
theorem Lk:Rd Go.Proofs.Tryz.prog B 134 Xj.c (Xj.Ok B):=Xj.rd Go.Proofs.Tryz.underlying134 (PA B) (Yj B)
theorem Pr:Rd Go.Proofs.Tryz.prog B 22 (cS 2 Xj.c) (okL B (Xj.Ok B)):=wP Go.Proofs.Tryz.underlying22 (by kernel_rfl) (Lk B)
theorem Ll:Rd Go.Proofs.Tryz.prog B 136 Xh.c (Xh.Ok B):=Xh.rd Go.Proofs.Tryz.underlying136 (PA B) (oU B) (oU B)
theorem Ps:Rd Go.Proofs.Tryz.prog B 24 (cS 3 Xh.c) (okL B (Xh.Ok B)):=wP Go.Proofs.Tryz.underlying24 (by kernel_rfl) (Ll B)
theorem Vj:Rd Go.Proofs.Tryz.prog B 145 FieldRef.c (FieldRef.Ok B):=FieldRef.rd Go.Proofs.Tryz.underlying145 (oU B) (oU B)
theorem Kn:Rd Go.Proofs.Tryz.prog B 270 Xe.c (Xe.Ok B):=Xe.rd Go.Proofs.Tryz.underlying270 (oU B) (oU B) (oU B)
theorem Vk:Rd Go.Proofs.Tryz.prog B 186 (cS 3 Xe.c) (okL B (Xe.Ok B)):=wP Go.Proofs.Tryz.underlying186 (by kernel_rfl) (Kn B)
theorem Kl:Rd Go.Proofs.Tryz.prog B 225 Xg.c (Xg.Ok B):=Xg.rd Go.Proofs.Tryz.underlying225 (oU B) (Vj B) (oU B) (oU B) (Vk B) (Vk B)
theorem Lm:Rd Go.Proofs.Tryz.prog B 138 (cS 7 Xg.c) (okL B (Xg.Ok B)):=wP Go.Proofs.Tryz.underlying138 (by kernel_rfl) (Kl B)
theorem Ln:Rd Go.Proofs.Tryz.prog B 140 Action.c (Action.Ok B):=Action.rd Go.Proofs.Tryz.underlying140 (PA B) (Yj B) (Lm B)
theorem Pt:Rd Go.Proofs.Tryz.prog B 25 (cS 3 Action.c) (okL B (Action.Ok B)):=wP Go.Proofs.Tryz.underlying25 (by kernel_rfl) (Ln B)
theorem Lt:Rd Go.Proofs.Tryz.prog B 155 Xl.c (Xl.Ok B):=Xl.rd Go.Proofs.Tryz.underlying155 (Vj B) (oU B)
theorem Lo:Rd Go.Proofs.Tryz.prog B 141 (cS 3 Xl.c) (okL B (Xl.Ok B)):=wP Go.Proofs.Tryz.underlying141 (by kernel_rfl) (Lt B)
theorem Yk:Rd Go.Proofs.Tryz.prog B 29 (cS 1 cI) (okL B (okI B)):=wP Go.Proofs.Tryz.underlying29 (by kernel_rfl) (oU B)
theorem Yl:Rd Go.Proofs.Tryz.prog B 96 c32 (ok32 B):=Qy Go.Proofs.Tryz.underlying96
theorem Py:Rd Go.Proofs.Tryz.prog B 47 (cS 1 c32) (okL B (ok32 B)):=wP Go.Proofs.Tryz.underlying47 (by kernel_rfl) (Yl B)
theorem Pz:Rd Go.Proofs.Tryz.prog B 49 Xb.c (Xb.Ok B):=Xb.rd Go.Proofs.Tryz.underlying49 (oU B) (Py B)
theorem Lp:Rd Go.Proofs.Tryz.prog B 143 Tbl.c (Tbl.Ok B):=Tbl.rd Go.Proofs.Tryz.underlying143 (PA B) (Lo B) (Yk B) (Pz B) (oU B)
theorem Pu:Rd Go.Proofs.Tryz.prog B 26 (cS 6 Tbl.c) (okL B (Tbl.Ok B)):=wP Go.Proofs.Tryz.underlying26 (by kernel_rfl) (Lp B)
theorem rd_t4:Rd Go.Proofs.Tryz.prog B 4 cB (okT B):=Lj Go.Proofs.Tryz.underlying4
theorem Km:Rd Go.Proofs.Tryz.prog B 267 Xk.c (Xk.Ok B):=Xk.rd Go.Proofs.Tryz.underlying267 (Yl B) (Yl B) (oU B)
theorem Lq:Rd Go.Proofs.Tryz.prog B 146 (cS 3 Xk.c) (okL B (Xk.Ok B)):=wP Go.Proofs.Tryz.underlying146 (by kernel_rfl) (Km B)
theorem Lr:Rd Go.Proofs.Tryz.prog B 148 Xd.c (Xd.Ok B):=Xd.rd Go.Proofs.Tryz.underlying148 (PA B) (Yk B) (rd_t4 B) (Vj B) (Lq B) (oU B)
theorem Pv:Rd Go.Proofs.Tryz.prog B 27 (cS 7 Xd.c) (okL B (Xd.Ok B)):=wP Go.Proofs.Tryz.underlying27 (by kernel_rfl) (Lr B)
theorem Kk:Rd Go.Proofs.Tryz.prog B 188 Xa.c (Xa.Ok B):=Xa.rd Go.Proofs.Tryz.underlying188 (oU B) (oU B) (Vk B) rfl rfl Go.Proofs.Tryz.underlying28 (by kernel_rfl)
theorem Pw:Rd Go.Proofs.Tryz.prog B 28 (cS 5 Xa.c) (okL B (Xa.Ok B)):=wP Go.Proofs.Tryz.underlying28 (by kernel_rfl) (Kk B)
theorem Px:Rd Go.Proofs.Tryz.prog B 31 Prg.c (Prg.Ok B):=Prg.rd Go.Proofs.Tryz.underlying31 (PA B) (Pr B) (Yj B) (Ps B) (Pt B) (Pu B) (Pv B) (Pw B) (Yk B)
theorem rd_t5:Rd Go.Proofs.Tryz.prog B 5 c8 (ok8 B):=rd_u8 Go.Proofs.Tryz.underlying5
theorem Qx:Rd Go.Proofs.Tryz.prog B 66 (cS 1 c8) (okL B (ok8 B)):=wP Go.Proofs.Tryz.underlying66 (by kernel_rfl) (rd_t5 B)
def tyL:List Nat:=[3,4,5,9,22,23,24,25,26,27,28,29,31,47,49,66,96,134,136,138,140,141,143,145,146,148,153,155,186,188,225,267,270]
theorem Rq:OY Go.Proofs.Tryz.prog tyL=true:=by kernel_rfl
variable {H:Type}
theorem Nh (d:DataW H):1<=Go.Proofs.YtjdbnnnakpacjaaGreat.Rows.uptoBulk d:=by
  cases d with
  | lit l=>cases l<;>simp [Go.Proofs.YtjdbnnnakpacjaaGreat.Rows.uptoBulk]
  | nil=>simp [Go.Proofs.YtjdbnnnakpacjaaGreat.Rows.uptoBulk]
  | ptr d=>simp [Go.Proofs.YtjdbnnnakpacjaaGreat.Rows.uptoBulk]
  | slice elems spare=>simp [Go.Proofs.YtjdbnnnakpacjaaGreat.Rows.uptoBulk]
  | agg parts=>simp [Go.Proofs.YtjdbnnnakpacjaaGreat.Rows.uptoBulk]
  | iface t d=>simp [Go.Proofs.YtjdbnnnakpacjaaGreat.Rows.uptoBulk]
  | map entries=>simp [Go.Proofs.YtjdbnnnakpacjaaGreat.Rows.uptoBulk]
  | held h=>simp [Go.Proofs.YtjdbnnnakpacjaaGreat.Rows.uptoBulk]
def bk (H:Type):BulkFn H where
  one:=Go.Proofs.YtjdbnnnakpacjaaGreat.Rows.uptoBulk
  all:=Go.Proofs.YtjdbnnnakpacjaaGreat.Rows.uptoBulkAll
  nil:=by simp [Go.Proofs.YtjdbnnnakpacjaaGreat.Rows.uptoBulkAll]
  cons:=fun d r=>by simp [Go.Proofs.YtjdbnnnakpacjaaGreat.Rows.uptoBulkAll]
  slice:=fun e s=>by simp [Go.Proofs.YtjdbnnnakpacjaaGreat.Rows.uptoBulk]
  agg:=fun e=>by simp [Go.Proofs.YtjdbnnnakpacjaaGreat.Rows.uptoBulk]
  str:=fun b=>by simp [Go.Proofs.YtjdbnnnakpacjaaGreat.Rows.uptoBulk]
  pos:=Nh
theorem small {l:List (DataW H)} (h:Go.Proofs.YtjdbnnnakpacjaaGreat.Rows.uptoSmall H l=true):(bk H).all l<=fL:=qzx (of_decide_eq_true h)
theorem Ht:yN Go.Proofs.Tryz.prog 31=true:=by kernel_rfl
theorem Hu:yN Go.Proofs.Tryz.prog 66=false:=by kernel_rfl
theorem Ou (vs:List AV) (h:WTVs Go.Proofs.Tryz.prog fL [31,66] vs):a9 Φ 7 vs=some (.val (.bool true)):=by
  obtain ⟨a0,vs,rfl,h0,h⟩:=qth h;obtain ⟨a1,vs,rfl,h1,h⟩:=qth h;obtain rfl:=Gj h;obtain ⟨x0,rfl,o0⟩:=Lw h0 Ht (Px fL);obtain ⟨x1,e1,o1⟩:=Lx h1 Hu (Qx fL);cases e1;exact qox x0 x1 o0 o1
end Go.Av
namespace Go.Proofs.YtjdbnnnakpacjaaGreat
open Go.ChangeShapes Go.WideShapes Go.ChangeAt Go.RowKit Go.Av
theorem own:ownKnob Tryz.prog.godebug=none:=by kernel_rfl
theorem laid:laidOutB Tryz.prog=true:=closed2.1
theorem M2:joinedFacts Tryz.checked.prog 7 Tryz.f7 (Rows.OpenSpec.upto Rows.journalOpensSpec).bare Rows.journalOpensUptoRow=true:=by
  unfold joinedFacts;rw [closed2.1,closed2.2,fa1,fa2,fa3,fa4,fa5,fa6,pf1,pf2]
  kernel_rfl
theorem table:TableOk Tryz.prog ann Φ:=Jy (P' (by kernel_rfl) Pk (by kernel_rfl) Mx (by kernel_rfl) Hi Hj (by kernel_rfl)) (by kernel_rfl)
set_option maxRecDepth 100000 in
theorem Du (H:Type) (enc:TypeId×Value->H) (W:World) (base:Nat) (args:Array Value) (ds gs:List (DataW H)) (before:List MemPlace)
    (hval:∀(j:Nat) t v,Tryz.f7.params[j]? =some t->args[j]? =some v->Value.okWide Tryz.prog W .any base t v)
    (hW:DataW.Whole enc Tryz.prog Tryz.f7.params.toList Rows.journalOpensSpec.vars false W args.toList ds gs before) (hk:Rows.uptoSmall H (ds++gs)=true):
    Calls Tryz.prog 7 args W fun e W'=>∃v,e= .returned v/\Rows.journalOpensSpec.post enc Tryz.prog Tryz.f7 false true false false W args v W':=
  ZT table laid (tb:=Tryz.f7.resultTypes[0]!) rfl rfl (by kernel_rfl) (by kernel_rfl) (bk H) Rq (by kernel_rfl) hval hW
    (fun l hl=>by
      match l,hl with
      | [d0,d1],_=>rfl)
    (small hk) (fun vs h=>Ou vs (by rw [Tryz.params7] at h;exact h))
set_option maxRecDepth 100000 in
theorem lifted (os:Os) (started:os.Started) (H:Type) (enc:TypeId×Value->H) (F:Stop.Interp):
    ReturnsInHanded {} Tryz.checked os 7 .any ((Rows.OpenSpec.upto Rows.journalOpensSpec).pre6 enc Tryz.prog Tryz.f7 Rows.journalOpensUptoRow.domain false) (((Rows.OpenSpec.upto Rows.journalOpensSpec).at F).post enc Tryz.prog Tryz.f7 false true false false):=by
  refine returnsInHanded_of_cond (C:=Tryz.checked) (s:=Rows.OpenSpec.upto Rows.journalOpensSpec) (k:=Rows.uptoSmall) rfl own started (by kernel_rfl) Tryz.func7
    (OpenSpec.witness (enc:=enc) (C:=Tryz.checked) (s:=Rows.OpenSpec.upto Rows.journalOpensSpec) (k:=Rows.uptoSmall) rfl false ⟨#[],#[.agg #[.string ByteArray.empty,.slice none 0 0,.slice none 0 0,.slice none 0 0,.slice none 0 0,.slice none 0 0,.slice none 0 0,.slice none 0 0,.slice none 0 0],.slice none 0 0],[]⟩ 24 (by kernel_rfl) (by kernel_rfl) (by kernel_rfl)
      (x:=([.agg [.lit (.string []),.nil,.nil,.nil,.nil,.nil,.nil,.nil,.nil],.nil],[],[])) (by kernel_rfl) rfl (by kernel_rfl)) ?_
  intro W base args ds gs before hval hW _ hk _;exact Du H enc W base args ds gs before hval hW hk
theorem proved:Rows.JournalOpensUptoSaid:=
  OpenClaim.holds_of_cond 7 Tryz.f7 rfl rfl rfl rfl rfl rfl rfl ⟨rfl,rfl,rfl,rfl,rfl⟩ rfl rfl rfl rfl rfl (by kernel_rfl) Tryz.func7 M2
    (of_decide_eq_true (by kernel_rfl)) (by unfold Func.isWrapper;first | (rw [if_pos (by decide+kernel)];kernel_rfl) | (rw [if_neg (by decide+kernel)];exact ⟨rfl,rfl⟩))
    (fun os started H enc _ F=>lifted os started H enc F)
end Go.Proofs.YtjdbnnnakpacjaaGreat
