/-
 interp.RunAll = runL.
-/
import Derived.Test.YtcehjengeaafpaaGreatPX27
set_option linter.unusedVariables false
set_option linter.unusedSimpArgs false
set_option linter.constructorNameAsVariable false
namespace Go.Av
set_option maxRecDepth 8000
def ra (b:Bool) (p:Prg) (c:Xe) (l:List Packet):List Rslt×Xe:=if b then runL p c l else (l.map fun _=>noR,c)
structure RAI (p:Prg) (b:Bool) (l:List Packet) (R:List Rslt×Xe) (d tk i:Nat) (E:Env) (O:List (Nat×AO)) (N:Nat) (outs:List Rslt) (c:Xe):Prop where
 e3:look 3 E=some (.iptr 9 [p.c] 0 0)
 e7:look 7 E=some (.ptr 0 4 0 0)
 e8:look 8 E=some (.ptr d 4 0 0)
 e9:look 9 E=some (.bool b)
 e10:look 10 E=some (.app 4 (outs.map Rslt.c) tk)
 e23:look 23 E=some (.slice 2 (l.map Packet.c))
 e24:look 24 E=some (a7 l.length)
 e25:look 25 E=some (a7 i)
 l0:look 0 O=some (.row 4 [zC])
 ld:look d O=some (.row 4 [c.c])
 lt:look tk O=some (.tok 4 outs.length)
 T:Tail O N
 n:outs.length=i
 hR:R=(outs++(ra b p c (l.drop i)).1,(ra b p c (l.drop i)).2)
 v:b=true->CF p c/\RV p c.Xl
theorem WS {p:Prg} (pk:PKp p) {c:Xe} (rv:RV p c.Xl) {k:Packet} {r:Rslt} {rs:List (List Int)} (h:runX p c k=some (r,rs)):RV p rs:=by
 unfold runX at h;split at h
 ·cases h
 split at h
 ·cases h
 ·rename_i e q;cases h;obtain ⟨ev,_⟩:=Eb (fun g hg f hf=>(vhdr (pk.hd g hg)).w f hf) q;exact (SV'.ct (p:=p) (c:=c) (nest p.Ya) p.Ya ⟨eSet p e (-1) 0 k.port,c.Xl,[]⟩ ⟨ev.set _ _ _,rv⟩).r
theorem W1 {p:Prg} {b:Bool} (hb:b=true->PKp p/\CtV p) {l:List Packet} (hl:l.length<2^30) (hk:∀k∈l,bOk k.data) {R:List Rslt×Xe} {d tk:Nat} {E:Env} {O:List (Nat×AO)} {N:Nat} {outs:List Rslt} {c:Xe} (h:RAI p b l R d tk 0 E O N outs c):
  go Φ (finP sN.results) [.c (.loop c_18_l0),.b 0,.c c_18_k1] .normal ⟨E,⟨O,N⟩⟩=some (.val (.tup [.slice 4 (R.1.map Rslt.c),.agg R.2.c])):=by
 refine eN l.length (fun i E h=>∃O N outs c,h=⟨O,N⟩/\RAI p b l R d tk i E O N outs c) (fun (r:Option Rt)=>r=some (.val (.tup [.slice 4 (R.1.map Rslt.c),.agg R.2.c]))) ?_ ?_ 0 _ _ (Qc _) ⟨_,_,_,_,rfl,h⟩
 ·rintro i E _ K hi hK ⟨O,N,outs,c,rfl,h⟩ ih;obtain ⟨e3,e7,e8,e9,e10,e23,e24,e25,l0,ld,lt,T,n,hR,v⟩:=h;have hw1:=aQ i (by omega);have hbk:=hk _ (Qd hi);rw [Qi hi] at hR;generalize hx:l[i]=k at*;have t0:=T N (Qb _);have tt:∀k,look (N+k) O=none:=fun k=>T _ (by omega)
  have fd:=fun k=>dH (n:=N+k) T ld (by omega)
  have fd0:=dH (n:=N) T ld (Qb _);have ft:=fun k=>dH (n:=N+k) T lt (by omega)
  have ft0:=dH (n:=N) T lt (Qb _);have dt:¬d=tk/\¬tk=d:=by
   have:=bP ld lt (by simp);exact ⟨this,fun e=>this e.symm⟩
  have bd:(outs.length+1)*64<=70368744177664:=by omega
  have ztk:¬0=tk:=bP l0 lt (by simp);have fin:∀{E2:Env} {O2:List (Nat×AO)} {N2:Nat} (r:Rslt) (c':Xe),(∀j,j=3\/j=7\/j=8\/j=9\/j=23\/j=24->look j E2=look j E)->look 10 E2=some (.app 4 (outs.map Rslt.c++[r.c]) tk)->look 25 E2=some (a7 (i+1:Nat))->look 0 O2=some (.row 4 [zC])->look d O2=some (.row 4 [c'.c])->look tk O2=some (.tok 4 (outs.length+1))->Tail O2 N2->
    ra b p c (k::l.drop (i+1))=(r::(ra b p c' (l.drop (i+1))).1,(ra b p c' (l.drop (i+1))).2)->(b=true->CF p c'/\RV p c'.Xl)->go Φ (finP sN.results) K .normal ⟨E2,⟨O2,N2⟩⟩=some (.val (.tup [.slice 4 (R.1.map Rslt.c),.agg R.2.c])):=fun {E2 O2 N2} r c' hE h10 h25 h0 h8 ht hT hr hv=>
   ih _ _ ⟨O2,N2,outs++[r],c',rfl,by rw [hE 3 (by simp),e3],by rw [hE 7 (by simp),e7],by rw [hE 8 (by simp),e8],by rw [hE 9 (by simp),e9],by rw [h10];simp,by rw [hE 23 (by simp),e23],by rw [hE 24 (by simp),e24],h25,h0,h8,by rw [ht];simp,hT,by simp [n],by rw [hR,hr];simp,hv⟩
  have TA:∀(M:Nat) (x y:AO) (k:Nat),k<M->Tail (setl tk y (O++[(N+k,x)])) (N+M):=fun M x y k h=>bX (Tail_append_iff.2 ⟨T.mono (by omega),Tail_cons_iff.2 ⟨by omega,Tail.nil _⟩⟩)
  have ldd:=ld;have hE6:∀{E2:Env},look 3 E2=look 3 E->look 7 E2=look 7 E->look 8 E2=look 8 E->look 9 E2=look 9 E->look 23 E2=look 23 E->look 24 E2=look 24 E->∀j,j=3\/j=7\/j=8\/j=9\/j=23\/j=24->look j E2=look j E:=fun {E2} a1 a2 a3 a4 a5 a6 j hj=>by
   rcases hj with rfl | rfl | rfl | rfl | rfl | rfl<;>assumption
  cases b with
  | false=>
   simp [c_18_l0,Packet.c,e3,e8,e9,e10,e23,e24,e25,hi,hx,hw1,t0,tt,eB,aF,aA,lt,bd,ft,ft0];refine fin noR c (hE6 (by simp) (by simp) (by simp) (by simp) (by simp) (by simp)) (by simp [noR,Rslt.c]) (by simp) ?_ ?_ ?_ (TA 2 _ _ 1 (by decide)) (by simp [ra]) (by simp)
   ·rw [aA,QA ztk];exact bK l0
   ·rw [aA,QA dt.1];exact bK ldd
   ·rw [aA,a8 rfl,bK lt];rfl
  | true=>
   obtain ⟨pk,cv⟩:=hb rfl;obtain ⟨cf,rv⟩:=v rfl;have hrun:=U7 pk cv cf rv k hbk;rw [Prg.c] at hrun e3;simp only [Xe.c] at hrun ld;rw [Packet.c] at hrun;cases q:runX p c k with
   | none=>
    rw [q] at hrun;simp only [runR,noR,Rslt.c,s8] at hrun;simp [c_18_l0,Packet.c,e3,e8,e9,e10,e23,e24,e25,hi,hx,hw1,t0,tt,eB,aF,aA,lt,ld,bd,ft,ft0,fd,fd0,dt,hrun];refine fin noR c (hE6 (by simp) (by simp) (by simp) (by simp) (by simp) (by simp)) (by simp [noR,Rslt.c]) (by simp) ?_ ?_ ?_ (TA 3 _ _ 1 (by decide)) (by simp [ra,runL,q]) (fun _=>⟨cf,rv⟩)
    ·rw [aA,QA ztk];exact bK l0
    ·rw [aA,QA dt.1];exact bK ldd
    ·rw [aA,a8 rfl,bK lt];rfl
   | some y=>
    obtain ⟨r,rs⟩:=y;rw [q] at hrun;simp only [runR,Rslt.c] at hrun;simp [c_18_l0,Packet.c,e3,e8,e9,e10,e23,e24,e25,hi,hx,hw1,t0,tt,eB,aF,aA,lt,ld,bd,ft,ft0,fd,fd0,dt,hrun];have hd0:¬0=d:=fun h=>by
     subst h;rw [ldd] at l0;simp [zC,Xe.c] at l0
    refine fin r { c with Xl:=rs } (hE6 (by simp) (by simp) (by simp) (by simp) (by simp) (by simp)) (by simp [Rslt.c]) (by simp) ?_ ?_ ?_ ?_ (by simp [ra,runL,q]) (fun _=>⟨⟨cf.rl,cf.dl,cf.rs,cf.dc⟩,WS pk rv q⟩)
    ·rw [aA,QA ztk,aA,QA hd0];exact bK l0
    ·rw [aA,QA dt.1,aA,a8 rfl,bK ldd];rfl
    ·rw [aA,a8 rfl,aA,QA dt.2,bK lt];rfl
    ·exact bX (bX (Tail_append_iff.2 ⟨T.mono (by omega),Tail_cons_iff.2 ⟨Nat.add_lt_add_left (by decide) _,Tail.nil _⟩⟩))
 ·rintro E _ K hK ⟨O,N,outs,c,rfl,h⟩;obtain ⟨e3,e7,e8,e9,e10,e23,e24,e25,l0,ld,lt,T,n,hR,v⟩:=h;have hR2:R=(outs,c):=by
   rw [hR,B1];cases b<;>simp [ra,runL]
  rw [hR2];have d0:¬d=0/\¬0=d:=by
   have:¬d=0:=fun h=>by
    subst h;rw [ld] at l0;simp [zC,Xe.c] at l0
   exact ⟨this,fun e=>this e.symm⟩
  rw [zC] at l0;simp only [Xe.c] at ld;simp [sN,c_18_l0,e24,e25] at hK ⊢;rw [hK];simp [c_18_k1,e7,e8,e10,l0,ld,aA,Xe.c,d0,eE]
theorem R7 {p:Prg} (fs:PrgS p) (hc:(pre p.Ya).length<2^40 - 1) {c:Xe} (ct:CfgT c) (cs:CS c) (hv:cfgE p c=0->(PKp p/\CtV p)/\CF p c/\RV p c.Xl) {l:List Packet} (hl:l.length<2^30) (hk:∀k∈l,bOk k.data):
  aB Φ zF [.agg p.c,.agg c.c,.slice 2 (l.map Packet.c)]=some (.val (.tup [.slice 4 ((ra (decide (cfgE p c=0)) p c l).1.map Rslt.c),.agg (ra (decide (cfgE p c=0)) p c l).2.c])):=by
 rw [aD rfl rfl];have h1:=R6 c cs;have h2:=T7 p fs hc c ct;generalize hR:ra (decide (cfgE p c=0)) p c l=R;rw [Prg.c] at h2;simp only [Xe.c] at h1 h2;generalize hQ:some (Rt.val (.tup [.slice 4 (R.1.map Rslt.c),.agg R.2.c]))=Q;simp [sN,Prg.c,Xe.c,h1,h2];rw [<- hQ];refine W1 (b:=decide (cfgE p c=0)) (fun h=>(hv (of_decide_eq_true h)).1) hl hk (R:=R) (d:=1) (tk:=2) (outs:=[]) (c:=c) ?_;refine ⟨by simp [Prg.c],by simp,by simp,by simp,by simp,by simp,by simp,by simp,by simp [zC],by simp [Xe.c],by simp,?_,rfl,by simp [<- hR],fun h=>(hv (of_decide_eq_true h)).2⟩;simp only [Tail_cons_iff];exact ⟨by decide,by decide,by decide,Tail.nil _⟩
theorem R8 {p:Prg} (fs:PrgS p) (hc:(pre p.Ya).length<2^40 - 1) {c:Xe} (ct:CfgT c) (cs:CS c) (hv:cfgE p c=0->(PKp p/\CtV p)/\CF p c/\RV p c.Xl) (k:Packet) (hk:bOk k.data) {r:Rslt} {c':Xe} (h:ra (decide (cfgE p c=0)) p c [k]=([r],c')):
  aB Φ FE [.agg p.c,.agg c.c,.agg k.c]=some (.val (.tup [.agg r.c,.agg c'.c])):=by
 rw [aD rfl rfl];have h1:=R7 fs hc ct cs hv (l:=[k]) (by simp) (by simpa using hk);rw [h] at h1;rw [Prg.c] at h1;simp only [Xe.c,Packet.c,Rslt.c,nB,s8] at h1;simp [J2,Prg.c,Xe.c,Packet.c,Rslt.c,h1,eE]
theorem Z2 (b:Bool) (p:Prg) (c:Xe) (k:Packet):∃r c',ra b p c [k]=([r],c'):=by
 cases b with
 | false=>exact ⟨noR,c,rfl⟩
 | true=>
  cases q:runX p c k with
  | none=>exact ⟨noR,c,by simp [ra,runL,q]⟩
  | some y=>exact ⟨y.1,{ c with Xl:=y.2 },by simp [ra,runL,q]⟩
theorem Jd {p:Prg} (v:VProg p) {c:Xb} (h:l5 p c=0):(actE p c.Xy).2=0:=by
 unfold l5 at h;split at h
 ·cases h
 ·rename_i a ha;obtain ⟨i,hi,hl,_⟩:=gN ha;rw [hi];exact v.ac i hl
theorem QQ {p:Prg} {t:Nat} (ht:t<p.Xm.length) {x:Entry} (h:entE p t x=0):l5 p x.call=0:=by
 unfold entE at h;split at h
 ·exact absurd h (by assumption)
 rw [kX,Qa ht] at h;simp only at h;split at h
 ·cases h
 have hf:fe (entG p p.Xm[t] x) p.Xm[t].keys.length 0=none->entF p t x=0:=fun q=>by rw [q] at h;exact h
 cases q:fe (entG p p.Xm[t] x) p.Xm[t].keys.length 0 with
 | some y=>
  rw [q] at h;simp only [iP] at h;subst h;obtain ⟨i,_,hi⟩:=rA q;exfalso;unfold entG at hi;split at hi
  ·split at hi
   ·cases hi
   ·rename_i hz;injection hi with hi
    exact hz hi
  ·cases hi
 | none=>
  have:=hf q;unfold entF at this;split at this
  ·cases this
  split at this
  ·cases this
  split at this
  ·cases this
  split at this
  ·cases this
  ·exact this
theorem rv_of {p:Prg} (v:VProg p) {rs:List (List Int)} (h:conE p rs=0) (hs:∀l∈rs,∀v∈l,ok32 0 v):RV p rs:=by
 unfold conE at h;split at h
 ·cases h
 rename_i hn;have hn:rs.length=p.Xl.length:=Decidable.of_not_not hn;have h1:∀i,i<rs.length->szG p rs i=none:=by
  refine fe_all.1 ?_;cases q:fe (szG p rs) rs.length 0 with
  | none=>rfl
  | some y=>
   rw [q] at h;simp only [iP] at h;subst h;obtain ⟨i,_,hi⟩:=rA q;unfold szG at hi;split at hi
   ·split at hi<;>cases hi
   ·cases hi
 rw [fe_all.2 h1,MA] at h;have h2:∀i,i<rs.length->vlG p rs i=none:=by
  refine fe_all.1 ?_;cases q:fe (vlG p rs) rs.length 0 with
  | none=>rfl
  | some y=>
   rw [q] at h;simp only [iP] at h;subst h;obtain ⟨i,_,hi⟩:=rA q;unfold vlG at hi;split at hi
   ·split at hi<;>cases hi
   ·cases hi
 refine ⟨hn,fun i g x hg hx=>?_⟩;obtain ⟨hi,rfl⟩:=Qm.1 hx;obtain ⟨hi2,rfl⟩:=Qm.1 hg;have a1:=h1 i hi;have a2:=h2 i hi;unfold szG at a1;unfold vlG at a2;rw [hx,hg] at a1 a2;simp only at a1 a2;have hr:=v.rg _ (Qd hi2);unfold regE at hr;split at hr
 ·cases hr
 split at hr
 ·cases hr
 rename_i hwb;have hw:=EL (Bool.eq_false_iff.2 hwb);refine ⟨yC a1,fun y hy=>⟨(hs _ (Qd hi) y hy).1,?_⟩⟩;split at a2
 ·cases a2
 ·rename_i hany;by_cases z:cN p.Xl[i].Yc<y
  ·exact absurd (B2.2 ⟨y,hy,by simp [z]⟩) hany
  ·rw [NW hw.1 hw.2] at z;omega
theorem OJ {B:Nat}:∀(n:Nat) (l:List Xa),SizeOf.sizeOf l<=n->(∀x∈l,Xa.Ok B x)->∀x∈pre l,Xa.Ok B x
 | 0,l,h,_,x,hx=>by
  cases l with
  | nil=>simp [pre] at hx
  | cons y l=>simp at h
 | n+1,[],_,_,x,hx=>by simp [pre] at hx
 | n+1,.mk k t c a b::l,h,ho,x,hx=>by
  simp only [pre,pre1,jD,gJ,eV] at hx;have hy:=ho _ (M6 ..);have hy2:=hy;simp only [Xa.Ok,Xa.oks_eq] at hy2;simp only [List.cons.sizeOf_spec,Xa.mk.sizeOf_spec] at h;rcases hx with rfl | (hx | hx) | hx
  ·exact hy
  ·exact OJ n a (by omega) hy2.2.2.2.1.2 x hx
  ·exact OJ n b (by omega) hy2.2.2.2.2.2 x hx
  ·exact OJ n l (by omega) (fun z hz=>ho z (yY _ hz)) x hx
theorem XX {p:Prg} {l:List Xa} {x:Xa} (hn:yO p l x=0):NdV p x:=by
 unfold yO at hn;by_cases h2:x.kind=2
 ·exact .inl h2
 rw [QA h2] at hn;by_cases h13:x.kind=1\/x.kind=3
 ·rw [a8 h13] at hn;by_cases ht:x.table<0\/(p.Xm.length:Int)<=x.table
  ·rw [a8 ht] at hn;cases hn
  rw [QA ht] at hn;refine .inr ⟨?_,x.table.toNat,by omega,by omega⟩;rcases h13 with h | h
  ·right;have h5:¬(0<x.thn.length+x.els.length):=fun h5=>by
    split at hn
    ·cases hn
    ·rw [a8 ⟨h,h5⟩] at hn;cases hn
   have hz:x.thn.length=0/\x.els.length=0:=by omega
   exact ⟨h,Qg hz.1,Qg hz.2⟩
  ·exact .inl h
 ·rw [QA h13] at hn;cases hn
theorem QF {x:Xa} (h:Xa.Ok kD x):x.cond.length<2^40:=by
 obtain ⟨k,t,c,a,b⟩:=x;simp only [Xa.Ok,okL] at h;have:=DY;have:=h.2.2.1.1;simp only [Xa.cond];omega
theorem XH {p:Prg} (fs:PrgS p) (v:VProg p):CtV p:=by
 have vc:=vctl v.ct;refine ⟨fun x hx=>?_,by have:=vc.n;omega,by have:=vc.d;omega⟩;have hok:=OJ (B:=kD) _ _ (Qb _) fs.co x hx;obtain ⟨i,hi,rfl⟩:=Qn.1 hx;exact ⟨XX (vc.e i hi),QF hok⟩
theorem pk_of {p:Prg} (fs:PrgS p) (v:VProg p):PKp p:=by
 refine ⟨fs,⟨fs.h,fs.hl,fs.m,?_,fs.r,fun g hg=>?_,fun g hg=>?_⟩,v.hd,fun t ht=>by simp only [tOk,decide_eq_true_eq];exact v.tb t ht,v.dp,v.pa⟩
 ·have:=v.m3 0 (by decide);exact (Qm.1 this).1
 ·have:=v.rg g hg;unfold regE at this;split at this
  ·cases this
  split at this
  ·cases this
  split at this
  ·cases this
  ·omega
 ·have:=v.rg g hg;unfold regE at this;split at this
  ·cases this
  split at this
  ·cases this
  ·rename_i hwb;exact (EL (Bool.eq_false_iff.2 hwb)).2
theorem Bz {p:Prg} (fs:PrgS p) {c:Xe} (ct:CfgT c) (h:cfgE p c=0):(PKp p/\CtV p)/\CF p c/\RV p c.Xl:=by
 have cv:=(Hr p c).1 h;have v:=vprog cv.prg;refine ⟨⟨pk_of fs v,XH fs v⟩,⟨cv.rl,cv.dl,fun l hl=>?_,fun d hd=>?_⟩,rv_of v cv.con fun l hl=>(ct.gs l hl).2⟩
 ·obtain ⟨k,hk,rfl⟩:=Qn.1 hl;have hkt:k<p.Xm.length:=by rw [<- cv.rl];exact hk
  have tv:=CfgV.at cv hkt;have hs:=ct.rs _ hl;refine ⟨hs.1,fun x hx=>⟨hs.2 x hx,?_⟩,tv.inc⟩;have hc:=QQ hkt (tv.ent x hx);exact ⟨Jd v hc,hc,(hs.2 x hx).ar,(hs.2 x hx).al⟩
 ·obtain ⟨k,hk,rfl⟩:=Qn.1 hd;have hkt:k<p.Xm.length:=by rw [<- cv.dl];exact hk
  have tv:=CfgV.at cv hkt;have hs:=ct.ds _ hd;have hc:l5 p c.Xp[k]=0:=by
   have:=tv.Yb;unfold kP at this;split at this
   ·cases this
   ·exact this
  exact ⟨Jd v hc,hc,hs.2,hs.1⟩
def Ek (r:Option Rt):Prop:=∃b,r=some (.val (.bool b))
theorem WD {p:Prg} (fs:PrgS p) {c:Xe} (cs:CS c):Ek (aB Φ FD [.agg p.c,.agg c.c]):=by
 rw [aD rfl rfl];simp [F7,Prg.c,Xe.c];refine eN c.rows.length (fun i E H=>look 2 E=some (.iptr 9 [p.c] 0 0)/\look 3 E=some (.iptr 4 [c.c] 0 0)/\look 7 E=some (a7 i)/\look 6 E=some (a7 0)/\(∃n,look 5 E=some (a7 n))/\H.objs=[]) Ek ?_ ?_ 0 _ _ (Qc _) ?_
 rotate_left 2
 ·exact ⟨by simp [Prg.c],by simp [Xe.c],by simp,by simp,⟨0,by simp⟩,rfl⟩
 ·rintro i E ⟨objs,n⟩ K hi hK ⟨e2,e3,e7,e6,⟨m,e5⟩,h⟩ ih;cases h;have hw:IntKind.wrap .i64 ((i:Int)+1)=((i+1:Nat):Int):=cT (by omega) (by have:=cs.r;omega);simp only [Xe.c] at e3;simp [c_11_l0,cS,e3,e7,e5,hi,hw];refine ih _ _ ?_;exact ⟨by simp [e2],by simp [e3,Xe.c],by simp,by simp [e6],⟨IntKind.wrap .i64 (m+c.rows[i].length),by simp⟩,rfl⟩
 ·rintro E ⟨objs,n⟩ K hK ⟨e2,e3,e7,e6,⟨m,e5⟩,h⟩;cases h;simp only [Xe.c] at e3;simp [F7,c_11_l0,e3,e7] at hK ⊢;rw [hK];simp [c_11_k3];refine eN p.Xx.length (fun i E H=>look 2 E=some (.iptr 9 [p.c] 0 0)/\look 3 E=some (.iptr 4 [c.c] 0 0)/\look 8 E=some (a7 i)/\(∃n,look 5 E=some (a7 n))/\(∃n,look 6 E=some (a7 n))/\H.objs=[]) Ek ?_ ?_ 0 _ _ (Qc _) ?_
  rotate_left 2
  ·exact ⟨by simp [e2],by simp [e3,Xe.c],by simp,⟨m,by simp [e5]⟩,⟨0,by simp [e6]⟩,rfl⟩
  ·rintro i E ⟨objs,n⟩ K hi hK ⟨e2,e3,e8,⟨m,e5⟩,⟨m2,e6⟩,h⟩ ih;cases h;have hw:IntKind.wrap .i64 ((i:Int)+1)=((i+1:Nat):Int):=cT (by omega) (by have:=fs.a;omega);rw [Prg.c] at e2;simp [c_11_l1,Action.e,e2,e8,e6,hi,hw];refine ih _ _ ?_;exact ⟨by simp [e2,Prg.c],by simp [e3],by simp,⟨m,by simp [e5]⟩,⟨IntKind.wrap .i64 (m2+p.Xx[i].body.length),by simp⟩,rfl⟩
  ·rintro E ⟨objs,n⟩ K hK ⟨e2,e3,e8,⟨m,e5⟩,⟨m2,e6⟩,h⟩;cases h;rw [Prg.c] at e2;simp only [Xe.c] at e3;simp [c_11_l1,e2,e8] at hK ⊢;rw [hK];by_cases z1:60<m
   ·simp [c_11_k2,e2,e3,e5,e6,z1];exact ⟨_,rfl⟩
   by_cases z2:60<m2
   ·simp [c_11_k2,e2,e3,e5,e6,z1,z2];exact ⟨_,rfl⟩
   by_cases z3:12<p.Xo.length
   ·simp [c_11_k2,e2,e3,e5,e6,z1,z2,z3];exact ⟨_,rfl⟩
   by_cases z4:16<p.Xm.length
   ·simp [c_11_k2,e2,e3,e5,e6,z1,z2,z3,z4];exact ⟨_,rfl⟩
   by_cases z5:16<p.Xw.length
   ·simp [c_11_k2,e2,e3,e5,e6,z1,z2,z3,z4,z5];exact ⟨_,rfl⟩
   by_cases z6:30<p.Ya.length
   ·simp [c_11_k2,e2,e3,e5,e6,z1,z2,z3,z4,z5,z6];exact ⟨_,rfl⟩
   ·simp [c_11_k2,e2,e3,e5,e6,z1,z2,z3,z4,z5,z6];exact ⟨_,rfl⟩
theorem qzl {p:Prg} (cv:CtV p) {c:Xe} {k:Packet} {r:Rslt} {rs:List (List Int)} (h:runX p c k=some (r,rs)):r.hits.length<2^30:=by
 unfold runX at h;split at h
 ·cases h
 split at h
 ·cases h
 ·cases h;have hk:∀x∈pre p.Ya,x.kind=2\/appl x=true:=fun x hx=>by
   rcases (cv.n x hx).1 with h | ⟨h | h,_⟩
   ·exact .inl h
   ·right;simp [appl,h]
   ·right;simp [appl,h.1]
  rename_i e _;have:=Kl (p:=p) (c:=c) (nest p.Ya) p.Ya ⟨eSet p e (-1) 0 k.port,c.Xl,[]⟩ hk;have hl:=cv.l;unfold resX;simp only [IX] at this;split<;>simp only<;>omega
theorem VZ {b:Bool} {p:Prg} (hb:b=true->CtV p) {c:Xe} {k:Packet} {r:Rslt} {c':Xe} (h:ra b p c [k]=([r],c')):r.hits.length<2^30:=by
 cases b with
 | false=>
  simp [ra] at h;rw [<- h.1];simp [noR]
 | true=>
  cases q:runX p c k with
  | none=>
   simp [ra,runL,q] at h;rw [<- h.1];simp [noR]
  | some y=>
   obtain ⟨r2,rs⟩:=y;simp [ra,runL,q] at h;rw [<- h.1];exact qzl (hb rfl) q
structure Cs26 (p:Prg) (c:Xe) (k:Packet):Prop where
 fs:PrgS p
 ct:CfgT c
 cs:CS c
 sc:CfgS c
 hc:(pre p.Ya).length<2^40 - 1
 kb:bOk k.data
 kl:k.data.length<2^40
def x26 (p:Prg) (c:Xe) (k:Packet):AV:= .agg (p.c++(c.c++k.c))
end Go.Av
