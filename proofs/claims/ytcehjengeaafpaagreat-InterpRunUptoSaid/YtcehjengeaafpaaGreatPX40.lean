/-
 The cases of law 26; InterpPure for all of them.
-/
import Derived.Test.YtcehjengeaafpaaGreatTX7
import Derived.Test.YtcehjengeaafpaaGreatW26M
import Derived.Test.YtcehjengeaafpaaGreatRW2
set_option linter.all false
namespace Go.Av
set_option maxRecDepth 8000
@[ext] structure Case25 where
 program:Prg
 config:Xe
 packet:Packet
def Case25.c (x:Case25):List AV:=[.str x.program.name,.slice 2 (x.program.Xo.map Xi.c),.slice 2 (x.program.Xn.map Fld.c),.slice 3 (x.program.Xl.map Xg.c),.slice 3 (x.program.Xx.map Action.c),.slice 6 (x.program.Xm.map Tbl.c),.slice 7 (x.program.Xw.map Xc.c),.slice 5 (x.program.Ya.map Xa.c),.slice 1 (x.program.Xr.map cI),.slice 1 (x.config.rows.map (cS 5 Rw.c)),.slice 1 (x.config.Xq.map cI),.slice 2 (x.config.Xp.map Xb.c),.slice 1 (x.config.Xl.map (cS 1 c32)),a7 x.packet.port,.slice 1 (x.packet.data.map c8)]
@[simp] theorem Case25.c_length (x:Case25):(Case25.c x).length=15:=by simp [Case25.c]
def Case25.Ok (B:Nat) (x:Case25):Prop:=Prg.Ok B x.program/\Xe.Ok B x.config/\Packet.Ok B x.packet
theorem Case25.rd {P:Go.Program} {B:Nat} {t:TypeId} {f0 f1 f2:Go.Field} (hu:P.underlying t=some (.struct #[f0,f1,f2])) (h0:Rd P B f0.type Prg.c (Prg.Ok B)) (h1:Rd P B f1.type Xe.c (Xe.Ok B)) (h2:Rd P B f2.type Packet.c (Packet.Ok B)):Rd P B t Case25.c (Case25.Ok B):=
 .st hu (h0.q (h1.q h2.o)) fun ⟨a,b,c⟩ h=>⟨⟨a,b,c⟩,by simp [Case25.c,Xe.c,Packet.c,Prg.c],h⟩
theorem CS_of {c:Xe} (o:c.Ok sL):CS c:=by
 have e:=J7;simp only [Xe.Ok,okL,Rw.Ok,Entry.Ok,Xb.Ok] at o;obtain ⟨⟨a1,a2⟩,b,⟨d1,d2⟩,g1,g2⟩:=o;refine ⟨by omega,fun l hl=>⟨by have:=(a2 l hl).1;omega,fun x hx=>?_⟩,by have:=b.1;omega,by omega,fun x hx=>by have:=(d2 x hx).2.1;omega,by omega,fun l hl=>by have:=(g2 l hl).1;omega⟩;have:=(a2 l hl).2 x hx;exact ⟨by have:=this.2.1.1;omega,by have:=this.2.2.2.2.1;omega⟩
theorem Gc {a:Xe} (o:a.Ok sL):CfgS a:=by
 obtain ⟨o0,o1,o2,o3⟩:=o;have e:=J7;refine ⟨by have:=o0.1;omega,?_,by have:=o1.1;omega,by have:=o2.1;omega,?_,by have:=o3.1;omega,?_⟩
 ·intro l hl;have h:=o0.2 l hl;refine ⟨by have:=h.1;omega,?_⟩;intro r hr;have h2:=h.2 r hr;simp only [Rw.Ok,Entry.Ok,Xb.Ok] at h2;exact ⟨by have:=h2.2.1.1;omega,by have:=h2.2.2.2.2.1;omega⟩
 ·intro d hd;have h:=o2.2 d hd;simp only [Xb.Ok] at h;have:=h.2.1;omega
 ·intro l hl;have:=(o3.2 l hl).1;omega
theorem Ge {x:Case25} (o:x.Ok sL) (hc:(pre x.program.Ya).length<2^40 - 1):Cs26 x.program x.config x.packet:=by
 obtain ⟨op,oc,ok⟩:=o;have e:=J7;refine ⟨Hq op,Gd oc,CS_of oc,Gc oc,hc,fun v hv=>?_,?_⟩
 ·have:=ok.2.2 v hv;simp only [ok8] at this;omega
 ·have:=ok.2.1;omega
theorem Px {x:Case25} {r:List AV} (h:szL (.agg (Case25.c x)::r)<=sL):(pre x.program.Ya).length<2^40 - 1:=by
 have e:=J7;have h1:=SH x.program.Ya;simp only [szL,szA,Case25.c] at h;omega
structure Lft (p:Prg) (c c':Xe):Prop where
 r:c'.rows=c.rows
 n:c'.Xq=c.Xq
 d:c'.Xp=c.Xp
 g:RV p c'.Xl
theorem gp {p:Prg} (pk:PKp p):∀(l:List Packet) (c:Xe),RV p c.Xl->Lft p c (runL p c l).2
 | [],c,h=>⟨rfl,rfl,rfl,h⟩
 | k::l,c,h=>by
  simp only [runL];cases q:runX p c k with
  | none=>exact gp pk l c h
  | some y=>
   obtain ⟨r,rs⟩:=y;have:=gp pk l { c with Xl:=rs } (OV pk h q);exact ⟨this.r,this.n,this.d,this.g⟩
theorem Ts {p:Prg} (pk:PKp p) {rs:List (List Int)} (r:RV p rs):rs.length<2^40/\∀l∈rs,l.length<2^40/\∀v∈l,ok32 0 v:=by
 refine ⟨by rw [r.n];exact pk.w.rl,fun l hl=>?_⟩;obtain ⟨i,hi,rfl⟩:=Qn.1 hl;have hi2:i<p.Xl.length:=by rw [<- r.n];exact hi
 have h:=r.l i _ _ (Qa hi2) (Qa hi);have h1:=pk.w.rz _ (Qd hi2);have h2:=pk.w.rw' _ (Qd hi2);exact ⟨by have:=h.1;omega,fun v hv=>nV (h.2 v hv) (by omega)⟩
theorem Lft.sizes {p:Prg} (pk:PKp p) {c c':Xe} (h:Lft p c c') (ct:CfgT c) (cs:CS c) (sc:CfgS c):CfgT c'/\CS c'/\CfgS c':=by
 obtain ⟨g1,g2⟩:=Ts pk h.g;obtain ⟨r,n,d,g⟩:=c';obtain ⟨h1,h2,h3,h4⟩:=h;simp only at h1 h2 h3 g1 g2;subst h1 h2 h3;exact ⟨⟨ct.rl,ct.rs,ct.nl,ct.dl,ct.ds,g1,g2⟩,⟨cs.r,cs.rr,cs.n,cs.d,cs.da,g1,fun l hl=>(g2 l hl).1⟩,⟨sc.rl,sc.rs,sc.nl,sc.dl,sc.ds,g1,fun l hl=>(g2 l hl).1⟩⟩
theorem Le {p:Prg} (o:p.Ok sL):∀t∈p.Xm,∀v∈t.Yb.args,ok32 0 v:=fun t ht v hv=>by
 obtain ⟨_,_,_,_,_,o5,_⟩:=o;have:=o5.2 t ht;simp only [Tbl.Ok,Xb.Ok] at this;have h2:=this.2.2.2.1.2.2 v hv;exact h2
def stX (p:Prg) (c:Xe) (k:Packet):Option MS:=if cfgE p c≠0\/k.port<0\/255<k.port then none else (prs p k.data).map fun e=>⟨eSet p e (-1) 0 k.port,c.Xl,[]⟩
def stV (o:Option MS):AV:=match o with
 | some s=> .tup [.agg (sG s),.bool true]
 | none=> .tup [.agg [.slice 1 [],.slice 1 [],.slice 1 [],.slice 1 [],.slice 1 [],.slice 3 []],.bool false]
theorem Bz {p:Prg} (fs:PrgS p) (hv:∀t∈p.Xm,∀v∈t.Yb.args,ok32 0 v) (hc:(pre p.Ya).length<2^40 - 1) {c:Xe} (ct:CfgT c) (k:Packet) (hb:bOk k.data):
  a8 Φ 37 [.agg p.c,.agg c.c,.agg k.c]=some (.val (stV (stX p c k))):=by
 rw [aB rfl rfl];have h1:=lz p fs hv hc;have h2:=Fb p fs hv hc c ct;have hz:¬(prgD p).1=0->cfgE p c≠0:=fun z1=>by
  unfold cfgE;rw [a9 z1];exact z1
 simp only [Prg.e,Xe.ce,dgC] at h1 h2;generalize hR:some (Rt.val (stV (stX p c k)))=R;by_cases z1:(prgD p).1=0
 rotate_left
 ·have hx:stX p c k=none:=a9 (.inl (hz z1));rw [<- hR,hx];simp [wC,Prg.e,Xe.ce,Packet.c,h1,z1,stV]
 by_cases z2:cfgE p c=0
 rotate_left
 ·have hx:stX p c k=none:=a9 (.inl z2);rw [<- hR,hx];simp [wC,Prg.e,Xe.ce,Packet.c,h1,h2,z1,z2,stV]
 by_cases z3:k.port<0
 ·have hx:stX p c k=none:=a9 (.inr (.inl z3));rw [<- hR,hx];simp [wC,Prg.e,Xe.ce,Packet.c,h1,h2,z1,z2,z3,stV]
 by_cases z4:255<k.port
 ·have hx:stX p c k=none:=a9 (.inr (.inr z4));rw [<- hR,hx];simp [wC,Prg.e,Xe.ce,Packet.c,h1,h2,z1,z2,z3,z4,stV]
 have hx:stX p c k=(prs p k.data).map fun e=>⟨eSet p e (-1) 0 k.port,c.Xl,[]⟩:=QA (by simp [z2];omega)
 obtain ⟨⟨pk,cv⟩,cf,rv⟩:=S3 fs ct z2;have h3:=Am fs pk.w pk.hd pk.pa hb;simp only [Prg.e] at h3;rw [<- hR,hx];cases q:prs p k.data with
 | none=>
  rw [q] at h3;obtain ⟨er,her,h3⟩:=h3;rw [Envt.ce] at h3;simp [wC,Prg.e,Xe.ce,Packet.c,h1,h2,z1,z2,z3,z4,h3,her,stV]
 | some e=>
  rw [q] at h3;simp only [ParP] at h3;obtain ⟨ev,hd5,j,hj⟩:=VL (fun g hg f hf=>(vhdr (pk.hd g hg)).w f hf) q;have pl:e.payload.length<2^40:=by rw [hj,DS];omega
  have xv:XV p e c.Xl:=⟨ev,rv,pl⟩;have hwp:IntKind.wrap .u32 k.port=k.port:=sO;have h4:=jk p e (xv.evs pk.w) (xv.m0 pk.w) (-1) 0 k.port ⟨by omega,by omega⟩;rw [Envt.ce] at h3 h4;simp only [ET,stV,sG_e];generalize eSet p e (-1) 0 k.port=e2 at*;rw [Envt.ce] at h4;simp only [Prg.e] at h4;simp [wC,Prg.e,Xe.ce,Packet.c,h1,h2,z1,z2,z3,z4,h3,h4,hwp]
theorem Oe {p:Prg} (pk:PKp p) (m3:3<=p.Xn.length) (c:Xe) {s:MS} (xv:XS p s):
  a8 Φ 38 [.agg p.c,.agg c.c,.agg (sG s)]=some (.val (.tup [.agg (resX p s).c,.agg ({ c with Xl:=s.rs }:Xe).c])):=by
 rw [aB rfl rfl];have hem:=Fv pk.fs pk.w pk.hd pk.dp xv.ev xv.pl;have hml:s.e.metaF.length=p.Xn.length:=xv.ev.m;have l1:1<s.e.metaF.length:=by omega
 have l2:2<s.e.metaF.length:=by omega
 have g1:=ia xv.ev (fun h f=>(DK p h f).2) (-1) 1;have hg1:eGet s.e (-1) 1=s.e.metaF[1]:=by
  unfold eGet;rw [a9 rfl];have:at? s.e.metaF (1:Int)=some s.e.metaF[1]:=by
   rw [show (1:Int)=((1:Nat):Int) from rfl,oT,Qa l1]
  rw [this];rfl
 rw [hg1] at g1;have hwr:IntKind.wrap .i64 s.e.metaF[1]=s.e.metaF[1]:=aQ (by have:=g1.1;omega) (by have:=g1.2;omega);have hX:resX p s=if s.e.metaF[2]=1\/512<(emi p s.e).length then ⟨true,0,[],s.hits⟩ else ⟨false,s.e.metaF[1],emi p s.e,s.hits⟩:=by
  have a2:at? s.e.metaF (2:Int)=some s.e.metaF[2]:=by
   rw [show (2:Int)=((2:Nat):Int) from rfl,oT,Qa l2]
  have a1:at? s.e.metaF (1:Int)=some s.e.metaF[1]:=by
   rw [show (1:Int)=((1:Nat):Int) from rfl,oT,Qa l1]
  unfold resX;rw [a1,a2];rfl
 rw [hX];rw [Envt.ce] at hem;simp only [Prg.e] at hem;generalize emi p s.e=out at*;by_cases d:s.e.metaF[2]=1
 ·simp [DW,Prg.e,Xe.ce,sG_e,Rslt.c,hem,l1,l2,d,c32,aA]
 ·by_cases z:512<out.length
  ·simp [DW,Prg.e,Xe.ce,sG_e,Rslt.c,hem,l1,l2,d,z,c32,aA]
  ·simp [DW,Prg.e,Xe.ce,sG_e,Rslt.c,hem,l1,l2,d,z,hwr,c32,aA]
theorem Pz {p:Prg} {c:Xe} (h:cfgE p c=0):IdP c:=fun l hl x hx=>by
 have cv:=(bt p c).1 h;obtain ⟨k,hk,rfl⟩:=Qn.1 hl;have hkt:k<p.Xm.length:=by rw [<- cv.rl];exact hk
 exact (CfgV.at cv hkt).pos x hx
theorem Gb {p:Prg} (fs:PrgS p) (hv:∀t∈p.Xm,∀v∈t.Yb.args,ok32 0 v) (hc:(pre p.Ya).length<2^40 - 1) {c:Xe} (ct:CfgT c) (k:Packet) (hb:bOk k.data) {r:Rslt} {c':Xe} (h:ra (decide (cfgE p c=0)) p c [k]=([r],c')):
  a8 Φ 14 [.agg p.c,.agg c.c,.agg k.c]=some (.val (.tup [.agg r.c,.agg c'.c])):=by
 rw [aB rfl rfl];have h1:=Bz fs hv hc ct k hb;simp only [Prg.e,Xe.ce,Packet.c] at h1;have no:stX p c k=none->r=noR/\c'=c:=fun hx=>by
  by_cases z:cfgE p c=0
  ·have hr:runX p c k=none:=by
    unfold runX;unfold stX at hx;by_cases hp:k.port<0\/255<k.port
    ·rw [a9 hp]
    ·rw [QA hp];rw [QA (by rw [not_or];exact ⟨fun n=>n z,hp⟩)] at hx;cases q:prs p k.data with
     | none=>rfl
     | some e=>rw [q] at hx;cases hx
   simp [z,ra,runL,hr] at h;exact ⟨h.1.symm,h.2.symm⟩
  ·simp [z,ra] at h;exact ⟨h.1.symm,h.2.symm⟩
 cases hx:stX p c k with
 | none=>
  obtain ⟨rfl,rfl⟩:=no hx;rw [hx] at h1;simp only [stV] at h1;simp [KC,Prg.e,Xe.ce,Packet.c,h1,noR,Rslt.c,aA]
 | some s=>
  rw [hx] at h1;have hz:cfgE p c=0/\¬(k.port<0\/255<k.port)/\∃e,prs p k.data=some e/\s=⟨eSet p e (-1) 0 k.port,c.Xl,[]⟩:=by
   unfold stX at hx;split at hx
   ·cases hx
   ·rename_i hn;rw [not_or] at hn;obtain ⟨e,q,hs⟩:=Qs.1 hx;exact ⟨Decidable.of_not_not hn.1,hn.2,e,q,hs.symm⟩
  obtain ⟨z,hp,e,q,hs⟩:=hz;obtain ⟨⟨pk,cv⟩,cf,rv⟩:=S3 fs ct z;obtain ⟨ev,hd5,j,hj⟩:=VL (fun g hg f hf=>(vhdr (pk.hd g hg)).w f hf) q;have pl:e.payload.length<2^40:=by rw [hj,DS];omega
  have xs:XS p s:=by
   rw [hs];exact ⟨ev.set _ _ _,rv,by simp only [UY];exact pl⟩
  have hsh:s.hits=[]:=by rw [hs]
  have h2:=uw pk hv cf (Pz z) (nest p.Ya) p.Ya s (Qb _) cv.n xs (by rw [hsh];simp;have:=cv.l;omega);have m3:3<=p.Xn.length:=by
   have:=(vprog ((bt p c).1 z).prg).m3 2 (by decide);have:=(Qm.1 this).1;omega
  have h3:=Oe pk m3 c (XS.ct (c:=c) (nest p.Ya) p.Ya s xs);have hrr:r=resX p (ctX p c (nest p.Ya) p.Ya s)/\c'={ c with Xl:=(ctX p c (nest p.Ya) p.Ya s).rs }:=by
   have hrx:runX p c k=some (resX p (ctX p c (nest p.Ya) p.Ya s),(ctX p c (nest p.Ya) p.Ya s).rs):=by
    unfold runX;rw [QA hp,q,hs]
   simp [z,ra,runL,hrx] at h;exact ⟨h.1.symm,h.2.symm⟩
  obtain ⟨rfl,rfl⟩:=hrr;generalize ctX p c (nest p.Ya) p.Ya s=s2 at*;simp only [stV,sG_e] at h1;simp only [Prg.e,Xe.ce,sG_e,Rslt.c] at h2 h3;simp [KC,Prg.e,Xe.ce,Packet.c,h1,h2,h3,Rslt.c,aA]
theorem Lh {p:Prg} {c:Xe} {k:Packet} (s:Cs26 p c k) (l:List Packet):CfgS (ra (decide (cfgE p c=0)) p c l).2:=by
 by_cases h:cfgE p c=0
 ·have hf:=S3 s.fs s.ct h;simp only [h,decide_true,ra,if_true];exact ((gp hf.1.1 l c hf.2.2).sizes hf.1.1 s.ct s.cs s.sc).2.2
 ·simp only [h,decide_false,ra,nW,if_false];exact s.sc
theorem Mn {p:Prg} {c:Xe} {k:Packet} (s:Cs26 p c k) (hv:∀t∈p.Xm,∀v∈t.Yb.args,ok32 0 v) (hw:a8 Φ 12 []=some (.val (.bool true))):a8 Φ 3 [x26 p c k]=some (.val (.bool true)):=by
 rw [aB rfl rfl];obtain ⟨b,hb⟩:=Nl s.fs s.cs;obtain ⟨r,c',hr⟩:=Rz (decide (cfgE p c=0)) p c k;have hrun:=Du s.fs s.hc s.ct s.cs (S3 s.fs s.ct) k s.kb hr;have hrun2:=Gb s.fs hv s.hc s.ct k s.kb hr;have hhl:r.hits.length<2^30:=Li (fun h=>(S3 s.fs s.ct (of_decide_eq_true h)).1.2) hr;have hres:=Df r (by omega);have hcs:=Lh s [k];rw [hr] at hcs;have heq:=YP c' c' hcs;rw [Prg.c] at hb hrun hrun2;simp only [Xe.c,Packet.c,Rslt.c] at hb hrun hrun2 hres heq;by_cases hq:b=true\/600<k.data.length
 ·rcases hq with rfl | hq
  ·simp [TD,x26,Prg.c,Xe.c,Packet.c,hb,hw]
  ·cases b<;>simp [TD,x26,Prg.c,Xe.c,Packet.c,hb,hw,hq]
 ·have hb0:b=false:=by cases b with | false=>rfl | true=>exact absurd (.inl rfl) hq
  have hq2:¬600<k.data.length:=fun h=>hq (.inr h)
  subst hb0;simp [TD,x26,Prg.c,Xe.c,Packet.c,hb,hw,hq2,hrun,hrun2,hres,heq]
theorem qws (x:Case25) (o:x.Ok sL) (hc:(pre x.program.Ya).length<2^40 - 1):a8 Φ 3 [.agg (Case25.c x)]=some (.val (.bool true)):=by
 have:=Mn (Ge o hc) (Le o.1) Nq;simpa only [x26,Prg.c,Xe.c,Packet.c,Case25.c,sQ,zB] using this
end Go.Av
