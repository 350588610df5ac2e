/-
 The cases of law 26; InterpPure for all of them.
-/
import Derived.Test.YtcehjengeaafpaaGreatTX7
import Derived.Test.YtcehjengeaafpaaGreatW26M
import Derived.Test.YtcehjengeaafpaaGreatRW2
set_option linter.all false
namespace Go.Av
set_option maxRecDepth 8000
@[ext] structure Case25 where
 program:Prg
 config:Xe
 packet:Packet
def Case25.c (x:Case25):List AV:=[.str x.program.name,.slice 2 (x.program.Xo.map Xi.c),.slice 2 (x.program.Xn.map Fld.c),.slice 3 (x.program.Xl.map Xg.c),.slice 3 (x.program.Xx.map Action.c),.slice 6 (x.program.Xm.map Tbl.c),.slice 7 (x.program.Xw.map Xc.c),.slice 5 (x.program.Ya.map Xa.c),.slice 1 (x.program.Xr.map cI),.slice 1 (x.config.rows.map (cS 5 Rw.c)),.slice 1 (x.config.Xq.map cI),.slice 2 (x.config.Xp.map Xb.c),.slice 1 (x.config.Xl.map (cS 1 c32)),a7 x.packet.port,.slice 1 (x.packet.data.map c8)]
@[simp] theorem Case25.c_length (x:Case25):(Case25.c x).length=15:=by simp [Case25.c]
def Case25.Ok (B:Nat) (x:Case25):Prop:=Prg.Ok B x.program/\Xe.Ok B x.config/\Packet.Ok B x.packet
theorem Case25.rd {P:Go.Program} {B:Nat} {t:TypeId} {f0 f1 f2:Go.Field} (hu:P.underlying t=some (.struct #[f0,f1,f2])) (h0:Rd P B f0.type Prg.c (Prg.Ok B)) (h1:Rd P B f1.type Xe.c (Xe.Ok B)) (h2:Rd P B f2.type Packet.c (Packet.Ok B)):Rd P B t Case25.c (Case25.Ok B):=
 .st hu (h0.q (h1.q h2.o)) fun ⟨a,b,c⟩ h=>⟨⟨a,b,c⟩,by simp [Case25.c,Xe.c,Packet.c,Prg.c],h⟩
theorem CS_of {c:Xe} (o:c.Ok oU):CS c:=by
 have e:=EI;simp only [Xe.Ok,okL,Rw.Ok,Entry.Ok,Xb.Ok] at o;obtain ⟨⟨a1,a2⟩,b,⟨d1,d2⟩,g1,g2⟩:=o;refine ⟨by omega,fun l hl=>⟨by have:=(a2 l hl).1;omega,fun x hx=>?_⟩,by have:=b.1;omega,by omega,fun x hx=>by have:=(d2 x hx).2.1;omega,by omega,fun l hl=>by have:=(g2 l hl).1;omega⟩;have:=(a2 l hl).2 x hx;exact ⟨by have:=this.2.1.1;omega,by have:=this.2.2.2.2.1;omega⟩
theorem Ii {a:Xe} (o:a.Ok oU):CfgS a:=by
 obtain ⟨o0,o1,o2,o3⟩:=o;have e:=EI;refine ⟨by have:=o0.1;omega,?_,by have:=o1.1;omega,by have:=o2.1;omega,?_,by have:=o3.1;omega,?_⟩
 ·intro l hl;have h:=o0.2 l hl;refine ⟨by have:=h.1;omega,?_⟩;intro r hr;have h2:=h.2 r hr;simp only [Rw.Ok,Entry.Ok,Xb.Ok] at h2;exact ⟨by have:=h2.2.1.1;omega,by have:=h2.2.2.2.2.1;omega⟩
 ·intro d hd;have h:=o2.2 d hd;simp only [Xb.Ok] at h;have:=h.2.1;omega
 ·intro l hl;have:=(o3.2 l hl).1;omega
theorem Ik {x:Case25} (o:x.Ok oU) (hc:(pre x.program.Ya).length<2^40 - 1):Cs26 x.program x.config x.packet:=by
 obtain ⟨op,oc,ok⟩:=o;have e:=EI;refine ⟨Il op,Ij oc,CS_of oc,Ii oc,hc,fun v hv=>?_,?_⟩
 ·have:=ok.2.2 v hv;simp only [ok8] at this;omega
 ·have:=ok.2.1;omega
theorem Pr {x:Case25} {r:List AV} (h:szL (.agg (Case25.c x)::r)<=oU):(pre x.program.Ya).length<2^40 - 1:=by
 have e:=EI;have h1:=SV x.program.Ya;simp only [szL,szA,Case25.c] at h;omega
theorem Qx {p:Prg} (v:VProg p) {rs:List (List Int)} (r:RV p rs):conE p rs=0:=by
 unfold conE;rw [QA (by simp [r.n])];have h1:fe (szG p rs) rs.length 0=none:=fe_all.2 fun i hi=>by
  have hi2:i<p.Xl.length:=by rw [<- r.n];exact hi
  unfold szG;rw [Qa hi,Qa hi2];simp only;rw [a9 (r.l i _ _ (Qa hi2) (Qa hi)).1]
 have h2:fe (vlG p rs) rs.length 0=none:=fe_all.2 fun i hi=>by
  have hi2:i<p.Xl.length:=by rw [<- r.n];exact hi
  have hx:=(r.l i _ _ (Qa hi2) (Qa hi)).2;have hr:=v.rg _ (Qd hi2);unfold regE at hr;split at hr
  ·cases hr
  split at hr
  ·cases hr
  rename_i hwb;have hw:=CM (TM.2 hwb);unfold vlG;rw [Qa hi,Qa hi2];simp only;rw [QA];intro hany;obtain ⟨y,hy,hd⟩:=DX.1 hany;have h3:=(hx y hy).2;rw [NL hw.1 hw.2] at hd;simp at hd;omega
 rw [h1,h2];rfl
structure Lft (p:Prg) (c c':Xe):Prop where
 r:c'.rows=c.rows
 n:c'.Xq=c.Xq
 d:c'.Xp=c.Xp
 g:RV p c'.Xl
theorem SL {p:Prg} (pk:PKp p):∀(l:List Packet) (c:Xe),RV p c.Xl->Lft p c (runL p c l).2
 | [],c,h=>⟨rfl,rfl,rfl,h⟩
 | k::l,c,h=>by
  simp only [runL];cases q:runX p c k with
  | none=>exact SL pk l c h
  | some y=>
   obtain ⟨r,rs⟩:=y;have:=SL pk l { c with Xl:=rs } (P7 pk h q);exact ⟨this.r,this.n,this.d,this.g⟩
theorem Lft.cfg {p:Prg} {c c':Xe} (h:Lft p c c') (hc:cfgE p c=0):cfgE p c'=0:=by
 have cv:=(SC p c).1 hc;have v:=L4 cv.prg;refine (SC p c').2 ⟨cv.prg,by rw [h.r];exact cv.rl,by rw [h.n];exact cv.nl,by rw [h.d];exact cv.dl,?_,Qx v h.g⟩;rw [h.r,h.n,h.d];exact cv.tab
theorem gy {p:Prg}:∀(a b:List Packet) (c:Xe),runL p c (a++b)=((runL p c a).1++(runL p (runL p c a).2 b).1,(runL p (runL p c a).2 b).2)
 | [],b,c=>by simp [runL]
 | k::a,b,c=>by
  simp only [oY,runL];cases runX p c k with
  | none=>simp only [gy a b c,oY]
  | some y=>simp only [gy a b,oY]
theorem Sr (t:Bool) (p:Prg) (c:Xe) (a b:List Packet):ra t p c (a++b)=((ra t p c a).1++(ra t p (ra t p c a).2 b).1,(ra t p (ra t p c a).2 b).2):=by
 cases t with
 | false=>simp [ra]
 | true=>exact gy a b c
theorem Ss {p:Prg} (fs:PrgS p) {c:Xe} (ct:CfgT c) (l:List Packet):decide (cfgE p (ra (decide (cfgE p c=0)) p c l).2=0)=decide (cfgE p c=0):=by
 by_cases h:cfgE p c=0
 ·have f:=MY fs ct h;have lf:=SL f.1.1 l c f.2.2;simp only [h,ra,decide_true,if_true];exact decide_eq_true (lf.cfg h)
 ·simp [h,ra]
theorem Tc {p:Prg} (pk:PKp p) {rs:List (List Int)} (r:RV p rs):rs.length<2^40/\∀l∈rs,l.length<2^40/\∀v∈l,ok32 0 v:=by
 refine ⟨by rw [r.n];exact pk.w.rl,fun l hl=>?_⟩;obtain ⟨i,hi,rfl⟩:=Qn.1 hl;have hi2:i<p.Xl.length:=by rw [<- r.n];exact hi
 have h:=r.l i _ _ (Qa hi2) (Qa hi);have h1:=pk.w.rz _ (Qd hi2);have h2:=pk.w.rw' _ (Qd hi2);exact ⟨by have:=h.1;omega,fun v hv=>nW (h.2 v hv) (by omega)⟩
theorem Lft.sizes {p:Prg} (pk:PKp p) {c c':Xe} (h:Lft p c c') (ct:CfgT c) (cs:CS c) (sc:CfgS c):CfgT c'/\CS c'/\CfgS c':=by
 obtain ⟨g1,g2⟩:=Tc pk h.g;obtain ⟨r,n,d,g⟩:=c';obtain ⟨h1,h2,h3,h4⟩:=h;simp only at h1 h2 h3 g1 g2;subst h1 h2 h3;exact ⟨⟨ct.rl,ct.rs,ct.nl,ct.dl,ct.ds,g1,g2⟩,⟨cs.r,cs.rr,cs.n,cs.d,cs.da,g1,fun l hl=>(g2 l hl).1⟩,⟨sc.rl,sc.rs,sc.nl,sc.dl,sc.ds,g1,fun l hl=>(g2 l hl).1⟩⟩
theorem Dk (l:List Packet) (hl:l.length<2^30):T0 (a8 Φ 17 [.slice 2 (l.map Packet.c)]):=by
 rw [aB rfl rfl];by_cases z:6<l.length
 ·simp [E4,z];exact ⟨_,rfl⟩
 simp [E4,z];refine cC l.length (fun i E H=>look 0 E=some (.slice 2 (l.map Packet.c))/\look 3 E=some (a7 i)/\H.objs=[]) T0 ?_ ?_ 0 _ _ (Qc _) ?_
 rotate_left 2
 ·exact ⟨by simp,by simp,rfl⟩
 ·rintro i E ⟨objs,n⟩ K hi hK ⟨e0,e3,h⟩ ih;cases h;have hw:=aF i (by omega);by_cases z2:200<l[i].data.length
  ·simp [kD,Packet.c,e0,e3,hi,hw,z2];exact ⟨_,rfl⟩
  ·simp [kD,Packet.c,e0,e3,hi,hw,z2];refine ih _ _ ?_;exact ⟨by simp [e0],by simp,rfl⟩
 ·rintro E ⟨objs,n⟩ K hK ⟨e0,e3,h⟩;cases h;simp [E4,kD,e0,e3] at hK ⊢;rw [hK];simp [tL];exact ⟨_,rfl⟩
theorem ZO (l:List Rslt) (hl:l.length<2^40) (hh:∀r∈l,r.hits.length<2^40):a8 Φ 20 [.slice 4 (l.map Rslt.c),.slice 4 (l.map Rslt.c)]=some (.val (.bool true)):=by
 rw [aB rfl rfl];simp [KI];refine cC l.length (fun i E H=>look 0 E=some (.slice 4 (l.map Rslt.c))/\look 1 E=some (.slice 4 (l.map Rslt.c))/\look 5 E=some (a7 i)/\H.objs=[]) (fun (r:Option Rt)=>r=some (.val (.bool true))) ?_ ?_ 0 _ _ (Qc _) ?_
 rotate_left 2
 ·exact ⟨by simp,by simp,by simp,rfl⟩
 ·rintro i E ⟨objs,n⟩ K hi hK ⟨e0,e1,e5,h⟩ ih;cases h;have hw:=aF i (by omega);have he:=Ea l[i] (hh _ (Qd hi));generalize hx:l[i]=x at*;rw [Rslt.c] at he;simp [oI,Rslt.c,e0,e1,e5,hi,hx,hw,he];refine ih _ _ ?_;exact ⟨by simp [e0],by simp [e1],by simp,rfl⟩
 ·rintro E ⟨objs,n⟩ K hK ⟨e0,e1,e5,h⟩;cases h;simp [KI,oI,e0,e5] at hK ⊢;rw [hK];simp [tO]
theorem gz {p:Prg}:∀(l:List Packet) (c:Xe),(runL p c l).1.length=l.length
 | [],c=>rfl
 | k::l,c=>by
  simp only [runL];cases runX p c k with
  | none=>simp [gz l]
  | some y=>simp [gz l]
theorem R6 (b:Bool) (p:Prg) (c:Xe) (l:List Packet):(ra b p c l).1.length=l.length:=by
 cases b with
 | false=>simp [ra]
 | true=>exact gz l c
theorem fh {p:Prg} (cv:CtV p):∀(l:List Packet) (c:Xe),∀r∈(runL p c l).1,r.hits.length<2^30
 | [],c,r,h=>by cases h
 | k::l,c,r,h=>by
  simp only [runL] at h;cases q:runX p c k with
  | none=>
   rw [q] at h;rcases nK.1 h with rfl | h
   ·simp [noR]
   ·exact fh cv l c r h
  | some y=>
   obtain ⟨r2,rs⟩:=y;rw [q] at h;rcases nK.1 h with rfl | h
   ·exact Br cv q
   ·exact fh cv l _ r h
theorem Fu {b:Bool} {p:Prg} (hb:b=true->CtV p) (c:Xe) (l:List Packet):∀r∈(ra b p c l).1,r.hits.length<2^40:=by
 cases b with
 | false=>
  intro r hr;simp only [ra,nX,if_false,iU] at hr;obtain ⟨_,_,rfl⟩:=hr;simp [noR]
 | true=>
  intro r hr;have:=fh (hb rfl) l c r hr;omega
theorem Kk {p:Prg} (o:p.Ok oU):∀t∈p.Xm,∀v∈t.Yb.args,ok32 0 v:=fun t ht v hv=>by
 obtain ⟨_,_,_,_,_,o5,_⟩:=o;have:=o5.2 t ht;simp only [Tbl.Ok,Xb.Ok] at this;have h2:=this.2.2.2.1.2.2 v hv;exact h2
def stX (p:Prg) (c:Xe) (k:Packet):Option MS:=if cfgE p c≠0\/k.port<0\/255<k.port then none else (prs p k.data).map fun e=>⟨eSet p e (-1) 0 k.port,c.Xl,[]⟩
def stV (o:Option MS):AV:=match o with
 | some s=> .tup [.agg (sG s),.bool true]
 | none=> .tup [.agg [.slice 1 [],.slice 1 [],.slice 1 [],.slice 1 [],.slice 1 [],.slice 3 []],.bool false]
theorem Ct {p:Prg} (fs:PrgS p) (hv:∀t∈p.Xm,∀v∈t.Yb.args,ok32 0 v) (hc:(pre p.Ya).length<2^40 - 1) {c:Xe} (ct:CfgT c) (k:Packet) (hb:bOk k.data):
  a8 Φ 37 [.agg p.c,.agg c.c,.agg k.c]=some (.val (stV (stX p c k))):=by
 rw [aB rfl rfl];have h1:=nu p fs hv hc;have h2:=Fz p fs hv hc c ct;have hz:¬(prgD p).1=0->cfgE p c≠0:=fun z1=>by
  unfold cfgE;rw [a9 z1];exact z1
 simp only [Prg.e,Xe.ce,dgC] at h1 h2;generalize hR:some (Rt.val (stV (stX p c k)))=R;by_cases z1:(prgD p).1=0
 rotate_left
 ·have hx:stX p c k=none:=a9 (.inl (hz z1));rw [<- hR,hx];simp [wD,Prg.e,Xe.ce,Packet.c,h1,z1,stV]
 by_cases z2:cfgE p c=0
 rotate_left
 ·have hx:stX p c k=none:=a9 (.inl z2);rw [<- hR,hx];simp [wD,Prg.e,Xe.ce,Packet.c,h1,h2,z1,z2,stV]
 by_cases z3:k.port<0
 ·have hx:stX p c k=none:=a9 (.inr (.inl z3));rw [<- hR,hx];simp [wD,Prg.e,Xe.ce,Packet.c,h1,h2,z1,z2,z3,stV]
 by_cases z4:255<k.port
 ·have hx:stX p c k=none:=a9 (.inr (.inr z4));rw [<- hR,hx];simp [wD,Prg.e,Xe.ce,Packet.c,h1,h2,z1,z2,z3,z4,stV]
 have hx:stX p c k=(prs p k.data).map fun e=>⟨eSet p e (-1) 0 k.port,c.Xl,[]⟩:=QA (by simp [z2];omega)
 obtain ⟨⟨pk,cv⟩,cf,rv⟩:=MY fs ct z2;have h3:=Cp fs pk.w pk.hd pk.pa hb;simp only [Prg.e] at h3;rw [<- hR,hx];cases q:prs p k.data with
 | none=>
  rw [q] at h3;obtain ⟨er,her,h3⟩:=h3;rw [Envt.ce] at h3;simp [wD,Prg.e,Xe.ce,Packet.c,h1,h2,z1,z2,z3,z4,h3,her,stV]
 | some e=>
  rw [q] at h3;simp only [ParP] at h3;obtain ⟨ev,hd5,j,hj⟩:=W0 (fun g hg f hf=>(vhdr (pk.hd g hg)).w f hf) q;have pl:e.payload.length<2^40:=by rw [hj,DW];omega
  have xv:XV p e c.Xl:=⟨ev,rv,pl⟩;have hwp:IntKind.wrap .u32 k.port=k.port:=sQ;have h4:=ku p e (xv.evs pk.w) (xv.m0 pk.w) (-1) 0 k.port ⟨by omega,by omega⟩;rw [Envt.ce] at h3 h4;simp only [F2,stV,sG_e];generalize eSet p e (-1) 0 k.port=e2 at*;rw [Envt.ce] at h4;simp only [Prg.e] at h4;simp [wD,Prg.e,Xe.ce,Packet.c,h1,h2,z1,z2,z3,z4,h3,h4,hwp]
theorem Nl {p:Prg} (pk:PKp p) (m3:3<=p.Xn.length) (c:Xe) {s:MS} (xv:XS p s):
  a8 Φ 38 [.agg p.c,.agg c.c,.agg (sG s)]=some (.val (.tup [.agg (resX p s).c,.agg ({ c with Xl:=s.rs }:Xe).c])):=by
 rw [aB rfl rfl];have hem:=Ia pk.fs pk.w pk.hd pk.dp xv.ev xv.pl;have hml:s.e.metaF.length=p.Xn.length:=xv.ev.m;have l1:1<s.e.metaF.length:=by omega
 have l2:2<s.e.metaF.length:=by omega
 have g1:=jk xv.ev (fun h f=>(DL p h f).2) (-1) 1;have hg1:eGet s.e (-1) 1=s.e.metaF[1]:=by
  unfold eGet;rw [a9 rfl];have:at? s.e.metaF (1:Int)=some s.e.metaF[1]:=by
   rw [show (1:Int)=((1:Nat):Int) from rfl,oV,Qa l1]
  rw [this];rfl
 rw [hg1] at g1;have hwr:IntKind.wrap .i64 s.e.metaF[1]=s.e.metaF[1]:=aQ (by have:=g1.1;omega) (by have:=g1.2;omega);have hX:resX p s=if s.e.metaF[2]=1\/512<(emi p s.e).length then ⟨true,0,[],s.hits⟩ else ⟨false,s.e.metaF[1],emi p s.e,s.hits⟩:=by
  have a2:at? s.e.metaF (2:Int)=some s.e.metaF[2]:=by
   rw [show (2:Int)=((2:Nat):Int) from rfl,oV,Qa l2]
  have a1:at? s.e.metaF (1:Int)=some s.e.metaF[1]:=by
   rw [show (1:Int)=((1:Nat):Int) from rfl,oV,Qa l1]
  unfold resX;rw [a1,a2];rfl
 rw [hX];rw [Envt.ce] at hem;simp only [Prg.e] at hem;generalize emi p s.e=out at*;by_cases d:s.e.metaF[2]=1
 ·simp [E5,Prg.e,Xe.ce,sG_e,Rslt.c,hem,l1,l2,d,c32,aA]
 ·by_cases z:512<out.length
  ·simp [E5,Prg.e,Xe.ce,sG_e,Rslt.c,hem,l1,l2,d,z,c32,aA]
  ·simp [E5,Prg.e,Xe.ce,sG_e,Rslt.c,hem,l1,l2,d,z,hwr,c32,aA]
theorem Pt {p:Prg} {c:Xe} (h:cfgE p c=0):IdP c:=fun l hl x hx=>by
 have cv:=(SC p c).1 h;obtain ⟨k,hk,rfl⟩:=Qn.1 hl;have hkt:k<p.Xm.length:=by rw [<- cv.rl];exact hk
 exact (CfgV.at cv hkt).pos x hx
theorem Ih {p:Prg} (fs:PrgS p) (hv:∀t∈p.Xm,∀v∈t.Yb.args,ok32 0 v) (hc:(pre p.Ya).length<2^40 - 1) {c:Xe} (ct:CfgT c) (k:Packet) (hb:bOk k.data) {r:Rslt} {c':Xe} (h:ra (decide (cfgE p c=0)) p c [k]=([r],c')):
  a8 Φ 14 [.agg p.c,.agg c.c,.agg k.c]=some (.val (.tup [.agg r.c,.agg c'.c])):=by
 rw [aB rfl rfl];have h1:=Ct fs hv hc ct k hb;simp only [Prg.e,Xe.ce,Packet.c] at h1;have no:stX p c k=none->r=noR/\c'=c:=fun hx=>by
  by_cases z:cfgE p c=0
  ·have hr:runX p c k=none:=by
    unfold runX;unfold stX at hx;by_cases hp:k.port<0\/255<k.port
    ·rw [a9 hp]
    ·rw [QA hp];rw [QA (by rw [not_or];exact ⟨fun n=>n z,hp⟩)] at hx;cases q:prs p k.data with
     | none=>rfl
     | some e=>rw [q] at hx;cases hx
   simp [z,ra,runL,hr] at h;exact ⟨h.1.symm,h.2.symm⟩
  ·simp [z,ra] at h;exact ⟨h.1.symm,h.2.symm⟩
 cases hx:stX p c k with
 | none=>
  obtain ⟨rfl,rfl⟩:=no hx;rw [hx] at h1;simp only [stV] at h1;simp [KG,Prg.e,Xe.ce,Packet.c,h1,noR,Rslt.c,aA]
 | some s=>
  rw [hx] at h1;have hz:cfgE p c=0/\¬(k.port<0\/255<k.port)/\∃e,prs p k.data=some e/\s=⟨eSet p e (-1) 0 k.port,c.Xl,[]⟩:=by
   unfold stX at hx;split at hx
   ·cases hx
   ·rename_i hn;rw [not_or] at hn;obtain ⟨e,q,hs⟩:=Qs.1 hx;exact ⟨Decidable.of_not_not hn.1,hn.2,e,q,hs.symm⟩
  obtain ⟨z,hp,e,q,hs⟩:=hz;obtain ⟨⟨pk,cv⟩,cf,rv⟩:=MY fs ct z;obtain ⟨ev,hd5,j,hj⟩:=W0 (fun g hg f hf=>(vhdr (pk.hd g hg)).w f hf) q;have pl:e.payload.length<2^40:=by rw [hj,DW];omega
  have xs:XS p s:=by
   rw [hs];exact ⟨ev.set _ _ _,rv,by simp only [VE];exact pl⟩
  have hsh:s.hits=[]:=by rw [hs]
  have h2:=OW pk hv cf (Pt z) (nest p.Ya) p.Ya s (Qb _) cv.n xs (by rw [hsh];simp;have:=cv.l;omega);have m3:3<=p.Xn.length:=by
   have:=(L4 ((SC p c).1 z).prg).m3 2 (by decide);have:=(Qm.1 this).1;omega
  have h3:=Nl pk m3 c (XS.ct (c:=c) (nest p.Ya) p.Ya s xs);have hrr:r=resX p (ctX p c (nest p.Ya) p.Ya s)/\c'={ c with Xl:=(ctX p c (nest p.Ya) p.Ya s).rs }:=by
   have hrx:runX p c k=some (resX p (ctX p c (nest p.Ya) p.Ya s),(ctX p c (nest p.Ya) p.Ya s).rs):=by
    unfold runX;rw [QA hp,q,hs]
   simp [z,ra,runL,hrx] at h;exact ⟨h.1.symm,h.2.symm⟩
  obtain ⟨rfl,rfl⟩:=hrr;generalize ctX p c (nest p.Ya) p.Ya s=s2 at*;simp only [stV,sG_e] at h1;simp only [Prg.e,Xe.ce,sG_e,Rslt.c] at h2 h3;simp [KG,Prg.e,Xe.ce,Packet.c,h1,h2,h3,Rslt.c,aA]
theorem ZU {p:Prg} (fs:PrgS p) (hv:∀t∈p.Xm,∀v∈t.Yb.args,ok32 0 v) (hc:(pre p.Ya).length<2^40 - 1) {c:Xe} (ct:CfgT c) (cs:CS c) (sc:CfgS c) {l:List Packet} (hl:l.length<2^30) (hb:∀k∈l,bOk k.data):
  a8 Φ 19 [.agg p.c,.agg c.c,.slice 2 (l.map Packet.c)]=some (.val (.tup [.slice 4 ((ra (decide (cfgE p c=0)) p c l).1.map Rslt.c),.agg (ra (decide (cfgE p c=0)) p c l).2.c])):=by
 rw [aB rfl rfl];have hcf:∀i,decide (cfgE p (ra (decide (cfgE p c=0)) p c (l.take i)).2=0)=decide (cfgE p c=0):=fun i=>Ss fs ct (l.take i)
 have hct:∀i,CfgT (ra (decide (cfgE p c=0)) p c (l.take i)).2:=fun i=>by
  by_cases z:cfgE p c=0
  ·have f:=MY fs ct z;have lf:=SL f.1.1 (l.take i) c f.2.2;simp only [z,ra,decide_true,if_true];exact (lf.sizes f.1.1 ct cs sc).1
  ·simp [z,ra,ct]
 generalize hbb:decide (cfgE p c=0)=b at*;generalize hR:some (Rt.val (.tup [.slice 4 ((ra b p c l).1.map Rslt.c),.agg (ra b p c l).2.c]))=R;simp [KH,Prg.e,Xe.ce];refine cC l.length (fun i E h=>∃n,3<=n/\h=⟨[(0,.row 4 [(ra b p c (l.take i)).2.c]),(1,.row 4 [[.Xt 1 [],.Xt 1 [],.Xt 2 [],.Xt 1 []]]),(2,.tok 4 i)],n⟩/\look 2 E=some (.slice 2 (l.map Packet.c))/\look 3 E=some (.iptr 9 [p.c] 0 0)/\look 4 E=some (.ptr 0 4 0 0)/\look 7 E=some (.ptr 1 4 0 0)/\look 8 E=some (.app 4 ((ra b p c (l.take i)).1.map Rslt.c) 2)/\look 9 E=some (a7 i)) (fun r=>r=R) ?_ ?_ 0 _ _ (Qc _) ?_
 ·rintro i E _ K hi hK ⟨n,hn,rfl,e2,e3,e4,e7,e8,e9⟩ ih;have hw:=aF i (by omega);have tk:l.take (i+1)=l.take i++[l[i]]:=Qh hi;have hlen:(ra b p c (l.take i)).1.length=i:=by rw [R6,iF];omega
  have hci:=hcf i;have hcti:=hct i;have hbi:=hb _ (Qd hi);have happ:=Sr b p c (l.take i) [l[i]];rw [<- tk] at happ;generalize ra b p c (l.take i)=y at*;obtain ⟨outs,cc⟩:=y;simp only at hlen hci hcti happ e8;obtain ⟨r,c',hr⟩:=Su b p cc l[i];rw [hr] at happ;have hrun:=Ih fs hv hc hcti l[i] hbi (by rw [hci];exact hr);generalize hx:l[i]=k at*;simp only [Prg.e,Xe.ce,Packet.c,Rslt.c] at hrun;rw [Prg.e] at e3;have bd:(i+1)*64<=70368744177664:=by omega
  have nn:∀j,(¬n+j=0/\¬0=n+j)/\(¬n+j=1/\¬1=n+j)/\(¬n+j=2/\¬2=n+j):=fun j=>by omega
  have n0:(¬n=0/\¬0=n)/\(¬n=1/\¬1=n)/\(¬n=2/\¬2=n):=by omega
  have nq:(n+1 == n)=false/\(n == n+1)=false:=by simp
  simp [oH,Packet.c,Xe.ce,e2,e3,e4,e7,e8,e9,hi,hx,hw,hrun,hlen,bd,nn,n0,nq,aC,aA,N5,jA];exact ih _ _ ⟨n+11+1,by omega,by rw [happ];simp [Xe.ce],by simp [e2],by simp [e3,Prg.e],by simp [e4],by simp [e7],by rw [happ];simp [Rslt.c],by simp⟩
 ·rintro E _ K hK ⟨n,hn,rfl,e2,e3,e4,e7,e8,e9⟩;rw [fF] at e8 ⊢;generalize ra b p c l=y at*;rw [<- hR];simp [KH,oH,e2,e9] at hK ⊢;simp [tN,Xe.ce,e4,e7,e8,hK,aA]
 ·exact ⟨3,Qb _,by cases b<;>simp [ra,runL,Xe.ce],by simp,by simp [Prg.e],by simp,by simp,by cases b<;>simp [ra,runL],by simp⟩
theorem Kn {p:Prg} {c:Xe} {k:Packet} (s:Cs26 p c k) (l:List Packet):CfgS (ra (decide (cfgE p c=0)) p c l).2:=by
 by_cases h:cfgE p c=0
 ·have hf:=MY s.fs s.ct h;simp only [h,decide_true,ra,if_true];exact ((SL hf.1.1 l c hf.2.2).sizes hf.1.1 s.ct s.cs s.sc).2.2
 ·simp only [h,decide_false,ra,nX,if_false];exact s.sc
theorem YH {p:Prg} {c:Xe} {k:Packet} (s:Cs26 p c k) (hv:∀t∈p.Xm,∀v∈t.Yb.args,ok32 0 v) (l:List Packet) (hl:l.length<2^30) (hk:∀k∈l,bOk k.data) (hw:a8 Φ 12 []=some (.val (.bool true))):a8 Φ 4 [x26 p c k,.slice 2 (l.map Packet.c)]=some (.val (.bool true)):=by
 rw [aB rfl rfl];obtain ⟨b,hb⟩:=Oc s.fs s.cs;obtain ⟨b2,hb2⟩:=Dk l hl;have hf:=fun h=>MY s.fs s.ct h
 have r1:=En s.fs s.hc s.ct s.cs hf hl hk;have r2:=ZU s.fs hv s.hc s.ct s.cs s.sc hl hk;have hh:=Fu (fun h=>(hf (of_decide_eq_true h)).1.2) c l (b:=decide (cfgE p c=0));have hln:=R6 (decide (cfgE p c=0)) p c l;have heqr:=ZO (ra (decide (cfgE p c=0)) p c l).1 (by omega) hh;have hcs:=Kn s l;generalize ra (decide (cfgE p c=0)) p c l=y at*;have heq:=ZA y.2 y.2 hcs;rw [Prg.c] at hb r1 r2;simp only [Xe.c] at hb r1 r2 heq;by_cases hq:b=true\/b2=true
 ·rcases hq with rfl | rfl
  ·simp [TR,x26,Prg.c,Xe.c,Packet.c,hb,hw]
  ·cases b<;>simp [TR,x26,Prg.c,Xe.c,Packet.c,hb,hb2,hw]
 ·have hb0:b=false:=by cases b with | false=>rfl | true=>exact absurd (.inl rfl) hq
  have hb20:b2=false:=by cases b2 with | false=>rfl | true=>exact absurd (.inr rfl) hq
  subst hb0 hb20;simp [TR,x26,Prg.c,Xe.c,Packet.c,hb,hb2,hw,r1,r2,heqr,heq]
theorem qr7 (x:Case25) (l:List Packet) (o:x.Ok oU) (ol:okL oU (Packet.Ok oU) l) (hc:(pre x.program.Ya).length<2^40 - 1):a8 Φ 4 [.agg (Case25.c x),.slice 2 (l.map Packet.c)]=some (.val (.bool true)):=by
 have e:=EI;have h1:=ol.1;have:=YH (Ik o hc) (Kk o.1) l (by omega) (fun k hk v hv=>by have:=(ol.2 k hk).2.2 v hv;simp only [ok8] at this;omega) Oh;simpa only [x26,Prg.c,Xe.c,Packet.c,Case25.c,oY,yY] using this
end Go.Av
