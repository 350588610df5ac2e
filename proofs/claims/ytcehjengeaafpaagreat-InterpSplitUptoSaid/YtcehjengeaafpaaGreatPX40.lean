/-
 The cases of law 26; InterpPure for all of them.
-/
import Derived.Test.YtcehjengeaafpaaGreatPX37
import Derived.Test.YtcehjengeaafpaaGreatW26M
import Derived.Test.YtcehjengeaafpaaGreatRW2
set_option linter.unusedVariables false
set_option linter.unusedSimpArgs false
set_option linter.constructorNameAsVariable false
namespace Go.Av
set_option maxRecDepth 8000
@[ext] structure Case25 where
 program:Prg
 config:Xe
 packet:Packet
def Case25.c (x:Case25):List AV:=[.str x.program.name,.slice 2 (x.program.Xo.map Xi.c),.slice 2 (x.program.Xn.map Fld.c),.slice 3 (x.program.Xl.map Xg.c),.slice 3 (x.program.Xx.map Action.c),.slice 6 (x.program.Xm.map Tbl.c),.slice 7 (x.program.Xw.map Xc.c),.slice 5 (x.program.Ya.map Xa.c),.slice 1 (x.program.Xr.map cI),.slice 1 (x.config.rows.map (cS 5 Rw.c)),.slice 1 (x.config.Xq.map cI),.slice 2 (x.config.Xp.map Xb.c),.slice 1 (x.config.Xl.map (cS 1 c32)),a7 x.packet.port,.slice 1 (x.packet.data.map c8)]
@[simp] theorem Case25.c_length (x:Case25):(Case25.c x).length=15:=by simp [Case25.c]
def Case25.Ok (B:Nat) (x:Case25):Prop:=Prg.Ok B x.program/\Xe.Ok B x.config/\Packet.Ok B x.packet
theorem Case25.rd {P:Go.Program} {B:Nat} {t:TypeId} {f0 f1 f2:Go.Field} (hu:P.underlying t=some (.struct #[f0,f1,f2])) (h0:Rd P B f0.type Prg.c (Prg.Ok B)) (h1:Rd P B f1.type Xe.c (Xe.Ok B)) (h2:Rd P B f2.type Packet.c (Packet.Ok B)):Rd P B t Case25.c (Case25.Ok B):=
 .st hu (h0.q (h1.q h2.o)) fun ⟨a,b,c⟩ h=>⟨⟨a,b,c⟩,by simp [Case25.c,Xe.c,Packet.c,Prg.c],h⟩
theorem CS_of {c:Xe} (o:c.Ok gG):CS c:=by
 have e:=zX;simp only [Xe.Ok,okL,Rw.Ok,Entry.Ok,Xb.Ok] at o;obtain ⟨⟨a1,a2⟩,b,⟨d1,d2⟩,g1,g2⟩:=o;refine ⟨by omega,fun l hl=>⟨by have:=(a2 l hl).1;omega,fun x hx=>?_⟩,by have:=b.1;omega,by omega,fun x hx=>by have:=(d2 x hx).2.1;omega,by omega,fun l hl=>by have:=(g2 l hl).1;omega⟩;have:=(a2 l hl).2 x hx;exact ⟨by have:=this.2.1.1;omega,by have:=this.2.2.2.2.1;omega⟩
theorem TY {a:Xe} (o:a.Ok gG):CfgS a:=by
 obtain ⟨o0,o1,o2,o3⟩:=o;have e:=zX;refine ⟨by have:=o0.1;omega,?_,by have:=o1.1;omega,by have:=o2.1;omega,?_,by have:=o3.1;omega,?_⟩
 ·intro l hl;have h:=o0.2 l hl;refine ⟨by have:=h.1;omega,?_⟩;intro r hr;have h2:=h.2 r hr;simp only [Rw.Ok,Entry.Ok,Xb.Ok] at h2;exact ⟨by have:=h2.2.1.1;omega,by have:=h2.2.2.2.2.1;omega⟩
 ·intro d hd;have h:=o2.2 d hd;simp only [Xb.Ok] at h;have:=h.2.1;omega
 ·intro l hl;have:=(o3.2 l hl).1;omega
theorem U0 {x:Case25} (o:x.Ok gG) (hc:(pre x.program.Ya).length<2^40 - 1):Cs26 x.program x.config x.packet:=by
 obtain ⟨op,oc,ok⟩:=o;have e:=zX;refine ⟨U1 op,TZ oc,CS_of oc,TY oc,hc,fun v hv=>?_,?_⟩
 ·have:=ok.2.2 v hv;simp only [ok8] at this;omega
 ·have:=ok.2.1;omega
theorem YC {x:Case25} {r:List AV} (h:szL (.agg (Case25.c x)::r)<=gG):(pre x.program.Ya).length<2^40 - 1:=by
 have e:=zX;have h1:=L5 x.program.Ya;simp only [szL,szA,Case25.c] at h;omega
theorem YO {p:Prg} (v:VProg p) {rs:List (List Int)} (r:RV p rs):conE p rs=0:=by
 unfold conE;rw [QA (by simp [r.n])];have h1:fe (szG p rs) rs.length 0=none:=fe_all.2 fun i hi=>by
  have hi2:i<p.Xl.length:=by rw [<- r.n];exact hi
  unfold szG;rw [Qa hi,Qa hi2];simp only;rw [a8 (r.l i _ _ (Qa hi2) (Qa hi)).1]
 have h2:fe (vlG p rs) rs.length 0=none:=fe_all.2 fun i hi=>by
  have hi2:i<p.Xl.length:=by rw [<- r.n];exact hi
  have hx:=(r.l i _ _ (Qa hi2) (Qa hi)).2;have hr:=v.rg _ (Qd hi2);unfold regE at hr;split at hr
  ·cases hr
  split at hr
  ·cases hr
  rename_i hwb;have hw:=AC (MJ.2 hwb);unfold vlG;rw [Qa hi,Qa hi2];simp only;rw [QA];intro hany;obtain ⟨y,hy,hd⟩:=zF.1 hany;have h3:=(hx y hy).2;rw [KT hw.1 hw.2] at hd;simp at hd;omega
 rw [h1,h2];rfl
structure Lft (p:Prg) (c c':Xe):Prop where
 r:c'.rows=c.rows
 n:c'.Xq=c.Xq
 d:c'.Xp=c.Xp
 g:RV p c'.Xl
theorem KW {p:Prg} (pk:PKp p):∀(l:List Packet) (c:Xe),RV p c.Xl->Lft p c (runL p c l).2
 | [],c,h=>⟨rfl,rfl,rfl,h⟩
 | k::l,c,h=>by
  simp only [runL];cases q:runX p c k with
  | none=>exact KW pk l c h
  | some y=>
   obtain ⟨r,rs⟩:=y;have:=KW pk l { c with Xl:=rs } (Nf pk h q);exact ⟨this.r,this.n,this.d,this.g⟩
theorem Lft.cfg {p:Prg} {c c':Xe} (h:Lft p c c') (hc:cfgE p c=0):cfgE p c'=0:=by
 have cv:=(Cd p c).1 hc;have v:=vprog cv.prg;refine (Cd p c').2 ⟨cv.prg,by rw [h.r];exact cv.rl,by rw [h.n];exact cv.nl,by rw [h.d];exact cv.dl,?_,YO v h.g⟩;rw [h.r,h.n,h.d];exact cv.tab
theorem Dn {p:Prg}:∀(a b:List Packet) (c:Xe),runL p c (a++b)=((runL p c a).1++(runL p (runL p c a).2 b).1,(runL p (runL p c a).2 b).2)
 | [],b,c=>by simp [runL]
 | k::a,b,c=>by
  simp only [iU,runL];cases runX p c k with
  | none=>simp only [Dn a b c,iU]
  | some y=>simp only [Dn a b,iU]
theorem ZN (t:Bool) (p:Prg) (c:Xe) (a b:List Packet):ra t p c (a++b)=((ra t p c a).1++(ra t p (ra t p c a).2 b).1,(ra t p (ra t p c a).2 b).2):=by
 cases t with
 | false=>simp [ra]
 | true=>exact Dn a b c
theorem ZO {p:Prg} (fs:PrgS p) {c:Xe} (ct:CfgT c) (l:List Packet):decide (cfgE p (ra (decide (cfgE p c=0)) p c l).2=0)=decide (cfgE p c=0):=by
 by_cases h:cfgE p c=0
 ·have f:=Dd fs ct h;have lf:=KW f.1.1 l c f.2.2;simp only [h,ra,decide_true,if_true];exact decide_eq_true (lf.cfg h)
 ·simp [h,ra]
theorem ZS {p:Prg} (pk:PKp p) {rs:List (List Int)} (r:RV p rs):rs.length<2^40/\∀l∈rs,l.length<2^40/\∀v∈l,ok32 0 v:=by
 refine ⟨by rw [r.n];exact pk.w.rl,fun l hl=>?_⟩;obtain ⟨i,hi,rfl⟩:=Qn.1 hl;have hi2:i<p.Xl.length:=by rw [<- r.n];exact hi
 have h:=r.l i _ _ (Qa hi2) (Qa hi);have h1:=pk.w.rz _ (Qd hi2);have h2:=pk.w.rw' _ (Qd hi2);exact ⟨by have:=h.1;omega,fun v hv=>iY (h.2 v hv) (by omega)⟩
theorem Lft.sizes {p:Prg} (pk:PKp p) {c c':Xe} (h:Lft p c c') (ct:CfgT c) (cs:CS c) (sc:CfgS c):CfgT c'/\CS c'/\CfgS c':=by
 obtain ⟨g1,g2⟩:=ZS pk h.g;obtain ⟨r,n,d,g⟩:=c';obtain ⟨h1,h2,h3,h4⟩:=h;simp only at h1 h2 h3 g1 g2;subst h1 h2 h3;exact ⟨⟨ct.rl,ct.rs,ct.nl,ct.dl,ct.ds,g1,g2⟩,⟨cs.r,cs.rr,cs.n,cs.d,cs.da,g1,fun l hl=>(g2 l hl).1⟩,⟨sc.rl,sc.rs,sc.nl,sc.dl,sc.ds,g1,fun l hl=>(g2 l hl).1⟩⟩
theorem S3 (l:List Packet) (hl:l.length<2^30):L9 (aB Φ FJ [.slice 2 (l.map Packet.c)]):=by
 rw [aD rfl rfl];by_cases z:6<l.length
 ·simp [zJ,z];exact ⟨_,rfl⟩
 simp [zJ,z];refine eF l.length (fun i E H=>look 0 E=some (.slice 2 (l.map Packet.c))/\look 3 E=some (a7 i)/\H.objs=[]) L9 ?_ ?_ 0 _ _ (Qc _) ?_
 rotate_left 2
 ·exact ⟨by simp,by simp,rfl⟩
 ·rintro i E ⟨objs,n⟩ K hi hK ⟨e0,e3,h⟩ ih;cases h;have hw:=aP i (by omega);by_cases z2:200<l[i].data.length
  ·simp [c_17_l0,Packet.c,e0,e3,hi,hw,z2];exact ⟨_,rfl⟩
  ·simp [c_17_l0,Packet.c,e0,e3,hi,hw,z2];refine ih _ _ ?_;exact ⟨by simp [e0],by simp,rfl⟩
 ·rintro E ⟨objs,n⟩ K hK ⟨e0,e3,h⟩;cases h;simp [zJ,c_17_l0,e0,e3] at hK ⊢;rw [hK];simp [c_17_k1];exact ⟨_,rfl⟩
theorem qym (l:List Rslt) (hl:l.length<2^40) (hh:∀r∈l,r.hits.length<2^40):aB Φ FK [.slice 4 (l.map Rslt.c),.slice 4 (l.map Rslt.c)]=some (.val (.bool true)):=by
 rw [aD rfl rfl];simp [F9];refine eF l.length (fun i E H=>look 0 E=some (.slice 4 (l.map Rslt.c))/\look 1 E=some (.slice 4 (l.map Rslt.c))/\look 5 E=some (a7 i)/\H.objs=[]) (fun (r:Option Rt)=>r=some (.val (.bool true))) ?_ ?_ 0 _ _ (Qc _) ?_
 rotate_left 2
 ·exact ⟨by simp,by simp,by simp,rfl⟩
 ·rintro i E ⟨objs,n⟩ K hi hK ⟨e0,e1,e5,h⟩ ih;cases h;have hw:=aP i (by omega);have he:=RF l[i] (hh _ (Qd hi));generalize hx:l[i]=x at*;rw [Rslt.c] at he;simp [c_20_l0,Rslt.c,e0,e1,e5,hi,hx,hw,he];refine ih _ _ ?_;exact ⟨by simp [e0],by simp [e1],by simp,rfl⟩
 ·rintro E ⟨objs,n⟩ K hK ⟨e0,e1,e5,h⟩;cases h;simp [F9,c_20_l0,e0,e5] at hK ⊢;rw [hK];simp [c_20_k1]
theorem Cp {p:Prg}:∀(l:List Packet) (c:Xe),(runL p c l).1.length=l.length
 | [],c=>rfl
 | k::l,c=>by
  simp only [runL];cases runX p c k with
  | none=>simp [Cp l]
  | some y=>simp [Cp l]
theorem Fg (b:Bool) (p:Prg) (c:Xe) (l:List Packet):(ra b p c l).1.length=l.length:=by
 cases b with
 | false=>simp [ra]
 | true=>exact Cp l c
theorem Ck {p:Prg} (cv:CtV p):∀(l:List Packet) (c:Xe),∀r∈(runL p c l).1,r.hits.length<2^30
 | [],c,r,h=>by cases h
 | k::l,c,r,h=>by
  simp only [runL] at h;cases q:runX p c k with
  | none=>
   rw [q] at h;rcases fV.1 h with rfl | h
   ·simp [noR]
   ·exact Ck cv l c r h
  | some y=>
   obtain ⟨r2,rs⟩:=y;rw [q] at h;rcases fV.1 h with rfl | h
   ·exact qzx cv q
   ·exact Ck cv l _ r h
theorem SS {b:Bool} {p:Prg} (hb:b=true->CtV p) (c:Xe) (l:List Packet):∀r∈(ra b p c l).1,r.hits.length<2^40:=by
 cases b with
 | false=>
  intro r hr;simp only [ra,gB,if_false,iO] at hr;obtain ⟨_,_,rfl⟩:=hr;simp [noR]
 | true=>
  intro r hr;have:=Ck (hb rfl) l c r hr;omega
theorem qz5 {p:Prg} {c:Xe} {k:Packet} (s:Cs26 p c k) (l:List Packet) (hl:l.length<2^30) (hk:∀k∈l,bOk k.data) (a:Int) (ha:0<=a/\a<=255) (hw:aB Φ zO []=some (.val (.bool true))):aB Φ MO [x26 p c k,.slice 2 (l.map Packet.c),.int .u8 a]=some (.val (.bool true)):=by
 rw [aD rfl rfl];obtain ⟨b,hb⟩:=XY s.fs s.cs;obtain ⟨b2,hb2⟩:=S3 l hl;have hf:=fun h=>Dd s.fs s.ct h
 obtain ⟨n,hn,hnl⟩:∃n:Nat,a.tmod ((l.length:Int)+1)=n/\n<=l.length:=by
  have h1:=Int.tmod_nonneg ((l.length:Int)+1) ha.1;have h2:=Int.tmod_lt_of_pos a (show (0:Int)<(l.length:Int)+1 by omega);exact ⟨(a.tmod ((l.length:Int)+1)).toNat,by omega,by omega⟩
 have w1:IntKind.wrap .i64 a=a:=cM (by omega) (by omega);have w2:IntKind.wrap .i64 ((l.length:Int)+1)=(l.length:Int)+1:=cM (by omega) (by omega);have r1:=Dh s.fs s.hc s.ct s.cs hf (l:=l.take n) (by rw [yD];omega) (fun k hk2=>hk k (Qu hk2));have r3:=Dh s.fs s.hc s.ct s.cs hf hl hk;have cd:=ZO s.fs s.ct (l.take n);obtain ⟨st,ss,sc⟩:CfgT (ra (decide (cfgE p c=0)) p c (l.take n)).2/\CS (ra (decide (cfgE p c=0)) p c (l.take n)).2/\CfgS (ra (decide (cfgE p c=0)) p c (l.take n)).2:=by
  by_cases h:cfgE p c=0
  ·simp only [h,decide_true,ra,if_true];exact (KW (hf h).1.1 (l.take n) c (hf h).2.2).sizes (hf h).1.1 s.ct s.cs s.sc
  ·simp only [h,decide_false,ra,gB,if_false];exact ⟨s.ct,s.cs,s.sc⟩
 have r2:=Dh s.fs s.hc st ss (fun h=>Dd s.fs st h) (l:=l.drop n) (by rw [HG];omega) (fun k hk2=>hk k (yA hk2));rw [cd] at r2;have hap:=ZN (decide (cfgE p c=0)) p c (l.take n) (l.drop n);rw [QB] at hap;have hh:=SS (fun h=>(hf (of_decide_eq_true h)).1.2) c l (b:=decide (cfgE p c=0));have hln:=Fg (decide (cfgE p c=0)) p c l;have heqr:=qym (ra (decide (cfgE p c=0)) p c l).1 (by omega) hh;have l1:=Fg (decide (cfgE p c=0)) p c (l.take n);have l2:=Fg (decide (cfgE p c=0)) p (ra (decide (cfgE p c=0)) p c (l.take n)).2 (l.drop n);rw [yD] at l1;rw [HG] at l2;obtain ⟨_,_,sc3⟩:CfgT (ra (decide (cfgE p c=0)) p c l).2/\CS (ra (decide (cfgE p c=0)) p c l).2/\CfgS (ra (decide (cfgE p c=0)) p c l).2:=by
  by_cases h:cfgE p c=0
  ·simp only [h,decide_true,ra,if_true];exact (KW (hf h).1.1 l c (hf h).2.2).sizes (hf h).1.1 s.ct s.cs s.sc
  ·simp only [h,decide_false,ra,gB,if_false];exact ⟨s.ct,s.cs,s.sc⟩
 have heq:=qxd _ (ra (decide (cfgE p c=0)) p c l).2 sc3;rw [hap] at heqr heq r3;generalize ra (decide (cfgE p c=0)) p (ra (decide (cfgE p c=0)) p c (l.take n)).2 (l.drop n)=y2 at*;generalize ra (decide (cfgE p c=0)) p c (l.take n)=y1 at*;rw [Prg.c] at hb r1 r2 r3;rw [zI] at r1;rw [List.map_drop] at r2;simp only [Xe.c] at hb r1 r2 r3 heq;by_cases hq:b=true\/b2=true
 ·rcases hq with rfl | rfl
  ·simp [MN,x26,Prg.c,Xe.c,Packet.c,hb,hw]
  ·cases b<;>simp [MN,x26,Prg.c,Xe.c,Packet.c,hb,hb2,hw]
 ·have hb0:b=false:=by cases b with | false=>rfl | true=>exact absurd (.inl rfl) hq
  have hb20:b2=false:=by cases b2 with | false=>rfl | true=>exact absurd (.inr rfl) hq
  subst hb0 hb20;have hz:¬((l.length:Int)+1=0):=by omega
  have dtk:((l.map Packet.c).drop n).take (l.length - n)=(l.map Packet.c).drop n:=Qo (by simp);have tk1:(y1.1.map Rslt.c).take y1.1.length=y1.1.map Rslt.c:=Qo (by simp);have tk2:(y2.1.map Rslt.c).take y2.1.length=y2.1.map Rslt.c:=Qo (by simp);have bd1:y1.1.length*64<=70368744177664:=by omega
  have bd2:(y1.1.length+y2.1.length)*64<=70368744177664:=by omega
  simp only [zG] at heqr r3;simp [MN,x26,Prg.c,Xe.c,Packet.c,hb,hb2,hw,w1,w2,hn,hnl,hz,dtk,tk1,tk2,bd1,bd2,r1,r2,r3,heqr,heq,eL]
theorem Wo (x:Case25) (l:List Packet) (a:Int) (o:x.Ok gG) (ol:okL gG (Packet.Ok gG) l) (oa:ok8 gG a) (hc:(pre x.program.Ya).length<2^40 - 1):aB Φ MO [.agg (Case25.c x),.slice 2 (l.map Packet.c),.int .u8 a]=some (.val (.bool true)):=by
 have e:=zX;have h1:=ol.1;have:=qz5 (U0 o hc) l (by omega) (fun k hk v hv=>by have:=(ol.2 k hk).2.2 v hv;simp only [ok8] at this;omega) a ⟨oa.1,oa.2⟩ Y3;simpa only [x26,Prg.c,Xe.c,Packet.c,Case25.c,iU,rT] using this
end Go.Av
