/-
 The cases of law 26; InterpPure for all of them.
-/
import Derived.Test.YtcehjengeaafpaaGreatPX33
import Derived.Test.YtcehjengeaafpaaGreatW26M
import Derived.Test.YtcehjengeaafpaaGreatRW2
set_option linter.unusedVariables false
set_option linter.unusedSimpArgs false
set_option linter.constructorNameAsVariable false
namespace Go.Av
set_option maxRecDepth 8000
@[ext] structure Case25 where
 program:Prg
 config:Xe
 packet:Packet
def Case25.c (x:Case25):List AV:=[.str x.program.name,.slice 2 (x.program.Xo.map Xi.c),.slice 2 (x.program.Xn.map Fld.c),.slice 3 (x.program.Xl.map Xg.c),.slice 3 (x.program.Xx.map Action.c),.slice 6 (x.program.Xm.map Tbl.c),.slice 7 (x.program.Xw.map Xc.c),.slice 5 (x.program.Ya.map Xa.c),.slice 1 (x.program.Xr.map cI),.slice 1 (x.config.rows.map (cS 5 Rw.c)),.slice 1 (x.config.Xq.map cI),.slice 2 (x.config.Xp.map Xb.c),.slice 1 (x.config.Xl.map (cS 1 c32)),a7 x.packet.port,.slice 1 (x.packet.data.map c8)]
@[simp] theorem Case25.c_length (x:Case25):(Case25.c x).length=15:=by simp [Case25.c]
def Case25.Ok (B:Nat) (x:Case25):Prop:=Prg.Ok B x.program/\Xe.Ok B x.config/\Packet.Ok B x.packet
theorem Case25.rd {P:Go.Program} {B:Nat} {t:TypeId} {f0 f1 f2:Go.Field} (hu:P.underlying t=some (.struct #[f0,f1,f2])) (h0:Rd P B f0.type Prg.c (Prg.Ok B)) (h1:Rd P B f1.type Xe.c (Xe.Ok B)) (h2:Rd P B f2.type Packet.c (Packet.Ok B)):Rd P B t Case25.c (Case25.Ok B):=
 .st hu (h0.q (h1.q h2.o)) fun ⟨a,b,c⟩ h=>⟨⟨a,b,c⟩,by simp [Case25.c,Xe.c,Packet.c,Prg.c],h⟩
theorem CS_of {c:Xe} (o:c.Ok lK):CS c:=by
 have e:=K3;simp only [Xe.Ok,okL,Rw.Ok,Entry.Ok,Xb.Ok] at o;obtain ⟨⟨a1,a2⟩,b,⟨d1,d2⟩,g1,g2⟩:=o;refine ⟨by omega,fun l hl=>⟨by have:=(a2 l hl).1;omega,fun x hx=>?_⟩,by have:=b.1;omega,by omega,fun x hx=>by have:=(d2 x hx).2.1;omega,by omega,fun l hl=>by have:=(g2 l hl).1;omega⟩;have:=(a2 l hl).2 x hx;exact ⟨by have:=this.2.1.1;omega,by have:=this.2.2.2.2.1;omega⟩
theorem Dp {a:Xe} (o:a.Ok lK):CfgS a:=by
 obtain ⟨o0,o1,o2,o3⟩:=o;have e:=K3;refine ⟨by have:=o0.1;omega,?_,by have:=o1.1;omega,by have:=o2.1;omega,?_,by have:=o3.1;omega,?_⟩
 ·intro l hl;have h:=o0.2 l hl;refine ⟨by have:=h.1;omega,?_⟩;intro r hr;have h2:=h.2 r hr;simp only [Rw.Ok,Entry.Ok,Xb.Ok] at h2;exact ⟨by have:=h2.2.1.1;omega,by have:=h2.2.2.2.2.1;omega⟩
 ·intro d hd;have h:=o2.2 d hd;simp only [Xb.Ok] at h;have:=h.2.1;omega
 ·intro l hl;have:=(o3.2 l hl).1;omega
theorem Dr {x:Case25} (o:x.Ok lK) (hc:(pre x.program.Ya).length<2^40 - 1):Cs26 x.program x.config x.packet:=by
 obtain ⟨op,oc,ok⟩:=o;have e:=K3;refine ⟨Ds op,Dq oc,CS_of oc,Dp oc,hc,fun v hv=>?_,?_⟩
 ·have:=ok.2.2 v hv;simp only [ok8] at this;omega
 ·have:=ok.2.1;omega
theorem Kv {x:Case25} {r:List AV} (h:szL (.agg (Case25.c x)::r)<=lK):(pre x.program.Ya).length<2^40 - 1:=by
 have e:=K3;have h1:=SG x.program.Ya;simp only [szL,szA,Case25.c] at h;omega
structure Lft (p:Prg) (c c':Xe):Prop where
 r:c'.rows=c.rows
 n:c'.Xq=c.Xq
 d:c'.Xp=c.Xp
 g:RV p c'.Xl
theorem Hj {p:Prg} (o:p.Ok lK):∀t∈p.Xm,∀v∈t.Yb.args,ok32 0 v:=fun t ht v hv=>by
 obtain ⟨_,_,_,_,_,o5,_⟩:=o;have:=o5.2 t ht;simp only [Tbl.Ok,Xb.Ok] at this;have h2:=this.2.2.2.1.2.2 v hv;exact h2
theorem Kl {p:Prg} {c:Xe} {k:Packet} (h:¬cfgE p c=0\/k.port<0\/255<k.port):ra (decide (cfgE p c=0)) p c [k]=([noR],c):=by
 by_cases hc:cfgE p c=0
 ·have hr:runX p c k=none:=by rw [runX,a9 (h.resolve_left fun hh=>hh hc)]
  simp [hc,ra,runL,hr]
 ·simp [hc,ra]
theorem qvc {p:Prg} {c:Xe} {k:Packet} (s:Cs26 p c k) (hv:∀t∈p.Xm,∀v∈t.Yb.args,ok32 0 v) (hw:a8 Φ F6 []=some (.val (.bool true))):a8 Φ XC [x26 p c k]=some (.val (.bool true)):=by
 rw [aA rfl rfl];obtain ⟨b,hb⟩:=Ji s.fs s.cs;obtain ⟨r,c',hr⟩:=Km (decide (cfgE p c=0)) p c k;have hrun:=ZF s.fs s.hc s.ct s.cs (G' s.fs s.ct) k s.kb hr;have hres:=A' noR (by simp [noR]);have heq:=qyi c c s.sc;have h21:=Ur p s.fs hv s.hc;have h25:=X' p s.fs hv s.hc c s.ct;rw [Prg.c] at hb hrun h21 h25;simp only [Xe.c,Packet.c,Rslt.c] at hb hrun hres heq h25;simp only [dgC] at h21;simp only [noR,nW] at hres;by_cases hq:b=true\/600<k.data.length
 ·rcases hq with rfl | hq
  ·simp [K0,x26,Prg.c,Xe.c,Packet.c,hb,hw]
  ·cases b<;>simp [K0,x26,Prg.c,Xe.c,Packet.c,hb,hw,hq]
 ·have hb0:b=false:=by cases b with | false=>rfl | true=>exact absurd (.inl rfl) hq
  have hq2:¬600<k.data.length:=fun h=>hq (.inr h)
  subst hb0;have key:(¬cfgE p c=0\/k.port<0\/255<k.port)->r=noR/\c'=c:=fun h=>by
   rw [Kl h] at hr;simp at hr;exact ⟨hr.1.symm,hr.2.symm⟩
  by_cases z1:(prgD p).1=0
  ·by_cases z2:cfgE p c=0
   ·by_cases z3:k.port<0
    ·obtain ⟨rfl,rfl⟩:=key (.inr (.inl z3));simp only [noR,nW] at hrun;simp [K0,x26,Prg.c,Xe.c,Packet.c,hb,hw,hq2,hrun,h21,h25,z1,z2,z3,hres,heq]
    ·by_cases z4:255<k.port
     ·obtain ⟨rfl,rfl⟩:=key (.inr (.inr z4));simp only [noR,nW] at hrun;simp [K0,x26,Prg.c,Xe.c,Packet.c,hb,hw,hq2,hrun,h21,h25,z1,z2,z3,z4,hres,heq]
     ·simp [K0,x26,Prg.c,Xe.c,Packet.c,hb,hw,hq2,hrun,h21,h25,z1,z2,z3,z4]
   ·obtain ⟨rfl,rfl⟩:=key (.inl z2);simp only [noR,nW] at hrun;simp [K0,x26,Prg.c,Xe.c,Packet.c,hb,hw,hq2,hrun,h21,h25,z1,z2,hres,heq]
  ·have z2:¬cfgE p c=0:=by
    unfold cfgE;rw [a9 z1];exact z1
   obtain ⟨rfl,rfl⟩:=key (.inl z2);simp only [noR,nW] at hrun;simp [K0,x26,Prg.c,Xe.c,Packet.c,hb,hw,hq2,hrun,h21,z1,hres,heq]
theorem qmz (x:Case25) (o:x.Ok lK) (hc:(pre x.program.Ya).length<2^40 - 1):a8 Φ XC [.agg (Case25.c x)]=some (.val (.bool true)):=by
 have:=qvc (Dr o hc) (Hj o.1) Jn;simpa only [x26,Prg.c,Xe.c,Packet.c,Case25.c,n9,wE] using this
end Go.Av
