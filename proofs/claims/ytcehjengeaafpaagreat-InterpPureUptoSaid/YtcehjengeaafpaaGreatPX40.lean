/-
 The cases of law 26; InterpPure for all of them.
-/
import Derived.Test.YtcehjengeaafpaaGreatPX36
import Derived.Test.YtcehjengeaafpaaGreatW26M
import Derived.Test.YtcehjengeaafpaaGreatRW2
set_option linter.unusedVariables false
set_option linter.unusedSimpArgs false
set_option linter.constructorNameAsVariable false
namespace Go.Av
set_option maxRecDepth 8000
@[ext] structure Case25 where
 program:Prg
 config:Xe
 packet:Packet
def Case25.c (x:Case25):List AV:=[.str x.program.name,.slice 2 (x.program.Xo.map Xi.c),.slice 2 (x.program.Xn.map Fld.c),.slice 3 (x.program.Xl.map Xg.c),.slice 3 (x.program.Xx.map Action.c),.slice 6 (x.program.Xm.map Tbl.c),.slice 7 (x.program.Xw.map Xc.c),.slice 5 (x.program.Ya.map Xa.c),.slice 1 (x.program.Xr.map cI),.slice 1 (x.config.rows.map (cS 5 Rw.c)),.slice 1 (x.config.Xq.map cI),.slice 2 (x.config.Xp.map Xb.c),.slice 1 (x.config.Xl.map (cS 1 c32)),a7 x.packet.port,.slice 1 (x.packet.data.map c8)]
@[simp] theorem Case25.c_length (x:Case25):(Case25.c x).length=15:=by simp [Case25.c]
def Case25.Ok (B:Nat) (x:Case25):Prop:=Prg.Ok B x.program/\Xe.Ok B x.config/\Packet.Ok B x.packet
theorem Case25.rd {P:Go.Program} {B:Nat} {t:TypeId} {f0 f1 f2:Go.Field} (hu:P.underlying t=some (.struct #[f0,f1,f2])) (h0:Rd P B f0.type Prg.c (Prg.Ok B)) (h1:Rd P B f1.type Xe.c (Xe.Ok B)) (h2:Rd P B f2.type Packet.c (Packet.Ok B)):Rd P B t Case25.c (Case25.Ok B):=
 .st hu (h0.q (h1.q h2.o)) fun ⟨a,b,c⟩ h=>⟨⟨a,b,c⟩,by simp [Case25.c,Xe.c,Packet.c,Prg.c],h⟩
theorem CS_of {c:Xe} (o:c.Ok jY):CS c:=by
 have e:=E5;simp only [Xe.Ok,okL,Rw.Ok,Entry.Ok,Xb.Ok] at o;obtain ⟨⟨a1,a2⟩,b,⟨d1,d2⟩,g1,g2⟩:=o;refine ⟨by omega,fun l hl=>⟨by have:=(a2 l hl).1;omega,fun x hx=>?_⟩,by have:=b.1;omega,by omega,fun x hx=>by have:=(d2 x hx).2.1;omega,by omega,fun l hl=>by have:=(g2 l hl).1;omega⟩;have:=(a2 l hl).2 x hx;exact ⟨by have:=this.2.1.1;omega,by have:=this.2.2.2.2.1;omega⟩
theorem SH {a:Xe} (o:a.Ok jY):CfgS a:=by
 obtain ⟨o0,o1,o2,o3⟩:=o;have e:=E5;refine ⟨by have:=o0.1;omega,?_,by have:=o1.1;omega,by have:=o2.1;omega,?_,by have:=o3.1;omega,?_⟩
 ·intro l hl;have h:=o0.2 l hl;refine ⟨by have:=h.1;omega,?_⟩;intro r hr;have h2:=h.2 r hr;simp only [Rw.Ok,Entry.Ok,Xb.Ok] at h2;exact ⟨by have:=h2.2.1.1;omega,by have:=h2.2.2.2.2.1;omega⟩
 ·intro d hd;have h:=o2.2 d hd;simp only [Xb.Ok] at h;have:=h.2.1;omega
 ·intro l hl;have:=(o3.2 l hl).1;omega
theorem TP {x:Case25} (o:x.Ok jY) (hc:(pre x.program.Ya).length<2^40 - 1):Cs26 x.program x.config x.packet:=by
 obtain ⟨op,oc,ok⟩:=o;have e:=E5;refine ⟨TQ op,TO oc,CS_of oc,SH oc,hc,fun v hv=>?_,?_⟩
 ·have:=ok.2.2 v hv;simp only [ok8] at this;omega
 ·have:=ok.2.1;omega
theorem YN {x:Case25} (h:szL [.agg (Case25.c x)]<=jY):(pre x.program.Ya).length<2^40 - 1:=by
 have e:=E5;have h1:=L0 x.program.Ya;simp only [szL,szA,Case25.c] at h;omega
theorem Vy (x:Case25) (o:x.Ok jY) (hc:(pre x.program.Ya).length<2^40 - 1):aB Φ HJ [.agg (Case25.c x)]=some (.val (.bool true)):=by
 have:=R7 (TP o hc) XT;simpa only [x26,Prg.c,Xe.c,Packet.c,Case25.c,j6,oA] using this
end Go.Av
