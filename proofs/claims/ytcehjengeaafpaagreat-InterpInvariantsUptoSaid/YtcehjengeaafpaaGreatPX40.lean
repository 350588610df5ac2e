/-
 The cases of law 26; InterpPure for all of them.
-/
import Derived.Test.YtcehjengeaafpaaGreatPX36
import Derived.Test.YtcehjengeaafpaaGreatW26M
import Derived.Test.YtcehjengeaafpaaGreatRW2
set_option linter.unusedVariables false
set_option linter.unusedSimpArgs false
set_option linter.constructorNameAsVariable false
namespace Go.Av
set_option maxRecDepth 8000
@[ext] structure Case25 where
 program:Prg
 config:Xe
 packet:Packet
def Case25.c (x:Case25):List AV:=[.str x.program.name,.slice 2 (x.program.Xo.map Xi.c),.slice 2 (x.program.Xn.map Fld.c),.slice 3 (x.program.Xl.map Xg.c),.slice 3 (x.program.Xx.map Action.c),.slice 6 (x.program.Xm.map Tbl.c),.slice 7 (x.program.Xw.map Xc.c),.slice 5 (x.program.Ya.map Xa.c),.slice 1 (x.program.Xr.map cI),.slice 1 (x.config.rows.map (cS 5 Rw.c)),.slice 1 (x.config.Xq.map cI),.slice 2 (x.config.Xp.map Xb.c),.slice 1 (x.config.Xl.map (cS 1 c32)),a7 x.packet.port,.slice 1 (x.packet.data.map c8)]
@[simp] theorem Case25.c_length (x:Case25):(Case25.c x).length=15:=by simp [Case25.c]
def Case25.Ok (B:Nat) (x:Case25):Prop:=Prg.Ok B x.program/\Xe.Ok B x.config/\Packet.Ok B x.packet
theorem Case25.rd {P:Go.Program} {B:Nat} {t:TypeId} {f0 f1 f2:Go.Field} (hu:P.underlying t=some (.struct #[f0,f1,f2])) (h0:Rd P B f0.type Prg.c (Prg.Ok B)) (h1:Rd P B f1.type Xe.c (Xe.Ok B)) (h2:Rd P B f2.type Packet.c (Packet.Ok B)):Rd P B t Case25.c (Case25.Ok B):=
 .st hu (h0.q (h1.q h2.o)) fun ⟨a,b,c⟩ h=>⟨⟨a,b,c⟩,by simp [Case25.c,Xe.c,Packet.c,Prg.c],h⟩
theorem CS_of {c:Xe} (o:c.Ok kD):CS c:=by
 have e:=DY;simp only [Xe.Ok,okL,Rw.Ok,Entry.Ok,Xb.Ok] at o;obtain ⟨⟨a1,a2⟩,b,⟨d1,d2⟩,g1,g2⟩:=o;refine ⟨by omega,fun l hl=>⟨by have:=(a2 l hl).1;omega,fun x hx=>?_⟩,by have:=b.1;omega,by omega,fun x hx=>by have:=(d2 x hx).2.1;omega,by omega,fun l hl=>by have:=(g2 l hl).1;omega⟩;have:=(a2 l hl).2 x hx;exact ⟨by have:=this.2.1.1;omega,by have:=this.2.2.2.2.1;omega⟩
theorem S8 {a:Xe} (o:a.Ok kD):CfgS a:=by
 obtain ⟨o0,o1,o2,o3⟩:=o;have e:=DY;refine ⟨by have:=o0.1;omega,?_,by have:=o1.1;omega,by have:=o2.1;omega,?_,by have:=o3.1;omega,?_⟩
 ·intro l hl;have h:=o0.2 l hl;refine ⟨by have:=h.1;omega,?_⟩;intro r hr;have h2:=h.2 r hr;simp only [Rw.Ok,Entry.Ok,Xb.Ok] at h2;exact ⟨by have:=h2.2.1.1;omega,by have:=h2.2.2.2.2.1;omega⟩
 ·intro d hd;have h:=o2.2 d hd;simp only [Xb.Ok] at h;have:=h.2.1;omega
 ·intro l hl;have:=(o3.2 l hl).1;omega
theorem SA {x:Case25} (o:x.Ok kD) (hc:(pre x.program.Ya).length<2^40 - 1):Cs26 x.program x.config x.packet:=by
 obtain ⟨op,oc,ok⟩:=o;have e:=DY;refine ⟨TH op,S9 oc,CS_of oc,S8 oc,hc,fun v hv=>?_,?_⟩
 ·have:=ok.2.2 v hv;simp only [ok8] at this;omega
 ·have:=ok.2.1;omega
theorem YE {x:Case25} {r:List AV} (h:szL (.agg (Case25.c x)::r)<=kD):(pre x.program.Ya).length<2^40 - 1:=by
 have e:=DY;have h1:=KR x.program.Ya;simp only [szL,szA,Case25.c] at h;omega
structure Lft (p:Prg) (c c':Xe):Prop where
 r:c'.rows=c.rows
 n:c'.Xq=c.Xq
 d:c'.Xp=c.Xp
 g:RV p c'.Xl
structure InvR (p:Prg) (c:Xe) (r:Rslt) (c':Xe):Prop where
 t:∀h∈r.hits,0<=h.table/\h.table<p.Xm.length
 w:∀h∈r.hits,0<=h.row
 d:r.hits.Pairwise fun a b=>a.table≠b.table
 c:{ c' with Xl:=c.Xl }=c
 l:r.data.length<=512
 p:0<=r.port/\r.port<=255
 z:r.drop=true->r.port=0/\r.data=[]
theorem Mx (p:Prg) (c:Xe):InvR p c noR c:=by
 refine ⟨?_,?_,?_,rfl,?_,?_,?_⟩<;>simp [noR]
theorem ZV {p:Prg} {c:Xe} (cv:CfgV p c) (t:Int) (e:Envt):0<=((selX p c t e).map (·.id)).getD 0:=by
 cases q:selX p c t e with
 | none=>simp
 | some x=>
  unfold selX at q;rcases Cb _ _ _ _ _ q with h | h
  ·cases hz:at? c.rows t with
   | none=>rw [hz] at h;cases h
   | some l=>
    rw [hz] at h;obtain ⟨i,rfl,hi,rfl⟩:=gN hz;have hkt:i<p.Xm.length:=by rw [<- cv.rl];exact hi
    have:=(CfgV.at cv hkt).pos x h;simp only [B4,iP];omega
  ·cases h
theorem Cw {p:Prg} {c:Xe} (cv:CfgV p c):∀(n:Nat) (l:List Xa) (s:MS),(∀h∈s.hits,0<=h.row)->∀h∈(ctX p c n l s).hits,0<=h.row
 | 0,_,_,h=>h
 | n+1,l,s,h=>MT (P:=fun s:MS=>∀h∈s.hits,0<=h.row) (fun s x hs=>by
   have hap:∀t,∀h∈(apX p c t s).1.hits,0<=h.row:=fun t h hh=>by
    simp only [apX,eV,List.mem_singleton] at hh;rcases hh with hh | rfl
    ·exact hs h hh
    ·exact ZV cv t s.e
   unfold ndX;split
   ·exact Cw cv n _ _ hs
   ·exact Cw cv n _ _ (hap _)) l s h
theorem qxn {p:Prg} (cv:CtV p):∀t∈apl p.Ya,0<=t/\t<p.Xm.length:=fun t ht=>by
 unfold apl at ht;obtain ⟨x,hx,rfl⟩:=iQ.1 ht;obtain ⟨hx1,hx2⟩:=List.mem_filter.1 hx;rcases (cv.n x hx1).1 with h | ⟨_,t,h1,h2⟩
 ·simp [appl,h] at hx2
 ·rw [h1];omega
theorem qxm {p:Prg} (v:VCtl p):(apl p.Ya).Pairwise (· ≠ ·):=by
 unfold apl;rw [List.pairwise_map];have h:(pre p.Ya).Pairwise fun a b=>appl a=true->appl b=true->a.table≠b.table:=IQ.2 fun i j hi hj hij ha hb=>v.one hij (Qa hi) (Qa hj) ha hb
 refine (h.filter _).imp_of_mem fun {a b} ha hb hab=>?_
 exact hab (List.mem_filter.1 ha).2 (List.mem_filter.1 hb).2
theorem R5 {p:Prg} (fs:PrgS p) {c:Xe} (ct:CfgT c) (hc:cfgE p c=0) {k:Packet} {r:Rslt} {rs:List (List Int)} (h:runX p c k=some (r,rs)):InvR p c r { c with Xl:=rs }:=by
 obtain ⟨⟨pk,cv⟩,cf,rv⟩:=Bz fs ct hc;have cg:=(Hr p c).1 hc;have v:=vprog cg.prg;unfold runX at h;split at h
 ·cases h
 split at h
 ·cases h
 rename_i e q;simp only [Option.some.injEq,Prod.mk.injEq] at h;obtain ⟨rfl,rfl⟩:=h;obtain ⟨ev,_⟩:=Eb (fun g hg f hf=>(vhdr (pk.hd g hg)).w f hf) q;have hk:∀x∈pre p.Ya,x.kind=2\/appl x=true:=fun x hx=>by
  rcases (cv.n x hx).1 with h | ⟨h | h,_⟩
  ·exact .inl h
  ·right;simp [appl,h]
  ·right;simp [appl,h.1]
 have hs:=P0 (p:=p) (c:=c) (nest p.Ya) p.Ya ⟨eSet p e (-1) 0 k.port,c.Xl,[]⟩ hk;have hr:=Cw cg (nest p.Ya) p.Ya ⟨eSet p e (-1) 0 k.port,c.Xl,[]⟩ (fun h hh=>by cases hh);have hv:=SV'.ct (p:=p) (c:=c) (nest p.Ya) p.Ya ⟨eSet p e (-1) 0 k.port,c.Xl,[]⟩ ⟨ev.set _ _ _,rv⟩;generalize ctX p c (nest p.Ya) p.Ya ⟨eSet p e (-1) 0 k.port,c.Xl,[]⟩=s at*;obtain ⟨hl,h1,h2⟩:=hs;simp only [nR] at h1;rw [<- h1] at h2;have hh:(resX p s).hits=s.hits:=by unfold resX;split<;>rfl
 refine ⟨fun x hx=>?_,fun x hx=>hr x (by rw [<- hh];exact hx),?_,rfl,?_,?_,?_⟩
 ·rw [hh] at hx;exact qxn cv _ (h2.subset (List.mem_map_of_mem hx))
 ·rw [hh];have:=List.Pairwise.sublist h2 (qxm (vctl v.ct));rw [List.pairwise_map] at this;exact this
 ·unfold resX;split
  ·simp
  ·rename_i hz;simp only;omega
 ·unfold resX;split
  ·simp
  ·simp only;have hm:=v.m3 1 (by decide);have hw:wid p (-1) 1=8:=by
    have:at? p.Xn 1=some (nZ 1):=by
     have:=kX p.Xn 1;simpa [hm] using this
    simp [wid,decl,this,nZ,wBad]
   cases z:at? s.e.metaF 1 with
   | none=>simp
   | some x=>
    have z2:s.e.metaF[1]? =some x:=by
     have:=kX s.e.metaF 1;rw [<- this];exact z
    have:=hv.e.fm 1 x z2;rw [show ((1:Nat):Int)=1 from rfl,hw] at this;simp only [iP];have e8:(2:Int)^(8:Int).toNat=256:=by decide
    rw [e8] at this;omega
 ·intro hd;unfold resX at hd ⊢;split
  ·simp
  ·rename_i hz;rw [QA hz] at hd;cases hd
theorem W0 {p:Prg} (fs:PrgS p) {c:Xe} (ct:CfgT c) {k:Packet} {r:Rslt} {c':Xe} (h:ra (decide (cfgE p c=0)) p c [k]=([r],c')):InvR p c r c':=by
 by_cases hc:cfgE p c=0
 ·cases q:runX p c k with
  | none=>
   simp [hc,ra,runL,q] at h;rw [<- h.1,<- h.2];exact Mx p c
  | some y=>
   obtain ⟨r2,rs⟩:=y;simp [hc,ra,runL,q] at h;rw [<- h.1,<- h.2];exact R5 fs ct hc q
 ·simp [hc,ra] at h;rw [<- h.1,<- h.2];exact Mx p c
theorem V2 {p:Prg} {c:Xe} {k:Packet} (s:Cs26 p c k) (hw:aB Φ zE []=some (.val (.bool true))):aB Φ PF [x26 p c k]=some (.val (.bool true)):=by
 rw [aD rfl rfl];obtain ⟨b,hb⟩:=WD s.fs s.cs;obtain ⟨r,c',hr⟩:=Z2 (decide (cfgE p c=0)) p c k;have hrun:=R8 s.fs s.hc s.ct s.cs (Bz s.fs s.ct) k s.kb hr;have iv:=W0 s.fs s.ct hr;have hhl:r.hits.length<2^30:=VZ (fun h=>(Bz s.fs s.ct (of_decide_eq_true h)).1.2) hr;have heq:=qw2 c c s.sc;have ic:=iv.c;have c1:c'.rows=c.rows:=by rw [<- ic]
 have c2:c'.Xq=c.Xq:=by rw [<- ic]
 have c3:c'.Xp=c.Xp:=by rw [<- ic]
 rw [Prg.c] at hb hrun;simp only [Xe.c,Packet.c,Rslt.c,c1,c2,c3] at hb hrun heq;by_cases hq:b=true\/600<k.data.length
 ·rcases hq with rfl | hq
  ·simp [J3,x26,Prg.c,Xe.c,Packet.c,hb,hw]
  ·cases b<;>simp [J3,x26,Prg.c,Xe.c,Packet.c,hb,hw,hq]
 ·have hb0:b=false:=by cases b with | false=>rfl | true=>exact absurd (.inl rfl) hq
  have hq2:¬600<k.data.length:=fun h=>hq (.inr h)
  subst hb0;simp [J3,x26,Prg.c,Xe.c,Packet.c,hb,hq2,hrun,eE];refine eN r.hits.length (fun i E h=>∃O N a,h=⟨O,N⟩/\look 1 E=some (.iptr 15 [p.c++(c.c++k.c)] 0 0)/\look 3 E=some (.iptr 4 [r.c] 0 0)/\look 4 E=some (.ptr a 4 0 0)/\look 5 E=some (a7 i)/\look a O=some (.row 4 [c.c])) (fun (r:Option Rt)=>r=some (.val (.bool true))) ?_ ?_ 0 _ _ (Qc _) ?_
  rotate_left 2
  ·exact ⟨_,_,1,rfl,by simp [Prg.c,Xe.c,Packet.c],by simp [Rslt.c],by simp,by simp,by simp [Xe.c]⟩
  ·rintro i E _ K hi hK ⟨O,N,a,rfl,e1,e3,e4,e5,la⟩ ih;have hw1:=aQ i (by omega);obtain ⟨t1,t2⟩:=iv.t _ (Qd hi);have t3:=iv.w _ (Qd hi);have n1:¬r.hits[i].table<0:=by omega
   have n2:¬(p.Xm.length:Int)<=r.hits[i].table:=by omega
   have n3:¬r.hits[i].row<0:=by omega
   have hpw:=IQ.1 iv.d;have ne:∀(j:Nat) (hj:j<i),¬r.hits[j].table=r.hits[i].table:=fun j hj=>hpw j i (by omega) hi hj
   rw [Prg.c] at e1;simp only [Xe.c,Packet.c,jD,nR] at e1;simp only [Rslt.c] at e3;simp [c_5_l2,Hit.c,e1,e3,e5,hi,n1,n2,n3];refine eN i (fun j E2 h=>h=⟨O,N⟩/\(∀q,q=1\/q=3\/q=4\/q=5->look q E2=look q E)/\look 6 E2=some (a7 j)) (fun (r:Option Rt)=>r=some (.val (.bool true))) ?_ ?_ 0 _ _ (Qc _) ?_
   rotate_left 2
   ·exact ⟨rfl,by rintro q (rfl | rfl | rfl | rfl)<;>simp,by simp⟩
   ·rintro j E2 _ K2 hj hK2 ⟨rfl,hE,e6⟩ ih2;have hw2:=aQ j (by omega);have g3:=(hE 3 (by simp)).trans e3;have g5:=(hE 5 (by simp)).trans e5;have hjl:j<r.hits.length:=by omega
    have hne:=ne j hj;simp [c_5_l0,Hit.c,g3,g5,e6,hi,hj,hjl,hw2,hne];refine ih2 _ _ ?_;exact ⟨rfl,fun q hq=>by rw [<- hE q hq];rcases hq with rfl | rfl | rfl | rfl<;>simp,by simp⟩
   ·rintro E2 _ K2 hK2 ⟨rfl,hE,e6⟩;have g1:=(hE 1 (by simp)).trans e1;have g3:=(hE 3 (by simp)).trans e3;have g4:=(hE 4 (by simp)).trans e4;have g5:=(hE 5 (by simp)).trans e5;simp [c_5_l0,g5,e6] at hK2 ⊢;rw [hK2];simp [c_5_k1,g5,hw1];refine ih _ _ ⟨O,N,a,rfl,?_⟩;exact ⟨by simp [g1,Prg.c,Xe.c,Packet.c],by simp [g3,Rslt.c],by simp [g4],by simp,la⟩
  ·rintro E _ K hK ⟨O,N,a,rfl,e1,e3,e4,e5,la⟩;rw [Prg.c] at e1;simp only [Xe.c,Packet.c,jD,nR] at e1 la;simp only [Rslt.c] at e3;simp [J3,c_5_l2,e3,e5] at hK ⊢;rw [hK];have d1:=iv.l;have d2:=iv.p.1;have d3:=iv.p.2;have hz:=iv.z;cases q:r.drop with
   | false=>simp [c_5_k3,e1,e3,e4,la,heq,d1,d2,d3,q,hw]
   | true=>
    obtain ⟨z1,z2⟩:=hz q;rw [z1,z2] at e3;simp [c_5_k3,e1,e3,e4,la,heq,q,hw]
theorem Vh (x:Case25) (o:x.Ok kD) (hc:(pre x.program.Ya).length<2^40 - 1):aB Φ PF [.agg (Case25.c x)]=some (.val (.bool true)):=by
 have:=V2 (SA o hc) XK;simpa only [x26,Prg.c,Xe.c,Packet.c,Case25.c,jD,nR] using this
end Go.Av
