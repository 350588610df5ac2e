/-
 The law StoreChecks returns true for every program and every configuration.
-/
import Derived.Test.YtknmfocedphgmaaGreatH11
import Derived.Test.YtknmfocedphgmaaGreatFunsAR
import Derived.KernelRfl
set_option linter.unusedVariables false
set_option linter.unusedSimpArgs false
set_option linter.constructorNameAsVariable false
namespace Go.Av
set_option maxRecDepth 4000
theorem CfgT.s {c:Xf} (t:CfgT c):CfgS c:=
 ⟨t.rl,fun l hl=>⟨(t.rs l hl).1,fun r hr=>⟨((t.rs l hl).2 r hr).kl,((t.rs l hl).2 r hr).al⟩⟩,t.nl,t.dl,fun d hd=>(t.ds d hd).1,t.gl,fun l hl=>(t.gs l hl).1⟩
theorem Nf {l:List Rw} {id:Int} (h:rIdx l id=none):rIx l id= -1:=by simp [rIx,h]
theorem Ng {l:List Rw} {id:Int} {i:Nat} (h:rIdx l id=some i):rIx l id=i:=by simp [rIx,h]
section
variable {p:Prg} (f:PrgS p) (hv:∀t∈p.Xn,∀v∈t.Yc.args,ok32 0 v) {c:Xf} (v:CfgV p c) (s:CfgT c) (t:Int)
include f hv v s
theorem qya (x:Entry) (hx:EntS x):aA Φ sT [.agg (Prg.c p),.agg (Xf.c c),a8 t,.agg (Entry.c x)]=
  some (.val (.tup [.agg (Xf.c (if insE p c t x=0 then insC c t x else c)),a8 (if insE p c t x=0 then tG c t else 0),a8 (insE p c t x)])):=by
 rw [aD rfl rfl];have he:=Nj p f hv t x hx;simp only [Prg.e,Entry.ce] at he;by_cases z0:t<0
 ·have hE:insE p c t x=8:=by simp [insE,inT];omega
  simp [gO,Prg.e,Xf.ce,Entry.ce,hE,z0]
 by_cases z1:(p.Xn.length:Int)<=t
 ·have hE:insE p c t x=8:=by simp [insE,inT];omega
  simp [gO,Prg.e,Xf.ce,Entry.ce,hE,z0,z1]
 obtain ⟨k,rfl⟩:∃k:Nat,t=k:=⟨t.toNat,by omega⟩;have hk:k<p.Xn.length:=by omega
 have hk1:k<c.rows.length:=by rw [v.rl];exact hk
 have hk2:k<c.Xr.length:=by rw [v.nl];exact hk
 have hi:=KN hk;have hkn:¬p.Xn.length<=k:=by omega
 have hrow:iL c (k:Int)=c.rows[k]:=AD hk1;have hnx:tG c (k:Int)=c.Xr[k]:=QO hk2;have hsz:OG p (k:Int)=p.Xn[k].size:=Df hk;have hE:insE p c k x=if entE p k x≠0 then entE p k x else if (c.rows[k].any fun y=>sk y.entry x)=true then 7 else if p.Xn[k].size<=c.rows[k].length\/1073741824<=c.Xr[k] then 13 else 0:=by
  unfold insE;rw [hi,hrow,hnx,hsz];simp
 by_cases y:entE p k x=0
 rotate_left
 ·rw [aE y] at hE;simp [gO,Prg.e,Xf.ce,Entry.ce,hE,hkn,he,y]
 rw [QA (by simpa using y)] at hE;rw [y] at he;have hsl:=s.rs _ (Qd hk1);have htk:=Nv c.rows[k] x hsl.1 fun r hr=>(hsl.2 r hr).kl
 simp only [Entry.ce] at htk;cases w:c.rows[k].any fun y=>sk y.entry x with
 | true=>
  rw [aE w] at hE;rw [w] at htk;simp [gO,Prg.e,Xf.ce,cSe,Entry.ce,hE,hkn,hk1,he,htk]
 | false=>
 rw [QA (by rw [w];decide)] at hE;rw [w] at htk;by_cases u:p.Xn[k].size<=c.rows[k].length
 ·rw [aE (.inl u)] at hE;simp [gO,Prg.e,Xf.ce,cSe,Tbl.e,Entry.ce,hE,hk,hkn,hk1,he,htk,u]
 by_cases q:1073741824<=c.Xr[k]
 ·rw [aE (.inr q)] at hE;simp [gO,Prg.e,Xf.ce,cSe,cIe,Tbl.e,Entry.ce,hE,hk,hkn,hk1,hk2,he,htk,u,q]
 rw [QA (by omega)] at hE;have hvt:=v.at hk;have hrp:=Cx c k (c.rows[k]++[⟨c.Xr[k],x⟩]) (c.Xr[k]+1) hk1 (by rw [v.nl,v.rl]) (by have:=s.rl;omega);have hw:IntKind.wrap .i64 (c.Xr[k]+1)=c.Xr[k]+1:=fG (by have:=hvt.nx0;omega) (by omega);have hci:insC c (k:Int) x=⟨c.rows.set k (c.rows[k]++[⟨c.Xr[k],x⟩]),c.Xr.set k (c.Xr[k]+1),c.Xq,c.Xm⟩:=by
  unfold insC;rw [hrow,hnx];simp
 rw [hE,aE rfl,aE rfl,hci,hnx];generalize hR:Xf.c ⟨c.rows.set k (c.rows[k]++[⟨c.Xr[k],x⟩]),c.Xr.set k (c.Xr[k]+1),c.Xq,c.Xm⟩=R at hrp ⊢;have hRl:R.length=4:=by rw [<- hR];simp
 obtain ⟨r0,r1,r2,r3,rfl⟩:∃r0 r1 r2 r3,R=[r0,r1,r2,r3]:=by
  match R,hRl with
  | [r0,r1,r2,r3],_=>exact ⟨_,_,_,_,rfl⟩
 have hs0:∀H:AH,snap 38 H r0=some r0/\snap 38 H r1=some r1/\snap 38 H r2=some r2/\snap 38 H r3=some r3:=by
  intro H;rw [Xf.ce] at hR;cases hR;simp
 have hal:d9 5 (c.rows[k].map Rw.c)=true:=fX 5 Rw.c _ fun x=>by simp
 have hls:=v.small _ (Qd hk1);have b1:c.rows[k].length*72<=70368744177664:=by omega
 have b2:(c.rows[k].length+1)*72<=70368744177664:=by omega
 simp only [Xf.ce,B5,w9,DY,Rw.ce] at hrp;simp [gO,Prg.e,Xf.ce,cSe,cIe,Tbl.e,Entry.ce,hk,hkn,hk1,hk2,he,htk,u,q,hal,b1,b2,hw,hrp,hs0]
end
section
variable {p:Prg} (f:PrgS p) (hv:∀t∈p.Xn,∀v∈t.Yc.args,ok32 0 v) {c:Xf} (v:CfgV p c) (s:CfgT c) (t:Int)
include f hv v s
theorem qp9 (x:Xb) (hx:x.args.length<2^40) (hr:∀v∈x.args,ok32 0 v):aA Φ sV [.agg (Prg.c p),.agg (Xf.c c),a8 t,.agg (Xb.c x)]=
  some (.val (.tup [.agg (Xf.c (if defE p t x=0 then defC c t x else c)),a8 (defE p t x)])):=by
 rw [aD rfl rfl];have hc:=Et p f hv t x hx hr;simp only [Prg.e,Xb.ce] at hc;by_cases z0:t<0
 ·have hE:defE p t x=8:=by simp [defE,inT];omega
  simp [mX,Prg.e,Xf.ce,Xb.ce,hE,z0]
 by_cases z1:(p.Xn.length:Int)<=t
 ·have hE:defE p t x=8:=by simp [defE,inT];omega
  simp [mX,Prg.e,Xf.ce,Xb.ce,hE,z0,z1]
 obtain ⟨k,rfl⟩:∃k:Nat,t=k:=⟨t.toNat,by omega⟩;have hk:k<p.Xn.length:=by omega
 have hkn:¬p.Xn.length<=k:=by omega
 have hk1:k<c.Xq.length:=by rw [v.dl];exact hk
 have hE:defE p k x=eB p k x:=by simp [defE,KN hk]
 by_cases q:eB p k x=0
 rotate_left
 ·simp [mX,Prg.e,Xf.ce,Xb.ce,hE,hkn,hc,q]
 have hal:d9 2 (c.Xq.map Xb.c)=true:=fX 2 Xb.c _ fun x=>by simp
 have hne:¬c.Xq=[]:=by intro e;rw [e] at hk1;simp at hk1
 have hdl:=s.dl;have b1:c.Xq.length*32<=70368744177664:=by omega
 have hci:defC c (k:Int) x=⟨c.rows,c.Xr,c.Xq.set k x,c.Xm⟩:=by simp [defC]
 rw [q] at hc;rw [hE,q,aE rfl,hci];have hset:∀H,mapO (mapO (snap 37 H)) (((c.Xq.map Xb.c).set k [a8 x.Xz,.slice 1 (x.args.map c32)]).take c.Xq.length)=some ((c.Xq.map Xb.c).set k [a8 x.Xz,.slice 1 (x.args.map c32)]):=by
  intro H;rw [Qo (by simp),<- Xb.ce,<- vL];exact CZ (n:=37) (H:=H) (fun x=>Nq x) _
 simp [mX,Prg.e,Xf.ce,Xb.ce,hkn,hc,hal,hne,b1,hk1,hset]
theorem qx8 (id:Int):aA Φ sU [.agg (Prg.c p),.agg (Xf.c c),a8 t,a8 id]=
  some (.val (.tup [.agg (Xf.c (if delE p c t id=0 then delC c t id else c)),a8 (delE p c t id)])):=by
 have _:=f;have _:=hv;rw [aD rfl rfl];by_cases z0:t<0
 ·have hE:delE p c t id=8:=by simp [delE,inT];omega
  simp [mW,Prg.e,Xf.ce,hE,z0]
 by_cases z1:(p.Xn.length:Int)<=t
 ·have hE:delE p c t id=8:=by simp [delE,inT];omega
  simp [mW,Prg.e,Xf.ce,hE,z0,z1]
 obtain ⟨k,rfl⟩:∃k:Nat,t=k:=⟨t.toNat,by omega⟩;have hk:k<p.Xn.length:=by omega
 have hkn:¬p.Xn.length<=k:=by omega
 have hk1:k<c.rows.length:=by rw [v.rl];exact hk
 have hk2:k<c.Xr.length:=by rw [v.nl];exact hk
 have hrow:iL c (k:Int)=c.rows[k]:=AD hk1;have hls:=v.small _ (Qd hk1);have hix:=Kr c.rows[k] id (by omega);cases hx:rIdx c.rows[k] id with
 | none=>
  have hE:delE p c k id=8:=by simp [delE,KN hk,hrow,hx]
  rw [Nf hx] at hix;simp [mW,Prg.e,Xf.ce,cSe,hE,hkn,hk1,hix]
 | some i=>
  obtain ⟨hi,hid⟩:=NT hx;have hE:delE p c k id=0:=by simp [delE,KN hk,hrow,hx]
  rw [Ng hx] at hix;have hci:delC c (k:Int) id=⟨c.rows.set k (c.rows[k].eraseIdx i),c.Xr.set k c.Xr[k],c.Xq,c.Xm⟩:=by
   unfold delC;rw [hrow,hx];simp
  have hrp:=Cx c k (c.rows[k].eraseIdx i) c.Xr[k] hk1 (by rw [v.nl,v.rl]) (by have:=s.rl;omega);rw [hE,aE rfl,hci];generalize hR:Xf.c ⟨c.rows.set k (c.rows[k].eraseIdx i),c.Xr.set k c.Xr[k],c.Xq,c.Xm⟩=R at hrp ⊢;have hRl:R.length=4:=by rw [<- hR];simp
  obtain ⟨r0,r1,r2,r3,rfl⟩:∃r0 r1 r2 r3,R=[r0,r1,r2,r3]:=by
   match R,hRl with
   | [r0,r1,r2,r3],_=>exact ⟨_,_,_,_,rfl⟩
  have hs0:∀H:AH,snap 38 H r0=some r0/\snap 38 H r1=some r1/\snap 38 H r2=some r2/\snap 38 H r3=some r3:=by
   intro H;rw [Xf.ce] at hR;cases hR;simp
  have a1:i<=c.rows[k].length:=by omega
  have a2:(i:Int)+1<=(c.rows[k].length:Int):=by omega
  have a3:(0:Int)<=(i:Int)+1:=by omega
  have a4:i+1<=c.rows[k].length:=by omega
  have a5:min i c.rows[k].length=i:=by omega
  have hw:IntKind.wrap .i64 ((i:Int)+1)=(i:Int)+1:=fG (by omega) (by omega);have hneg:¬(i:Int)<0:=by omega
  have t1:d9 5 ((c.rows[k].map Rw.c).take i)=true:=by rw [<- JU];exact fX 5 Rw.c _ fun x=>by simp
  have t2:d9 5 ((c.rows[k].map Rw.c).drop (i+1))=true:=by rw [<- List.map_drop];exact fX 5 Rw.c _ fun x=>by simp
  have htk:((c.rows[k].map Rw.c).drop (i+1)).take (c.rows[k].length - (i+1))=(c.rows[k].map Rw.c).drop (i+1):=Qo (by simp);have b1:i*72<=70368744177664:=by omega
  have b2:(i+(c.rows[k].length - (i+1)))*72<=70368744177664:=by omega
  have b3:(c.rows[k].length - (i+1))+(i+1)=c.rows[k].length:=by omega
  rw [List.eraseIdx_eq_take_drop_succ,B5,JU,List.map_drop] at hrp;simp only [Xf.ce] at hrp;simp [mW,Prg.e,Xf.ce,cSe,cIe,hkn,hk1,hk2,hix,hneg,a1,a2,a3,a5,hw,htk,t1,t2,b1,b2,hrp,hs0]
end
theorem qyb {p:Prg} (f:PrgS p) (hv:∀t∈p.Xn,∀v∈t.Yc.args,ok32 0 v) {c:Xf} (v:CfgV p c) (s:CfgT c) (t id:Int) (x:Xb) (hxl:x.args.length<2^40) (hr:∀v∈x.args,ok32 0 v):
  aA Φ nU [.agg (Prg.c p),.agg (Xf.c c),a8 t,a8 id,.agg (Xb.c x)]=
  some (.val (.tup [.agg (Xf.c (if modE p c t id x=0 then modC c t id x else c)),a8 (modE p c t id x)])):=by
 rw [aD rfl rfl];have hc:=Et p f hv t x hxl hr;simp only [Prg.e,Xb.ce] at hc;by_cases z0:t<0
 ·have hE:modE p c t id x=8:=by simp [modE,inT];omega
  simp [kO,Prg.e,Xf.ce,Xb.ce,hE,z0]
 by_cases z1:(p.Xn.length:Int)<=t
 ·have hE:modE p c t id x=8:=by simp [modE,inT];omega
  simp [kO,Prg.e,Xf.ce,Xb.ce,hE,z0,z1]
 obtain ⟨k,rfl⟩:∃k:Nat,t=k:=⟨t.toNat,by omega⟩;have hk:k<p.Xn.length:=by omega
 have hkn:¬p.Xn.length<=k:=by omega
 have hk1:k<c.rows.length:=by rw [v.rl];exact hk
 have hk2:k<c.Xr.length:=by rw [v.nl];exact hk
 have hrow:iL c (k:Int)=c.rows[k]:=AD hk1;have hls:=v.small _ (Qd hk1);have hix:=Kr c.rows[k] id (by omega);cases hx:rIdx c.rows[k] id with
 | none=>
  have hE:modE p c k id x=8:=by simp [modE,KN hk,hrow,hx]
  rw [Nf hx] at hix;simp [kO,Prg.e,Xf.ce,cSe,Xb.ce,hE,hkn,hk1,hix]
 | some i=>
  obtain ⟨hi,hid⟩:=NT hx;have hE:modE p c k id x=eB p k x:=by simp [modE,KN hk,hrow,hx]
  rw [Ng hx] at hix;have hneg:¬(i:Int)<0:=by omega
  by_cases q:eB p k x=0
  rotate_left
  ·simp [kO,Prg.e,Xf.ce,cSe,Xb.ce,hE,hkn,hk1,hix,hneg,hc,q]
  have hci:modC c (k:Int) id x=⟨c.rows.set k (c.rows[k].modify i (gU x)),c.Xr.set k c.Xr[k],c.Xq,c.Xm⟩:=by
   unfold modC;rw [hrow,hx];simp
  have hrp:=Cx c k (c.rows[k].modify i (gU x)) c.Xr[k] hk1 (by rw [v.nl,v.rl]) (by have:=s.rl;omega);rw [hE,q,aE rfl,hci];rw [q] at hc;generalize hR:Xf.c ⟨c.rows.set k (c.rows[k].modify i (gU x)),c.Xr.set k c.Xr[k],c.Xq,c.Xm⟩=R at hrp ⊢;have hRl:R.length=4:=by rw [<- hR];simp
  obtain ⟨r0,r1,r2,r3,rfl⟩:∃r0 r1 r2 r3,R=[r0,r1,r2,r3]:=by
   match R,hRl with
   | [r0,r1,r2,r3],_=>exact ⟨_,_,_,_,rfl⟩
  have hs0:∀H:AH,snap 38 H r0=some r0/\snap 38 H r1=some r1/\snap 38 H r2=some r2/\snap 38 H r3=some r3:=by
   intro H;rw [Xf.ce] at hR;cases hR;simp
  have hal:d9 5 (c.rows[k].map Rw.c)=true:=fX 5 Rw.c _ fun x=>by simp
  have hne:¬c.rows[k]=[]:=by intro e;rw [e] at hi;simp at hi
  have b1:c.rows[k].length*72<=70368744177664:=by omega
  have hlist:(c.rows[k].map Rw.c).set i [a8 c.rows[k][i].id,.slice 2 (c.rows[k][i].entry.keys.map Xi.c),a8 c.rows[k][i].entry.Xt,a8 x.Xz,.slice 1 (x.args.map c32)]=(c.rows[k].modify i (gU x)).map Rw.c:=by
   refine List.ext_getElem (by simp) fun j h1 h2=>?_
   rw [List.getElem_set,Q8,Q8,JO];split
   ·rename_i e;subst e;simp [Rw.ce,gU]
   ·simp
  have t1:∀H,mapO (mapO (snap 39 H)) (c.rows[k].map Rw.c)=some (c.rows[k].map Rw.c):=fun H=>CZ (n:=39) (H:=H) (fun x=>SG x) _
  have hns:anyL (bor 40) ((c.rows[k].modify i (gU x)).map Rw.c).flatten=false:=by
   have:∀l:List Rw,anyL (bor 40) (l.map Rw.c).flatten=false:=by
    intro l
    induction l with
    | nil=>rfl
    | cons a l ih=>
     have ha:∀(xs ys:List AV),anyL (bor 40) xs=false->anyL (bor 40) ys=false->anyL (bor 40) (xs++ys)=false:=by
      intro xs ys
      induction xs with
      | nil=>intro _ h;exact h
      | cons b xs ih2=>
       intro h1 h2;simp only [qI,anyL,BT] at h1 ⊢;exact ⟨h1.1,ih2 h1.2 h2⟩
     simp only [w9,Q7];exact ha _ _ (by simp [Rw.ce]) ih
   exact this _
  have t2:∀H,mapO (mapO (snap 40 H)) ((c.rows[k].modify i (gU x)).map Rw.c)=some ((c.rows[k].modify i (gU x)).map Rw.c):=fun H=>CZ (n:=40) (H:=H) (fun x=>SG x) _
  have t3:((c.rows[k].modify i (gU x)).map Rw.c).take c.rows[k].length=(c.rows[k].modify i (gU x)).map Rw.c:=Qo (by simp);have t4:(c.rows[k].map Rw.c).take c.rows[k].length=c.rows[k].map Rw.c:=Qo (by simp);simp only [Xf.ce] at hrp;generalize hml:(c.rows[k].modify i (gU x)).map Rw.c=ml at hlist hrp hns t2 t3;have hmll:ml.length=c.rows[k].length:=by rw [<- hml];simp
  simp [kO,Prg.e,Xf.ce,cSe,cIe,Xb.ce,hkn,hk1,hk2,hix,hneg,hc,hal,hne,b1,hi,Rw.ce,hlist,AG,BH,hns,t1,t2,t3,t4,hmll,hrp,hs0]
def xoE (p:Prg) (c:Xf) (o:Xc):Int:=if o.kind=1 then insE p c o.table o.entry else if o.kind=2 then modE p c o.table o.id o.call else if o.kind=3 then delE p c o.table o.id else if o.kind=4 then defE p o.table o.call else 11
def xoD (c:Xf) (o:Xc):Xf:=if o.kind=1 then insC c o.table o.entry else if o.kind=2 then modC c o.table o.id o.call else if o.kind=3 then delC c o.table o.id else defC c o.table o.call
def xoC (p:Prg) (c:Xf) (o:Xc):Xf:=if xoE p c o=0 then xoD c o else c
def xoI (p:Prg) (c:Xf) (o:Xc):Int:=if xoE p c o=0/\o.kind=1 then tG c o.table else 0
structure CallS (x:Xb):Prop where
 al:x.args.length<2^40
 ar:∀v∈x.args,ok32 0 v
structure OpS (o:Xc):Prop where
 e:EntS o.entry
 c:CallS o.call
theorem Ga {o:Xc} (h:o.Ok dO):OpS o:=by
 have e:=CW;simp only [Xc.Ok,Entry.Ok,Xb.Ok] at h;obtain ⟨_,_,_,⟨h1,_,_,h2⟩,_,h3⟩:=h;exact ⟨⟨by have:=h1.1;omega,fun m hm=>h1.2 m hm,by have:=h2.1;omega,fun v hv=>h2.2 v hv⟩,⟨by have:=h3.1;omega,fun v hv=>h3.2 v hv⟩⟩
theorem NC {p:Prg} {c:Xf} (v:CfgV p c) (o:Xc):CfgV p (xoC p c o):=by
 unfold xoC;split
 ·rename_i h;unfold xoE at h;unfold xoD;split
  ·rename_i h1;rw [aE h1] at h;exact YR v h
  rename_i h1;rw [QA h1] at h;split
  ·rename_i h2;rw [aE h2] at h;exact YV v h
  rename_i h2;rw [QA h2] at h;split
  ·rename_i h3;rw [aE h3] at h;exact XA v h
  rename_i h3;rw [QA h3] at h;by_cases h4:o.kind=4
  ·rw [aE h4] at h;exact X9 v h
  ·rw [QA h4] at h;cases h
 ·exact v
theorem CfgT.mk_rows {p:Prg} {c c':Xf} (s:CfgT c) (v':CfgV p c') (hp:p.Xn.length<2^40) (hr:∀l∈c'.rows,∀r∈l,rowS r) (hd:∀d∈c'.Xq,d.args.length<2^40/\∀v∈d.args,ok32 0 v) (hg:c'.Xm=c.Xm):CfgT c':=by
 refine ⟨by rw [v'.rl];exact hp,fun l hl=>⟨by have:=v'.small l hl;omega,hr l hl⟩,by rw [v'.nl];exact hp,by rw [v'.dl];exact hp,hd,by rw [hg];exact s.gl,by rw [hg];exact s.gs⟩
theorem qyj {c:Xf} {t:Int} {r:Rw} (h:r∈iL c t):∃l∈c.rows,r∈l:=by
 unfold iL at h;cases ha:at? c.rows t with
 | none=>rw [ha] at h;cases h
 | some l=>
  rw [ha] at h;refine ⟨l,?_,h⟩;unfold at? at ha;split at ha
  ·cases ha
  ·exact Qe ha
theorem xoC_t {p:Prg} {c:Xf} (v:CfgV p c) (s:CfgT c) (hp:p.Xn.length<2^40) (o:Xc) (ho:OpS o):CfgT (xoC p c o):=by
 have v':=NC v o;unfold xoC at v' ⊢;split
 rotate_left
 ·exact s
 rename_i h;rw [aE h] at v';have old:∀l∈c.rows,∀r∈l,rowS r:=fun l hl=>(s.rs l hl).2
 have oldA:∀r∈iL c o.table,rowS r:=fun r hr=>by
  obtain ⟨l,hl,hr⟩:=qyj hr;exact old l hl r hr
 unfold xoD at v' ⊢;split
 ·rename_i h1;rw [aE h1] at v';refine s.mk_rows v' hp ?_ s.ds rfl;intro l hl r hr;simp only [insC] at hl;rcases Qq hl with hl | rfl
  ·exact old l hl r hr
  ·rcases eU.1 hr with hr | hr
   ·exact oldA r hr
   ·simp at hr;subst hr;exact ho.e
 rename_i h1;rw [QA h1] at v';split
 ·rename_i h2;rw [aE h2] at v';unfold modC at v' ⊢;split
  ·rename_i i hi;rw [hi] at v';refine s.mk_rows v' hp ?_ s.ds rfl;intro l hl r hr;rcases Qq hl with hl | rfl
   ·exact old l hl r hr
   ·obtain ⟨j,hj,rfl⟩:=Qn.1 hr;rw [JO];have hj':j<(iL c o.table).length:=by simpa using hj
    have h0:=oldA _ (Qd hj');split
    ·exact ⟨h0.kl,h0.ks,ho.c.al,ho.c.ar⟩
    ·exact h0
  ·exact s
 rename_i h2;rw [QA h2] at v';split
 ·rename_i h3;rw [aE h3] at v';unfold delC at v' ⊢;split
  ·rename_i i hi;rw [hi] at v';refine s.mk_rows v' hp ?_ s.ds rfl;intro l hl r hr;rcases Qq hl with hl | rfl
   ·exact old l hl r hr
   ·exact oldA r ((List.eraseIdx_sublist _ _).subset hr)
  ·exact s
 ·rename_i h3;rw [QA h3] at v';refine s.mk_rows v' hp old ?_ rfl;intro d hd;simp only [defC] at hd;rcases Qq hd with hd | rfl
  ·exact s.ds d hd
  ·exact ⟨ho.c.al,ho.c.ar⟩
inductive RunR where
 | ok (c:Xf) (ids:List Int)
 | err (i:Nat) (e:Int)
def xoF (p:Prg) (c:Xf) (l:List Xc):Xf:=l.foldl (xoC p) c
theorem Xc.ce2 (x:Xc):Xc.c x=[a8 x.kind,a8 x.table,a8 x.id,.slice 2 (x.entry.keys.map Xi.c),a8 x.entry.Xt,a8 x.entry.call.Xz,.slice 1 (x.entry.call.args.map c32),a8 x.call.Xz,.slice 1 (x.call.args.map c32)]:=by simp [Xc.c]
theorem cfg4 (c:Xf):∃r0 r1 r2 r3,Xf.c c=[r0,r1,r2,r3]/\(∀(H:AH),(snap 37 H r0=some r0/\snap 37 H r1=some r1/\snap 37 H r2=some r2/\snap 37 H r3=some r3)/\(snap 38 H r0=some r0/\snap 38 H r1=some r1/\snap 38 H r2=some r2/\snap 38 H r3=some r3)/\(snap 39 H r0=some r0/\snap 39 H r1=some r1/\snap 39 H r2=some r2/\snap 39 H r3=some r3)/\(snap 40 H r0=some r0/\snap 40 H r1=some r1/\snap 40 H r2=some r2/\snap 40 H r3=some r3))/\(bor 37 r0=false/\bor 37 r1=false/\bor 37 r2=false/\bor 37 r3=false)/\(bor 38 r0=false/\bor 38 r1=false/\bor 38 r2=false/\bor 38 r3=false)/\(bor 39 r0=false/\bor 39 r1=false/\bor 39 r2=false/\bor 39 r3=false)/\(bor 40 r0=false/\bor 40 r1=false/\bor 40 r2=false/\bor 40 r3=false):=by
 refine ⟨_,_,_,_,Xf.ce c,fun H=>⟨?_,?_,?_,?_⟩,?_,?_,?_,?_⟩<;>simp
theorem WI {p:Prg} (f:PrgS p) (hv:∀t∈p.Xn,∀v∈t.Yc.args,ok32 0 v) {c:Xf} (v:CfgV p c) (s:CfgT c) (o:Xc) (ho:OpS o):
  aA Φ zB [.agg (Prg.c p),.agg (Xf.c c),.agg (Xc.c o)]=some (.val (.tup [.agg (Xf.c (xoC p c o)),a8 (xoI p c o),a8 (xoE p c o)])):=by
 rw [aD rfl rfl];obtain ⟨r0,r1,r2,r3,hR,hs,hs2⟩:=cfg4 (xoC p c o);obtain ⟨q0,q1,q2,q3,hC,hq,hq2⟩:=cfg4 c;by_cases z1:o.kind=1
 ·have h:=qya f hv v s o.table o.entry ho.e;have e1:xoE p c o=insE p c o.table o.entry:=by simp [xoE,z1]
  have e2:(if insE p c o.table o.entry=0 then insC c o.table o.entry else c)=xoC p c o:=by simp [xoC,e1,xoD,z1]
  have e3:(if insE p c o.table o.entry=0 then tG c o.table else 0)=xoI p c o:=by simp [xoI,e1,z1]
  rw [e2,e3,<- e1] at h;rw [hR,hC] at h ⊢;simp only [Prg.e,Entry.ce] at h;simp [kL,Prg.e,Xc.ce2,z1,h,hs,hq,hq2]
 by_cases z2:o.kind=2
 ·have h:=qyb f hv v s o.table o.id o.call ho.c.al ho.c.ar;have e1:xoE p c o=modE p c o.table o.id o.call:=by simp [xoE,z2]
  have e2:(if modE p c o.table o.id o.call=0 then modC c o.table o.id o.call else c)=xoC p c o:=by simp [xoC,e1,xoD,z2]
  have e3:xoI p c o=0:=by simp [xoI,z1]
  rw [e2,<- e1] at h;rw [e3,hR,hC] at*;simp only [Prg.e,Xb.ce] at h;simp [kL,Prg.e,Xc.ce2,z2,h,hs,hs2,hq,hq2]
 by_cases z3:o.kind=3
 ·have h:=qx8 f hv v s o.table o.id;have e1:xoE p c o=delE p c o.table o.id:=by simp [xoE,z3]
  have e2:(if delE p c o.table o.id=0 then delC c o.table o.id else c)=xoC p c o:=by simp [xoC,e1,xoD,z3]
  have e3:xoI p c o=0:=by simp [xoI,z1]
  rw [e2,<- e1] at h;rw [e3,hR,hC] at*;simp only [Prg.e] at h;simp [kL,Prg.e,Xc.ce2,z3,h,hs,hs2,hq,hq2]
 by_cases z4:o.kind=4
 ·have h:=qp9 f hv v s o.table o.call ho.c.al ho.c.ar;have e1:xoE p c o=defE p o.table o.call:=by simp [xoE,z4]
  have e2:(if defE p o.table o.call=0 then defC c o.table o.call else c)=xoC p c o:=by simp [xoC,e1,xoD,z4]
  have e3:xoI p c o=0:=by simp [xoI,z1]
  rw [e2,<- e1] at h;rw [e3,hR,hC] at*;simp only [Prg.e,Xb.ce] at h;simp [kL,Prg.e,Xc.ce2,z4,h,hs,hs2,hq,hq2]
 ·have e1:xoE p c o=11:=by simp [xoE,z1,z2,z3,z4]
  have e2:xoC p c o=c:=by simp [xoC,e1]
  have e3:xoI p c o=0:=by simp [xoI,z1]
  rw [e1,e2,e3,hC];simp [kL,Prg.e,Xc.ce2,z1,z2,z3,z4,hq,hq2]
def cfgN (p:Prg) (c:Xf) (l:List Xc) (i:Nat):Xf:=xoF p c (l.take i)
def idN (p:Prg) (c:Xf) (l:List Xc) (i:Nat):Int:=match l[i]? with
 | some o=>xoI p (cfgN p c l i) o
 | none=>0
def badF (p:Prg):Xf->List Xc->Nat->Option (Nat×Int)
 | _,[],_=>none
 | c,o::l,i=>if xoE p c o=0 then badF p (xoC p c o) l (i+1) else some (i,xoE p c o)
theorem NQ (p:Prg) (c:Xf) (l:List Xc):cfgN p c l 0=c:=by simp [cfgN,xoF]
theorem NO (p:Prg) (c:Xf) (l:List Xc) {i:Nat} (h:i<l.length):cfgN p c l (i+1)=xoC p (cfgN p c l i) l[i]:=by
 simp only [cfgN,xoF,Qh h,List.foldl_append,List.foldl_cons,List.foldl_nil]
theorem O6 {p:Prg} {c:Xf} (v:CfgV p c) (s:CfgT c) (hp:p.Xn.length<2^40) (l:List Xc) (hl:∀o∈l,OpS o):∀i,CfgV p (cfgN p c l i)/\CfgT (cfgN p c l i)
 | 0=>by rw [NQ];exact ⟨v,s⟩
 | i+1=>by
  have ih:=O6 v s hp l hl i;by_cases h:i<l.length
  ·rw [NO p c l h];exact ⟨NC ih.1 _,xoC_t ih.1 ih.2 hp _ (hl _ (Qd h))⟩
  ·have:cfgN p c l (i+1)=cfgN p c l i:=by
    unfold cfgN;rw [Qo (by omega),Qo (by omega)]
   rw [this];exact ih
def LD (p:Prg) (c:Xf) (l:List Xc) (i:Nat):List AV:=[.slice 4 ((List.range (i+1)).map fun j=>Xf.c (cfgN p c l j)),.slice 1 ((List.range i).map fun j=>cI (idN p c l j))]
def noH:List AV:=[.slice 4 [],.slice 1 []]
def LE (p:Prg) (c:Xf) (l:List Xc) (i:Nat):List AV:=[.Xu 4 ((List.range (i+1)).map fun j=>Xf.c (cfgN p c l j)),.Xu 1 ((List.range i).map fun j=>cI (idN p c l j))]
def runA (p:Prg) (c:Xf) (l:List Xc):Rt:=
 if cfgE p c≠0 then .val (.tup [.agg noH,a8 (-1),a8 (cfgE p c)])
 else if 64<l.length then .val (.tup [.agg noH,a8 (-1),a8 12])
 else match badF p c l 0 with
  | some (k,e)=> .val (.tup [.agg noH,.int .i64 k,.int .i64 e])
  | none=> .val (.tup [.agg (LD p c l l.length),.int .i64 0,.int .i64 0])
theorem ZQ (p:Prg) (f:PrgS p) (hv:∀t∈p.Xn,∀v∈t.Yc.args,ok32 0 v) (hc:PC p) (hp:p.Xn.length<2^40) {c:Xf} (s:CfgT c) (l:List Xc) (hll:l.length<2^40) (hl:∀o∈l,OpS o):
  aA Φ yO [.agg (Prg.c p),.agg (Xf.c c),.slice 9 (l.map Xc.c)]=some (runA p c l):=by
 rw [aD rfl rfl];have hk:=RF p f hv hc c s;obtain ⟨q0,q1,q2,q3,hC,hq,hq2⟩:=cfg4 c;by_cases z:cfgE p c=0
 case neg=>
  have hR:runA p c l= .val (.tup [.agg noH,a8 (-1),a8 (cfgE p c)]):=by simp [runA,z]
  rw [hR];rw [hC] at hk ⊢;simp only [Prg.e] at hk;simp [qR,Prg.e,hk,hq,hq2,z,noH]
 have v:=(ID p c).1 z;by_cases z2:64<l.length
 ·have hR:runA p c l= .val (.tup [.agg noH,a8 (-1),a8 12]):=by simp [runA,z,z2]
  rw [hR];rw [hC] at hk ⊢;have z3:(64:Int)<(l.length:Int):=by omega
  simp only [Prg.e] at hk;simp [qR,Prg.e,hk,hq,hq2,z,z3,noH]
 generalize hR:runA p c l=R;have z3:¬(64:Int)<(l.length:Int):=by omega
 rw [hC] at hk ⊢;simp only [Prg.e] at hk;simp [qR,Prg.e,hk,hq,hq2,z,z3];have h0:LE p c l 0=[.Xu 4 [[q0,q1,q2,q3]],.Xu 1 []]:=by simp [LE,NQ,hC]
 rw [<- h0];refine GD l.length (fun i e h=>(∃n,2<=n/\((h=⟨[(0,.row 2 [[.Xu 4 [],.Xu 1 []]]),(1,.row 2 [LE p c l i])],n⟩)\/∃A B,2<=A/\A<B/\B<n/\h=⟨[(0,.row 2 [[.Xu 4 [],.Xu 1 []]]),(1,.row 2 [[.app 4 ((List.range (i+1)).map fun j=>Xf.c (cfgN p c l j)) A,.app 1 ((List.range i).map fun j=>cI (idN p c l j)) B]]),(A,.tok 4 (i+1)),(B,.tok 1 i)],n⟩))/\badF p c l 0=badF p (cfgN p c l i) (l.drop i) i/\look 2 e=some (.slice 9 (l.map Xc.c))/\look 3 e=some (.iptr 9 [Prg.c p] 0 0)/\look 6 e=some (.ptr 0 2 0 0)/\look 10 e=some (.ptr 1 2 0 0)/\look 11 e=some (a8 i)) (fun _=>some R) ?_ ?_ 0 _ _ (Qc _) ?_
 ·rintro i e h L hi hL ⟨⟨n,hn,hh⟩,hb,e2,e3,e6,e10,e11⟩ ih;obtain ⟨vi,si⟩:=O6 v s hp l hl i;have hx:=WI f hv vi si l[i] (hl _ (Qd hi));obtain ⟨r0,r1,r2,r3,hD,hr,hr2⟩:=cfg4 (cfgN p c l i);obtain ⟨s0,s1,s2,s3,hE,hs,hs2⟩:=cfg4 (xoC p (cfgN p c l i) l[i]);rw [hD,hE] at hx;have h1:(i:Int)<(i:Int)+1:=by omega
  have hw:=aL i (by omega);have hm:(List.map (fun j=>Xf.c (cfgN p c l j)) (List.range (i+1)))[i]? =some [r0,r1,r2,r3]:=by simp [hD]
  have t0:∀k,¬(n+k=0):=fun k=>by omega
  have t1:∀k,¬(n+k=1):=fun k=>by omega
  have t2:¬n=0:=by omega
  have t3:¬n=1:=by omega
  have hb2:badF p (cfgN p c l i) (l.drop i) i=if xoE p (cfgN p c l i) l[i]=0 then badF p (xoC p (cfgN p c l i) l[i]) (l.drop (i+1)) (i+1) else some (i,xoE p (cfgN p c l i) l[i]):=by
   rw [Qi hi,badF]
  rw [hb2] at hb;generalize hml:List.map (fun j=>Xf.c (cfgN p c l j)) (List.range (i+1))=ml at hm;have hmi:i<ml.length:=by rw [<- hml];simp
  have hlen:ml.length=i+1:=by rw [<- hml];simp
  have h96:(i+1+1)*96<=70368744177664:=by omega
  have h8:(i+1)*8<=70368744177664:=by omega
  generalize hil:List.map (fun j=>cI (idN p c l j)) (List.range i)=il;have hill:il.length=i:=by rw [<- hil];simp
  have hm':ml[i]=[r0,r1,r2,r3]:=by rw [Qa hmi] at hm;exact Option.some.inj hm
  simp only [Prg.e,Xc.ce2] at hx;by_cases zi:xoE p (cfgN p c l i) l[i]=0
  ·rw [aE zi,<- NO p c l hi] at hb;rw [zi] at hx;have hr1:List.map (fun j=>Xf.c (cfgN p c l j)) (List.range (i+1+1))=ml++[[s0,s1,s2,s3]]:=by
    rw [List.range_succ,B5,hml,List.map_singleton,NO p c l hi,hE]
   have hr2':List.map (fun j=>cI (idN p c l j)) (List.range (i+1))=il++[[a8 (xoI p (cfgN p c l i) l[i])]]:=by
    rw [List.range_succ,B5,hil,List.map_singleton];simp [idN,hi,cI]
   rcases hh with rfl | ⟨A,B,hA,hAB,hBn,rfl⟩
   ·simp [c_156_l0,e2,e3,e10,e11,hi,LE,hml,hil,hill,hlen,h1,hm',Prg.e,hx,hr,hr2,hs,hs2,Xc.ce2,t2,hw,h96,h8];refine ih _ _ ⟨⟨n+12+1+1+1,by omega,.inr ⟨n+12+1,n+12+1+1,by omega,by omega,by omega,by rw [hr1,hr2']⟩⟩,hb,?_⟩;simp [e2,e3,e6,e10]
   ·have g0:¬A=0:=by omega
    have g1:¬A=1:=by omega
    have g2:¬B=0:=by omega
    have g3:¬B=1:=by omega
    have g4:¬B=A:=by omega
    have g5:∀k,¬(n+k=A):=fun k=>by omega
    have g6:∀k,¬(n+k=B):=fun k=>by omega
    have g7:¬n=A:=by omega
    have g8:¬n=B:=by omega
    have i0:¬0=A:=by omega
    have i1:¬1=A:=by omega
    have i2:¬0=B:=by omega
    have i3:¬1=B:=by omega
    have i4:¬A=B:=by omega
    have g9:∀k,¬(A=n+k):=fun k=>by omega
    have g10:∀k,¬(B=n+k):=fun k=>by omega
    simp [c_156_l0,e2,e3,e10,e11,hi,hml,hil,hill,hlen,h1,hm',Prg.e,hx,hr,hr2,hs,hs2,Xc.ce2,t2,hw,h96,h8,g9,g10,i0,i1,i2,i3,i4];refine ih _ _ ⟨⟨n+12+1,by omega,.inr ⟨A,B,hA,hAB,by omega,by rw [hr1,hr2']⟩⟩,hb,?_⟩;simp [e2,e3,e6,e10]
  ·rw [QA zi] at hb;have hR':R= .val (.tup [.agg noH,a8 i,a8 (xoE p (cfgN p c l i) l[i])]):=by
    rw [<- hR];simp [runA,z,z2,hb]
   rw [hR'];rcases hh with rfl | ⟨A,B,hA,hAB,hBn,rfl⟩
   ·simp [c_156_l0,e2,e3,e6,e10,e11,hi,LE,hml,hil,hlen,h1,hm',Prg.e,hx,hr,hr2,hs,hs2,Xc.ce2,zi,t2,noH]
   ·have g0:¬A=0:=by omega
    have g1:¬A=1:=by omega
    have g2:¬B=0:=by omega
    have g3:¬B=1:=by omega
    have g4:¬B=A:=by omega
    have g5:∀k,¬(n+k=A):=fun k=>by omega
    have g6:∀k,¬(n+k=B):=fun k=>by omega
    have g7:¬n=A:=by omega
    have g8:¬n=B:=by omega
    have i0:¬0=A:=by omega
    have i1:¬1=A:=by omega
    have i2:¬0=B:=by omega
    have i3:¬1=B:=by omega
    have i4:¬A=B:=by omega
    have g9:∀k,¬(A=n+k):=fun k=>by omega
    have g10:∀k,¬(B=n+k):=fun k=>by omega
    simp [c_156_l0,e2,e3,e6,e10,e11,hi,hml,hil,hlen,h1,hm',Prg.e,hx,hr,hr2,hs,hs2,Xc.ce2,zi,t2,noH,g9,g10]
 ·rintro e h L hL ⟨⟨n,hn,hh⟩,hb,e2,e3,e6,e10,e11⟩;have hR':R= .val (.tup [.agg (LD p c l l.length),a8 0,a8 0]):=by
   rw [<- hR];simp [runA,z,z2,hb,badF]
  rw [hR'];rcases hh with rfl | ⟨A,B,hA,hAB,hBn,rfl⟩
  ·simp [c_156_l0,c_156_k1,e2,e6,e10,e11,hL,LE,LD]
  ·simp [c_156_l0,c_156_k1,e2,e6,e10,e11,hL,LD]
 ·refine ⟨⟨2,Qb _,.inl rfl⟩,?_⟩;simp [NQ,Prg.e]
def noC:List AV:=[.slice 1 [],.slice 1 [],.slice 2 [],.slice 1 []]
def badA (p:Prg) (c:Xf) (l:List Xc):Option (Int×Int):=
 if cfgE p c≠0 then some (-1,cfgE p c) else if 64<l.length then some (-1,12) else (badF p c l 0).map fun x=>((x.1:Int),x.2)
def appA (p:Prg) (c:Xf) (l:List Xc):AV:=match badA p c l with
 | some (k,e)=> .tup [.agg noC,.slice 1 [],.int .i64 k,.int .i64 e]
 | none=> .tup [.agg (Xf.c (cfgN p c l l.length)),.slice 1 ((List.range l.length).map fun j=>cI (idN p c l j)),.int .i64 0,.int .i64 0]
theorem WP {p:Prg} {c:Xf} {l:List Xc} {k e:Int} (h:badA p c l=some (k,e)):runA p c l= .val (.tup [.agg noH,a8 k,a8 e]):=by
 unfold badA at h;unfold runA;by_cases z:cfgE p c=0
 case neg=>simp only [ne_eq,z,not_false_eq_true,if_true,Option.some.injEq,Prod.mk.injEq] at h ⊢;rw [<- h.1,<- h.2]
 by_cases z2:64<l.length
 ·simp only [ne_eq,z,not_true,if_false,z2,if_true,Option.some.injEq,Prod.mk.injEq] at h ⊢;rw [<- h.1,<- h.2]
 ·simp only [ne_eq,z,not_true,if_false,z2] at h ⊢;cases hb:badF p c l 0 with
  | none=>simp [hb] at h
  | some x=>simp only [hb,vK,Option.some.injEq,Prod.mk.injEq] at h;obtain ⟨h1,h2⟩:=h;subst h1;subst h2;rfl
theorem TM {p:Prg} {c:Xf} {l:List Xc} (h:badA p c l=none):runA p c l= .val (.tup [.agg (LD p c l l.length),a8 0,a8 0]):=by
 unfold badA at h;unfold runA;by_cases z:cfgE p c=0
 case neg=>simp [z] at h
 by_cases z2:64<l.length
 ·simp [z,z2] at h
 ·simp only [ne_eq,z,not_true,if_false,z2] at h ⊢;cases hb:badF p c l 0 with
  | none=>rfl
  | some x=>simp [hb] at h
theorem Fg {p:Prg} {k:Nat} {e:Int}:∀{l:List Xc} {c:Xf} {i:Nat},badF p c l i=some (k,e)->e≠0
 | [],_,_,h=>by simp [badF] at h
 | o::l,c,i,h=>by
  unfold badF at h;by_cases z:xoE p c o=0
  ·rw [aE z] at h;exact Fg h
  ·rw [QA z] at h;simp only [Option.some.injEq,Prod.mk.injEq] at h;rw [<- h.2];exact z
theorem RP {p:Prg} {c:Xf} {l:List Xc} {k e:Int} (h:badA p c l=some (k,e)):e≠0:=by
 unfold badA at h;by_cases z:cfgE p c=0
 case neg=>simp only [ne_eq,z,not_false_eq_true,if_true,Option.some.injEq,Prod.mk.injEq] at h;rw [<- h.2];exact z
 by_cases z2:64<l.length
 ·simp only [ne_eq,z,not_true,if_false,z2,if_true,Option.some.injEq,Prod.mk.injEq] at h;rw [<- h.2];decide
 ·simp only [ne_eq,z,not_true,if_false,z2] at h;cases hb:badF p c l 0 with
  | none=>simp [hb] at h
  | some x=>simp only [hb,vK,Option.some.injEq,Prod.mk.injEq] at h;rw [<- h.2];exact Fg (k:=x.1) (e:=x.2) hb
theorem U5 (p:Prg) (f:PrgS p) (hv:∀t∈p.Xn,∀v∈t.Yc.args,ok32 0 v) (hc:PC p) (hp:p.Xn.length<2^40) {c:Xf} (s:CfgT c) (l:List Xc) (hll:l.length<2^40) (hl:∀o∈l,OpS o):
  aA Φ I7 [.agg (Prg.c p),.agg (Xf.c c),.slice 9 (l.map Xc.c)]=some (.val (appA p c l)):=by
 rw [aD rfl rfl];have hr:=ZQ p f hv hc hp s l hll hl;obtain ⟨q0,q1,q2,q3,hC,hq,hq2⟩:=cfg4 c;cases hb:badA p c l with
 | some x=>
  obtain ⟨k,e⟩:=x;have he:=RP hb;rw [WP hb] at hr;rw [show appA p c l= .tup [.agg noC,.slice 1 [],a8 k,a8 e] by simp only [appA,hb]];rw [hC] at hr ⊢;simp only [Prg.e,noH] at hr;simp [HS,Prg.e,hr,hq,hq2,he,noC]
 | none=>
  rw [TM hb] at hr;rw [show appA p c l= .tup [.agg (Xf.c (cfgN p c l l.length)),.slice 1 ((List.range l.length).map fun j=>cI (idN p c l j)),a8 0,a8 0] by simp only [appA,hb]];obtain ⟨r0,r1,r2,r3,hD,hs,hs2⟩:=cfg4 (cfgN p c l l.length);rw [hC] at hr ⊢;rw [hD];have hm:(List.map (fun j=>Xf.c (cfgN p c l j)) (List.range (l.length+1)))[l.length]? =some [r0,r1,r2,r3]:=by simp [hD]
  simp only [LD] at hr;generalize hml:List.map (fun j=>Xf.c (cfgN p c l j)) (List.range (l.length+1))=ml at hm hr;have hmi:l.length<ml.length:=by rw [<- hml];simp
  have hm':ml[l.length]=[r0,r1,r2,r3]:=by rw [Qa hmi] at hm;exact Option.some.inj hm
  simp only [Prg.e] at hr;simp [HS,Prg.e,hr,hq,hq2,hmi,hm',hs]
def noE:Entry:=⟨[],0,⟨0,[]⟩⟩
def osum (a:Nat):Nat->Nat
 | 0=>0
 | i+1=>osum a i+a / 2^i % 2
theorem Pn (a:Nat):∀i,osum a i<=i
 | 0=>Qb _
 | i+1=>by have:=Pn a i;simp only [osum];omega
def OL (v:Int):Int:=(osum v.toNat 32:Nat)
theorem WL (n:Nat) (hn:n<2^32):aA Φ tC [.int .u32 (n:Int)]=some (.val (a8 (osum n 32:Nat))):=by
 rw [aD rfl rfl];simp [G2];refine iJ 32 (fun i e=>look 0 e=some (.int .u32 ((n / 2^i:Nat):Int))/\look 3 e=some (a8 (osum n i:Nat))/\look 4 e=some (a8 i)) (fun _=>some (Rt.val (a8 (osum n 32:Nat)))) ?_ ?_ 0 _ (Qc _) ?_
 ·rintro i e L hi hL ⟨h0,h3,h5⟩ ih;have hw:=aL i (by omega);have hb:=Pn n i;have hq:osum n (i+1)=osum n i+n / 2^i % 2:=rfl;have hd:n / 2^(i+1)=n / 2^i / 2:=by rw [Nat.pow_succ,Nat.div_div_eq_div_mul]
  have hle:n / 2^i<=n:=Nat.div_le_self _ _;generalize n / 2^i=q at*;have hm:(q:Int).tmod 2=(q:Int) % 2:=JM (by omega);have hv:(q:Int).tdiv 2=(q:Int) / 2:=LJ (by omega);have hc:IntKind.wrap .i64 ((q:Int) % 2)=(q:Int) % 2:=fG (by omega) (by omega);have hs:IntKind.wrap .i64 ((osum n i:Nat)+((q:Int) % 2))=((osum n (i+1):Nat):Int):=by
   rw [fG (by omega) (by omega),hq];omega
  have hu:IntKind.wrap .u32 ((q:Int) / 2)=(q:Int) / 2:=by
   have e:(2:Int)^32=4294967296:=rfl;simp [IntKind.wrap,IntKind.bits,IntKind.signed,e];omega
  have hi':(i:Int)<32:=by omega
  simp [c_372_l0,h0,h3,h5,hi',hL,hm,hv,hc,hs,hu,hw];exact ih _ ⟨by simp [hd],by simp,by simp⟩
 ·rintro e L hL ⟨h0,h3,h5⟩;simp [c_372_l0,c_372_k1,h3,h5,hL]
 ·simp [osum]
theorem TH {v:Int} (h:ok32 0 v):aA Φ tC [.int .u32 v]=some (.val (a8 (OL v))):=by
 obtain ⟨h1,h2⟩:=h;obtain ⟨n,rfl⟩:∃n:Nat,v=n:=⟨v.toNat,by omega⟩;have:=WL n (by omega);simpa [OL] using this
def pfx:List Xl->List Xi->Int
 | [],_=>0
 | k::ks,xs=>if k.kind=2 then (match xs with | m::_=>OL m.Ye | []=>0) else pfx ks (xs.drop 1)
def pfxZ (p:Prg) (t:Int) (x:Entry):Int:=match at? p.Xn t with
 | some tb=>pfx tb.keys x.keys
 | none=>0
theorem Nd (k:Xl) (ks:List Xl) (xs:List Xi):pfx (k::ks) xs=if k.kind=2 then (match xs with | m::_=>OL m.Ye | []=>0) else pfx ks (xs.drop 1):=rfl
theorem YE {ks:List Xl} {xs:List Xi} {i:Nat} (hi:i<ks.length) (h:ks[i].kind=2):pfx (ks.drop i) (xs.drop i)=if hx:i<xs.length then OL xs[i].Ye else 0:=by
 rw [Qi hi,Nd,aE h];by_cases hx:i<xs.length
 ·rw [dif_pos hx,Qi hx]
 ·rw [dif_neg hx,List.drop_eq_nil_of_le (by omega)]
theorem V6 {ks:List Xl} {xs:List Xi} {i:Nat} (hi:i<ks.length) (h:¬ks[i].kind=2):pfx (ks.drop i) (xs.drop i)=pfx (ks.drop (i+1)) (xs.drop (i+1)):=by
 rw [Qi hi,Nd,QA h,QC]
theorem YD (ks:List Xl) (xs:List Xi):pfx (ks.drop ks.length) xs=0:=by simp [pfx]
theorem Kt (p:Prg) (f:PrgS p) (t:Int) (x:Entry) (hx:EntS x):aA Φ tA [.agg (Prg.c p),a8 t,.agg (Entry.c x)]=some (.val (a8 (pfxZ p t x))):=by
 rw [aD rfl rfl];by_cases i0:t<0
 ·simp [rE,Prg.e,Entry.ce,pfxZ,p6 i0,i0]
 by_cases i1:(p.Xn.length:Int)<=t
 ·simp [rE,Prg.e,Entry.ce,pfxZ,p5 i1,i0,i1]
 obtain ⟨k,rfl⟩:∃k:Nat,t=k:=⟨t.toNat,by omega⟩;have hk:k<p.Xn.length:=by omega
 have hR:pfxZ p k x=pfx p.Xn[k].keys x.keys:=by rw [pfxZ,L5,Qa hk]
 rw [hR];generalize hQ:pfx p.Xn[k].keys x.keys=Q;have hkl:=f.tk p.Xn[k] (Qd hk);simp [rE,Prg.e,Entry.ce,i0,i1];refine cZ p.Xn[k].keys.length (fun _=>[]) 0 (fun i e=>pfx (p.Xn[k].keys.drop i) (x.keys.drop i)=Q/\look 1 e=some (a8 k)/\look 3 e=some (.iptr 9 [Prg.c p] 0 0)/\look 5 e=some (.iptr 4 [Entry.c x] 0 0)/\look 7 e=some (a8 i)) (fun _=>some (Rt.val (a8 Q))) ?_ ?_ 0 _ _ (Qc _) (Qc _) ?_
 ·rintro i e n L hi hL - ⟨he,h1,h3,h5,h7⟩ ih;have hw:=aL i (by omega);rw [Entry.ce] at h5;rw [Prg.e] at h3;by_cases z:p.Xn[k].keys[i].kind=2
  ·rw [YE hi z] at he;by_cases q:i<x.keys.length
   ·rw [dif_pos q] at he;have ho:=TH (hx.ks x.keys[i] (Qd q)).2;have q':¬x.keys.length<=i:=by omega
    simp [c_362_l0,Tbl.e,Xl.e,Xi.ce,h1,h3,h5,h7,hk,hi,hL,z,q,q',ho,he]
   ·rw [dif_neg q] at he;have q':x.keys.length<=i:=by omega
    simp [c_362_l0,Tbl.e,Xl.e,Xi.ce,h1,h3,h5,h7,hk,hi,hL,z,q,q',<- he]
  ·rw [V6 hi z] at he;simp [c_362_l0,Tbl.e,Xl.e,h1,h3,h5,h7,hk,hi,hL,z,hw];exact ih _ _ (Qc _) ⟨he,by simp [h1],by simp [h3,Prg.e],by simp [h5,Entry.ce],by simp⟩
 ·rintro e n L hL - ⟨he,h1,h3,h5,h7⟩;rw [YD] at he;rw [Prg.e] at h3;simp [c_362_l0,c_362_k1,Tbl.e,h1,h3,h7,hk,hL,<- he]
 ·exact ⟨by simpa using hQ,by simp,by simp [Prg.e],by simp [Entry.ce],by simp⟩
def prc (p:Prg) (t:Int) (a b:Rw):Bool:=if a.entry.Xt≠b.entry.Xt then decide (b.entry.Xt<a.entry.Xt) else if pfxZ p t a.entry≠pfxZ p t b.entry then decide (pfxZ p t b.entry<pfxZ p t a.entry) else decide (a.id<b.id)
theorem qug (p:Prg) (f:PrgS p) (t:Int) (a b:Rw) (ha:EntS a.entry) (hb:EntS b.entry):aA Φ zZ [.agg (Prg.c p),a8 t,.agg (Rw.c a),.agg (Rw.c b)]=some (.val (.bool (prc p t a b))):=by
 rw [aD rfl rfl];have k1:=Kt p f t a.entry ha;have k2:=Kt p f t b.entry hb;simp only [Prg.e,Entry.ce] at k1 k2;by_cases q1:a.entry.Xt=b.entry.Xt
 ·rw [q1] at k1;by_cases q2:pfxZ p t a.entry=pfxZ p t b.entry
  ·simp [rB,Prg.e,Rw.ce,prc,k1,k2,q1,q2]
  ·simp [rB,Prg.e,Rw.ce,prc,k1,k2,q1,q2]
 ·simp [rB,Prg.e,Rw.ce,prc,k1,k2,q1]
def GX (m:Xi) (v:Int):Prop:=iand .u32 (ixor .u32 v m.value) m.Ye=0
instance (m:Xi) (v:Int):Decidable (GX m v):=by unfold GX;infer_instance
def mts:List Xi->List Int->Bool
 | m::ms,v::vs=>if GX m v then mts ms vs else false
 | _,_=>true
def mtF (x:Entry) (key:List Int):Bool:=decide (x.keys.length=key.length)&&mts x.keys key
theorem YX {l:List Xi} {k:List Int} {i:Nat} (h1:i<l.length) (h2:i<k.length) (h:GX l[i] k[i]):mts (l.drop i) (k.drop i)=mts (l.drop (i+1)) (k.drop (i+1)):=by
 rw [Qi h1,Qi h2,mts,aE h]
theorem VV {l:List Xi} {k:List Int} {i:Nat} (h1:i<l.length) (h2:i<k.length) (h:¬GX l[i] k[i]):mts (l.drop i) (k.drop i)=false:=by
 rw [Qi h1,Qi h2,mts,QA h]
theorem qvu (x:Entry) (hx:x.keys.length<2^40) (key:List Int):aA Φ zY [.agg (Entry.c x),.slice 1 (key.map c32)]=some (.val (.bool (mtF x key))):=by
 rw [aD rfl rfl];by_cases q:x.keys.length=key.length
 rotate_left
 ·simp [yA,Entry.ce,mtF,q]
 have hR:mtF x key=mts x.keys key:=by simp [mtF,q]
 rw [hR];generalize hQ:mts x.keys key=Q;simp [yA,Entry.ce,q];refine cZ x.keys.length (fun _=>[]) 0 (fun i e=>mts (x.keys.drop i) (key.drop i)=Q/\look 1 e=some (.slice 1 (key.map c32))/\look 2 e=some (.iptr 4 [Entry.c x] 0 0)/\look 5 e=some (a8 i)) (fun _=>some (Rt.val (.bool Q))) ?_ ?_ 0 _ _ (Qc _) (Qc _) ?_
 ·rintro i e n L hi hL - ⟨he,h1,h2,h5⟩ ih;have hw:=aL i (by omega);have hk:i<key.length:=by omega
  rw [Entry.ce] at h2;by_cases z:GX x.keys[i] key[i]
  ·rw [YX hi hk z] at he;unfold GX at z;simp [c_327_l0,Xi.ce,c32e,h1,h2,h5,hi,hk,hL,z,hw];exact ih _ _ (Qc _) ⟨he,by simp [h1],by simp [h2,Entry.ce],by simp⟩
  ·rw [VV hi hk z] at he;unfold GX at z;simp [c_327_l0,Xi.ce,c32e,h1,h2,h5,hi,hk,hL,z,<- he]
 ·rintro e n L hL - ⟨he,h1,h2,h5⟩;rw [q,DU,List.drop_of_length_le (by omega)] at he;simp [c_327_l0,c_327_k1,h1,h5,q,hL,<- he,mts]
 ·exact ⟨by simpa using hQ,by simp,by simp [Entry.ce],by simp⟩
section
variable {α:Type} (m:α->Bool) (pr:α->α->Bool)
def vU (o:Option α) (r:α):Option α:=if m r&&(match o with | none=>true | some b=>pr r b) then some r else o
variable {m pr}
end
def zRow:List AV:=[a8 0,.Xu 2 [],a8 0,a8 0,.Xu 1 []]
def rowV (o:Option Rw):List AV:=match o with
 | some x=>Rw.c x
 | none=>Rw.c ⟨0,noE⟩
def rv (o:Option Rw):List AV:=match o with
 | some x=>Rw.c x
 | none=>zRow
def oB (p:Prg) (t:Int) (key:List Int) (l:List Rw):Option Rw:=l.foldl (vU (fun r=>mtF r.entry key) (prc p t)) none
theorem Y5 (p:Prg) (t:Int) (key:List Int) (l:List Rw) (r:Rw):oB p t key (l++[r])=vU (fun r=>mtF r.entry key) (prc p t) (oB p t key l) r:=by simp [oB]
theorem U6 {α:Type} (m:α->Bool) (pr:α->α->Bool) (o:Option α) (r:α):vU m pr o r=some r\/vU m pr o r=o:=by
 unfold vU;generalize (m r&&(match o with | none=>true | some b=>pr r b))=c;cases c<;>simp
theorem Mm {α:Type} (m:α->Bool) (pr:α->α->Bool):∀(l:List α) (o:Option α) (x:α),l.foldl (vU m pr) o=some x->x∈l\/o=some x
 | [],o,x,h=> .inr h
 | a::l,o,x,h=>by
  rw [List.foldl_cons] at h;rcases Mm m pr l _ x h with h | h
  ·exact .inl (vI _ h)
  ·rcases U6 m pr o a with e | e
   ·rw [e] at h;rw [Option.some.inj h];exact .inl (by simp)
   ·rw [e] at h;exact .inr h
theorem N6 (p:Prg) (t:Int) (key:List Int) (l:List Rw) (x:Rw) (h:oB p t key l=some x):x∈l:=by
 rcases Mm _ _ l none x h with h | h
 ·exact h
 ·cases h
theorem WD (p:Prg) (f:PrgS p) (k:Nat) (hk:k<p.Xn.length) (key:List Int) (l:List Rw) (hll:l.length<2^40) (hl:∀x∈l,EntS x.entry):
  aA Φ zI [.agg (Prg.c p),a8 k,.slice 5 (l.map Rw.c),.slice 1 (key.map c32)]=some (.val (.tup [.agg (rowV (oB p k key l)),.bool (oB p k key l).isSome])):=by
 rw [aD rfl rfl];simp [EX,Prg.e];refine cZ l.length (fun i=>[(0,.row 5 [zRow]),(1,.row 5 [rv (oB p k key (l.take i))])]) 2 (fun i e=>look 1 e=some (a8 k)/\look 2 e=some (.slice 5 (l.map Rw.c))/\look 3 e=some (.slice 1 (key.map c32))/\look 4 e=some (.iptr 9 [Prg.c p] 0 0)/\look 8 e=some (.ptr 0 5 0 0)/\look 10 e=some (.ptr 1 5 0 0)/\look 11 e=some (.bool (oB p k key (l.take i)).isSome)/\look 12 e=some (a8 i))
  (fun _=>some (Rt.val (.tup [.agg (rowV (oB p k key l)),.bool (oB p k key l).isSome]))) ?_ ?_ 0 _ _ (Qc _) (Qb _) ?_
 ·rintro i e n L hi hL hn ⟨h1,h2,h3,h4,h8,h10,h11,h12⟩ ih;have hw:=aL i (by omega);have hs:oB p k key (l.take (i+1))=vU (fun r=>mtF r.entry key) (prc p k) (oB p k key (l.take i)) l[i]:=by
   rw [Qh hi,Y5]
  have hm:=qvu l[i].entry (hl _ (Qd hi)).kl key;rw [Prg.e] at h4;simp only [Entry.ce] at hm;have hlt:¬((k:Int)<0):=by omega
  have hlt':(0:Int)<=(k:Int):=by omega
  have fin:∀o,oB p k key (l.take (i+1))=o->∀e',look 1 e'=some (a8 k)->look 2 e'=some (.slice 5 (l.map Rw.c))->look 3 e'=some (.slice 1 (key.map c32))->look 4 e'=some (.iptr 9 [Prg.c p] 0 0)->look 8 e'=some (.ptr 0 5 0 0)->look 10 e'=some (.ptr 1 5 0 0)->look 11 e'=some (.bool o.isSome)->look 12 e'=some (a8 ((i+1:Nat):Int))->∀n',2<=n'->
    go Φ (finP [.cell 8 true 5,.tmp 9]) L .normal ⟨e',⟨[(0,.row 5 [zRow]),(1,.row 5 [rv o])],n'⟩⟩=some (Rt.val (.tup [.agg (rowV (oB p k key l)),.bool (oB p k key l).isSome])):=fun o ho e' g1 g2 g3 g4 g8 g10 g11 g12 n' hn'=>by
   rw [<- ho];exact ih e' n' hn' ⟨g1,g2,g3,g4,g8,g10,by rw [ho];exact g11,g12⟩
  cases ho:oB p k key (l.take i) with
  | none=>
   rw [ho] at hs h11;cases hq:mtF l[i].entry key with
   | false=>
    rw [hq] at hm;have hs':oB p k key (l.take (i+1))=none:=by rw [hs];simp [vU,hq]
    simp [c_264_l0,Rw.ce,h1,h2,h3,h4,h8,h10,h11,h12,hi,hk,hL,hm,hw];exact fin none hs' _ (by simp [h1]) (by simp [h2,Rw.ce]) (by simp [h3]) (by simp [h4,Prg.e]) (by simp [h8]) (by simp [h10]) (by simp [h11]) (by simp) _ (by omega)
   | true=>
    rw [hq] at hm;have hs':oB p k key (l.take (i+1))=some l[i]:=by rw [hs];simp [vU,hq]
    simp [c_264_l0,Rw.ce,h1,h2,h3,h4,h8,h10,h11,h12,hi,hk,hL,hm,hw,rv,zRow];exact fin (some l[i]) hs' _ (by simp [h1]) (by simp [h2,Rw.ce]) (by simp [h3]) (by simp [h4,Prg.e]) (by simp [h8]) (by simp [h10]) (by simp) (by simp) _ (by omega)
  | some x=>
   rw [ho] at hs h11;have hx:=N6 p k key _ x ho;have hx':x∈l:=Qu hx;have hp:=qug p f k l[i] x (hl _ (Qd hi)) (hl x hx');simp only [Rw.ce,Prg.e] at hp;cases hq:mtF l[i].entry key with
   | false=>
    rw [hq] at hm;have hs':oB p k key (l.take (i+1))=some x:=by rw [hs];simp [vU,hq]
    simp [c_264_l0,Rw.ce,h1,h2,h3,h4,h8,h10,h11,h12,hi,hk,hL,hm,hw];exact fin (some x) hs' _ (by simp [h1]) (by simp [h2,Rw.ce]) (by simp [h3]) (by simp [h4,Prg.e]) (by simp [h8]) (by simp [h10]) (by simp [h11]) (by simp) _ (by omega)
   | true=>
    rw [hq] at hm;cases hb:prc p k l[i] x with
    | false=>
     rw [hb] at hp;have hs':oB p k key (l.take (i+1))=some x:=by rw [hs];simp [vU,hq,hb]
     simp [c_264_l0,Rw.ce,h1,h2,h3,h4,h8,h10,h11,h12,hi,hk,hL,hm,hw,rv,zRow,hp];exact fin (some x) hs' _ (by simp [h1]) (by simp [h2,Rw.ce]) (by simp [h3]) (by simp [h4,Prg.e]) (by simp [h8]) (by simp [h10]) (by simp [h11]) (by simp) _ (by omega)
    | true=>
     rw [hb] at hp;have hs':oB p k key (l.take (i+1))=some l[i]:=by rw [hs];simp [vU,hq,hb]
     simp [c_264_l0,Rw.ce,h1,h2,h3,h4,h8,h10,h11,h12,hi,hk,hL,hm,hw,rv,zRow,hp];exact fin (some l[i]) hs' _ (by simp [h1]) (by simp [h2,Rw.ce]) (by simp [h3]) (by simp [h4,Prg.e]) (by simp [h8]) (by simp [h10]) (by simp) (by simp) _ (by omega)
 ·rintro e n L hL hn ⟨h1,h2,h3,h4,h8,h10,h11,h12⟩;rw [iI] at h11 ⊢;cases ho:oB p k key l with
  | none=>
   rw [ho] at h11;simp [c_264_l0,c_264_k1,h2,h8,h10,h11,h12,hL,rv,zRow,rowV,Rw.ce,noE]
  | some x=>
   rw [ho] at h11;simp [c_264_l0,c_264_k1,h2,h8,h10,h11,h12,hL,rv,zRow,rowV,Rw.ce]
 ·simp [oB,Prg.e]
def exB (ports:List Int) (a:PortID):Bool:=decide (0<=a.switch)&&(decide (a.switch<ports.length)&&(decide (0<=a.port)&&(match ports[a.switch.toNat]? with | some n=>decide (a.port<n) | none=>false)))
theorem Hw (ports:List Int) (x y:List (List AV)) (s p:Int):aA Φ HY [.agg [.slice 1 (ports.map cI),.slice 5 x,.slice 2 y],.agg [a8 s,a8 p]]=some (.val (.bool (exB ports ⟨s,p⟩))):=by
 rw [aD rfl rfl];simp [M7];refine K1 (fun h1=>?_) (fun h1=>?_)<;>simp [exB,h1];refine K1 (fun h2=>?_) (fun h2=>?_)<;>simp [h2];refine K1 (fun h3=>?_) (fun h3=>?_)<;>simp [h3];simp at h1 h2;obtain ⟨k,rfl⟩:=fP h1;have h2':k<ports.length:=by omega
 simp [h2',cI]
theorem Ir (ports:List Int) (x y:List (List AV)) (s p:Int):aA Φ I1 [.agg [.slice 1 (ports.map cI),.slice 5 x,.slice 2 y],.agg [a8 s,a8 p]]=some (.val (.bool (exB ports ⟨s,p⟩))):=by
 rw [aD rfl rfl];simp [MA];refine K1 (fun h1=>?_) (fun h1=>?_)<;>simp [exB,h1];refine K1 (fun h2=>?_) (fun h2=>?_)<;>simp [h2];refine K1 (fun h3=>?_) (fun h3=>?_)<;>simp [h3];simp at h1 h2;obtain ⟨k,rfl⟩:=fP h1;have h2':k<ports.length:=by omega
 simp [h2',cI]
def iP (s p:Int) (l:Link):Bool:=(decide (l.a.switch=s)&&decide (l.a.port=p)) || (decide (l.b.switch=s)&&decide (l.b.port=p))
def pX (a b:PortID):Bool:=decide (a.switch=b.switch)&&decide (a.port=b.port)
def ixF {α:Type} (q:α->Bool) (l:List α) (i:Nat):Int:=match (l.drop i).findIdx? q with | some j=>((i+j:Nat):Int) | none=>0
theorem O9 {α:Type} {q:α->Bool} {l:List α} {i:Nat} (hi:i<l.length) (h:q l[i]=true):ixF q l i=i:=by
 unfold ixF;rw [Qi hi,List.findIdx?_cons,aE h];simp
theorem NV {α:Type} {q:α->Bool} {l:List α} {i:Nat} (hi:i<l.length) (h:q l[i]=false):ixF q l i=ixF q l (i+1):=by
 unfold ixF;rw [Qi hi,List.findIdx?_cons,QA (by rw [h];simp)];cases (l.drop (i+1)).findIdx? q with
 | none=>rfl
 | some j=>simp;omega
theorem S0 {α:Type} {q:α->Bool} {l:List α}:ixF q l l.length=0:=by simp [ixF]
theorem Zp (x y:List (List AV)) (links:List Link) (s p:Int) (hl:links.length<2^40):aA Φ yQ [.agg [.slice 1 x,.slice 5 (links.map Link.c),.slice 2 y],.agg [a8 s,a8 p]]=
  some (.val (.tup [a8 (ixF (iP s p) links 0),.bool (eA links (iP s p) 0)])):=by
 rw [aD rfl rfl];simp [EC];refine (cZ links.length (fun _=>[]) 0 (fun i e=>look 3 e=some (.iptr 2 [[a8 s,a8 p]] 0 0)/\look 9 e=some (.slice 5 (links.map Link.c))/\look 10 e=some (a8 links.length)/\look 11 e=some (a8 i))
  (fun i=>some (.val (.tup [a8 (ixF (iP s p) links i),.bool (eA links (iP s p) i)]))) ?_ ?_ 0 _ _ (Qc _) (Qc _) ?_).trans (by simp)
 ·rintro i e n L hi hL _ ⟨h3,h9,h10,h11⟩ ih;have hw:=aL i (by omega);cases q:iP s p links[i] with
  | true=>
   rw [O9 hi q,KW hi q];by_cases q1:links[i].a.switch=s/\links[i].a.port=p
   ·simp [c_160_l0,Link.c,h3,h9,h10,h11,hi,hL,q1]
   ·have q2:links[i].b.switch=s/\links[i].b.port=p:=by
     simp [iP,dD] at q;rcases q with q | q
     ·exact absurd q q1
     ·exact q
    have q1':(decide (links[i].a.switch=s)&&decide (links[i].a.port=p))=false:=by simpa using q1
    simp [c_160_l0,Link.c,h3,h9,h10,h11,hi,hL,q1',q2]
  | false=>
   rw [NV hi q,IF hi q];simp only [iP,BT] at q;simp [c_160_l0,Link.c,h3,h9,h10,h11,hi,hL,q.1,q.2,hw];exact (ih _ _ (Qc _) ⟨by simp [h3],by simp [h9],by simp [h10],by simp⟩).trans (by simp)
 ·rintro e n L hL _ ⟨h3,h9,h10,h11⟩;rw [S0,IK];simp [c_160_l0,c_160_k1,h3,h9,h10,h11,hL]
 ·simp
theorem Zz (x y:List (List AV)) (links:List Link) (s p:Int) (hl:links.length<2^40):aA Φ yN [.agg [.slice 1 x,.slice 5 (links.map Link.c),.slice 2 y],.agg [a8 s,a8 p]]=
  some (.val (.tup [a8 (ixF (iP s p) links 0),.bool (eA links (iP s p) 0)])):=by
 rw [aD rfl rfl];simp [EA];refine (cZ links.length (fun _=>[]) 0 (fun i e=>look 2 e=some (.iptr 3 [[.slice 1 x,.slice 5 (links.map Link.c),.slice 2 y]] 0 0)/\look 3 e=some (.iptr 2 [[a8 s,a8 p]] 0 0)/\look 6 e=some (a8 i))
  (fun i=>some (.val (.tup [a8 (ixF (iP s p) links i),.bool (eA links (iP s p) i)]))) ?_ ?_ 0 _ _ (Qc _) (Qc _) ?_).trans (by simp)
 ·rintro i e n L hi hL _ ⟨h2,h3,h6⟩ ih;have hw:=aL i (by omega);cases q:iP s p links[i] with
  | true=>
   rw [O9 hi q,KW hi q];by_cases q1:links[i].a.switch=s/\links[i].a.port=p
   ·simp [c_155_l0,Link.c,h2,h3,h6,hi,hL,q1]
   ·have q2:links[i].b.switch=s/\links[i].b.port=p:=by
     simp [iP,dD] at q;rcases q with q | q
     ·exact absurd q q1
     ·exact q
    have q1':(decide (links[i].a.switch=s)&&decide (links[i].a.port=p))=false:=by simpa using q1
    simp [c_155_l0,Link.c,h2,h3,h6,hi,hL,q1',q2]
  | false=>
   rw [NV hi q,IF hi q];simp only [iP,BT] at q;simp [c_155_l0,Link.c,h2,h3,h6,hi,hL,q.1,q.2,hw];exact (ih _ _ (Qc _) ⟨by simp [h2],by simp [h3],by simp⟩).trans (by simp)
 ·rintro e n L hL _ ⟨h2,h3,h6⟩;rw [S0,IK];simp [c_155_l0,c_155_k1,h2,h3,h6,hL]
 ·simp
def atP (s p:Int) (h:PortID):Bool:=decide (h.switch=s)&&decide (h.port=p)
theorem QF (x y:List (List AV)) (hosts:List PortID) (s p:Int) (hl:hosts.length<2^40):aA Φ CN [.agg [.slice 1 x,.slice 5 y,.slice 2 (hosts.map PortID.c)],.agg [a8 s,a8 p]]=
  some (.val (.tup [a8 (ixF (atP s p) hosts 0),.bool (eA hosts (atP s p) 0)])):=by
 rw [aD rfl rfl];simp [M5];refine (cZ hosts.length (fun _=>[]) 0 (fun i e=>look 3 e=some (.iptr 2 [[a8 s,a8 p]] 0 0)/\look 9 e=some (.slice 2 (hosts.map PortID.c))/\look 10 e=some (a8 hosts.length)/\look 11 e=some (a8 i))
  (fun i=>some (.val (.tup [a8 (ixF (atP s p) hosts i),.bool (eA hosts (atP s p) i)]))) ?_ ?_ 0 _ _ (Qc _) (Qc _) ?_).trans (by simp)
 ·rintro i e n L hi hL _ ⟨h3,h9,h10,h11⟩ ih;have hw:=aL i (by omega);cases q:atP s p hosts[i] with
  | true=>
   rw [O9 hi q,KW hi q];simp only [atP] at q;simp [c_67_l0,PortID.c,h3,h9,h10,h11,hi,hL,q]
  | false=>
   rw [NV hi q,IF hi q];simp only [atP] at q;simp [c_67_l0,PortID.c,h3,h9,h10,h11,hi,hL,q,hw];exact (ih _ _ (Qc _) ⟨by simp [h3],by simp [h9],by simp [h10],by simp⟩).trans (by simp)
 ·rintro e n L hL _ ⟨h3,h9,h10,h11⟩;rw [S0,IK];simp [c_67_l0,c_67_k1,h3,h9,h10,h11,hL]
 ·simp
theorem Cb (x y:List (List AV)) (hosts:List PortID) (s p:Int) (hl:hosts.length<2^40):aA Φ I5 [.agg [.slice 1 x,.slice 5 y,.slice 2 (hosts.map PortID.c)],.agg [a8 s,a8 p]]=
  some (.val (.tup [a8 (ixF (atP s p) hosts 0),.bool (eA hosts (atP s p) 0)])):=by
 rw [aD rfl rfl];simp [MB];refine (cZ hosts.length (fun _=>[]) 0 (fun i e=>look 2 e=some (.iptr 3 [[.slice 1 x,.slice 5 y,.slice 2 (hosts.map PortID.c)]] 0 0)/\look 3 e=some (.iptr 2 [[a8 s,a8 p]] 0 0)/\look 6 e=some (a8 i))
  (fun i=>some (.val (.tup [a8 (ixF (atP s p) hosts i),.bool (eA hosts (atP s p) i)]))) ?_ ?_ 0 _ _ (Qc _) (Qc _) ?_).trans (by simp)
 ·rintro i e n L hi hL _ ⟨h2,h3,h6⟩ ih;have hw:=aL i (by omega);cases q:atP s p hosts[i] with
  | true=>
   rw [O9 hi q,KW hi q];simp only [atP] at q;simp [c_96_l0,PortID.c,h2,h3,h6,hi,hL,q]
  | false=>
   rw [NV hi q,IF hi q];simp only [atP] at q;simp [c_96_l0,PortID.c,h2,h3,h6,hi,hL,q,hw];exact (ih _ _ (Qc _) ⟨by simp [h2],by simp [h3],by simp⟩).trans (by simp)
 ·rintro e n L hL _ ⟨h2,h3,h6⟩;rw [S0,IK];simp [c_96_l0,c_96_k1,h2,h3,h6,hL]
 ·simp
def iK (l:List Link) (i:Nat):List PortID:=(l.take i).flatMap fun x=>[x.a,x.b]
def aX (l:List Link) (h:List PortID):List PortID:=iK l l.length++h
theorem NE {l:List Link} {i:Nat} (hi:i<l.length):iK l (i+1)=iK l i++[l[i].a,l[i].b]:=by
 unfold iK;rw [Qh hi,List.flatMap_append];simp
theorem K4 {l:List Link}:∀{i:Nat},i<=l.length->(iK l i).length=2*i
 | 0,_=>by simp [iK]
 | i+1,h=>by
  rw [NE (by omega),tQ,K4 (by omega)];simp;omega
theorem Jd (l:List Link) (h:List PortID):(aX l h).length=2*l.length+h.length:=by
 unfold aX;rw [tQ,K4 (Qb _)]
theorem al2 (l:List PortID):d9 2 (l.map PortID.c)=true:=fX 2 PortID.c l fun x=>by simp
theorem qoa (x:List (List AV)) (links:List Link) (hosts:List PortID) (hl:links.length<=32) (hh:hosts.length<=16):aA Φ CO [.agg [.slice 1 x,.slice 5 (links.map Link.c),.slice 2 (hosts.map PortID.c)]]=
  some (.val (.slice 2 ((aX links hosts).map PortID.c))):=by
 rw [aD rfl rfl];simp [M6];refine (cZ links.length (fun i=>[(0,AO.tok 2 (iK links i).length)]) 1 (fun i e=>look 1 e=some (.iptr 3 [[.slice 1 x,.slice 5 (links.map Link.c),.slice 2 (hosts.map PortID.c)]] 0 0)/\look 3 e=some (.app 2 ((iK links i).map PortID.c) 0)/\look 7 e=some (.slice 5 (links.map Link.c))/\look 8 e=some (a8 links.length)/\look 9 e=some (a8 i))
  (fun i=>some (.val (.slice 2 ((aX links hosts).map PortID.c)))) ?_ ?_ 0 _ _ (Qc _) (Qb _) ?_).trans (by simp)
 ·rintro i e n L hi hL hn ⟨h1,h3,h7,h8,h9⟩ ih;have hw:=aL i (by omega);have hn0:¬(0=n):=by omega
  have hn1:¬(n=0):=by omega
  have hle:=K4 (l:=links) (i:=i) (by omega);have hb:((iK links i).length+2)*16<=70368744177664:=by omega
  have hlen:(iK links i).length+2=(iK links (i+1)).length:=by rw [NE hi];simp
  simp [c_69_l0,Link.c,h1,h3,h7,h8,h9,hi,hL,hw,hn0,hn1,hb];rw [hlen];exact ih _ _ (by omega) ⟨by simp [h1],by simp [NE hi,PortID.c],by simp [h7],by simp [h8],by simp⟩
 ·rintro e n L hL hn ⟨h1,h3,h7,h8,h9⟩;have hle:=K4 (l:=links) (i:=links.length) (by omega);have hb:((iK links links.length).length+hosts.length)*16<=70368744177664:=by omega
  simp [c_69_l0,c_69_k1,h1,h3,h7,h8,h9,hL,hb,aX,al2]
 ·simp [iK]
theorem qrv (x:List (List AV)) (links:List Link) (hosts:List PortID) (hl:links.length<=32) (hh:hosts.length<=16):aA Φ CS [.agg [.slice 1 x,.slice 5 (links.map Link.c),.slice 2 (hosts.map PortID.c)]]=
  some (.val (.slice 2 ((aX links hosts).map PortID.c))):=by
 rw [aD rfl rfl];simp [M9];refine (cZ links.length (fun i=>[(0,AO.tok 2 (iK links i).length)]) 1 (fun i e=>look 1 e=some (.iptr 3 [[.slice 1 x,.slice 5 (links.map Link.c),.slice 2 (hosts.map PortID.c)]] 0 0)/\look 3 e=some (.app 2 ((iK links i).map PortID.c) 0)/\look 4 e=some (a8 i))
  (fun i=>some (.val (.slice 2 ((aX links hosts).map PortID.c)))) ?_ ?_ 0 _ _ (Qc _) (Qb _) ?_).trans (by simp)
 ·rintro i e n L hi hL hn ⟨h1,h3,h4⟩ ih;have hw:=aL i (by omega);have hn0:¬(0=n):=by omega
  have hn1:¬(n=0):=by omega
  have hle:=K4 (l:=links) (i:=i) (by omega);have hb:((iK links i).length+2)*16<=70368744177664:=by omega
  have hlen:(iK links i).length+2=(iK links (i+1)).length:=by rw [NE hi];simp
  simp [c_86_l0,Link.c,h1,h3,h4,hi,hL,hw,hn0,hn1,hb];rw [hlen];exact ih _ _ (by omega) ⟨by simp [h1],by simp [NE hi,PortID.c],by simp⟩
 ·rintro e n L hL hn ⟨h1,h3,h4⟩;have hle:=K4 (l:=links) (i:=links.length) (by omega);have hb:((iK links links.length).length+hosts.length)*16<=70368744177664:=by omega
  simp [c_86_l0,c_86_k1,h1,h3,h4,hL,hb,aX,al2]
 ·simp [iK]
def IX (U:List PortID) (i:Nat):Bool:=(U.take i).any (pX (U.getD i default))
def badN (n:Int):Bool:=decide (n<1) || decide (16<n)
def chkD (links:List Link):Int:=if links.any (fun l=>decide (l.a.switch=l.b.switch)) then 2 else 0
def chkC (links:List Link) (hosts:List PortID):Int:=if (List.range (aX links hosts).length).any (IX (aX links hosts)) then 7 else chkD links
def chkB (ports:List Int) (links:List Link) (hosts:List PortID):Int:=if (aX links hosts).any (fun a=> !exB ports a) then 9 else chkC links hosts
def chkA (ports:List Int) (links:List Link) (hosts:List PortID):Int:=if ports.any badN then 9 else chkB ports links hosts
def fK (ports:List Int) (links:List Link) (hosts:List PortID):Int:=
 if ports=[] then 8 else if 16<ports.length then 12 else if 32<links.length then 12 else if 16<hosts.length then 12 else chkA ports links hosts
def HN (h:AH):Prop:=∃n,h=⟨[],n⟩
theorem HN.mk {n:Nat}:HN ⟨[],n⟩:=⟨n,rfl⟩
theorem Hy (ports:List Int) (links:List Link) (hosts:List PortID):aA Φ CH [.agg [.slice 1 (ports.map cI),.slice 5 (links.map Link.c),.slice 2 (hosts.map PortID.c)]]=
  some (.val (a8 (fK ports links hosts))):=by
 rw [aD rfl rfl];simp [LW];unfold fK;by_cases q1:ports=[]
 ·simp [q1]
 by_cases q2:16<ports.length
 ·simp [q1,q2]
 by_cases q3:32<links.length
 ·simp [q1,q2,q3]
 by_cases q4:16<hosts.length
 ·simp [q1,q2,q3,q4]
 have f1:ports.length<=16:=by omega
 have f2:links.length<=32:=by omega
 have f3:hosts.length<=16:=by omega
 have fU:=Jd links hosts;simp [q1,q2,q3,q4];refine (D4 ports badN (some (.val (a8 9))) (some (.val (a8 (chkB ports links hosts))))
  (fun i e h=>look 1 e=some (.iptr 3 [[.slice 1 (ports.map cI),.slice 5 (links.map Link.c),.slice 2 (hosts.map PortID.c)]] 0 0)/\look 35 e=some (.slice 1 (ports.map cI))/\look 36 e=some (a8 ports.length)/\look 37 e=some (a8 i)/\HN h) ?_ ?_ ?_ _ _ ?_).trans (by unfold chkA;split<;>rfl)
 ·rintro i e _ L hi hL ⟨h1,h35,h36,h37,n,rfl⟩ hb;cases c1:decide (ports[i]<1) with
  | true=>simp [c_33_l0,cI,h1,h35,h36,h37,hi,hL,c1]
  | false=>
   have c2:decide (16<ports[i])=true:=by simpa only [badN,c1,B6] using hb
   simp [c_33_l0,cI,h1,h35,h36,h37,hi,hL,c1,c2]
 ·rintro i e _ L X hi hL ⟨h1,h35,h36,h37,n,rfl⟩ hb ih;simp only [badN,BT] at hb;have hw:=aL i (by omega);simp [c_33_l0,cI,h1,h35,h36,h37,hi,hL,hb.1,hb.2,hw];exact ih _ _ ⟨by simp [h1],by simp [h35],by simp [h36],by simp,HN.mk⟩
 ·rintro e _ L hL ⟨h1,h35,h36,h37,n,rfl⟩;simp [c_33_l0,c_33_k9,h1,h35,h36,h37,hL,qoa _ _ _ f2 f3];refine (D4 (aX links hosts) (fun a=> !exB ports a) (some (.val (a8 9))) (some (.val (a8 (chkC links hosts))))
   (fun i e h=>look 1 e=some (.iptr 3 [[.slice 1 (ports.map cI),.slice 5 (links.map Link.c),.slice 2 (hosts.map PortID.c)]] 0 0)/\look 5 e=some (.slice 2 ((aX links hosts).map PortID.c))/\look 50 e=some (.slice 2 ((aX links hosts).map PortID.c))/\look 51 e=some (a8 (aX links hosts).length)/\look 52 e=some (a8 i)/\HN h) ?_ ?_ ?_ _ _ ?_).trans (by unfold chkB;split<;>rfl)
  ·rintro i e _ L hi hL ⟨h1,h5,h50,h51,h52,n,rfl⟩ hb;have hb':exB ports ⟨(aX links hosts)[i].switch,(aX links hosts)[i].port⟩=false:=by simpa using hb
   simp [c_33_l1,PortID.c,h1,h5,h50,h51,h52,hi,hL,Hw,hb']
  ·rintro i e _ L X hi hL ⟨h1,h5,h50,h51,h52,n,rfl⟩ hb ih;have hb':exB ports ⟨(aX links hosts)[i].switch,(aX links hosts)[i].port⟩=true:=by simpa using hb
   have hw:=aL i (by omega);simp [c_33_l1,PortID.c,h1,h5,h50,h51,h52,hi,hL,Hw,hb',hw];exact ih _ _ ⟨by simp [h1],by simp [h5],by simp [h50],by simp [h51],by simp,HN.mk⟩
  ·rintro e _ L hL ⟨h1,h5,h50,h51,h52,n,rfl⟩;simp [c_33_l1,c_33_k8,h1,h5,h50,h51,h52,hL];refine (D4 (List.range (aX links hosts).length) (IX (aX links hosts)) (some (.val (a8 7))) (some (.val (a8 (chkD links))))
    (fun i e h=>look 1 e=some (.iptr 3 [[.slice 1 (ports.map cI),.slice 5 (links.map Link.c),.slice 2 (hosts.map PortID.c)]] 0 0)/\look 5 e=some (.slice 2 ((aX links hosts).map PortID.c))/\look 61 e=some (.slice 2 ((aX links hosts).map PortID.c))/\look 62 e=some (a8 (aX links hosts).length)/\look 63 e=some (a8 i)/\HN h) ?_ ?_ ?_ _ _ ?_).trans (by unfold chkC;split<;>rfl)
   ·rintro i e _ L hi hL ⟨h1,h5,h61,h62,h63,n,rfl⟩ hb;rw [HA] at hi;simp only [Q5] at hb;have hi':i<=(aX links hosts).length:=by omega
    have hd:((aX links hosts).take i).any (pX (aX links hosts)[i])=true:=by
     unfold IX at hb
     rwa [show (aX links hosts).getD i default=(aX links hosts)[i] by simp [JL,hi]] at hb
    simp [c_33_l4,PortID.c,h1,h5,h61,h62,h63,hi,hL,hi'];refine Mx ((aX links hosts).take i) (pX (aX links hosts)[i]) hd (some (Rt.val (a8 7)))
     (fun k e h=>look 9 e=some (.iptr 2 [[a8 (aX links hosts)[i].switch,a8 (aX links hosts)[i].port]] 0 0)/\look 70 e=some (.slice 2 (((aX links hosts).map PortID.c).take i))/\look 71 e=some (a8 i)/\look 72 e=some (a8 k)/\HN h) ?_ ?_ _ _ ?_
    ·rintro k e _ L' hk hL' ⟨h9,h70,h71,h72,n2,rfl⟩ hb;simp only [qH] at hk;have hk1:k<i:=by omega
     have hk2:k<(aX links hosts).length:=by omega
     have hm:min i (aX links hosts).length=i:=by omega
     simp only [HB,pX,dD] at hb;simp [c_33_l2,PortID.c,h9,h70,h71,h72,hk1,hk2,hL',hb,hm]
    ·rintro k e _ L' hk hL' ⟨h9,h70,h71,h72,n2,rfl⟩ hb ih;simp only [qH] at hk;have hk1:k<i:=by omega
     have hk2:k<(aX links hosts).length:=by omega
     have hm:min i (aX links hosts).length=i:=by omega
     have hw:=aL k (by omega);simp only [HB,pX] at hb;simp [c_33_l2,PortID.c,h9,h70,h71,h72,hk1,hk2,hL',hb,hm,hw];exact ih _ _ ⟨by simp [h9],by simp [h70],by simp [h71],by simp,HN.mk⟩
    ·simp;exact HN.mk
   ·rintro i e _ L X hi hL ⟨h1,h5,h61,h62,h63,n,rfl⟩ hb ihX;rw [HA] at hi;simp only [Q5] at hb;have hi':i<=(aX links hosts).length:=by omega
    have hwi:=aL i (by omega);have hd:((aX links hosts).take i).any (pX (aX links hosts)[i])=false:=by
     unfold IX at hb
     rwa [show (aX links hosts).getD i default=(aX links hosts)[i] by simp [JL,hi]] at hb
    simp [c_33_l4,PortID.c,h1,h5,h61,h62,h63,hi,hL,hi'];refine Lh ((aX links hosts).take i) (pX (aX links hosts)[i]) hd X
     (fun k e h=>look 1 e=some (.iptr 3 [[.slice 1 (ports.map cI),.slice 5 (links.map Link.c),.slice 2 (hosts.map PortID.c)]] 0 0)/\look 5 e=some (.slice 2 ((aX links hosts).map PortID.c))/\look 61 e=some (.slice 2 ((aX links hosts).map PortID.c))/\look 62 e=some (a8 (aX links hosts).length)/\look 63 e=some (a8 i)/\
      look 9 e=some (.iptr 2 [[a8 (aX links hosts)[i].switch,a8 (aX links hosts)[i].port]] 0 0)/\look 70 e=some (.slice 2 (((aX links hosts).map PortID.c).take i))/\look 71 e=some (a8 i)/\look 72 e=some (a8 k)/\HN h) ?_ ?_ _ _ ?_
    ·rintro k e _ L' hk hL' ⟨h1,h5,h61,h62,h63,h9,h70,h71,h72,n2,rfl⟩ hb ih;simp only [qH] at hk;have hk1:k<i:=by omega
     have hk2:k<(aX links hosts).length:=by omega
     have hm:min i (aX links hosts).length=i:=by omega
     have hw:=aL k (by omega);simp only [HB,pX] at hb;simp [c_33_l2,PortID.c,h9,h70,h71,h72,hk1,hk2,hL',hb,hm,hw];exact ih _ _ ⟨by simp [h1],by simp [h5],by simp [h61],by simp [h62],by simp [h63],by simp [h9],by simp [h70],by simp [h71],by simp,HN.mk⟩
    ·rintro e _ L' hL' ⟨h1,h5,h61,h62,h63,h9,h70,h71,h72,n2,rfl⟩;have hm:min i (aX links hosts).length=i:=by omega
     simp [hm] at h72;simp [c_33_l2,c_33_k3,PortID.c,h9,h63,h70,h71,h72,hL',hwi];exact ihX _ _ ⟨by simp [h1],by simp [h5],by simp [h61],by simp [h62],by simp,HN.mk⟩
    ·simp [h1,h5,h61,h62,h63];exact HN.mk
   ·rintro e _ L hL ⟨h1,h5,h61,h62,h63,n,rfl⟩;simp only [HA] at h63;simp [c_33_l4,c_33_k7,h1,h61,h62,h63,hL];refine (D4 links (fun l=>decide (l.a.switch=l.b.switch)) (some (.val (a8 2))) (some (.val (a8 0)))
     (fun i e h=>look 82 e=some (.slice 5 (links.map Link.c))/\look 83 e=some (a8 links.length)/\look 84 e=some (a8 i)/\HN h) ?_ ?_ ?_ _ _ ?_).trans (by unfold chkD;split<;>rfl)
    ·rintro i e _ L hi hL ⟨h82,h83,h84,n,rfl⟩ hb;simp [c_33_l5,Link.c,h82,h83,h84,hi,hL,hb]
    ·rintro i e _ L X hi hL ⟨h82,h83,h84,n,rfl⟩ hb ih;have hw:=aL i (by omega);simp [c_33_l5,Link.c,h82,h83,h84,hi,hL,hb,hw];exact ih _ _ ⟨by simp [h82],by simp [h83],by simp,HN.mk⟩
    ·rintro e _ L hL ⟨h82,h83,h84,n,rfl⟩;simp [c_33_l5,c_33_k6,h82,h83,h84,hL]
    ·simp;exact HN.mk
   ·simp [h1,h5];exact HN.mk
  ·simp [h1];exact HN.mk
 ·simp;exact HN.mk
theorem Ce (ports:List Int) (links:List Link) (hosts:List PortID):aA Φ CJ [.agg [.slice 1 (ports.map cI),.slice 5 (links.map Link.c),.slice 2 (hosts.map PortID.c)]]=
  some (.val (a8 (fK ports links hosts))):=by
 rw [aD rfl rfl];simp [LY];unfold fK;by_cases q1:ports=[]
 ·simp [q1]
 by_cases q2:16<ports.length
 ·simp [q1,q2]
 by_cases q3:32<links.length
 ·simp [q1,q2,q3]
 by_cases q4:16<hosts.length
 ·simp [q1,q2,q3,q4]
 have f1:ports.length<=16:=by omega
 have f2:links.length<=32:=by omega
 have f3:hosts.length<=16:=by omega
 have fU:=Jd links hosts;simp [q1,q2,q3,q4];refine (D4 ports badN (some (.val (a8 9))) (some (.val (a8 (chkB ports links hosts))))
  (fun i e h=>look 1 e=some (.iptr 3 [[.slice 1 (ports.map cI),.slice 5 (links.map Link.c),.slice 2 (hosts.map PortID.c)]] 0 0)/\look 3 e=some (a8 i)/\
   HN h) ?_ ?_ ?_ _ _ ?_).trans (by unfold chkA;split<;>rfl)
 ·rintro i e _ L hi hL ⟨h1,h3,n,rfl⟩ hb;cases c1:decide (ports[i]<1) with
  | true=>simp [c_39_l0,cI,h1,h3,hi,hL,c1]
  | false=>
   have c2:decide (16<ports[i])=true:=by simpa only [badN,c1,B6] using hb
   simp [c_39_l0,cI,h1,h3,hi,hL,c1,c2]
 ·rintro i e _ L X hi hL ⟨h1,h3,n,rfl⟩ hb ih;simp only [badN,BT] at hb;have hw:=aL i (by omega);simp [c_39_l0,cI,h1,h3,hi,hL,hb.1,hb.2,hw];exact ih _ _ ⟨by simp [h1],by simp,HN.mk⟩
 ·rintro e _ L hL ⟨h1,h3,n,rfl⟩;simp [c_39_l0,c_39_k9,h1,h3,hL,qrv _ _ _ f2 f3];refine (D4 (aX links hosts) (fun a=> !exB ports a) (some (.val (a8 9))) (some (.val (a8 (chkC links hosts))))
   (fun i e h=>look 1 e=some (.iptr 3 [[.slice 1 (ports.map cI),.slice 5 (links.map Link.c),.slice 2 (hosts.map PortID.c)]] 0 0)/\look 4 e=some (.slice 2 ((aX links hosts).map PortID.c))/\look 5 e=some (a8 i)/\
    HN h) ?_ ?_ ?_ _ _ ?_).trans (by unfold chkB;split<;>rfl)
  ·rintro i e _ L hi hL ⟨h1,h4,h5,n,rfl⟩ hb;have hb':exB ports ⟨(aX links hosts)[i].switch,(aX links hosts)[i].port⟩=false:=by simpa using hb
   simp [c_39_l1,PortID.c,h1,h4,h5,hi,hL,Ir,hb']
  ·rintro i e _ L X hi hL ⟨h1,h4,h5,n,rfl⟩ hb ih;have hb':exB ports ⟨(aX links hosts)[i].switch,(aX links hosts)[i].port⟩=true:=by simpa using hb
   have hw:=aL i (by omega);simp [c_39_l1,PortID.c,h1,h4,h5,hi,hL,Ir,hb',hw];exact ih _ _ ⟨by simp [h1],by simp [h4],by simp,HN.mk⟩
  ·rintro e _ L hL ⟨h1,h4,h5,n,rfl⟩;simp [c_39_l1,c_39_k8,h1,h4,h5,hL];refine (D4 (List.range (aX links hosts).length) (IX (aX links hosts)) (some (.val (a8 7))) (some (.val (a8 (chkD links))))
    (fun i e h=>look 1 e=some (.iptr 3 [[.slice 1 (ports.map cI),.slice 5 (links.map Link.c),.slice 2 (hosts.map PortID.c)]] 0 0)/\look 4 e=some (.slice 2 ((aX links hosts).map PortID.c))/\look 6 e=some (a8 i)/\
     HN h) ?_ ?_ ?_ _ _ ?_).trans (by unfold chkC;split<;>rfl)
   ·rintro i e _ L hi hL ⟨h1,h4,h6,n,rfl⟩ hb;rw [HA] at hi;simp only [Q5] at hb;have hd:((aX links hosts).take i).any (pX (aX links hosts)[i])=true:=by
     unfold IX at hb
     rwa [show (aX links hosts).getD i default=(aX links hosts)[i] by simp [JL,hi]] at hb
    simp [c_39_l4,PortID.c,h1,h4,h6,hi,hL];refine Mx ((aX links hosts).take i) (pX (aX links hosts)[i]) hd (some (Rt.val (a8 7)))
     (fun k e h=>look 4 e=some (.slice 2 ((aX links hosts).map PortID.c))/\look 6 e=some (a8 i)/\look 7 e=some (a8 k)) ?_ ?_ _ _ ?_
    ·rintro k e h L' hk hL' ⟨h4,h6,h7⟩ hb;simp only [qH] at hk;have hk1:k<i:=by omega
     have hk2:k<(aX links hosts).length:=by omega
     simp only [HB,pX,dD] at hb;simp [c_39_l2,PortID.c,h4,h6,h7,hk1,hk2,hi,hL',hb]
    ·rintro k e h L' hk hL' ⟨h4,h6,h7⟩ hb ih;simp only [qH] at hk;have hk1:k<i:=by omega
     have hk2:k<(aX links hosts).length:=by omega
     have hw:=aL k (by omega);simp only [HB,pX] at hb;simp [c_39_l2,PortID.c,h4,h6,h7,hk1,hk2,hi,hL',hb,hw];exact ih _ _ ⟨by simp [h4],by simp [h6],by simp⟩
    ·simp [h4,h6]
   ·rintro i e _ L X hi hL ⟨h1,h4,h6,n,rfl⟩ hb ihX;rw [HA] at hi;simp only [Q5] at hb;have hwi:=aL i (by omega);have hd:((aX links hosts).take i).any (pX (aX links hosts)[i])=false:=by
     unfold IX at hb
     rwa [show (aX links hosts).getD i default=(aX links hosts)[i] by simp [JL,hi]] at hb
    simp [c_39_l4,PortID.c,h1,h4,h6,hi,hL];refine Lh ((aX links hosts).take i) (pX (aX links hosts)[i]) hd X
     (fun k e h=>look 1 e=some (.iptr 3 [[.slice 1 (ports.map cI),.slice 5 (links.map Link.c),.slice 2 (hosts.map PortID.c)]] 0 0)/\look 4 e=some (.slice 2 ((aX links hosts).map PortID.c))/\look 6 e=some (a8 i)/\look 7 e=some (a8 k)/\
      HN h) ?_ ?_ _ _ ?_
    ·rintro k e _ L' hk hL' ⟨h1,h4,h6,h7,n,rfl⟩ hb ih;simp only [qH] at hk;have hk1:k<i:=by omega
     have hk2:k<(aX links hosts).length:=by omega
     have hw:=aL k (by omega);simp only [HB,pX] at hb;simp [c_39_l2,PortID.c,h4,h6,h7,hk1,hk2,hi,hL',hb,hw];exact ih _ _ ⟨by simp [h1],by simp [h4],by simp [h6],by simp,HN.mk⟩
    ·rintro e _ L' hL' ⟨h1,h4,h6,h7,n,rfl⟩;have hm:min i (aX links hosts).length=i:=by omega
     simp [hm] at h7;simp [c_39_l2,c_39_k3,PortID.c,h4,h6,h7,hL',hwi];exact ihX _ _ ⟨by simp [h1],by simp [h4],by simp,HN.mk⟩
    ·simp [h1,h4,h6];exact HN.mk
   ·rintro e _ L hL ⟨h1,h4,h6,n,rfl⟩;simp only [HA] at h6;simp [c_39_l4,c_39_k7,h1,h4,h6,hL];refine (D4 links (fun l=>decide (l.a.switch=l.b.switch)) (some (.val (a8 2))) (some (.val (a8 0)))
     (fun i e h=>look 1 e=some (.iptr 3 [[.slice 1 (ports.map cI),.slice 5 (links.map Link.c),.slice 2 (hosts.map PortID.c)]] 0 0)/\look 8 e=some (a8 i)/\
      HN h) ?_ ?_ ?_ _ _ ?_).trans (by unfold chkD;split<;>rfl)
    ·rintro i e _ L hi hL ⟨h1,h8,n,rfl⟩ hb;simp [c_39_l5,Link.c,h1,h8,hi,hL,hb]
    ·rintro i e _ L X hi hL ⟨h1,h8,n,rfl⟩ hb ih;have hw:=aL i (by omega);simp [c_39_l5,Link.c,h1,h8,hi,hL,hb,hw];exact ih _ _ ⟨by simp [h1],by simp,HN.mk⟩
    ·rintro e _ L hL ⟨h1,h8,n,rfl⟩;simp [c_39_l5,c_39_k6,h1,h8,hL]
    ·simp [h1];exact HN.mk
   ·simp [h1,h4];exact HN.mk
  ·simp [h1];exact HN.mk
 ·simp;exact HN.mk
@[simp] theorem frzB_no {Φ:FuncId->Option AFun} {β:Type} {fin:Option (Ex×St)->Option β} {t:Nat} {ks:List Nat} {K:List Fr} {e:Env} {H:AH} {id z i off:Nat} {o:Option (List (List AV))}:frzB Φ fin t ks K e H id z i off true o=go Φ fin (.f ks::K) .normal ⟨e,H⟩:=by
 cases o<;>simp [frzB]
theorem Em {α:Type} {q:α->Bool} {l:List α} (h:eA l q 0=true):∃k,∃hk:k<l.length,ixF q l 0=(k:Int)/\q l[k]=true:=by
 have key:∀i,i<=l.length->eA l q (l.length - i)=true->∃k,∃hk:k<l.length,ixF q l (l.length - i)=(k:Int)/\q l[k]=true:=by
  intro i
  induction i with
  | zero=>intro _ h;rw [Nat.sub_zero,IK] at h;cases h
  | succ i ih=>
   intro hi h;have hlt:l.length - (i+1)<l.length:=by omega
   cases hq:q l[l.length - (i+1)] with
   | true=>exact ⟨_,hlt,O9 hlt hq,hq⟩
   | false=>
    rw [IF hlt hq,show l.length - (i+1)+1=l.length - i by omega] at h;rw [NV hlt hq,show l.length - (i+1)+1=l.length - i by omega];exact ih (by omega) h
 have:=key l.length (Qb _) (by rwa [Nat.sub_self])
 rwa [Nat.sub_self] at this
def p00:PortID:=⟨0,0⟩
def BK (l:Link) (p:PortID):PortID×Int:=if l.down then (p00,20) else if l.a.switch=p.switch/\l.a.port=p.port then (l.b,0) else (l.a,0)
def gF (ports:List Int) (links:List Link) (hosts:List PortID) (p:PortID):PortID×Int:=
 if fK ports links hosts≠0 then (p00,fK ports links hosts) else if eA links (iP p.switch p.port) 0 then BK (links.getD (ixF (iP p.switch p.port) links 0).toNat default) p else (p00,8)
theorem qpo (x:List (List AV)) (links:List Link) (hosts:List PortID) (s p:Int) (hl:links.length<2^40) (hh:hosts.length<2^40):∃k i:Int,aA Φ yL [.agg [.slice 1 x,.slice 5 (links.map Link.c),.slice 2 (hosts.map PortID.c)],.agg [a8 s,a8 p]]=some (.val (.tup [a8 k,a8 i]))/\
  (eA links (iP s p) 0=true->k=1/\i=ixF (iP s p) links 0)/\(eA links (iP s p) 0=false->k≠1):=by
 rw [aD rfl rfl];have h1:=Zp x (hosts.map PortID.c) links s p hl;have h2:=QF x (links.map Link.c) hosts s p hh;cases a:eA links (iP s p) 0 with
 | true=>
  rw [a] at h1;exact ⟨1,_,by simp [qN,h1],fun _=>⟨rfl,rfl⟩,by simp⟩
 | false=>
  rw [a] at h1;cases b:eA hosts (atP s p) 0 with
  | true=>
   rw [b] at h2;exact ⟨2,_,by simp [qN,h1,h2];rfl,by simp,by simp⟩
  | false=>
   rw [b] at h2;exact ⟨0,0,by simp [qN,h1,h2],by simp,by simp⟩
theorem Ia (ports:List Int) (links:List Link) (hosts:List PortID) (s p:Int) (hl:links.length<2^40) (hh:hosts.length<2^40):aA Φ HX [.agg [.slice 1 (ports.map cI),.slice 5 (links.map Link.c),.slice 2 (hosts.map PortID.c)],.agg [a8 s,a8 p]]=
  some (.val (.tup [.agg (PortID.c (gF ports links hosts ⟨s,p⟩).1),a8 (gF ports links hosts ⟨s,p⟩).2])):=by
 rw [aD rfl rfl];have h0:=Hy ports links hosts;obtain ⟨k,i,h1,h2,h3⟩:=qpo (ports.map cI) links hosts s p hl hh;by_cases z:fK ports links hosts=0
 rotate_left
 ·simp [uC,h0,z,gF,PortID.c,p00]
 rw [z] at h0;cases a:eA links (iP s p) 0 with
 | false=>
  have h3:=h3 a;simp [uC,h0,h1,h3,gF,z,a,PortID.c,p00]
 | true=>
  obtain ⟨rfl,rfl⟩:=h2 a;obtain ⟨j,hj,h4,h5⟩:=Em a;rw [h4] at h1;have e:gF ports links hosts ⟨s,p⟩=BK links[j] ⟨s,p⟩:=by simp [gF,z,a,h4,hj]
  rw [e];cases d:links[j].down with
  | true=>simp [uC,h0,h1,hj,Link.c,d,BK,PortID.c,p00]
  | false=>
   by_cases q:links[j].a.switch=s/\links[j].a.port=p
   ·simp [uC,h0,h1,hj,Link.c,d,BK,PortID.c,q]
   ·have q':(decide (links[j].a.switch=s)&&decide (links[j].a.port=p))=false:=by simpa using q
    simp [uC,h0,h1,hj,Link.c,d,BK,PortID.c,q,q']
theorem Iq (ports:List Int) (links:List Link) (hosts:List PortID) (s p:Int) (hl:links.length<2^40):aA Φ I6 [.agg [.slice 1 (ports.map cI),.slice 5 (links.map Link.c),.slice 2 (hosts.map PortID.c)],.agg [a8 s,a8 p]]=
  some (.val (.tup [.agg (PortID.c (gF ports links hosts ⟨s,p⟩).1),a8 (gF ports links hosts ⟨s,p⟩).2])):=by
 rw [aD rfl rfl];have h0:=Ce ports links hosts;have h1:=Zz (ports.map cI) (hosts.map PortID.c) links s p hl;by_cases z:fK ports links hosts=0
 rotate_left
 ·simp [uD,h0,h1,z,gF,PortID.c,p00]
 rw [z] at h0;cases a:eA links (iP s p) 0 with
 | false=>
  rw [a] at h1;simp [uD,h0,h1,gF,z,a,PortID.c,p00]
 | true=>
  rw [a] at h1;obtain ⟨j,hj,h4,h5⟩:=Em a;rw [h4] at h1;have e:gF ports links hosts ⟨s,p⟩=BK links[j] ⟨s,p⟩:=by simp [gF,z,a,h4,hj]
  rw [e];cases d:links[j].down with
  | true=>simp [uD,h0,h1,hj,Link.c,d,BK,PortID.c,p00]
  | false=>
   by_cases q:links[j].a.switch=s/\links[j].a.port=p
   ·simp [uD,h0,h1,hj,Link.c,d,BK,PortID.c,q]
   ·have q':(decide (links[j].a.switch=s)&&decide (links[j].a.port=p))=false:=by simpa using q
    simp [uD,h0,h1,hj,Link.c,d,BK,PortID.c,q,q']
theorem al5 (l:List Link):d9 5 (l.map Link.c)=true:=fX 5 Link.c l fun x=>by simp
theorem al1 (l:List Int):d9 1 (l.map cI)=true:=fX 1 cI l fun x=>by simp
theorem mapOi {α:Type} {f:α->Option α}:∀{l:List α},(∀x∈l,f x=some x)->mapO f l=some l
 | [],_=>rfl
 | a::l,h=>by
  have h1:=h a (by simp);have h2:=mapOi (f:=f) (l:=l) fun x hx=>h x (by simp [hx])
  simp only [mapO,h1,h2]
theorem snpL {α:Type} {g:α->List AV} {n:Nat} {H:AH} (h:∀x,mapO (snap n H) (g x)=some (g x)) (l:List α):mapO (mapO (snap n H)) (l.map g)=some (l.map g):=by
 refine mapOi fun x hx=>?_
 obtain ⟨y,_,rfl⟩:=oZ.1 hx;exact h y
theorem Hn {n:Nat} {H:AH} (l:List Link):mapO (mapO (snap (n+1) H)) (l.map Link.c)=some (l.map Link.c):=snpL (fun x=>by simp [Link.c]) l
theorem RL {α β:Type} (f:α->β) (l:List α):(l.map f).take l.length=l.map f:=Qo (by simp)
section
variable (ports:List Int) (links:List Link) (hosts:List PortID) (h1:ports.length<=1000) (h2:links.length<=1000) (h3:hosts.length<=1000)
include h1 h2 h3
theorem Hv:
  aA Φ lS [.agg [.slice 1 (ports.map cI),.slice 5 (links.map Link.c),.slice 2 (hosts.map PortID.c)]]=some (.val (.agg [.slice 1 (ports.map cI),.slice 5 (links.map Link.c),.slice 2 (hosts.map PortID.c)])):=by
 rw [aD rfl rfl];have b1:ports.length*8<=70368744177664:=by omega
 have b2:links.length*40<=70368744177664:=by omega
 have b3:hosts.length*16<=70368744177664:=by omega
 by_cases z:links=[]
 ·subst z;simp [C3,al1,al2,b1,b3]
 ·simp [C3,al1,al2,al5,z,b1,b2,b3,RL,Hn]
theorem Zj (hz:links≠[]) (xs:List (List AV)):aI Φ lS [.agg [.slice 1 (ports.map cI),.slice 5 (links.map Link.c),.slice 2 (hosts.map PortID.c)]] ⟨[(0,.row 3 xs)],1⟩=some (.val (.agg [.app 1 (ports.map cI) 7,.row 10 5 0 links.length,.app 2 (hosts.map PortID.c) 13]),
  ⟨[(0,.row 3 xs),(1,.row 3 [[.app 1 (ports.map cI) 7,.row 10 5 0 links.length,.app 2 (hosts.map PortID.c) 13]]),(7,.tok 1 ports.length),(10,.row 5 (links.map Link.c)),(13,.tok 2 hosts.length)],14⟩):=by
 rw [dA rfl rfl];have b1:ports.length*8<=70368744177664:=by omega
 have b2:links.length*40<=70368744177664:=by omega
 have b3:hosts.length*16<=70368744177664:=by omega
 simp [C3,al1,al2,al5,hz,b1,b2,b3]
theorem Zw (hz:links≠[]) (xs:List (List AV)):aI Φ kT [.agg [.slice 1 (ports.map cI),.slice 5 (links.map Link.c),.slice 2 (hosts.map PortID.c)]] ⟨[(0,.row 3 xs)],1⟩=some (.val (.agg [.app 1 (ports.map cI) 3,.row 4 5 0 links.length,.app 2 (hosts.map PortID.c) 5]),
  ⟨[(0,.row 3 xs),(1,.row 3 [[.app 1 (ports.map cI) 3,.row 4 5 0 links.length,.app 2 (hosts.map PortID.c) 5]]),(2,.row 3 [[.app 1 (ports.map cI) 3,.row 4 5 0 links.length,.app 2 (hosts.map PortID.c) 5]]),(3,.tok 1 ports.length),(4,.row 5 (links.map Link.c)),(5,.tok 2 hosts.length)],6⟩):=by
 rw [dA rfl rfl];have b1:ports.length*8<=70368744177664:=by omega
 have b2:links.length*40<=70368744177664:=by omega
 have b3:hosts.length*16<=70368744177664:=by omega
 simp [EB,al1,al2,al5,hz,b1,b2,b3]
end
def setD (l:List Link) (k:Nat) (d:Bool):List Link:=match l[k]? with | some x=>l.set k { x with down:=d } | none=>l
theorem N9 {l:List Link} {k:Nat} (hk:k<l.length) (d:Bool):(l.map Link.c).set k (List.take 4 (Link.c l[k])++ .bool d::List.drop 5 (Link.c l[k]))=(setD l k d).map Link.c:=by
 simp [setD,hk,vL,Link.c]
theorem Ps (l:List Link) (k:Nat) (d:Bool):((setD l k d).map Link.c).take l.length=(setD l k d).map Link.c:=Qo (by unfold setD;split<;>simp)
theorem RG (l:List Link) (k:Nat) (d:Bool):(setD l k d).length=l.length:=by
 unfold setD;split<;>simp
section
variable (ports:List Int) (links:List Link) (hosts:List PortID) (k:Int) (d:Bool)
def slV:List AV×Int:=if k<0\/(links.length:Int)<=k then ([.slice 1 [],.slice 5 [],.slice 2 []],8) else ([.slice 1 (ports.map cI),.slice 5 ((setD links k.toNat d).map Link.c),.slice 2 (hosts.map PortID.c)],0)
theorem KT (h:k<0\/(links.length:Int)<=k):slV ports links hosts k d=([.slice 1 [],.slice 5 [],.slice 2 []],8):=aE h
theorem SE {n:Nat} (h:n<links.length):slV ports links hosts n d=([.slice 1 (ports.map cI),.slice 5 ((setD links n d).map Link.c),.slice 2 (hosts.map PortID.c)],0):=by
 unfold slV;rw [QA (by omega)];rfl
variable (h1:ports.length<=1000) (h2:links.length<=1000) (h3:hosts.length<=1000)
include h1 h2 h3
theorem Zk:aA Φ CT [.agg [.slice 1 (ports.map cI),.slice 5 (links.map Link.c),.slice 2 (hosts.map PortID.c)],a8 k,.bool d]=some (.val (.tup [.agg (slV ports links hosts k d).1,a8 (slV ports links hosts k d).2])):=by
 rw [aD rfl rfl];by_cases z1:k<0
 ·rw [KT _ _ _ _ _ (.inl z1)];simp [C9,z1]
 obtain ⟨n,rfl⟩:=fP (show 0<=k by omega);by_cases z2:links.length<=n
 ·have z2':(links.length:Int)<=n:=by omega
  rw [KT _ _ _ _ _ (.inr z2')];simp [C9,z2]
 have hn:n<links.length:=by omega
 have hz:links≠[]:=by rintro rfl;simp at hn
 have hc:=Zj ports links hosts h1 h2 h3 hz;rw [SE _ _ _ _ hn];simp [C9,z2,hc,hn,RL,Hn,N9 hn,Ps,RG]
theorem Zx:aA Φ rF [.agg [.slice 1 (ports.map cI),.slice 5 (links.map Link.c),.slice 2 (hosts.map PortID.c)],a8 k,.bool d]=some (.val (.tup [.agg (slV ports links hosts k d).1,a8 (slV ports links hosts k d).2])):=by
 rw [aD rfl rfl];by_cases z1:k<0
 ·rw [KT _ _ _ _ _ (.inl z1)];simp [qJ,z1]
 obtain ⟨n,rfl⟩:=fP (show 0<=k by omega);by_cases z2:links.length<=n
 ·have z2':(links.length:Int)<=n:=by omega
  rw [KT _ _ _ _ _ (.inr z2')];simp [qJ,z2]
 have hn:n<links.length:=by omega
 have hz:links≠[]:=by rintro rfl;simp at hn
 have hc:=Zw ports links hosts h1 h2 h3 hz;rw [SE _ _ _ _ hn];simp [qJ,z2,hc,hn,RL,Hn,N9 hn,Ps,RG]
end
@[ext] structure Pk where
 pos:PortID
 data:List Int
 hops:List Hop
 done:Bool
 kind:Int
 index:Int
 deriving Inhabited
@[ext] structure NetV where
 ports:List Int
 links:List Link
 hosts:List PortID
 cs:List Xf
 pk:List Pk
 log:List Event
 deriving Inhabited
structure Act where
 dd:Int
 a:Int
 b:Int
 data:List Int
 upd:UpdateStep
 deriving Inhabited
def Act.c (x:Act):List AV:=[a8 x.dd,a8 x.a,a8 x.b,.slice 1 (x.data.map c8),a8 x.upd.switch,.slice 9 (x.upd.ops.map Xc.c)]
def NetV.ev (V:NetV) (x:Event):NetV:={ V with log:=V.log++[x] }
def Pk.fin (x:Pk) (k i:Int):Pk:={ x with done:=true,kind:=k,index:=i }
def uU (V:NetV) (host:Int) (data:List Int):NetV×Int×Int:=
 if host<0\/(V.hosts.length:Int)<=host then (V,0,8)
 else if 512<data.length then (V,0,4)
 else if 4096<=V.pk.length then (V,0,12)
 else (NetV.ev { V with pk:=V.pk++[(⟨V.hosts.getD host.toNat default,data,[],false,0,0⟩:Pk)] } ⟨1,V.pk.length,host,0⟩,V.pk.length,0)
def hop1 (x:Pk) (out:Int):List Hop:=x.hops++[⟨x.pos.switch,x.pos.port,out⟩]
def mvD (x:Pk) (i:Nat):Pk×List Event:=(Pk.fin { x with hops:=hop1 x (-1) } 2 x.pos.switch,[⟨2,i,x.pos.switch,-1⟩])
def mvP (V:NetV) (x:Pk) (i:Nat) (r:Rslt):Pk×List Event:=
 if eA V.hosts (atP x.pos.switch r.port) 0 then (Pk.fin { x with hops:=hop1 x r.port,data:=r.data } 1 (ixF (atP x.pos.switch r.port) V.hosts 0),[⟨2,i,x.pos.switch,r.port⟩,⟨3,i,ixF (atP x.pos.switch r.port) V.hosts 0,0⟩])
 else if (gF V.ports V.links V.hosts ⟨x.pos.switch,r.port⟩).2=0 then ({ x with hops:=hop1 x r.port,data:=r.data,pos:=(gF V.ports V.links V.hosts ⟨x.pos.switch,r.port⟩).1 },[⟨2,i,x.pos.switch,r.port⟩])
 else (Pk.fin { x with hops:=hop1 x r.port,data:=r.data } 3 x.pos.switch,[⟨2,i,x.pos.switch,r.port⟩,⟨4,i,x.pos.switch,r.port⟩])
def mv (V:NetV) (x:Pk) (i:Nat) (r:Rslt):Pk×List Event:=if r.drop then mvD x i else mvP V x i r
def oN (V:NetV) (i:Nat) (r:Rslt) (c:Xf):NetV:=
  { V with cs:=V.cs.set (V.pk.getD i default).pos.switch.toNat c,pk:=V.pk.set i (mv V (V.pk.getD i default) i r).1,log:=V.log++(mv V (V.pk.getD i default) i r).2 }
def ev0:Event:=⟨0,0,0,0⟩
def pW (V:NetV) (i:Nat) (r:Rslt):Event:=(mv V (V.pk.getD i default) i r).2.getLastD ev0
def chkV (V:NetV) (id:Int):Int:=if id<0\/(V.pk.length:Int)<=id then 8 else if (V.pk.getD id.toNat default).done then 25 else 0
def stpV (P:Xf->Int->List Int->Rslt×Xf) (V:NetV) (id:Int):NetV×Event×Int:=
 if chkV V id≠0 then (V,ev0,chkV V id)
 else
  let x:=V.pk.getD id.toNat default
  let q:=P (V.cs.getD x.pos.switch.toNat default) x.pos.port x.data
  (oN V id.toNat q.1 q.2,pW V id.toNat q.1,0)
def uT (V:NetV) (k:Int) (d:Bool):NetV×Int:=
 if k<0\/(V.links.length:Int)<=k then (V,8) else (NetV.ev { V with links:=setD V.links k.toNat d } ⟨6,k,if d then 1 else 0,0⟩,0)
def Pk.c (x:Pk):List AV:=[a8 x.pos.switch,a8 x.pos.port,.slice 1 (x.data.map c8),.slice 3 (x.hops.map Hop.c),.bool x.done,a8 x.kind,a8 x.index,.slice 3 ((if x.done then x.hops else []).map Hop.c),.slice 2 []]
def NetV.r (V:NetV):List AV:=[.slice 1 (V.ports.map cI),.slice 5 (V.links.map Link.c),.slice 2 (V.hosts.map PortID.c),.slice 4 (V.cs.map Xf.c),.slice 9 (V.pk.map Pk.c),.slice 4 (V.log.map Event.c)]
theorem NetV.re (V:NetV):V.r=[.slice 1 (V.ports.map cI),.slice 5 (V.links.map Link.c),.slice 2 (V.hosts.map PortID.c),.slice 4 (V.cs.map Xf.c),.slice 9 (V.pk.map Pk.c),.slice 4 (V.log.map Event.c)]:=rfl
theorem Pk.ce (x:Pk):x.c=[a8 x.pos.switch,a8 x.pos.port,.slice 1 (x.data.map c8),.slice 3 (x.hops.map Hop.c),.bool x.done,a8 x.kind,a8 x.index,.slice 3 ((if x.done then x.hops else []).map Hop.c),.slice 2 []]:=rfl
@[simp] theorem Pk.c_len (x:Pk):x.c.length=9:=by simp [Pk.c]
structure NetS (V:NetV):Prop where
 p:V.ports.length<=1000
 l:V.links.length<=1000
 h:V.hosts.length<=1000
 c:V.cs.length<=1000
 k:V.pk.length<=1000
 g:V.log.length<=10000
 hp:∀x∈V.pk,x.hops.length<=1000
theorem al4 (l:List Event):d9 4 (l.map Event.c)=true:=fX 4 Event.c l fun x=>by simp
theorem al9 (l:List Pk):d9 9 (l.map Pk.c)=true:=fX 9 Pk.c l fun x=>by simp
theorem alC (l:List Xf):d9 4 (l.map Xf.c)=true:=fX 4 Xf.c l fun x=>by simp
theorem alH (l:List Hop):d9 3 (l.map Hop.c)=true:=fX 3 Hop.c l fun x=>by simp
theorem JZ (V:NetV) (id:Int):aA Φ A8 [.agg V.r,a8 id]=some (.val (a8 (chkV V id))):=by
 rw [aD rfl rfl];unfold chkV;by_cases z1:id<0
 ·simp [C5,NetV.re,z1]
 obtain ⟨n,rfl⟩:=fP (show 0<=id by omega);by_cases z2:V.pk.length<=n
 ·have z2':(V.pk.length:Int)<=n:=by omega
  simp [C5,NetV.re,z2]
 have hn:n<V.pk.length:=by omega
 cases d:V.pk[n].done<;>simp [C5,NetV.re,z2,hn,Pk.ce,d]
theorem Ij (V:NetV) (x:Event) (h:V.log.length<=10000):aA Φ i8 [.agg V.r,.agg (Event.c x)]=some (.val (.agg (V.ev x).r)):=by
 rw [aD rfl rfl];have b1:V.log.length*32<=70368744177664:=by omega
 have b2:(V.log.length+1)*32<=70368744177664:=by omega
 simp [lP,NetV.re,Event.c,NetV.ev,b1,b2,al4]
theorem Zt (V:NetV) (k:Int) (d:Bool) (s:NetS V):aA Φ HU [.agg V.r,a8 k,.bool d]=some (.val (.tup [.agg (uT V k d).1.r,a8 (uT V k d).2])):=by
 rw [aD rfl rfl];have h1:=Zx V.ports V.links V.hosts k d s.p s.l s.h;by_cases z:k<0\/(V.links.length:Int)<=k
 ·rw [KT _ _ _ _ _ z] at h1;simp [HH,NetV.re,h1,uT,z]
 obtain ⟨n,rfl⟩:=fP (show 0<=k by omega);rw [SE _ _ _ _ (show n<V.links.length by omega)] at h1;have z1:¬V.links.length<=n:=by omega
 have h2:=fun y=>Ij { V with links:=setD V.links n d } y s.g
 simp [NetV.re,NetV.ev,Event.c] at h2;cases d<;>simp [HH,NetV.re,h1,uT,z1,h2 ⟨6,n,_,0⟩,NetV.ev,Event.c]
theorem qr0 (V:NetV) (h:Int) (b:List Int) (s:NetS V):aA Φ HT [.agg V.r,a8 h,.slice 1 (b.map c8)]=some (.val (.tup [.agg (uU V h b).1.r,a8 (uU V h b).2.1,a8 (uU V h b).2.2])):=by
 rw [aD rfl rfl];unfold uU;by_cases z1:h<0
 ·simp [yE,NetV.re,z1]
 obtain ⟨n,rfl⟩:=fP (show 0<=h by omega);by_cases z2:V.hosts.length<=n
 ·have z2':(V.hosts.length:Int)<=n:=by omega
  simp [yE,NetV.re,z2]
 have hn:n<V.hosts.length:=by omega
 by_cases z3:512<b.length
 ·simp [yE,NetV.re,z2,z3]
 have hk:=s.k;have z4:¬4096<=V.pk.length:=by omega
 have b1:V.pk.length*136<=70368744177664:=by omega
 have b2:(V.pk.length+1)*136<=70368744177664:=by omega
 have h2:=Ij { V with pk:=V.pk++[⟨V.hosts[n],b,[],false,0,0⟩] } ⟨1,V.pk.length,n,0⟩ s.g;simp [NetV.re,NetV.ev,Event.c,Pk.ce] at h2;simp [yE,NetV.re,z2,z3,z4,hn,b1,b2,al9,PortID.c,NetV.ev,Event.c,Pk.ce,h2]
set_option maxRecDepth 8000
theorem Rslt.ce (x:Rslt):x.c=[.bool x.drop,a8 x.port,.slice 1 (x.data.map c8),.slice 3 (x.hits.map Hit.c)]:=rfl
theorem Event.ce (x:Event):x.c=[a8 x.kind,a8 x.a,a8 x.b,a8 x.cc]:=rfl
theorem NH (a b:AV) (h:AH):aI Φ i8 [a,b] h=go Φ (finC lP.results) [.c lP.body] .normal ⟨dI 0 [a,b],h⟩:=dA rfl rfl
theorem R6 (a b c d e:AV) (h:AH):aI Φ pQ [a,b,c,d,e] h=go Φ (finC pM.results) [.c pM.body] .normal ⟨dI 0 [a,b,c,d,e],h⟩:=dA rfl rfl
theorem R0 (a b c:AV) (h:AH):aI Φ pR [a,b,c] h=go Φ (finC pN.results) [.c pN.body] .normal ⟨dI 0 [a,b,c],h⟩:=dA rfl rfl
theorem Xf.e4 (x:Xf):Xf.c x=[.slice 1 (x.rows.map (cS 5 Rw.c)),.slice 1 (x.Xr.map cI),.slice 2 (x.Xq.map Xb.c),.slice 1 (x.Xm.map (cS 1 c32))]:=by simp [Xf.c]
theorem SF {α:Type} {g:α->List AV} {n:Nat} {H:AH} (h:∀x,mapO (snap n H) (g x)=some (g x)):∀{l:List α} {i:Nat},i<l.length->∀y:List AV,mapO (mapO (snap n H)) ((l.map g).set i y)=(mapO (snap n H) y).map fun z=>(l.map g).set i z
 | [],_,hi,_=>by simp at hi
 | a::l,0,_,y=>by
  have h2:=snpL h l;simp only [w9,List.set_cons_zero,mapO,h2];cases mapO (snap n H) y<;>rfl
 | a::l,i+1,hi,y=>by
  have h1:=h a;have h2:=SF h (l:=l) (i:=i) (by simpa using hi) y;simp only [w9,List.set_cons_succ,mapO,h1,h2];cases mapO (snap n H) y<;>rfl
theorem snpPk {n:Nat} {H:AH} (x:Pk):mapO (snap (n+1) H) x.c=some x.c:=by simp [Pk.c]
theorem snpCf {n:Nat} {H:AH} (x:Xf):mapO (snap (n+1) H) x.c=some x.c:=by simp [Xf.c]
theorem RJ {n:Nat} {H:AH} {l:List Pk} {i:Nat} (hi:i<l.length) (y:List AV):mapO (mapO (snap (n+1) H)) ((l.map Pk.c).set i y)=(mapO (snap (n+1) H) y).map fun z=>(l.map Pk.c).set i z:=SF snpPk hi y
theorem NX {n:Nat} {H:AH} {l:List Xf} {i:Nat} (hi:i<l.length) (y:List AV):mapO (mapO (snap (n+1) H)) ((l.map Xf.c).set i y)=(mapO (snap (n+1) H) y).map fun z=>(l.map Xf.c).set i z:=SF snpCf hi y
theorem RN (a b c d:Int):aoEq (some (.row 4 [[a8 a,a8 b,a8 c,a8 d]])) (some (.row 4 [[a8 a,a8 b,a8 c,a8 d]]))=true:=by simp [aoEq,eqL,avEq,b8]
theorem iD {α β:Type} (g:α->β) (l:List α) (i:Nat) (y:β):((l.map g).set i y).take l.length=(l.map g).set i y:=Qo (by simp)
section
variable (V:NetV) (i:Nat) (hi:i<V.pk.length) (x:Pk) (hx:V.pk[i]=x) (k:Nat) (hs:x.pos.switch=k) (hk:k<V.cs.length) (r:Rslt) (c:Xf) (s:NetS V) (hd:x.done=false)
include hi hx hs hk s hd
theorem qo6 (hr:r.drop=true):aA Φ i7 [.agg V.r,a8 i,.agg (Rslt.c r),.agg (Xf.c c)]=some (.val (.tup [.agg (oN V i r c).r,.agg (Event.c (pW V i r))])):=by
 rw [aD rfl rfl];have hg:=s.g;have hkk:=s.k;have hc:=s.c;have hh:=s.hp x (by rw [<- hx];exact Qd hi);have b1:V.log.length*32<=70368744177664:=by omega
 have b2:(V.log.length+1)*32<=70368744177664:=by omega
 have b3:V.cs.length*96<=70368744177664:=by omega
 have b4:x.hops.length*24<=70368744177664:=by omega
 have b5:(x.hops.length+1)*24<=70368744177664:=by omega
 have b6:V.pk.length*136<=70368744177664:=by omega
 have n1:V.cs≠[]:=by intro h;rw [h] at hk;simp at hk
 have n2:V.pk≠[]:=by intro h;simp [h] at hi
 have hgd:V.pk[i]?.getD default=x:=by simp [hi,hx]
 have b2':(V.log.length+1+1)*32<=70368744177664:=jZ (Qj 32 (DT (DT hg 1) 1)) (by decide);simp [yF,NetV.re,hx,hi,hs,hk,hr,hd,Pk.ce,Rslt.ce,Xf.e4,alC,alH,al4,al9,b1,b2,b2',b3,b4,b5,b6,n1,n2,NH,R6,R0,lP,pM,pN,RN,iD,RJ hi,NX hk];simp [oN,pW,mv,mvD,mvP,hr,hgd,Pk.fin,vL,Xf.e4,Pk.ce,hop1,Event.ce,Hop.c,hs,hd]
theorem qo7 (hr:r.drop=false) (ha:eA V.hosts (atP k r.port) 0=true):aA Φ i7 [.agg V.r,a8 i,.agg (Rslt.c r),.agg (Xf.c c)]=some (.val (.tup [.agg (oN V i r c).r,.agg (Event.c (pW V i r))])):=by
 rw [aD rfl rfl];have hg:=s.g;have hkk:=s.k;have hc:=s.c;have hh:=s.hp x (by rw [<- hx];exact Qd hi);have b1:V.log.length*32<=70368744177664:=by omega
 have b2:(V.log.length+1)*32<=70368744177664:=by omega
 have b3:V.cs.length*96<=70368744177664:=by omega
 have b4:x.hops.length*24<=70368744177664:=by omega
 have b5:(x.hops.length+1)*24<=70368744177664:=by omega
 have b6:V.pk.length*136<=70368744177664:=by omega
 have n1:V.cs≠[]:=by intro h;rw [h] at hk;simp at hk
 have n2:V.pk≠[]:=by intro h;simp [h] at hi
 have hgd:V.pk[i]?.getD default=x:=by simp [hi,hx]
 have k1:=Cb (V.ports.map cI) (V.links.map Link.c) V.hosts k r.port (by have:=s.h;omega);rw [ha] at k1;have b2':(V.log.length+1+1)*32<=70368744177664:=jZ (Qj 32 (DT (DT hg 1) 1)) (by decide);simp [yF,NetV.re,hx,hi,hs,hk,hr,hd,Pk.ce,Rslt.ce,Xf.e4,alC,alH,al4,al9,b1,b2,b2',b3,b4,b5,b6,n1,n2,NH,R6,R0,lP,pM,pN,RN,iD,RJ hi,NX hk,k1];simp [oN,pW,mv,mvD,mvP,hr,hgd,Pk.fin,vL,Xf.e4,Pk.ce,hop1,Event.ce,Hop.c,hs,hd,ha]
theorem qo9 (hr:r.drop=false) (ha:eA V.hosts (atP k r.port) 0=false) (hp:(gF V.ports V.links V.hosts ⟨k,r.port⟩).2=0):aA Φ i7 [.agg V.r,a8 i,.agg (Rslt.c r),.agg (Xf.c c)]=some (.val (.tup [.agg (oN V i r c).r,.agg (Event.c (pW V i r))])):=by
 rw [aD rfl rfl];have hg:=s.g;have hkk:=s.k;have hc:=s.c;have hh:=s.hp x (by rw [<- hx];exact Qd hi);have b1:V.log.length*32<=70368744177664:=by omega
 have b2:(V.log.length+1)*32<=70368744177664:=by omega
 have b3:V.cs.length*96<=70368744177664:=by omega
 have b4:x.hops.length*24<=70368744177664:=by omega
 have b5:(x.hops.length+1)*24<=70368744177664:=by omega
 have b6:V.pk.length*136<=70368744177664:=by omega
 have n1:V.cs≠[]:=by intro h;rw [h] at hk;simp at hk
 have n2:V.pk≠[]:=by intro h;simp [h] at hi
 have hgd:V.pk[i]?.getD default=x:=by simp [hi,hx]
 have k1:=Cb (V.ports.map cI) (V.links.map Link.c) V.hosts k r.port (by have:=s.h;omega);have k2:=Iq V.ports V.links V.hosts k r.port (by have:=s.l;omega);rw [ha] at k1;rw [hp] at k2;obtain ⟨p,hpp⟩:∃p,(gF V.ports V.links V.hosts ⟨k,r.port⟩).1=p:=⟨_,rfl⟩;rw [hpp,PortID.c] at k2;have b2':(V.log.length+1+1)*32<=70368744177664:=jZ (Qj 32 (DT (DT hg 1) 1)) (by decide);simp [yF,NetV.re,hx,hi,hs,hk,hr,hd,Pk.ce,Rslt.ce,Xf.e4,alC,alH,al4,al9,b1,b2,b2',b3,b4,b5,b6,n1,n2,NH,R6,R0,lP,pM,pN,RN,iD,RJ hi,NX hk,k1,k2];simp [oN,pW,mv,mvD,mvP,hr,hgd,Pk.fin,vL,Xf.e4,Pk.ce,hop1,Event.ce,Hop.c,hs,hd,ha,hp,hpp]
theorem qo8 (hr:r.drop=false) (ha:eA V.hosts (atP k r.port) 0=false) (hp:(gF V.ports V.links V.hosts ⟨k,r.port⟩).2≠0):aA Φ i7 [.agg V.r,a8 i,.agg (Rslt.c r),.agg (Xf.c c)]=some (.val (.tup [.agg (oN V i r c).r,.agg (Event.c (pW V i r))])):=by
 rw [aD rfl rfl];have hg:=s.g;have hkk:=s.k;have hc:=s.c;have hh:=s.hp x (by rw [<- hx];exact Qd hi);have b1:V.log.length*32<=70368744177664:=by omega
 have b2:(V.log.length+1)*32<=70368744177664:=by omega
 have b3:V.cs.length*96<=70368744177664:=by omega
 have b4:x.hops.length*24<=70368744177664:=by omega
 have b5:(x.hops.length+1)*24<=70368744177664:=by omega
 have b6:V.pk.length*136<=70368744177664:=by omega
 have n1:V.cs≠[]:=by intro h;rw [h] at hk;simp at hk
 have n2:V.pk≠[]:=by intro h;simp [h] at hi
 have hgd:V.pk[i]?.getD default=x:=by simp [hi,hx]
 have k1:=Cb (V.ports.map cI) (V.links.map Link.c) V.hosts k r.port (by have:=s.h;omega);have k2:=Iq V.ports V.links V.hosts k r.port (by have:=s.l;omega);rw [ha] at k1;rw [PortID.c] at k2;have b2':(V.log.length+1+1)*32<=70368744177664:=jZ (Qj 32 (DT (DT hg 1) 1)) (by decide);simp [yF,NetV.re,hx,hi,hs,hk,hr,hd,Pk.ce,Rslt.ce,Xf.e4,alC,alH,al4,al9,b1,b2,b2',b3,b4,b5,b6,n1,n2,NH,R6,R0,lP,pM,pN,RN,iD,RJ hi,NX hk,k1,k2,hp];simp [oN,pW,mv,mvD,mvP,hr,hgd,Pk.fin,vL,Xf.e4,Pk.ce,hop1,Event.ce,Hop.c,hs,hd,ha,hp]
theorem qrz:aA Φ i7 [.agg V.r,a8 i,.agg (Rslt.c r),.agg (Xf.c c)]=some (.val (.tup [.agg (oN V i r c).r,.agg (Event.c (pW V i r))])):=by
 cases hr:r.drop with
 | true=>exact qo6 V i hi x hx k hs hk r c s hd hr
 | false=>
  cases ha:eA V.hosts (atP k r.port) 0 with
  | true=>exact qo7 V i hi x hx k hs hk r c s hd hr ha
  | false=>
   by_cases hp:(gF V.ports V.links V.hosts ⟨k,r.port⟩).2=0
   ·exact qo9 V i hi x hx k hs hk r c s hd hr ha hp
   ·exact qo8 V i hi x hx k hs hk r c s hd hr ha hp
end
def tkn:AV->Option Nat
 | .app _ _ t=>some t
 | _=>none
def Ap (O:List (Nat×AO)) (z:Nat) (v:AV) (es:List (List AV)):Prop:=(es=[]/\v= .Xu z [])\/∃t,v= .app z es t/\look t O=some (.tok z es.length)
def Ex1 (O:List (Nat×AO)) (z:Nat) (v:AV) (es:List (List AV)):Prop:=(es=[]/\v= .Xu z [])\/∃i,v= .row i z 0 es.length/\look i O=some (.row z es)
def PkN (x:Pk) (h:AV):List AV:=[a8 x.pos.switch,a8 x.pos.port,.slice 1 (x.data.map c8),h,.bool x.done,a8 x.kind,a8 x.index,.Xu 3 [],.Xu 2 []]
def pkN (l:List Pk) (H:List AV):List (List AV):=List.zipWith PkN l H
def nwR (V:NetV) (cv pv lv f:AV):List AV:=[.slice 1 (V.ports.map cI),.slice 5 (V.links.map Link.c),.slice 2 (V.hosts.map PortID.c),cv,pv,lv,f]
theorem jH (V:NetV) (cv pv lv f:AV):nwR V cv pv lv f=[.slice 1 (V.ports.map cI),.slice 5 (V.links.map Link.c),.slice 2 (V.hosts.map PortID.c),cv,pv,lv,f]:=rfl
structure NetM (O:List (Nat×AO)) (n:Nat) (V:NetV) (f:AV) (C:Nat) (pv lv:AV) (H:List AV):Prop where
 row:look n O=some (.row 7 [nwR V (.row C 4 0 V.cs.length) pv lv f])
 cf:look C O=some (.row 4 (V.cs.map Xf.c))
 pk:Ex1 O 9 pv (pkN V.pk H)
 hl:H.length=V.pk.length
 hp:∀(k:Nat) (x:Pk) (h:AV),V.pk[k]? =some x->H[k]? =some h->Ap O 3 h (x.hops.map Hop.c)
 lg:Ap O 4 lv (V.log.map Event.c)
 hi:∀(k k':Nat) (h h':AV) (t:Nat),H[k]? =some h->H[k']? =some h'->tkn h=some t->tkn h'=some t->k=k'
 hg:∀(k:Nat) (h:AV) (t:Nat),H[k]? =some h->tkn h=some t->tkn lv≠some t
def NetM.own (n C:Nat) (pv lv:AV) (H:List AV) (j:Nat):Prop:=j=n\/j=C\/vid pv=some j\/tkn lv=some j\/∃h∈H,tkn h=some j
theorem Ap.fr {O O':List (Nat×AO)} {z:Nat} {v:AV} {es:List (List AV)} (h:Ap O z v es) (hf:∀t,tkn v=some t->look t O'=look t O):Ap O' z v es:=by
 rcases h with h | ⟨t,rfl,ht⟩
 ·exact .inl h
 ·exact .inr ⟨t,rfl,by rw [hf t rfl,ht]⟩
theorem Ap.tk {O:List (Nat×AO)} {z t:Nat} {v:AV} {es:List (List AV)} (h:Ap O z v es) (ht:tkn v=some t):look t O=some (.tok z es.length):=by
 rcases h with ⟨_,rfl⟩ | ⟨u,rfl,hu⟩
 ·cases ht
 ·cases ht;exact hu
theorem Ex1.fr {O O':List (Nat×AO)} {z:Nat} {v:AV} {es:List (List AV)} (h:Ex1 O z v es) (hf:∀t,vid v=some t->look t O'=look t O):Ex1 O' z v es:=by
 rcases h with h | ⟨t,rfl,ht⟩
 ·exact .inl h
 ·exact .inr ⟨t,rfl,by rw [hf t rfl,ht]⟩
theorem Ex1.id {O:List (Nat×AO)} {z t:Nat} {v:AV} {es:List (List AV)} (h:Ex1 O z v es) (ht:vid v=some t):look t O=some (.row z es):=by
 rcases h with ⟨_,rfl⟩ | ⟨u,rfl,hu⟩
 ·cases ht
 ·cases ht;exact hu
theorem NetM.fr {O O':List (Nat×AO)} {n:Nat} {V:NetV} {f:AV} {C:Nat} {pv lv:AV} {H:List AV} (m:NetM O n V f C pv lv H) (hf:∀j,NetM.own n C pv lv H j->look j O'=look j O):NetM O' n V f C pv lv H:=by
 refine ⟨by rw [hf n (.inl rfl)];exact m.row,by rw [hf C (.inr (.inl rfl))];exact m.cf,m.pk.fr fun t ht=>hf t (.inr (.inr (.inl ht))),m.hl,?_,m.lg.fr fun t ht=>hf t (.inr (.inr (.inr (.inl ht)))),m.hi,m.hg⟩;intro k x h hx hh;exact (m.hp k x h hx hh).fr fun t ht=>hf t (.inr (.inr (.inr (.inr ⟨h,Qe hh,ht⟩))))
theorem NetM.hk {O:List (Nat×AO)} {n:Nat} {V:NetV} {f:AV} {C:Nat} {pv lv:AV} {H:List AV} (m:NetM O n V f C pv lv H) {k t:Nat} {h:AV} (hh:H[k]? =some h) (ht:tkn h=some t):∃l,look t O=some (.tok 3 l):=by
 have hk:k<V.pk.length:=by
  have:=(Qm.1 hh).1;rw [m.hl] at this;exact this
 exact ⟨_,(m.hp k _ h (Qa hk) hh).tk ht⟩
theorem NetM.nr {O:List (Nat×AO)} {n:Nat} {V:NetV} {f:AV} {C:Nat} {pv lv:AV} {H:List AV} (m:NetM O n V f C pv lv H) {j:Nat} (hj:NetM.own n C pv lv H j):∃y,look j O=some y/\y≠ .res:=by
 rcases hj with rfl | rfl | hj | hj | ⟨h,hh,hj⟩
 ·exact ⟨_,m.row,by simp⟩
 ·exact ⟨_,m.cf,by simp⟩
 ·exact ⟨_,m.pk.id hj,by simp⟩
 ·exact ⟨_,m.lg.tk hj,by simp⟩
 ·obtain ⟨k,hk,rfl⟩:=Qn.1 hh;obtain ⟨l,hl⟩:=m.hk (Qa hk) hj;exact ⟨_,hl,by simp⟩
def Mn (O O':List (Nat×AO)):Prop:=∀j y,look j O=some y->y≠ .res->look j O'=some y
theorem Mn.refl {O:List (Nat×AO)}:Mn O O:=fun _ _ h _=>h
theorem Mn.trans {O O' O'':List (Nat×AO)} (h:Mn O O') (h':Mn O' O''):Mn O O'':=fun j y hl hy=>h' j y (h j y hl hy) hy
theorem Mn.app {O:List (Nat×AO)} {r:List (Nat×AO)}:Mn O (O++r):=fun j y hl _=>by rw [aC,hl];rfl
theorem Mn.sweep {O:List (Nat×AO)}:Mn O (bZ O):=fun j y hl hy=>by rw [aR (by rw [hl];simpa using hy),hl]
theorem Mn.set {O:List (Nat×AO)} {t:Nat} {y:AO} (h:look t O=none\/look t O=some .res):Mn O (setl t y O):=fun j x hl hx=>by
 rw [aB,QA (by rintro rfl;rcases h with h | h<;>rw [h] at hl<;>cases hl;exact hx rfl),hl]
theorem Mn.drop {O:List (Nat×AO)} {t:Nat} (h:look t O=none\/look t O=some .res):Mn O (bW t O):=fun j x hl hx=>by
 rw [bK (by rintro rfl;rcases h with h | h<;>rw [h] at hl<;>cases hl;exact hx rfl),hl]
theorem NetM.mn {O O':List (Nat×AO)} {n:Nat} {V:NetV} {f:AV} {C:Nat} {pv lv:AV} {H:List AV} (m:NetM O n V f C pv lv H) (h:Mn O O'):NetM O' n V f C pv lv H:=
 m.fr fun j hj=>by
  obtain ⟨y,hy,hn⟩:=m.nr hj;rw [h j y hy hn,hy]
theorem Kp.mn {X:Nat->Prop} {N:Nat} {O O' O'':List (Nat×AO)} (h:Kp X N O O') (hx:∀j,Rs O j->X j) (hm:Mn O' O'') (hn:∀j,j<N->look j O'=none->look j O''=none):Kp X N O O'':=by
 intro j hj hxj;have h1:=h j hj hxj;cases hl:look j O' with
 | none=>rw [hn j hj hl,<- h1,hl]
 | some y=>
  by_cases hy:y= .res
  ·subst hy;exact absurd (hx j (by unfold Rs;rw [<- h1,hl])) hxj
  ·rw [hm j y hl hy,<- h1,hl]
theorem KP {O:List (Nat×AO)} {n N g:Nat} {V:NetV} {cv pv lv:AV} (h:look n O=some (.row 7 [nwR V cv pv lv (.func (.func g) [] [])])):aI Φ jC [.ptr n 7 0 0] ⟨O,N⟩=some (.val (.bool true),⟨O,N⟩):=by
 rw [dA rfl rfl];rw [jH] at h;simp [lO,h]
section
variable {O:List (Nat×AO)} {n N:Nat} {V:NetV} {f:AV} {C:Nat} {pv lv:AV} {H:List AV}
theorem NetM.evs {O':List (Nat×AO)} {lv':AV} {x:Event} (m:NetM O n V f C pv lv H) (hr:look n O'=some (.row 7 [nwR V (.row C 4 0 V.cs.length) pv lv' f])) (hl:Ap O' 4 lv' ((V.ev x).log.map Event.c)) (hn:∀t:Nat,tkn lv'=some t->tkn lv=some t\/look t O=none\/look t O=some .res)
  (hk:∀(j:Nat) (y:AO),look j O=some y->y≠ .res->j≠n->tkn lv≠some j->look j O'=some y):NetM O' n (V.ev x) f C pv lv' H:=by
 have ho:∀j,NetM.own n C pv lv H j->j≠n->tkn lv≠some j->look j O'=look j O:=by
  intro j hj h1 h2;obtain ⟨y,hy,hny⟩:=m.nr hj;rw [hk j y hy hny h1 h2,hy]
 have hCn:C≠n:=aP m.cf m.row (by simp);have hCl:tkn lv≠some C:=fun h=>by have:=m.lg.tk h;rw [m.cf] at this;cases this
 have hHn:∀(k:Nat) (h:AV) (t:Nat),H[k]? =some h->tkn h=some t->look t O'=look t O:=by
  intro k h t hh ht;refine ho t (.inr (.inr (.inr (.inr ⟨h,Qe hh,ht⟩)))) ?_ (m.hg k h t hh ht);obtain ⟨l,hl⟩:=m.hk hh ht;exact aP hl m.row (by simp)
 refine ⟨hr,by rw [ho C (.inr (.inl rfl)) hCn hCl];exact m.cf,m.pk.fr fun t ht=>?_,m.hl,fun k x h hx hh=>(m.hp k x h hx hh).fr fun t ht=>hHn k h t hh ht,hl,m.hi,?_⟩
 ·refine ho t (.inr (.inr (.inl ht))) (aP (m.pk.id ht) m.row (by simp)) fun h=>?_
  have:=m.lg.tk h;rw [m.pk.id ht] at this;cases this
 ·intro k h t hh ht hc;obtain ⟨l,hl⟩:=m.hk hh ht;rcases hn t hc with h1 | h1 | h1
  ·exact m.hg k h t hh ht h1
  ·rw [h1] at hl;cases hl
  ·rw [h1] at hl;cases hl
theorem TF (m:NetM O n V f C pv lv H) (hT:Tail O N) (hb:V.log.length<=10000) (k a b c:Int):
  ∃O' N' lv',aI Φ jD [.ptr n 7 0 0,a8 k,a8 a,a8 b,a8 c] ⟨O,N⟩=some (.val (.agg [a8 k,a8 a,a8 b,a8 c]),⟨O',N'⟩)/\NetM O' n (V.ev ⟨k,a,b,c⟩) f C pv lv' H/\(∀t,tkn lv'=some t->tkn lv=some t\/N<=t)/\Kp (fun j=>j=n\/tkn lv=some j\/Rs O j) N O O'/\Tail O' N'/\N<=N':=by
 rw [dA rfl rfl];have h:=m.row;rw [jH] at h;have t0:=hT N (Qb _);have t1:=hT (N+1) (by omega);have t2:=hT (N+1+1) (by omega);have hn:=hT.lt h;have q0:¬N=n/\¬n=N/\¬N+1=n/\¬n=N+1/\¬N+1+1=n/\¬n=N+1+1/\¬N=N+1+1/\¬N+1+1=N:=by omega
 obtain ⟨q1,q2,q3,q4,q5,q6,q7,q8⟩:=q0;have b2:(V.log.length+1)*32<=70368744177664:=by omega
 rcases m.lg with ⟨hz,rfl⟩ | ⟨T,rfl,hz⟩
 ·have hz':V.log=[]:=by simpa using hz
  simp [HI,h,t0,t1,t2,q1,q2,q3,q4,q5,q6,q7,q8,aC,aB];refine ⟨_,_,⟨rfl,rfl⟩,.app 4 [[a8 k,a8 a,a8 b,a8 c]] (N+1+1),m.evs ?_ (.inr ⟨N+1+1,?_,?_⟩) ?_ ?_,?_,?_,?_,by omega⟩
  ·simp [aB,aC,h,q1,q2,jH,NetV.ev]
  ·simp [NetV.ev,hz',Event.c]
  ·simp [NetV.ev,hz',aB,aC,t2,q5,q7,q8]
  ·intro t ht;cases ht;exact .inr (.inl t2)
  ·intro j y hj hy h1 h2;have:j≠N:=by rintro rfl;rw [t0] at hj;cases hj
   simp [aB,aC,hj,h1,this]
  ·intro t ht;simp only [tkn,Option.some.injEq] at ht;right;omega
  ·intro j hj hx;have j1:¬j=n:=fun e=>hx (.inl e)
   have j2:¬j=N:=by omega
   have j3:¬N=j:=by omega
   have j4:¬N+1+1=j:=by omega
   simp [aB,aC,j1,j2,j3,j4]
  ·refine bV (bV ?_);simp [Tail_append_iff,Tail_cons_iff,pS];exact ⟨hT.mono (by omega),by omega⟩
 ·have u1:T≠n:=aP hz h (by simp);have u2:=u1.symm;have hTl:=hT.lt hz;have r0:¬N=T/\¬T=N/\¬N+1=T/\¬T=N+1:=by omega
  obtain ⟨r1,r2,r3,r4⟩:=r0;simp at hz;simp [HI,h,t0,t1,t2,q1,q2,q3,q4,q5,q6,q7,q8,r1,r2,r3,r4,u1,u2,hz,aC,aB,b2];refine ⟨_,_,⟨rfl,rfl⟩,.app 4 (V.log.map Event.c++[[a8 k,a8 a,a8 b,a8 c]]) T,m.evs ?_ (.inr ⟨T,?_,?_⟩) ?_ ?_,?_,?_,?_,by omega⟩
  ·simp [aB,aC,h,q1,q2,u1,u2,jH,NetV.ev]
  ·simp [NetV.ev,Event.c]
  ·simp [NetV.ev,aB,aC,hz,u1,r1,r2]
  ·intro t ht;cases ht;exact .inl rfl
  ·intro j y hj hy h1 h2;have h3:¬j=N:=by rintro rfl;rw [t0] at hj;cases hj
   have h4:¬j=T:=fun e=>h2 (by rw [e];rfl)
   simp [aB,aC,hj,h1,h3,h4]
  ·intro t ht;cases ht;left;rfl
  ·intro j hj hx;have j1:¬j=n:=fun e=>hx (.inl e)
   have j2:¬j=N:=by omega
   have j3:¬N=j:=by omega
   have j4:¬j=T:=fun e=>hx (.inr (.inl (by rw [e];rfl)))
   simp [aB,aC,j1,j2,j3,j4]
  ·refine bV (bV (bV ?_));simp [Tail_append_iff,Tail_cons_iff,pS];exact ⟨hT.mono (by omega),by omega⟩
end
structure Fw (X:Nat->Prop) (N:Nat) (O O1:List (Nat×AO)) (N1:Nat):Prop where
 kp:Kp (fun j=>X j\/Rs O j) N O O1
 tl:Tail O1 N1
 le:N<=N1
section
variable {X:Nat->Prop} {N N1 N2 t:Nat} {O O1 O2:List (Nat×AO)} {y:AO}
theorem Fw.init (hT:Tail O N):Fw X N O O N:=⟨fun _ _ _=>rfl,hT,Qb _⟩
theorem Fw.then {Y:Nat->Prop} (h:Fw X N O O1 N1) (hk:Kp Y N1 O1 O2) (hy:∀j,j<N->Y j->X j\/Rs O1 j) (hT:Tail O2 N2) (hn:N1<=N2):Fw X N O O2 N2:=by
 refine ⟨?_,hT,jZ h.le hn⟩;intro j hj hx;have h1:=h.kp j hj hx;rw [<- h1];refine hk j (LM hj h.le) fun hc=>?_
 rcases hy j hj hc with h2 | h2
 ·exact hx (.inl h2)
 ·exact hx (.inr (by unfold Rs at*;rw [<- h1,h2]))
theorem Fw.set (h:Fw X N O O1 N1) (ht:X t\/N<=t):Fw X N O (setl t y O1) N1:=
 ⟨fun j hj hx=>by rw [aB,QA (by rintro rfl;rcases ht with ht | ht;exact hx (.inl ht);omega),h.kp j hj hx],bV h.tl,h.le⟩
theorem Fw.drop (h:Fw X N O O1 N1) (ht:X t\/N<=t):Fw X N O (bW t O1) N1:=
 ⟨fun j hj hx=>by rw [bK (by rintro rfl;rcases ht with ht | ht;exact hx (.inl ht);omega),h.kp j hj hx],G8 h.tl,h.le⟩
theorem Fw.app (h:Fw X N O O1 N1) (ht:N<=t) (h2:t<N2) (hn:N1<=N2):Fw X N O (O1++[(t,y)]) N2:=
 ⟨fun j hj hx=>by rw [aC,h.kp j hj hx,show look j [(t,y)]=none by rw [look,QA (by omega)];rfl];simp,by rw [Tail_append_iff,Tail_cons_iff];exact ⟨h.tl.mono hn,h2,Tail.nil _⟩,jZ h.le hn⟩
theorem Fw.sweep (h:Fw X N O O1 N1):Fw X N O (bZ O1) N1:=
 ⟨fun j hj hx=>by
  have h1:=h.kp j hj hx;rw [aR (by rw [h1];exact fun hc=>hx (.inr hc)),h1],CU h.tl,h.le⟩
theorem Fw.up (h:Fw X N O O1 N1) (hn:N1<=N2):Fw X N O O1 N2:=⟨h.kp,h.tl.mono hn,jZ h.le hn⟩
end
def NetW (O:List (Nat×AO)) (n:Nat) (V:NetV) (f:AV) (X:Nat->Prop):Prop:=∃C pv lv H,NetM O n V f C pv lv H/\∀j,NetM.own n C pv lv H j->X j
def NP (X:Nat->Prop) (N:Nat) (O:List (Nat×AO)) (n:Nat) (f:AV) (V:NetV) (v:AV) (r:Option (Rt×AH)):Prop:=
 ∃O' N',r=some (.val v,⟨O',N'⟩)/\NetW O' n V f (fun j=>X j\/N<=j)/\Fw X N O O' N'
section
variable {β:Type} {fin:Option (Ex×St)->Option β}
theorem KI {O:List (Nat×AO)} {n N:Nat} {V:NetV} {f:AV} {C:Nat} {pv lv:AV} {H:List AV} {d:Bool} {dst:Option Nat} {r:List Xw} {K:List Go.Av.Fr} {e:Env} {Q:Option β->Prop} {k a b c:Int}
  (m:NetM O n V f C pv lv H) (hT:Tail O N) (hb:V.log.length<=10000)
  (hk:∀O' N' lv',NetM O' n (V.ev ⟨k,a,b,c⟩) f C pv lv' H->(∀t,tkn lv'=some t->tkn lv=some t\/N<=t)->Kp (fun j=>j=n\/tkn lv=some j\/Rs O j) N O O'->Tail O' N'->N<=N'->Q (Go.Av.stepV Φ fin d dst r K e (some (.val (.agg [a8 k,a8 a,a8 b,a8 c]),⟨O',N'⟩)))):
  Q (Go.Av.stepV Φ fin d dst r K e (aI Φ jD [.ptr n 7 0 0,a8 k,a8 a,a8 b,a8 c] ⟨O,N⟩)):=by
 obtain ⟨O',N',lv',e1,h1,h2,h3,h4,h5⟩:=TF m hT hb k a b c;rw [e1];exact hk O' N' lv' h1 h2 h3 h4 h5
end
section
variable {O:List (Nat×AO)} {n N g:Nat} {V:NetV} {C:Nat} {pv lv:AV} {H:List AV} {X:Nat->Prop}
theorem NetM.top {O':List (Nat×AO)} {f:AV} {L:List Link} (m:NetM O n V f C pv lv H) (hr:look n O'=some (.row 7 [nwR { V with links:=L } (.row C 4 0 V.cs.length) pv lv f])) (hk:∀(j:Nat) (y:AO),look j O=some y->y≠ .res->j≠n->look j O'=some y):NetM O' n { V with links:=L } f C pv lv H:=by
 have ho:∀j,NetM.own n C pv lv H j->j≠n->look j O'=look j O:=by
  intro j hj h1;obtain ⟨y,hy,hny⟩:=m.nr hj;rw [hk j y hy hny h1,hy]
 refine ⟨hr,by rw [ho C (.inr (.inl rfl)) (aP m.cf m.row (by simp))];exact m.cf,m.pk.fr fun t ht=>ho t (.inr (.inr (.inl ht))) (aP (m.pk.id ht) m.row (by simp)),m.hl,?_,m.lg.fr fun t ht=>ho t (.inr (.inr (.inr (.inl ht)))) (aP (m.lg.tk ht) m.row (by simp)),m.hi,m.hg⟩;intro k x h hx hh;refine (m.hp k x h hx hh).fr fun t ht=>?_
 obtain ⟨l,hl⟩:=m.hk hh ht;exact ho t (.inr (.inr (.inr (.inr ⟨h,Qe hh,ht⟩)))) (aP hl m.row (by simp))
theorem OI {lv':AV} {N1:Nat} (hX:∀j,NetM.own n C pv lv H j->X j) (hl:∀t,tkn lv'=some t->tkn lv=some t\/N1<=t) (hn:N<=N1):∀j,NetM.own n C pv lv' H j->X j\/N<=j:=by
 intro j hj;rcases hj with hj | hj | hj | hj | hj
 ·exact .inl (hX j (.inl hj))
 ·exact .inl (hX j (.inr (.inl hj)))
 ·exact .inl (hX j (.inr (.inr (.inl hj))))
 ·rcases hl j hj with h | h
  ·exact .inl (hX j (.inr (.inr (.inr (.inl h)))))
  ·right;omega
 ·exact .inl (hX j (.inr (.inr (.inr (.inr hj)))))
theorem OJ {O1:List (Nat×AO)} (hX:∀j,NetM.own n C pv lv H j->X j):∀j,j<N->(j=n\/tkn lv=some j\/Rs O1 j)->X j\/Rs O1 j:=by
 intro j _ hj;rcases hj with hj | hj | hj
 ·exact .inl (hX j (.inl hj))
 ·exact .inl (hX j (.inr (.inr (.inr (.inl hj)))))
 ·exact .inr hj
theorem qvm (m:NetM O n V (.func (.func g) [] []) C pv lv H) (hX:∀j,NetM.own n C pv lv H j->X j) (hT:Tail O N) (s:NetS V) (k:Int) (d:Bool):
  NP X N O n (.func (.func g) [] []) (uT V k d).1 (a8 (uT V k d).2) (aI Φ CK [.ptr n 7 0 0,a8 k,.bool d] ⟨O,N⟩):=by
 rw [dA rfl rfl];have h:=m.row;have hm:=fun O N=>KP (O:=O) (N:=N) (n:=n) (V:=V) (cv:= .row C 4 0 V.cs.length) (pv:=pv) (lv:=lv) (g:=g)
 rw [jH] at h hm;have h1:=Zk V.ports V.links V.hosts k d s.p s.l s.h;have t0:=hT N (Qb _);have hn:=hT.lt h;have q0:¬N=n/\¬n=N:=by omega
 obtain ⟨q1,q2⟩:=q0;by_cases z:k<0\/(V.links.length:Int)<=k
 ·rw [KT _ _ _ _ _ z] at h1;simp [C4,hm,h,h1,uT,z,t0,q1,q2,aC,aB];exact ⟨_,_,rfl,⟨C,pv,lv,H,m,fun j hj=> .inl (hX j hj)⟩,(Fw.init hT).up (by omega)⟩
 obtain ⟨j,rfl⟩:=fP (show 0<=k by omega);rw [SE _ _ _ _ (show j<V.links.length by omega)] at h1;have z1:¬V.links.length<=j:=by omega
 cases d with
 | false=>
  simp [C4,hm,h,h1,uT,z,z1,t0,q1,q2,aC,aB];refine KI (m.top (L:=setD V.links j false) ?_ ?_) (bV (hT.mono (by omega))) s.g ?_
  ·simp [aB,h,jH]
  ·intro i y hi _ hne;rw [aB,QA hne,hi]
  ·intro O' N' lv' m' hl hk hT' hN;simp;exact ⟨_,_,rfl,⟨C,pv,lv',H,m',OI hX hl (by omega)⟩,(((Fw.init hT).set (.inl (hX n (.inl rfl)))).up (by omega)).then hk (OJ hX) hT' hN⟩
 | true=>
  simp [C4,hm,h,h1,uT,z,z1,t0,q1,q2,aC,aB];refine KI (m.top (L:=setD V.links j true) ?_ ?_) (bV (hT.mono (by omega))) s.g ?_
  ·simp [aB,h,jH]
  ·intro i y hi _ hne;rw [aB,QA hne,hi]
  ·intro O' N' lv' m' hl hk hT' hN;simp;exact ⟨_,_,rfl,⟨C,pv,lv',H,m',OI hX hl (by omega)⟩,(((Fw.init hT).set (.inl (hX n (.inl rfl)))).up (by omega)).then hk (OJ hX) hT' hN⟩
end
theorem clBy (l:List Int) (h:l.length<2^40):aA Φ oH [.slice 1 (l.map c8)]=some (.val (.slice 1 (l.map c8))):=
 B9 (bytes:=1) rfl _ (fX 1 c8 l fun x=>by simp [c8]) (by rw [cT];omega)
theorem Po {l:List Pk} {H:List AV} (h:H.length=l.length) (x:Pk) (v:AV):pkN (l++[x]) (H++[v])=pkN l H++[PkN x v]:=by
 unfold pkN;rw [List.zipWith_append h.symm];rfl
theorem kA {l:List Pk} {H:List AV} (h:H.length=l.length):(pkN l H).length=l.length:=by simp [pkN,h]
theorem N7 {l:List Pk} {H:List AV}:d9 9 (pkN l H)=true:=by
 induction l generalizing H with
 | nil=>rfl
 | cons x l ih=>cases H with
  | nil=>rfl
  | cons v H=>
   have:=ih (H:=H);simp only [pkN,List.zipWith_cons_cons,d9,anyL] at this ⊢;simp [PkN,this]
theorem GP {l:List Pk} {H:List AV} {k:Nat} {x:Pk} {h:AV} (hx:l[k]? =some x) (hh:H[k]? =some h):(pkN l H)[k]? =some (PkN x h):=by
 unfold pkN;rw [List.getElem?_zipWith,hx,hh]
theorem Fw.app2 {X:Nat->Prop} {N N1 N2 t u:Nat} {O O1:List (Nat×AO)} {y z:AO} (h:Fw X N O O1 N1) (ht:N<=t) (h1:N1<=t+1) (hu:t<u) (hn:u+1<=N2) (hh:N1<=N2:=by omega):Fw X N O (O1++[(t,y),(u,z)]) N2:=by
 have:=((h.app (y:=y) ht (N2:=u) hu (by omega)).app (t:=u) (y:=z) (N2:=N2) (by omega) (by omega) (by omega))
 rwa [JQ] at this
section
variable {O:List (Nat×AO)} {n N g:Nat} {V:NetV} {C:Nat} {pv lv:AV} {H:List AV} {X:Nat->Prop}
theorem NetM.push {O':List (Nat×AO)} {f pv':AV} {x:Pk} (m:NetM O n V f C pv lv H) (hr:look n O'=some (.row 7 [nwR V (.row C 4 0 V.cs.length) pv' lv f])) (hp:Ex1 O' 9 pv' (pkN V.pk H++[PkN x (.Xu 3 [])])) (hx:x.hops=[])
  (hk:∀(j:Nat) (y:AO),look j O=some y->y≠ .res->j≠n->vid pv≠some j->look j O'=some y):NetM O' n { V with pk:=V.pk++[x] } f C pv' lv (H++[.Xu 3 []]):=by
 have ho:∀j,NetM.own n C pv lv H j->j≠n->vid pv≠some j->look j O'=look j O:=by
  intro j hj h1 h2;obtain ⟨y,hy,hny⟩:=m.nr hj;rw [hk j y hy hny h1 h2,hy]
 have hpv:∀j y,look j O=some y->(∀es,y≠ .row 9 es)->vid pv≠some j:=by
  intro j y hj hy hc;have:=m.pk.id hc;rw [hj] at this;cases this;exact hy _ rfl
 refine ⟨hr,by rw [ho C (.inr (.inl rfl)) (aP m.cf m.row (by simp)) (hpv C _ m.cf (by simp))];exact m.cf,by rw [Po m.hl];exact hp,by simp [m.hl],?_,m.lg.fr fun t ht=>ho t (.inr (.inr (.inr (.inl ht)))) (aP (m.lg.tk ht) m.row (by simp)) (hpv t _ (m.lg.tk ht) (by simp)),?_,?_⟩
 ·intro k y h hy hh;by_cases hk':k<V.pk.length
  ·rw [Ql hk'] at hy;rw [Ql (by rw [m.hl];exact hk')] at hh;refine (m.hp k y h hy hh).fr fun t ht=>?_
   obtain ⟨l,hl⟩:=m.hk hh ht;exact ho t (.inr (.inr (.inr (.inr ⟨h,Qe hh,ht⟩)))) (aP hl m.row (by simp)) (hpv t _ hl (by simp))
  ·rw [Qp (by omega)] at hy;rw [Qp (by rw [m.hl];omega),m.hl] at hh;cases hd:k - V.pk.length with
   | zero=>
    rw [hd] at hy hh;simp at hy hh;subst hy hh;exact .inl ⟨by rw [hx];rfl,rfl⟩
   | succ q=>rw [hd] at hy;simp at hy
 ·intro k k' h h' t hh hh' ht ht';have key:∀(k:Nat) (h:AV),(H++[AV.Xu 3 []])[k]? =some h->tkn h=some t->H[k]? =some h:=by
   intro k h hh ht;by_cases hk':k<H.length
   ·rwa [Ql hk'] at hh
   ·rw [Qp (by omega)] at hh;cases hd:k - H.length with
    | zero=>rw [hd] at hh;simp at hh;subst hh;cases ht
    | succ q=>rw [hd] at hh;simp at hh
  exact m.hi k k' h h' t (key k h hh ht) (key k' h' hh' ht') ht ht'
 ·intro k h t hh ht;by_cases hk':k<H.length
  ·rw [Ql hk'] at hh;exact m.hg k h t hh ht
  ·rw [Qp (by omega)] at hh;cases hd:k - H.length with
   | zero=>rw [hd] at hh;simp at hh;subst hh;cases ht
   | succ q=>rw [hd] at hh;simp at hh
theorem Nc {pv':AV} {N1:Nat} (hX:∀j,NetM.own n C pv lv H j->X j) (hl:∀t,vid pv'=some t->N1<=t) (hn:N<=N1):∀j,NetM.own n C pv' lv (H++[.Xu 3 []]) j->X j\/N<=j:=by
 intro j hj;rcases hj with hj | hj | hj | hj | ⟨h,hh,hj⟩
 ·exact .inl (hX j (.inl hj))
 ·exact .inl (hX j (.inr (.inl hj)))
 ·have:=hl j hj;right;omega
 ·exact .inl (hX j (.inr (.inr (.inr (.inl hj)))))
 ·rcases eU.1 hh with hh | hh
  ·exact .inl (hX j (.inr (.inr (.inr (.inr ⟨h,hh,hj⟩)))))
  ·simp at hh;subst hh;cases hj
theorem VX (m:NetM O n V (.func (.func g) [] []) C pv lv H) (hX:∀j,NetM.own n C pv lv H j->X j) (hT:Tail O N) (s:NetS V) (h:Int) (b:List Int) (hb:b.length<2^40):
  NP X N O n (.func (.func g) [] []) (uU V h b).1 (.tup [a8 (uU V h b).2.1,a8 (uU V h b).2.2]) (aI Φ uG [.ptr n 7 0 0,a8 h,.slice 1 (b.map c8)] ⟨O,N⟩):=by
 rw [dA rfl rfl];have hr:=m.row;have hm:=fun O N=>KP (O:=O) (N:=N) (n:=n) (V:=V) (cv:= .row C 4 0 V.cs.length) (pv:=pv) (lv:=lv) (g:=g)
 rw [jH] at hr hm;unfold uU;have hB:=clBy b hb;have fin:NP X N O n (.func (.func g) [] []) V (.tup [a8 0,a8 8]) (some (.val (.tup [a8 0,a8 8]),⟨O,N⟩)):=⟨_,_,rfl,⟨C,pv,lv,H,m,fun j hj=> .inl (hX j hj)⟩,Fw.init hT⟩;by_cases z1:h<0
 ·simp [tY,hm,hr,z1];exact fin
 obtain ⟨k,rfl⟩:=fP (show 0<=h by omega);by_cases z2:V.hosts.length<=k
 ·have z2':(V.hosts.length:Int)<=k:=by omega
  simp [tY,hm,hr,z2];exact fin
 have hn:k<V.hosts.length:=by omega
 by_cases z3:512<b.length
 ·simp [tY,hm,hr,z2,z3];exact ⟨_,_,rfl,⟨C,pv,lv,H,m,fun j hj=> .inl (hX j hj)⟩,Fw.init hT⟩
 have hk:=s.k;have z4:¬4096<=V.pk.length:=by omega
 have b2:(V.pk.length+1)*136<=70368744177664:=by omega
 have hnN:=hT.lt hr;have hal:d9 9 (pkN V.pk H)=true:=N7;have hlen:=kA m.hl;have hT':∀k,look (N+k) O=none:=fun k=>hT (N+k) (by omega)
 have q1:∀k,¬N+k=n:=fun k=>by omega
 have q2:∀k,¬n=N+k:=fun k=>by omega
 have q3:∀k,(n == N+k)=false:=fun k=>by simp;omega
 have t65:=hT' (64+1);rcases m.pk with ⟨hz,rfl⟩ | ⟨P,rfl,hz⟩
 ·have hz':V.pk=[]:=Qg (by rw [<- hlen,hz];rfl);simp [tY,hm,hr,z2,z3,z4,hn,hB,hz',hT',q1,q2,q3,aC,aB,aR,PortID.c];have hfw:∀x y z,Fw X N O (bZ (setl n x (O++[(N+63,y),(N+64,z)]))) (N+64+1):=fun x y z=>Fw.sweep (Fw.set (Fw.app2 (N2:=N+64+1) (Fw.init hT) (by omega) (by omega) (by omega) (Qb _)) (.inl (hX n (.inl rfl))))
  refine KI (m.push (pv':= .row (N+64) 9 0 1) (x:=⟨V.hosts[k],b,[],false,0,0⟩) ?_ (.inr ⟨N+64,?_,?_⟩) rfl ?_) ?_ s.g ?_
  ·simp [aR,aB,aC,hr,q1,q2,jH]
  ·simp [hz]
  ·simp [hz,aR,aB,aC,hT',q1,PkN]
  ·intro i y hi hy h1 _;simp [aR,aB,aC,hi,h1,hy]
  ·exact (hfw _ _ _).tl
  ·intro O' N' lv' m' hl hk hTn hN;rw [hz'] at m';simp;refine ⟨_,_,rfl,⟨C,_,lv',_,m',?_⟩,Fw.then (hfw _ _ _) hk (OJ hX) hTn hN⟩;exact fun j hj=>(OI (X:=fun j=>X j\/N<=j) (Nc hX (N1:=N) (pv':= .row (N+64) 9 0 1) (fun t ht=>by simp only [vid,Option.some.injEq] at ht;omega) (Qb _)) hl (show N<=N+64+1 by omega) j hj).elim id .inr
 ·have u1:P≠n:=aP hz hr (by simp);have u2:=u1.symm;have hPl:=hT.lt hz;have q4:∀k,¬N+k=P:=fun k=>by omega
  have q5:∀k,¬P=N+k:=fun k=>by omega
  have q6:∀k,(P == N+k)=false:=fun k=>by simp;omega
  have u3:(P == n)=false:=by simpa using u1
  have u4:(n == P)=false:=by simpa using u2
  have hd1:∀x,look (N+64) (bW P (O++[(N+63,x),(N+64,.res)]))=some .res:=fun x=>by rw [bK (q4 64)];simp [aC,hT']
  have hd2:∀r,look n (bW P (O++r))=look n (O++r):=fun r=>bK u2 _
  simp [tY,hm,hr,z2,z3,z4,hn,hB,hlen,hz,b2,hal,hT',hd1,hd2,q1,q2,q3,q4,q5,q6,u1,u2,u3,u4,aC,aB,aR,PortID.c];have hn64:∀x,look (N+64) (setl (N+64) x (bW P (O++[(N+63,.row 9 [PkN ⟨V.hosts[k],b,[],false,0,0⟩ (.Xu 3 [])]),(N+64,.res)])))=some x:=fun x=>by rw [aB,hd1];simp
  have hfw:∀x y z,Fw X N O (bZ (setl n x (setl (N+64) y (bW P (O++[(N+63,z),(N+64,.res)]))))) (N+64+1):=fun x y z=>Fw.sweep (Fw.set (Fw.set (Fw.drop (Fw.app2 (N2:=N+64+1) (Fw.init hT) (by omega) (by omega) (by omega) (Qb _)) (.inl (hX P (.inr (.inr (.inl rfl)))))) (.inr (by omega))) (.inl (hX n (.inl rfl))))
  refine KI (m.push (pv':= .row (N+64) 9 0 (V.pk.length+1)) (x:=⟨V.hosts[k],b,[],false,0,0⟩) ?_ (.inr ⟨N+64,?_,?_⟩) rfl ?_) (hfw _ _ _).tl s.g ?_
  ·simp [aR,aB,hd2,aC,hr,q2,jH]
  ·simp [hlen]
  ·simp [aR,aB,hd1,q1,PkN]
  ·intro i y hi hy h1 h2;have h3:¬i=P:=fun e=>h2 (by rw [e];rfl)
   have h4:¬i=N+64:=by rintro rfl;rw [hT'] at hi;cases hi
   simp [aR,aB,bK h3,aC,hi,h1,h4,hy]
  ·intro O' N' lv' m' hl hk hTn hN;simp;refine ⟨_,_,rfl,⟨C,_,lv',_,m',?_⟩,Fw.then (hfw _ _ _) hk (OJ hX) hTn hN⟩;exact fun j hj=>(OI (X:=fun j=>X j\/N<=j) (Nc hX (N1:=N) (pv':= .row (N+64) 9 0 (V.pk.length+1)) (fun t ht=>by simp only [vid,Option.some.injEq] at ht;omega) (Qb _)) hl (show N<=N+64+1 by omega) j hj).elim id .inr
end
end Go.Av
