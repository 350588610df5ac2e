/-
 The law NetworkScripted.
-/
import Derived.Test.YtknmfocedphgmaaGreatIX7
import Derived.Test.YtknmfocedphgmaaGreatW48R
set_option linter.unusedVariables false
set_option linter.unusedSimpArgs false
set_option linter.constructorNameAsVariable false
namespace Go.Av
set_option maxRecDepth 8000
theorem Er {ports:List Int} {links:List Link} {hosts:List PortID} {cs:List Xf} (h:newE ports links hosts cs=0):fK ports links hosts=0/\cs.length=ports.length:=by
 have z1:fK ports links hosts=0:=by
  refine Decidable.byContradiction fun hc=>?_
  rw [show newE ports links hosts cs=fK ports links hosts by simp [newE,hc]] at h;exact hc h
 refine ⟨z1,Decidable.byContradiction fun hc=>?_⟩;rw [show newE ports links hosts cs=2 by simp [newE,z1,hc]] at h;cases h
theorem TQ {p:Prg} {c:Xf} {s:Int} {B:List Int} (hp:aA Φ lR []=some (.val (.agg (Prg.c p)))) {x:Rslt} {c':Xf} (h:aA Φ lT [.agg (Prg.c p),.agg (Xf.c c),.agg [a8 s,.slice 1 (B.map c8)]]=some (.val (.tup [.agg (Rslt.c x),.agg (Xf.c c')]))):
  aA Φ dX [.agg (Xf.c c),.agg [a8 s,.slice 1 (B.map c8)]]=some (.val (.tup [.agg (Rslt.c x),.agg (Xf.c c')])):=by
 rw [aD rfl rfl];rw [Rslt.ce,Xf.e4 c'] at h ⊢;rw [Xf.e4] at h ⊢;simp only [Prg.e] at hp h;simp [HD,hp,h,aB]
theorem Bl {P:Xf->Int->List Int->Rslt×Xf} (hP:PrcOk dX GI P) {c:Xf} (g:GI c) (s:Int) (B:List Int) (hB:B.length<=1000) (hBo:okB' B):
  aA Φ lT [.agg (Prg.c pF),.agg (Xf.c c),.agg [a8 s,.slice 1 (B.map c8)]]=some (.val (.tup [.agg (Rslt.c (P c s B).1),.agg (Xf.c (P c s B).2)])):=by
 obtain ⟨x,l,_,_,_,_,h⟩:=Nn g s B hB hBo;have h1:=TQ KS h;have h2:=hP.run c s B g hBo hB;rw [h1] at h2;rw [h,h2]
section
variable {V:NetV} {G:Xf->Prop} {P:Xf->Int->List Int->Rslt×Xf} {U:NetV->Act->NetV×Int}
theorem qt8 {p:Prg} (hpr:aA Φ lR []=some (.val (.agg (Prg.c p)))) (hrun:∀c∈V.cs,∀s d,okB' d->d.length<=1000->aA Φ lT [.agg (Prg.c p),.agg (Xf.c c),.agg [a8 s,.slice 1 (d.map c8)]]=some (.val (.tup [.agg (Rslt.c (P c s d).1),.agg (Xf.c (P c s d).2)]))) (I:NetI G V) (id:Int) (hz:chkV V id=0):
  aA Φ CL [.agg V.r,a8 id]=some (.val (.tup [.agg (stpV P V id).1.r,.agg (Event.c (stpV P V id).2.1),a8 (stpV P V id).2.2])):=by
 rw [aD rfl rfl];have k:=JZ V id;obtain ⟨i,rfl,hi,hd⟩:=Gd hz;have hmem:=Qd hi;obtain ⟨hdb,hdl,hpos⟩:=I.pk _ hmem;obtain ⟨hs0,hs1⟩:=hpos hd;obtain ⟨x,hx⟩:∃x,V.pk[i]=x:=⟨_,rfl⟩;rw [hx] at hd hdb hdl hs0 hs1 hmem;obtain ⟨j,hs⟩:=fP hs0;have hk:j<V.cs.length:=by omega
 have hgp:V.pk[i]?.getD default=x:=by simp [hi,hx]
 have hgc:V.cs[j]?.getD default=V.cs[j]:=by simp [hk]
 have hrun:=hrun _ (Qd hk) x.pos.port _ hdb hdl;have hmv:=qrz V i hi x hx j hs hk (P V.cs[j] x.pos.port x.data).1 (P V.cs[j] x.pos.port x.data).2 I.s hd;simp only [NetV.re,Xf.e4,Rslt.ce,Event.ce,Prg.e] at hrun hmv hpr;rw [hz] at k;simp only [NetV.re] at k;simp [HG,NetV.re,k,hi,hx,hs,hk,hd,Pk.ce,Xf.e4,hpr,hrun,hmv,stpV,hz,hgp,hgc,Event.ce]
theorem W3 (hP:PrcOk dX GI P) (I:NetI GI V) (a:Act) (d1:a.dd=1):aA Φ iZ [.agg V.r,.agg a.c,.bool false]=some (.val (.tup [.agg (actV U P V a).1.r,a8 (actV U P V a).2.1,.agg (Event.c (actV U P V a).2.2.1),a8 (actV U P V a).2.2.2])):=by
 by_cases hz:chkV V a.a=0
 rotate_left
 ·exact W4 a false d1 hz
 rw [aD rfl rfl];have k:=JZ V a.a;have k2:=qt8 (P:=P) KS (fun c hc s d ho hl=>Bl hP (I.cg c hc) s d hl ho) I a.a hz;rw [hz] at k;have hA:actV U P V a=((stpV P V a.a).1,0,(stpV P V a.a).2.1,(stpV P V a.a).2.2):=by simp [actV,d1]
 rw [hA];generalize stpV P V a.a=q at*;obtain ⟨V',ev,er⟩:=q;simp only [NetV.re,Event.ce] at k k2;simp [pL,NetV.re,Act.ce,d1,k,k2,Event.ce]
theorem Z6 (s:NetS V) (hc:∀c∈V.cs,CfgT c) (a:Act) (b:Bool) (d2:a.dd=2) (hll:a.upd.ops.length<2^40) (hl:∀o∈a.upd.ops,OpS o):aA Φ iZ [.agg V.r,.agg a.c,.bool b]=some (.val (.tup [.agg (actV updV P V a).1.r,a8 (actV updV P V a).2.1,.agg (Event.c (actV updV P V a).2.2.1),a8 (actV updV P V a).2.2.2])):=by
 rw [aD rfl rfl];have k:=qqf V a s hc hll hl;have hA:actV updV P V a=((updV V a).1,0,ev0,(updV V a).2):=by simp [actV,d2]
 rw [hA];generalize updV V a=q at*;obtain ⟨V',er⟩:=q;simp only [NetV.re] at k;simp [pL,NetV.re,Act.ce,d2,k,Event.ce,ev0]
theorem RK (hP:PrcOk dX GI P) (I:NetI GI V) (a:Act) (hll:a.upd.ops.length<2^40) (hl:∀o∈a.upd.ops,OpS o):aA Φ iZ [.agg V.r,.agg a.c,.bool false]=some (.val (.tup [.agg (actV updV P V a).1.r,a8 (actV updV P V a).2.1,.agg (Event.c (actV updV P V a).2.2.1),a8 (actV updV P V a).2.2.2])):=by
 by_cases d0:a.dd=0
 ·exact Z5 I.s a false d0
 by_cases d1:a.dd=1
 ·exact W3 hP I a d1
 by_cases d2:a.dd=2
 ·exact Z6 I.s (fun c hc=>(I.cg c hc).2) a false d2 hll hl
 by_cases d3:a.dd=3
 ·exact Z7 I.s a false d3
 exact Z8 a false d0 d1 d2 d3
end
@[simp] theorem Act.c_length (x:Act):(Act.c x).length=6:=by simp [Act.c]
def Act.Ok (B:Nat) (x:Act):Prop:=okI B x.dd/\okI B x.a/\okI B x.b/\okL B (ok8 B) x.data/\UpdateStep.Ok B x.upd
theorem Act.rd {P:Go.Program} {B:Nat} {t:TypeId} {f0 f1 f2 f3 f4:Go.Field} (hu:P.underlying t=some (.struct #[f0,f1,f2,f3,f4])) (h0:Rd P B f0.type cI (okI B)) (h1:Rd P B f1.type cI (okI B)) (h2:Rd P B f2.type cI (okI B)) (h3:Rd P B f3.type (cS 1 c8) (okL B (ok8 B))) (h4:Rd P B f4.type UpdateStep.c (UpdateStep.Ok B)):Rd P B t Act.c (Act.Ok B):=
 .st hu (h0.q (h1.q (h2.q (h3.q h4.o)))) fun ⟨a,b,c,d,e⟩ h=>⟨⟨a,b,c,d,e⟩,by simp [Act.c,UpdateStep.c,cI,cS],h⟩
theorem GS_of {c:Xf} (o:c.Ok dO):GS c:=by
 refine ⟨XJ o,fun l hl=>?_⟩;have e:=CW;have:=(o.1.2 l hl).1;omega
theorem Pi {ports:List Int} {links:List Link} {hosts:List PortID} {cs:List Xf} (h:newE ports links hosts cs=0) (hs:∀c∈cs,CfgT c):∀c∈cs,GI c:=by
 obtain ⟨z1,z2⟩:=Er h;have hf:(fe (cfgF cs) cs.length 0).getD 0=0:=by
  rw [show newE ports links hosts cs=(fe (cfgF cs) cs.length 0).getD 0 by simp [newE,z1,z2]] at h;exact h
 intro c hc;obtain ⟨k,hk,rfl⟩:=Qn.1 hc;refine ⟨?_,hs _ hc⟩;cases q:fe (cfgF cs) cs.length 0 with
 | some x=>
  rw [q] at hf;simp only [tS] at hf;obtain ⟨j,_,hj⟩:=GH q;exact absurd hf (Od hj)
 | none=>
  have:=fe_all.1 q k hk;unfold cfgF at this;rw [Qa hk] at this;simp only [qG] at this;by_cases z:cfgE pF cs[k]=0
  ·exact (ID pF _).1 z
  ·rw [QA z] at this;cases this
theorem XL (ports:List Int) (links:List Link) (hosts:List PortID) (cs:List Xf) (acts:List Act) (hal:acts.length<2^40) (hcl:cs.length<2^39) (hcs:∀c∈cs,GS c) (hb:∀a∈acts,okB' a.data) (ho:∀a∈acts,∀o∈a.upd.ops,OpS o):
  aA Φ TC [.agg [.slice 1 (ports.map cI),.slice 5 (links.map Link.c),.slice 2 (hosts.map PortID.c)],.slice 4 (cs.map Xf.c),.slice 6 (acts.map Act.c)]=some (.val (.bool true)):=by
 obtain ⟨b,hlg,hsz⟩:=En ports links hosts cs acts fun c hc=>(hcs c hc).1.rl
 rw [aD rfl rfl];cases b with
 | true=>simp [Q9,hlg,IB]
 | false=>
  obtain ⟨h1,h2,h3,h4,h5,h6⟩:=hsz rfl;have eN:=Pz ports links hosts cs hcl hcs dX (O:=[]) (N:=0) (Tail.nil _);obtain ⟨O',N',v,eN,fN,hbad,hgood⟩:=eN;by_cases hE:newE ports links hosts cs=0
  rotate_left
  ·have hR:=Iv ports links hosts cs hcl hcs hE;rw [hbad hE] at eN;have u0:=fN.tl N' (Qb _);simp [Q9,hlg,eN,hR,hE,u0,IB,aC]
  ·have hR:=Iz ports links hosts cs hcl hcs hE;obtain ⟨nn,rfl,C,pv,lv,H,m,hown⟩:=hgood hE;have u0:=fN.tl N' (Qb _);rw [hE] at eN;obtain ⟨P,hP⟩:=Ib;obtain ⟨ht,hc⟩:=Er hE;have j:NetJ GI 0 ⟨ports,links,hosts,cs,[],[]⟩:=⟨by simp,by simp,by simp,ht,hc,Pi hE fun c hc=>(hcs c hc).1,by simp⟩;have hsm:∀a∈acts,a.data.length<=1000/\a.upd.ops.length<2^40:=fun a ha=>by have:=h6 a ha;omega
   obtain ⟨O2,N2,n2,e2,_,_⟩:=Fp (U:=updV) hP (fun c g=>⟨g.2.rl,fun l hl=>⟨(g.2.rs l hl).1,fun r hr=>⟨(show EntS r.entry from (g.2.rs l hl).2 r hr).kl,(show EntS r.entry from (g.2.rs l hl).2 r hr).al⟩⟩,g.2.nl,g.2.dl,fun d hd=>(g.2.ds d hd).1,g.2.gl,fun l hl=>(g.2.gs l hl).1⟩) acts (by omega) (fun a ha=>⟨hb a ha,(hsm a ha).1⟩) 0 (by omega) j false
    (fun a ha d2 k W hk j=>NetJ.upd j a (ho a ha)) (fun a ha W I=>RK hP I a (hsm a ha).2 (ho a ha)) (fun a ha d2 O N n C W pv lv H I m hT=>Dw m (fun j h=>h) hT I.s (fun c hc=>(I.cg c hc).2) a (ho a ha)) ⟨C,pv,lv,H,m,fun _ h=>h⟩ (fN.tl.mono (mI N')) (fun j hj=>Nat.lt_succ_of_lt (m.lt fN.tl hj))
   rw [NetV.re] at e2;simp at e2;simp [Q9,hlg,eN,hR,u0,IB,aC,NetV.re,e2]
theorem qoc (x:Topology) (l:List Xf) (a:List Act) (_:x.Ok dO) (ol:okL dO (Xf.Ok dO) l) (oa:okL dO (Act.Ok dO) a):aA Φ TC [.agg x.c,.slice 4 (l.map Xf.c),.slice 6 (a.map Act.c)]=some (.val (.bool true)):=by
 have e:=CW;have h1:=ol.1;have h2:=oa.1;exact XL x.ports x.links x.hosts l a (by omega) (by omega) (fun c hc=>GS_of (ol.2 c hc)) (fun y hy=>(oa.2 y hy).2.2.2.1.2) fun y hy o ho=>Ga ((oa.2 y hy).2.2.2.2.2.2 o ho)
end Go.Av
