/-
 The law NetworkScripted.
-/
import Derived.Test.YtknmfocedphgmaaGreatNL2
import Derived.Test.YtknmfocedphgmaaGreatW48R
set_option linter.unusedVariables false
set_option linter.unusedSimpArgs false
set_option linter.constructorNameAsVariable false
namespace Go.Av
set_option maxRecDepth 8000
theorem qyq {c:Xf} (h:GS c):CfgS c:=
 ⟨h.1.rl,fun l hl=>⟨(h.1.rs l hl).1,fun r hr=>⟨(show EntS r.entry from (h.1.rs l hl).2 r hr).kl,(show EntS r.entry from (h.1.rs l hl).2 r hr).al⟩⟩,h.1.nl,h.1.dl,fun d hd=>(h.1.ds d hd).1,h.1.gl,fun l hl=>(h.1.gs l hl).1⟩
theorem qwx {ports:List Int} {links:List Link} {hosts:List PortID} {cs:List Xf} (h:newE ports links hosts cs=0):qa2 ports links hosts=0/\cs.length=ports.length:=by
 have z1:qa2 ports links hosts=0:=by
  refine Decidable.byContradiction fun hc=>?_
  rw [show newE ports links hosts cs=qa2 ports links hosts by simp [newE,hc]] at h;exact hc h
 refine ⟨z1,Decidable.byContradiction fun hc=>?_⟩;rw [show newE ports links hosts cs=2 by simp [newE,z1,hc]] at h;cases h
theorem qq9 (ports:List Int) (links:List Link) (hosts:List PortID) (cs:List Xf) (acts:List Act) (hal:acts.length<2^40) (hcl:cs.length<2^39) (hcs:∀c∈cs,GS c) (hb:∀a∈acts,okB' a.data):
  qac Φ f_4 [.agg [.slice 1 (ports.map cI),.slice 5 (links.map Link.c),.slice 2 (hosts.map PortID.c)],.slice 4 (cs.map Xf.c),.slice 6 (acts.map Act.c)]=some (.val (.bool true)):=by
 obtain ⟨b,hlg,hsz⟩:=qwq ports links hosts cs acts fun c hc=>(hcs c hc).1.rl
 rw [qaa (fn:=c_4) rfl rfl];cases b with
 | true=>simp [c_4,hlg,qg0]
 | false=>
  obtain ⟨h1,h2,h3,h4,h5,h6⟩:=hsz rfl;simp [c_4,hlg];refine qar acts.length (fun _=>[]) 0 (fun i e=>look 1 e=some (.slice 4 (cs.map Xf.c))/\look 2 e=some (.slice 6 (acts.map Act.c))/\look 3 e=some (.iptr 3 [[.slice 1 (ports.map cI),.slice 5 (links.map Link.c),.slice 2 (hosts.map PortID.c)]] 0 0)/\look 7 e=some (.int .i64 i)/\∀a∈acts.take i,a.dd≠2) (fun _=>some (Rt.val (.bool true))) ?_ ?_ 0 _ _ (Qc _) (Qc _) ?_
  ·rintro i e n L hi hL _ ⟨q1,q2,q3,q7,hall⟩ ih;have hw:=qal i (by omega);by_cases z:acts[i].dd=2
   ·simp [c_4_l0,q2,q7,hi,hL,Act.ce,z,qg0]
   ·simp [c_4_l0,q2,q7,hi,hL,Act.ce,z,hw];refine ih _ _ (Qc _) ⟨by simp [q1],by simp [q2],by simp [q3],by simp,?_⟩;intro a ha;rw [Qh hi] at ha;rcases QAd.1 ha with ha | ha
    ·exact hall a ha
    ·simp at ha;subst ha;exact z
  ·rintro e n L hL _ ⟨q1,q2,q3,q7,hall⟩;rw [QAl] at hall;simp [c_4_l0,c_4_k1,q1,q2,q3,q7,hL];obtain ⟨O',N',v,eN,fN,hbad,hgood⟩:=qaav ports links hosts cs hcl hcs f_13 (O:=[]) (N:=n) (Tail.nil _);by_cases hE:newE ports links hosts cs=0
   rotate_left
   ·have hR:=qo0 ports links hosts cs hcl hcs hE;rw [hbad hE] at eN;have u0:=fN.tl N' (Qb _);simp [eN,hR,q1,q2,q3,hE,u0,qg0,qaf]
    done
   ·have hR:=qqn ports links hosts cs hcl hcs hE;obtain ⟨nn,rfl,C,pv,lv,H,m,ho⟩:=hgood hE;have u0:=fN.tl N' (Qb _);rw [hE] at eN;obtain ⟨P,hP⟩:=qqu;obtain ⟨ht,hc⟩:=qwx hE;have j:NetJ GS 0 ⟨ports,links,hosts,cs,[],[]⟩:=⟨by simp,by simp,by simp,ht,hc,hcs,by simp⟩;obtain ⟨O2,N2,n2,e2,_,_⟩:=qzx (U:=fun V _=>(V,0)) hP (fun c h=>qyq h) acts (by omega) (fun a ha=>⟨hb a ha,by have:=(h6 a ha).1;omega⟩) 0 (by omega) j true
     (fun a ha d2=>absurd d2 (hall a ha)) (fun a ha W I=>qaab hP I a (hall a ha)) (fun a ha d2=>absurd d2 (hall a ha)) ⟨C,pv,lv,H,m,fun _ h=>h⟩ (fN.tl.mono (QBj N')) (fun j hj=>Nat.lt_succ_of_lt (m.lt fN.tl hj))
    rw [NetV.re] at e2;simp at e2;simp [eN,hR,q1,q2,q3,u0,qg0,qaf,NetV.re,e2]
  ·simp
@[simp] theorem Act.c_length (x:Act):(Act.c x).length=6:=by simp [Act.c]
def Act.Ok (B:Nat) (x:Act):Prop:=okI B x.dd/\okI B x.a/\okI B x.b/\okL B (ok8 B) x.data/\UpdateStep.Ok B x.upd
theorem Act.rd {P:Go.Program} {B:Nat} {t:TypeId} {f0 f1 f2 f3 f4:Go.Field} (hu:P.underlying t=some (.struct #[f0,f1,f2,f3,f4])) (h0:Rd P B f0.type cI (okI B)) (h1:Rd P B f1.type cI (okI B)) (h2:Rd P B f2.type cI (okI B)) (h3:Rd P B f3.type (cS 1 c8) (okL B (ok8 B))) (h4:Rd P B f4.type UpdateStep.c (UpdateStep.Ok B)):Rd P B t Act.c (Act.Ok B):=
 .st hu (h0.q (h1.q (h2.q (h3.q h4.o)))) fun ⟨a,b,c,d,e⟩ h=>⟨⟨a,b,c,d,e⟩,by simp [Act.c,UpdateStep.c,cI,cS],h⟩
theorem GS_of {c:Xf} (o:c.Ok qbw):GS c:=by
 refine ⟨qyd o,fun l hl=>?_⟩;have e:=qe6;have:=(o.1.2 l hl).1;omega
theorem qjv (x:Topology) (l:List Xf) (a:List Act) (_:x.Ok qbw) (ol:okL qbw (Xf.Ok qbw) l) (oa:okL qbw (Act.Ok qbw) a):qac Φ f_4 [.agg x.c,.slice 4 (l.map Xf.c),.slice 6 (a.map Act.c)]=some (.val (.bool true)):=by
 have e:=qe6;have h1:=ol.1;have h2:=oa.1;exact qq9 x.ports x.links x.hosts l a (by omega) (by omega) (fun c hc=>GS_of (ol.2 c hc)) fun y hy=>(oa.2 y hy).2.2.2.1.2
end Go.Av
