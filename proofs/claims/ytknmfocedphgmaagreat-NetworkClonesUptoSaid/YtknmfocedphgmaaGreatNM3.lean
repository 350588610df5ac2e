/-
 The law NetworkClones.
-/
import Derived.Test.YtknmfocedphgmaaGreatNL7
set_option linter.unusedVariables false
set_option linter.unusedSimpArgs false
set_option linter.constructorNameAsVariable false
namespace Go.Av
set_option maxRecDepth 8000
theorem GI.s {c:Xf} (g:GI c):CfgS c:=⟨g.2.rl,fun l hl=>⟨(g.2.rs l hl).1,fun r hr=>⟨(show EntS r.entry from (g.2.rs l hl).2 r hr).kl,(show EntS r.entry from (g.2.rs l hl).2 r hr).al⟩⟩,g.2.nl,g.2.dl,fun d hd=>(g.2.ds d hd).1,g.2.gl,fun l hl=>(g.2.gs l hl).1⟩
theorem NetM.kp {O O':List (Nat×AO)} {n N g C:Nat} {V:NetV} {pv lv:AV} {H:List AV} {X:Nat->Prop} (m:NetM O n V (.func (.func g) [] []) C pv lv H) (hT:Tail O N) (hk:Kp (fun j=>X j\/Rs O j) N O O') (hx:∀j,NetM.own n C pv lv H j->¬X j):NetM O' n V (.func (.func g) [] []) C pv lv H:=by
 refine m.fr fun j hj=>?_
 obtain ⟨y,hy,hny⟩:=m.nr hj;refine hk j (hT.lt hy) ?_;rintro (h | h)
 ·exact hx j hj h
 ·unfold Rs at h;rw [hy] at h;cases h;exact hny rfl
def ClF (r:Option Rt):Prop:=r=some (.val (.bool true))
theorem qxh {P:Xf->Int->List Int->Rslt×Xf} (hP:PrcOk dX GI P) (acts:List Act) (hal:acts.length<=40) (hb:∀a∈acts,okB' a.data/\a.data.length<=1000/\a.upd.ops.length<2^40) (ho:∀a∈acts,∀o∈a.upd.ops,OpS o) (K0:Nat) (hK0:K0<=100) (V:NetV) (j:NetJ GI K0 V) (hpos:0<V.cs.length)
  (ev:Env) (O:List (Nat×AO)) (N n M0 C:Nat) (pv lv:AV) (H:List AV) (A0:AV) (m:NetM O n V (.func (.func dX) [] []) C pv lv H) (hT:Tail O N) (hM:look M0 O=some (.row 6 [V.r])) (hne:∀j,NetM.own n C pv lv H j->j≠M0)
  (h5:look 5 ev=some (.iptr 2 [[A0,.slice 6 (acts.map Act.c)]] 0 0)) (h7:look 7 ev=some (.ptr n 7 0 0)) (h9:look 9 ev=some (.ptr M0 6 0 0)):ClF (go Φ (finP [.tmp 6]) [.c c_6_k1] .normal ⟨ev,⟨O,N⟩⟩):=by
 have I:=j.I (by omega);have hnN:∀j,NetM.own n C pv lv H j->j<N:=fun j hj=>m.lt hT hj
 have hMN:=hT.lt hM;obtain ⟨O1,N1,c,e1,⟨C1,pv1,lv1,H1,m1,ho1⟩,f1⟩:=Lw m hT I.s (fun c hc=>hP.cc c (I.cg c hc)) hpos (fun x hx=>(I.pk x hx).2.1);have mn1:NetM O1 n V (.func (.func dX) [] []) C pv lv H:=m.kp hT f1.kp fun j _ h=>h
 have keep:∀{O O':List (Nat×AO)} {N:Nat} {X:Nat->Prop},look M0 O=some (.row 6 [V.r])->Kp (fun j=>X j\/Rs O j) N O O'->M0<N->¬X M0->look M0 O'=some (.row 6 [V.r]):=fun {O O' N X} h hk hN hX=>by
  rw [hk M0 hN ?_,h];rintro (q | q)
  ·exact hX q
  ·unfold Rs at q;rw [h] at q;cases q
 have hM1:=keep hM f1.kp hMN (fun h=>h);have hU:∀a∈acts,a.dd=2->∀(O:List (Nat×AO)) (N n C:Nat) (W:NetV) (pv lv:AV) (H:List AV),NetI GI W->NetM O n W (.func (.func dX) [] []) C pv lv H->Tail O N->NP (NetM.own n C pv lv H) N O n (.func (.func dX) [] []) (updV W a).1 (a8 (updV W a).2) (aI Φ oF [.ptr n 7 0 0,a8 a.a,a8 a.b,.agg [a8 a.upd.switch,.slice 9 (a.upd.ops.map Xc.c)]] ⟨O,N⟩):=fun a ha d2 O N n C W pv lv H I m hT=>Dw m (fun j h=>h) hT I.s (fun c hc=>(I.cg c hc).2) a (ho a ha)
 obtain ⟨O2,N2,c2,e2,w2,f2⟩:=Fp (U:=updV) (X:=fun j=>N<=j/\j<N1) hP (fun c g=>g.s) acts (by omega) (fun a ha=>⟨(hb a ha).1,(hb a ha).2.1⟩) K0 (by omega) j false (fun a ha d2 k W hk j=>NetJ.upd j a (ho a ha)) (fun a ha W I=>RK hP I a (hb a ha).2.2 (ho a ha)) hU ⟨C1,pv1,lv1,H1,m1,fun j hj=>⟨ho1 j hj,m1.lt f1.tl hj⟩⟩ f1.tl (fun j h=>h.2);have hle1:=f1.le;have hle2:=f2.le;have mn2:NetM O2 n V (.func (.func dX) [] []) C pv lv H:=mn1.kp f1.tl f2.kp fun j hj h=>by have:=hnN j hj;omega
 have hM2:=keep hM1 f2.kp (by omega) (by omega);have hs:=Pr V dX I.s (fun c hc=>⟨hP.cc c (I.cg c hc),(I.cg c hc).s⟩) (fun x hx=>(I.pk x hx).2.1);have hsn:=fun k=>mn2.snp (N:=N2) k
 obtain ⟨O3,N3,c3,e3,w3,f3⟩:=Fp (U:=updV) (X:=NetM.own n C pv lv H) hP (fun c g=>g.s) acts (by omega) (fun a ha=>⟨(hb a ha).1,(hb a ha).2.1⟩) K0 (by omega) j false (fun a ha d2 k W hk j=>NetJ.upd j a (ho a ha)) (fun a ha W I=>RK hP I a (hb a ha).2.2 (ho a ha)) hU ⟨C,pv,lv,H,mn2,fun j hj=>hj⟩ f2.tl (fun j hj=>by have:=hnN j hj;omega);rw [NetV.re] at hM hM1 hM2 e2 e3 hs;unfold ClF;simp [c_6_k1,h5,h7,h9,e1,e2,e3,hM,hM1,hM2,hs,hsn,IB]
theorem qy4 (ports:List Int) (links:List Link) (hosts:List PortID) (cs:List Xf) (A B:List Act) (hAl:A.length<2^40) (hBl:B.length<2^40) (hcl:cs.length<2^39) (hcs:∀c∈cs,GS c) (hA:∀a∈A,okB' a.data) (hB:∀a∈B,okB' a.data) (hAo:∀a∈A,∀o∈a.upd.ops,OpS o) (hBo:∀a∈B,∀o∈a.upd.ops,OpS o):
  aA Φ TD [.agg [.slice 1 (ports.map cI),.slice 5 (links.map Link.c),.slice 2 (hosts.map PortID.c)],.slice 4 (cs.map Xf.c),.agg [.slice 6 (A.map Act.c),.slice 6 (B.map Act.c)]]=some (.val (.bool true)):=by
 obtain ⟨b,hlg,hsz⟩:=En ports links hosts cs A fun c hc=>(hcs c hc).1.rl
 obtain ⟨b2,hlg2,hsz2⟩:=En ports links hosts cs B fun c hc=>(hcs c hc).1.rl
 rw [aD rfl rfl];cases b with
 | true=>simp [M2,hlg,IB]
 | false=>
 cases b2 with
 | true=>simp [M2,hlg,hlg2,IB]
 | false=>
  obtain ⟨h1,h2,h3,h4,h5,h6⟩:=hsz rfl;obtain ⟨-,-,-,-,h5',h6'⟩:=hsz2 rfl;obtain ⟨O',N',v,eN,fN,hbad,hgood⟩:=Pz ports links hosts cs hcl hcs dX (O:=[]) (N:=0) (Tail.nil _);by_cases hE:newE ports links hosts cs=0
  rotate_left
  ·have hR:=Iv ports links hosts cs hcl hcs hE;rw [hbad hE] at eN;have u0:=fN.tl N' (Qb _);simp [M2,hlg,hlg2,eN,hR,hE,u0,IB,aC]
  have hR:=Iz ports links hosts cs hcl hcs hE;obtain ⟨nn,rfl,C,pv,lv,H,m,hown⟩:=hgood hE;have u0:=fN.tl N' (Qb _);rw [hE] at eN;obtain ⟨P,hP⟩:=Ib;obtain ⟨ht,hc⟩:=Er hE;have j0:NetJ GI 0 ⟨ports,links,hosts,cs,[],[]⟩:=⟨by simp,by simp,by simp,ht,hc,Pi hE fun c hc=>(hcs c hc).1,by simp⟩;have hp0:=(KK ht).1;have hbA:∀a∈A,a.data.length<=1000/\a.upd.ops.length<2^40:=fun a ha=>by have:=h6 a ha;omega
  have hbB:∀a∈B,okB' a.data/\a.data.length<=1000/\a.upd.ops.length<2^40:=fun a ha=>⟨hB a ha,by have:=h6' a ha;omega,by have:=h6' a ha;omega⟩
  simp [M2,hlg,hlg2,eN,hR,u0,aC,aB,NetV.re];have key:∀{r:Option Rt},ClF r->r=some (.val (.bool true)):=fun h=>h
  refine key (fF A.length (fun i e h=>∃(O:List (Nat×AO)) (N n C:Nat) (pv lv:AV) (H:List AV),h=⟨O,N⟩/\NetM O n (runV updV P ⟨ports,links,hosts,cs,[],[]⟩ (A.take i)) (.func (.func dX) [] []) C pv lv H/\(∀j,NetM.own n C pv lv H j->j≠N')/\look N' O=some (.row 6 [(runV updV P ⟨ports,links,hosts,cs,[],[]⟩ (A.take i)).r])/\Tail O N/\NetJ GI i (runV updV P ⟨ports,links,hosts,cs,[],[]⟩ (A.take i))/\
   look 5 e=some (.iptr 2 [[.slice 6 (A.map Act.c),.slice 6 (B.map Act.c)]] 0 0)/\look 7 e=some (.ptr n 7 0 0)/\look 9 e=some (.ptr N' 6 0 0)/\look 11 e=some (a8 i)) ClF ?_ ?_ 0 _ _ (Qc _) ?_)
  ·rintro i e _ L hi hL ⟨O,N,n,C,pv,lv,H,rfl,m,hne,hM,hT,jj,g5,g7,g9,g11⟩ ih;have hwr:=aL i (by omega);have ha:=Qd hi;have I:=jj.I (by omega);have hstep:=RK hP I A[i] (hbA _ ha).2 (hAo _ ha);have htk:runV updV P ⟨ports,links,hosts,cs,[],[]⟩ (A.take (i+1))=(actV updV P (runV updV P ⟨ports,links,hosts,cs,[],[]⟩ (A.take i)) A[i]).1:=by
    unfold runV;rw [Qh hi,List.foldl_append];rfl
   rw [htk] at ih;have jj':=jj.act (U:=updV) hP A[i] (hA _ ha) (fun d2=>NetJ.upd jj A[i] (hAo _ ha));obtain ⟨O2,N2,n2,e2,⟨C2,pv2,lv2,H2,m2,ho2⟩,fw2⟩:=Qy (U:=updV) (X:=NetM.own n C pv lv H) hP I m (fun j h=>h) hT A[i] (hbA _ ha).1 (fun d2 y hy=>Dw (m.mn (Mn.app (r:=[(N,y)]))) (fun j h=>h) (hT.app1 (Qb _)) I.s (fun c hc=>(I.cg c hc).2) A[i] (hAo _ ha));generalize hW:runV updV P ⟨ports,links,hosts,cs,[],[]⟩ (A.take i)=W at*;generalize hq:actV updV P W A[i]=q at*;have hMN:=hT.lt hM;have hM2:look N' O2=some (.row 6 [W.r]):=by
    rw [fw2.kp N' hMN ?_,hM];rintro (h | h)
    ·exact hne N' h rfl
    ·unfold Rs at h;rw [hM] at h;cases h
   have hNl2:=fw2.tl.lt hM2;have hne2:∀j,NetM.own n2 C2 pv2 lv2 H2 j->j≠N':=by
    intro j hj;rcases ho2 j hj with h | h
    ·exact hne j h
    ·omega
   rw [Act.ce] at e2;rw [Event.ce] at e2;rw [NetV.re] at hM2;simp only [NetV.re,Act.ce,Event.ce] at hstep;simp [c_6_l0,g5,g7,g9,g11,hi,hL,Act.ce,e2,hM2,hstep,hwr,aC,aB,aR,bK];exact ih _ _ ⟨_,_,n2,C2,pv2,lv2,H2,rfl,m2.fr fun j hj=>by rw [aB,QA (hne2 j hj)],hne2,by simp [aB,hM2,NetV.re],bV fw2.tl,jj',by simp [g5],by simp,by simp [g9],by simp⟩
  ·rintro e _ L hL ⟨O,N,n,C,pv,lv,H,rfl,m,hne,hM,hT,jj,g5,g7,g9,g11⟩;rw [iI] at m hM jj;have hcl:0<(runV updV P ⟨ports,links,hosts,cs,[],[]⟩ A).cs.length:=by rw [jj.cl];exact (KK jj.top).1
   have hend:=qxh hP B (by omega) hbB hBo A.length (by omega) _ jj hcl;simp [c_6_l0,g5,g7,g11,hL];exact hend _ O N n N' C pv lv H (.slice 6 (A.map Act.c)) m hT hM hne (by simp [g5]) (by simp [g7]) (by simp [g9])
  ·have hn':∀j,NetM.own nn C pv lv H j->j≠N':=fun j hj=>by have:=m.lt fN.tl hj;omega
   exact ⟨_,_,nn,C,pv,lv,H,rfl,(m.mn Mn.app).fr fun j hj=>by first | rfl | simp,hn',by simp [aC,aB,u0,runV,NetV.re],by first | exact fN.tl.app1 (Qb _) | exact bV (fN.tl.app1 (Qb _)),j0,by simp,by simp,by simp,by simp⟩
def cA2 {α:Type} (c:α->List AV) (q:α×α):List AV:=c q.1++c q.2
def okA2 {α:Type} (ok:α->Prop) (q:α×α):Prop:=ok q.1/\ok q.2
theorem XH {P:Program} {B:Nat} {t e:TypeId} {k:Nat} {xs:List AV} (hu:P.underlying t=some (.array k e)) (h:WT P B t xs):∃xss:List (List AV),xs=xss.flatten/\xss.length=k/\∀x∈xss,WT P B e x:=by
 cases h with
 | bool b h=>rw [hu] at h;cases h
 | int k v h=>rw [hu] at h;cases h
 | str s h=>rw [hu] at h;cases h
 | slice es h=>rw [hu] at h;cases h
 | struct fs xss h=>rw [hu] at h;cases h
 | array k' xss h h1 h2=>rw [hu] at h;cases h;exact ⟨xss,rfl,h1,h2⟩
theorem ZE {α:Type} {P:Program} {B:Nat} {t e:TypeId} {c:α->List AV} {ok:α->Prop} (hu:P.underlying t=some (.array 2 e)) (he:Rd P B e c ok):Rd P B t (cA2 c) (okA2 ok):=by
 intro xs h;obtain ⟨xss,rfl,hl,hx⟩:=XH hu h
 match xss,hl with
 | [a,b],_=>
  obtain ⟨x,rfl,hx1⟩:=he a (hx a (by simp));obtain ⟨y,rfl,hy1⟩:=he b (hx b (by simp));exact ⟨(x,y),by simp [cA2],hx1,hy1⟩
theorem Zm (x:Topology) (l:List Xf) (q:List Act×List Act) (_:x.Ok dO) (ol:okL dO (Xf.Ok dO) l) (oq:okA2 (okL dO (Act.Ok dO)) q):
  aA Φ TD [.agg x.c,.slice 4 (l.map Xf.c),.agg (cA2 (cS 6 Act.c) q)]=some (.val (.bool true)):=by
 have e:=CW;obtain ⟨A,B⟩:=q;obtain ⟨oA,oB⟩:=oq;have h1:=ol.1;have h2:A.length<=dO:=oA.1;have h3:B.length<=dO:=oB.1;exact qy4 x.ports x.links x.hosts l A B (by omega) (by omega) (by omega) (fun c hc=>GS_of (ol.2 c hc)) (fun y hy=>(oA.2 y hy).2.2.2.1.2) (fun y hy=>(oB.2 y hy).2.2.2.1.2) (fun y hy o ho=>Ga ((oA.2 y hy).2.2.2.2.2.2 o ho)) fun y hy o ho=>Ga ((oB.2 y hy).2.2.2.2.2.2 o ho)
end Go.Av
