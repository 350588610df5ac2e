/-
 The law NetworkScripted.
-/
import Derived.Test.YtknmfocedphgmaaGreatIY1
import Derived.Test.YtknmfocedphgmaaGreatW48R
set_option linter.unusedVariables false
set_option linter.unusedSimpArgs false
set_option linter.constructorNameAsVariable false
namespace Go.Av
set_option maxRecDepth 8000
theorem qq1 {ports:List Int} {links:List Link} {hosts:List PortID} {cs:List Xf} (h:newE ports links hosts cs=0):qbo ports links hosts=0/\cs.length=ports.length:=by
 have z1:qbo ports links hosts=0:=by
  refine Decidable.byContradiction fun hc=>?_
  rw [show newE ports links hosts cs=qbo ports links hosts by simp [newE,hc]] at h;exact hc h
 refine ⟨z1,Decidable.byContradiction fun hc=>?_⟩;rw [show newE ports links hosts cs=2 by simp [newE,z1,hc]] at h;cases h
theorem qww {p:Prg} {c:Xf} {s:Int} {B:List Int} (hp:qac Φ f_26 []=some (.val (.agg (Prg.c p)))) {x:Rslt} {c':Xf} (h:qac Φ f_38 [.agg (Prg.c p),.agg (Xf.c c),.agg [.int .i64 s,.slice 1 (B.map c8)]]=some (.val (.tup [.agg (Rslt.c x),.agg (Xf.c c')]))):
  qac Φ f_10 [.agg (Xf.c c),.agg [.int .i64 s,.slice 1 (B.map c8)]]=some (.val (.tup [.agg (Rslt.c x),.agg (Xf.c c')])):=by
 rw [qad (fn:=c_10) rfl rfl];rw [Rslt.ce,Xf.e4 c'] at h ⊢;rw [Xf.e4] at h ⊢;simp only [Prg.e] at hp h;simp [c_10,hp,h,qaa]
theorem qadc {P:Xf->Int->List Int->Rslt×Xf} (hP:PrcOk f_10 GI P):∀c,GI c->∀s d,okB' d->d.length<=1000->(P c s d).1.drop=false->0<=(P c s d).1.port:=by
 intro c g s d hd hl;obtain ⟨x,l,px,_,_,_,h⟩:=qrj g s d hl hd;have h1:=qww qtn h;have h2:=hP.run c s d g hd hl;rw [h1] at h2;simp only [Rslt.ce,Option.some.injEq,Rt.val.injEq,AV.tup.injEq,AV.agg.injEq,List.cons.injEq,AV.bool.injEq,AV.int.injEq,true_and,and_true] at h2;obtain ⟨⟨e1,e2,_⟩,_⟩:=h2;rw [<- e1,<- e2];exact px
section
variable {V:NetV} {G:Xf->Prop} {P:Xf->Int->List Int->Rslt×Xf} {U:NetV->Act->NetV×Int}
end
@[simp] theorem Act.c_length (x:Act):(Act.c x).length=6:=by simp [Act.c]
def Act.Ok (B:Nat) (x:Act):Prop:=okI B x.dd/\okI B x.a/\okI B x.b/\okL B (ok8 B) x.data/\UpdateStep.Ok B x.upd
theorem Act.rd {P:Go.Program} {B:Nat} {t:TypeId} {f0 f1 f2 f3 f4:Go.Field} (hu:P.underlying t=some (.struct #[f0,f1,f2,f3,f4])) (h0:Rd P B f0.type cI (okI B)) (h1:Rd P B f1.type cI (okI B)) (h2:Rd P B f2.type cI (okI B)) (h3:Rd P B f3.type (cS 1 c8) (okL B (ok8 B))) (h4:Rd P B f4.type UpdateStep.c (UpdateStep.Ok B)):Rd P B t Act.c (Act.Ok B):=
 .st hu (h0.q (h1.q (h2.q (h3.q h4.o)))) fun ⟨a,b,c,d,e⟩ h=>⟨⟨a,b,c,d,e⟩,by simp [Act.c,UpdateStep.c,cI,cS],h⟩
theorem GS_of {c:Xf} (o:c.Ok qba):GS c:=by
 refine ⟨qaa8 o,fun l hl=>?_⟩;have e:=qdf;have:=(o.1.2 l hl).1;omega
theorem qacz {ports:List Int} {links:List Link} {hosts:List PortID} {cs:List Xf} (h:newE ports links hosts cs=0) (hs:∀c∈cs,CfgT c):∀c∈cs,GI c:=by
 obtain ⟨z1,z2⟩:=qq1 h;have hf:(fe (cfgF cs) cs.length 0).getD 0=0:=by
  rw [show newE ports links hosts cs=(fe (cfgF cs) cs.length 0).getD 0 by simp [newE,z1,z2]] at h;exact h
 intro c hc;obtain ⟨k,hk,rfl⟩:=Qn.1 hc;refine ⟨?_,hs _ hc⟩;cases q:fe (cfgF cs) cs.length 0 with
 | some x=>
  rw [q] at hf;simp only [QAn] at hf;obtain ⟨j,_,hj⟩:=qf3 q;exact absurd hf (qabr hj)
 | none=>
  have:=fe_all.1 q k hk;unfold cfgF at this;rw [Qa hk] at this;simp only [QAl] at this;by_cases z:cfgE pF cs[k]=0
  ·exact (qe9 pF _).1 z
  ·rw [QA z] at this;cases this
theorem GI.s {c:Xf} (g:GI c):CfgS c:=⟨g.2.rl,fun l hl=>⟨(g.2.rs l hl).1,fun r hr=>⟨(show EntS r.entry from (g.2.rs l hl).2 r hr).kl,(show EntS r.entry from (g.2.rs l hl).2 r hr).al⟩⟩,g.2.nl,g.2.dl,fun d hd=>(g.2.ds d hd).1,g.2.gl,fun l hl=>(g.2.gs l hl).1⟩
theorem NetM.kp {O O':List (Nat×AO)} {n N g C:Nat} {V:NetV} {pv lv:AV} {H:List AV} {X:Nat->Prop} (m:NetM O n V (.func (.func g) [] []) C pv lv H) (hT:Tail O N) (hk:Kp (fun j=>X j\/Rs O j) N O O') (hx:∀j,NetM.own n C pv lv H j->¬X j):NetM O' n V (.func (.func g) [] []) C pv lv H:=by
 refine m.fr fun j hj=>?_
 obtain ⟨y,hy,hny⟩:=m.nr hj;refine hk j (hT.lt hy) ?_;rintro (h | h)
 ·exact hx j hj h
 ·unfold Rs at h;rw [hy] at h;cases h;exact hny rfl
def ClF (r:Option Rt):Prop:=r=some (.val (.bool true))
theorem Link.ce (x:Link):x.c=[.int .i64 x.a.switch,.int .i64 x.a.port,.int .i64 x.b.switch,.int .i64 x.b.port,.bool x.down]:=rfl
theorem Hop.ce (x:Hop):x.c=[.int .i64 x.switch,.int .i64 x.inp,.int .i64 x.out]:=rfl
def eP (a b:PortID):Bool:=decide (a.switch=b.switch)&&decide (a.port=b.port)
def lq (a b:PortID) (l:Link):Bool:=(eP l.a a&&eP l.b b) || (eP l.a b&&eP l.b a)
theorem qafe (a b:PortID):eP a b=decide (a=b):=by
 unfold eP;rw [Bool.eq_iff_iff];simp only [Bool.and_eq_true,decide_eq_true_eq];exact ⟨fun h=>PortID.ext h.1 h.2,fun h=>by rw [h];exact ⟨rfl,rfl⟩⟩
theorem qyy (L:List Link) (a b:PortID):qgg L a b=L.any (lq a b):=by
 unfold qgg;congr 1;funext l;simp only [lq,qafe]
theorem qyg {α:Type} (q:α->Bool) (l:List α) {i:Nat} (hi:i<l.length):(l.take (i+1)).any q=((l.take i).any q || q l[i]):=by
 rw [Qh hi,List.any_append,QBb,List.any_nil,Bool.or_false]
theorem qw1 (p:List Int) (L:List Link) (h:List PortID) (hs:List Hop) (hl:hs.length<2^40) (hL:L.length<2^40) (hk:lnkP L hs):qac Φ f_20 [.agg [.slice 1 (p.map cI),.slice 5 (L.map Link.c),.slice 2 (h.map PortID.c)],.slice 3 (hs.map Hop.c)]=some (.val (.bool true)):=by
 rw [qad (fn:=c_20) rfl rfl];simp [c_20];have key:∀{r:Option Rt},ClF r->r=some (.val (.bool true)):=fun h=>h
 refine key (qbk (hs.length - 1) (fun i e hp=>∃n,hp=⟨[],n⟩/\look 1 e=some (.slice 3 (hs.map Hop.c))/\look 2 e=some (.iptr 3 [[.slice 1 (p.map cI),.slice 5 (L.map Link.c),.slice 2 (h.map PortID.c)]] 0 0)/\look 5 e=some (.int .i64 ((i+1:Nat):Int))) ClF ?_ ?_ 0 _ _ (Qc _) ?_)
 ·rintro i e _ K hi hK ⟨n,rfl,g1,g2,g5⟩ ih;have hw:IntKind.wrap .i64 (((i+1:Nat):Int)+1)=((i+1+1:Nat):Int):=qbr (by omega) (by omega);have hs1:IntKind.wrap .i64 (((i+1:Nat):Int) - 1)=(i:Int):=by
   rw [show (((i+1:Nat):Int) - 1)=(i:Int) by omega];exact qbr (by omega) (by omega)
  have hi0:i<hs.length:=by omega
  have hi1:i+1<hs.length:=by omega
  have he:=hk i _ _ (Qa hi0) (Qa hi1);rw [qyy] at he;have hb:(hs.map Hop.c).length=hs.length:=by simp
  obtain ⟨J,hJ⟩:∃J,J=i+1:=⟨_,rfl⟩;rw [<- hJ] at g5 hw hs1;have hJl:J<hs.length:=by omega
  have hgJ:hs[J]=hs[i+1]:=by simp [hJ]
  obtain ⟨x,hx⟩:∃x,hs[i]=x:=⟨_,rfl⟩;obtain ⟨y,hy⟩:∃y,hs[J]=y:=⟨_,rfl⟩;rw [hx,<- hgJ,hy] at he;simp [c_20_l3,Hop.ce,g1,g2,g5,hi0,hJl,hs1,hx,hy,qab,qaa,qaf,qak];refine qbk L.length (fun j e hp=>∃n,hp=⟨[],n⟩/\look 1 e=some (.slice 3 (hs.map Hop.c))/\look 2 e=some (.iptr 3 [[.slice 1 (p.map cI),.slice 5 (L.map Link.c),.slice 2 (h.map PortID.c)]] 0 0)/\look 5 e=some (.int .i64 J)/\look 6 e=some (.iptr 2 [[.int .i64 x.switch,.int .i64 x.out]] 0 0)/\look 7 e=some (.iptr 2 [[.int .i64 y.switch,.int .i64 y.inp]] 0 0)/\look 8 e=some (.bool ((L.take j).any (lq (depH x) (arrH y))))/\look 9 e=some (.int .i64 j)) ClF ?_ ?_ 0 _ _ (Qc _) ?_
  ·rintro j e _ M hj hM ⟨n,rfl,g1,g2,g5,g6,g7,g8,g9⟩ ih2;have hw2:=qao j (by omega);have hsn:=qyg (lq (depH x) (arrH y)) L hj;obtain ⟨lk,hlk⟩:∃lk,L[j]=lk:=⟨_,rfl⟩;rw [hlk] at hsn;obtain ⟨m0,hm0⟩:∃m0,(L.take j).any (lq (depH x) (arrH y))=m0:=⟨_,rfl⟩;rw [hm0] at g8 hsn;cases m0 with
   | true=>
    simp [c_20_l0,Link.ce,g1,g2,g5,g6,g7,g8,g9,hj,hlk,hw2];exact ih2 _ _ ⟨_,rfl,by simp [g1],by simp [g2],by simp [g5],by simp [g6],by simp [g7],by simp [hsn],by simp⟩
   | false=>
    obtain ⟨b1,k1⟩:∃b1,(decide (lk.a.switch=x.switch)&&decide (lk.a.port=x.out))=b1:=⟨_,rfl⟩;obtain ⟨b2,k2⟩:∃b2,(decide (lk.b.switch=y.switch)&&decide (lk.b.port=y.inp))=b2:=⟨_,rfl⟩;obtain ⟨b3,k3⟩:∃b3,(decide (lk.a.switch=y.switch)&&decide (lk.a.port=y.inp))=b3:=⟨_,rfl⟩;obtain ⟨b4,k4⟩:∃b4,(decide (lk.b.switch=x.switch)&&decide (lk.b.port=x.out))=b4:=⟨_,rfl⟩;have hlq:lq (depH x) (arrH y) lk=((b1&&b2) || (b3&&b4)):=by rw [<- k1,<- k2,<- k3,<- k4];rfl
    rw [hlq] at hsn;cases b1<;>cases b2<;>cases b3<;>cases b4<;>(
     simp only [Bool.and_true,Bool.and_false,Bool.true_and,Bool.false_and,Bool.or_true,Bool.or_false,QBc,QCi] at hsn;simp [c_20_l0,Link.ce,g1,g2,g5,g6,g7,g8,g9,hj,hlk,hw2,k1,k2,k3,k4,-Bool.and_eq_true,-Bool.and_eq_false_imp,-decide_eq_true_eq,-decide_eq_false_iff_not];exact ih2 _ _ ⟨_,rfl,by simp [g1],by simp [g2],by simp [g5],by simp [g6],by simp [g7],by simp [hsn],by simp⟩)
  ·rintro e _ M hM ⟨n,rfl,g1,g2,g5,g6,g7,g8,g9⟩;rw [QAf,he] at g8;simp [c_20_l0,c_20_k1,c_20_k2,g2,g5,g8,g9,hM,hw];exact ih _ _ ⟨_,rfl,by simp [g1],by simp [g2],by simp;omega⟩
  ·exact ⟨_,rfl,by simp [g1],by simp [g2],by simp [g5],by simp,by simp,by simp,by simp⟩
 ·rintro e _ K hK ⟨n,rfl,g1,g2,g5⟩;have z:¬(((hs.length - 1+1:Nat):Int)<hs.length):=by omega
  obtain ⟨J,hJ⟩:∃J,J=hs.length - 1+1:=⟨_,rfl⟩;rw [<- hJ] at g5 z;simp [c_20_l3,c_20_k4,g1,g2,g5,z,hK];rfl
 ·exact ⟨_,rfl,by simp,by simp,by simp⟩
section
variable {L:List Link} {V:NetV} {O:List (Nat×AO)} {n N C:Nat} {pv lv:AV} {H:List AV}
theorem qab9 (hv:EvI L V) (m:NetM O n V (.func (.func f_10) [] []) C pv lv H) (s:NetS V) (hT:Tail O N) (ports:List Int) (hosts:List PortID) (hLl:L.length<2^40) {i:Nat} (hi:i<V.pk.length) (hdl:V.pk[i].data.length<2^40) (K:List Go.Av.Fr) (ev:Env)
  (h3:look 3 ev=some (.iptr 3 [[.slice 1 (ports.map cI),.slice 5 (L.map Link.c),.slice 2 (hosts.map PortID.c)]] 0 0)) (h7:look 7 ev=some (.ptr n 7 0 0)) (h9:look 9 ev=some (.int .i64 V.pk.length)) (h15:look 15 ev=some (.slice 4 (V.log.map Event.c))) (h16:look 16 ev=some (.int .i64 i))
  (hK:∀e' O' N',NetM O' n V (.func (.func f_10) [] []) C pv lv H->Tail O' N'->look 3 e'=look 3 ev->look 7 e'=look 7 ev->look 9 e'=look 9 ev->look 15 e'=look 15 ev->look 16 e'=some (.int .i64 ((i+1:Nat):Int))->ClF (go Φ (finP [.tmp 6]) K .normal ⟨e',⟨O',N'⟩⟩)):
  ClF (go Φ (finP [.tmp 6]) (.c c_5_l1::K) .normal ⟨ev,⟨O,N⟩⟩):=by
 have hpk:=hv.pk i hi;have hhl:V.pk[i].hops.length<2^40:=by have:=s.hp _ (Qd hi);omega
 have hhl2:V.pk[i].hops.length<=1000:=s.hp _ (Qd hi);have hlg:V.log.length<2^40:=by have:=s.g;omega
 have hkl:=s.k;have hw:=qao i (by omega);have e1:=qzm (N:=N) m hi hhl;obtain ⟨a,O1,N1,k1,T1,n1,ha,e2⟩:=qacv m hT hi hhl;have m1:NetM O1 n V (.func (.func f_10) [] []) C pv lv H:=m.fr fun j hj=>k1 j (m.lt hT hj)
 have u0:=T1 N1 (Qb _);obtain ⟨p,q,a2,O2,N2,k2,T2,n2,ha2,e3⟩:=qaf0 m1 (T1.mono (QAj N1)) hi hdl;have m2:NetM O2 n V (.func (.func f_10) [] []) C pv lv H:=m1.fr fun j hj=>k2 j (by have:=m1.lt T1 hj;omega)
 have u2:=T2 N2 (Qb _);have c1:=qk5 V.log hlg 1 i;have c2:=qk5 V.log hlg 2 i;have c3:=qk5 V.log hlg 3 i;have c4:=qk5 V.log hlg 4 i;rw [hpk.s] at c1;rw [hpk.f] at c2;rw [hpk.d] at c3;rw [hpk.l] at c4;have hln:=qw1 ports L hosts V.pk[i].hops hhl hLl hpk.c;have ho:=hpk.o;obtain ⟨x,hx⟩:∃x,V.pk[i]=x:=⟨_,rfl⟩;rw [hx] at e1 e2 e3 c2 c3 c4 hln ho hhl2;obtain ⟨a',hsa,hca,hba⟩:∃a',(∀(k:Nat) (h:AH),snap (k+1) h a=some a')/\a.cells=some [a]/\∀k:Nat,bor (k+1) a=false:=by
  rcases ha with rfl | ⟨es,rfl⟩
  ·exact ⟨.slice 3 [],fun k h=>by simp,rfl,fun k=>by simp⟩
  ·exact ⟨.slice 3 es,fun k h=>by simp,rfl,fun k=>by simp⟩
 clear ha ha2;have w00:IntKind.wrap .i64 0=0:=rfl;have w11:IntKind.wrap .i64 1=1:=rfl;cases d:x.done with
 | false=>
  rw [d] at e2 e3 c3 c4;simp at e2 e3 c3 c4
  (
   simp [c_5_l1,h3,h7,h9,h15,h16,hi,e1,e2,e3,c1,c2,c3,c4,hln,u0,u2,hsa,hca,hba,-AV.cells,hw,w00,w11,qab,qaa];refine hK _ _ _ m2 (T2.mono (QAj N2)) ?_ ?_ ?_ ?_ ?_<;>simp)
 | true=>
  have ho:=ho d;rw [d] at e2 e3 c3 c4;simp at e2 e3 c3 c4;obtain ⟨hs,hhs⟩:∃hs,x.hops=hs:=⟨_,rfl⟩;rw [hhs] at e1 c2 hln ho hhl2;obtain ⟨kd,hkd⟩:∃kd,x.kind=kd:=⟨_,rfl⟩;rw [hkd] at e2 c3 c4 ho;have hkc:kd=1\/kd=2\/kd=3\/(kd≠1/\kd≠2/\kd≠3):=by omega
  rcases List.eq_nil_or_concat hs with rfl | ⟨l,b,rfl⟩
  ·have ho2:kd≠2:=fun h=>by have:=ho.1 h;simp at this
   simp at e1 c2 hln;rcases hkc with rfl | rfl | rfl | ⟨k1',k2',k3'⟩
   ·simp at c3 c4
    (
     simp [c_5_l1,h3,h7,h9,h15,h16,hi,e1,e2,e3,c1,c2,c3,c4,hln,u0,u2,hsa,hca,hba,-AV.cells,hw,w00,w11,qab,qaa];refine hK _ _ _ m2 (T2.mono (QAj N2)) ?_ ?_ ?_ ?_ ?_<;>simp)
   ·exact absurd rfl ho2
   ·simp at c3 c4
    (
     simp [c_5_l1,h3,h7,h9,h15,h16,hi,e1,e2,e3,c1,c2,c3,c4,hln,u0,u2,hsa,hca,hba,-AV.cells,hw,w00,w11,qab,qaa];refine hK _ _ _ m2 (T2.mono (QAj N2)) ?_ ?_ ?_ ?_ ?_<;>simp)
   ·simp [k1',k3'] at c3 c4
    (
     simp [c_5_l1,h3,h7,h9,h15,h16,hi,e1,e2,e3,c1,c2,c3,c4,hln,u0,u2,hsa,hca,hba,-AV.cells,hw,w00,w11,qab,qaa,k1',k2',k3'];refine hK _ _ _ m2 (T2.mono (QAj N2)) ?_ ?_ ?_ ?_ ?_<;>simp)
  ·simp only [List.concat_eq_append] at*;have hb:(kd=2↔b.out= -1):=by
    rw [ho];simp
   have hll:l.length<=1000:=by simp at hhl2;omega
   have hlen:(l++[b]).length=l.length+1:=by simp
   have hlt:(l.length:Int)<(l.length:Int)+1:=by omega
   have hwl:IntKind.wrap .i64 (l.length:Int)=l.length:=qbr (by omega) (by omega);simp [Hop.ce] at e1 c2 hln;rcases hkc with rfl | rfl | rfl | ⟨k1',k2',k3'⟩
   ·have hb':¬b.out= -1:=fun h=>absurd (hb.2 h) (by decide)
    simp at c3 c4
    (
     simp [c_5_l1,Hop.ce,h3,h7,h9,h15,h16,hi,e1,e2,e3,c1,c2,c3,c4,hln,u0,u2,hsa,hca,hba,-AV.cells,hw,w00,w11,hwl,hlen,hlt,qab,qaa,hb'];refine hK _ _ _ m2 (T2.mono (QAj N2)) ?_ ?_ ?_ ?_ ?_<;>simp)
   ·have hb':b.out= -1:=hb.1 rfl;rw [hb'] at hln;simp at c3 c4
    (
     simp [c_5_l1,Hop.ce,h3,h7,h9,h15,h16,hi,e1,e2,e3,c1,c2,c3,c4,hln,u0,u2,hsa,hca,hba,-AV.cells,hw,w00,w11,hwl,hlen,hlt,qab,qaa,hb'];refine hK _ _ _ m2 (T2.mono (QAj N2)) ?_ ?_ ?_ ?_ ?_<;>simp)
   ·have hb':¬b.out= -1:=fun h=>absurd (hb.2 h) (by decide)
    simp at c3 c4
    (
     simp [c_5_l1,Hop.ce,h3,h7,h9,h15,h16,hi,e1,e2,e3,c1,c2,c3,c4,hln,u0,u2,hsa,hca,hba,-AV.cells,hw,w00,w11,hwl,hlen,hlt,qab,qaa,hb'];refine hK _ _ _ m2 (T2.mono (QAj N2)) ?_ ?_ ?_ ?_ ?_<;>simp)
   ·have hb':¬b.out= -1:=fun h=>k2' (hb.2 h)
    simp [k1',k3'] at c3 c4
    (
     simp [c_5_l1,Hop.ce,h3,h7,h9,h15,h16,hi,e1,e2,e3,c1,c2,c3,c4,hln,u0,u2,hsa,hca,hba,-AV.cells,hw,w00,w11,hwl,hlen,hlt,qab,qaa,hb',k1',k2',k3'];refine hK _ _ _ m2 (T2.mono (QAj N2)) ?_ ?_ ?_ ?_ ?_<;>simp)
end
section
variable {L:List Link} {V:NetV} {O:List (Nat×AO)} {n N C:Nat} {pv lv:AV} {H:List AV}
theorem qafr (m:NetM O n V (.func (.func f_10) [] []) C pv lv H) (hT:Tail O N) (ev:Env) (h7:look 7 ev=some (.ptr n 7 0 0)) (h9:look 9 ev=some (.int .i64 V.pk.length)):ClF (go Φ (finP [.tmp 6]) [.c c_5_k2] .normal ⟨ev,⟨O,N⟩⟩):=by
 obtain ⟨y,e1⟩:=qacw m hT V.pk.length (.inr (Int.le_refl _));have m1:∀y,NetM (O++[(N,y)]) n V (.func (.func f_10) [] []) C pv lv H:=fun y=>m.mn Mn.app
 have e2:=fun N=>qzn (N:=N) (m1 y) V.pk.length (.inr (Int.le_refl _))
 have t1:=hT (N+1) (by omega);have t0:=hT N (Qb _);unfold ClF;simp [c_5_k2,h7,h9,e1,e2,t0,t1,qjs,qab,qaa]
theorem qab8 (hv:EvI L V) (m:NetM O n V (.func (.func f_10) [] []) C pv lv H) (s:NetS V) (hT:Tail O N) (ports:List Int) (hosts:List PortID) (hLl:L.length<2^40) (hdl:∀x∈V.pk,x.data.length<2^40) (ev:Env)
  (h3:look 3 ev=some (.iptr 3 [[.slice 1 (ports.map cI),.slice 5 (L.map Link.c),.slice 2 (hosts.map PortID.c)]] 0 0)) (h7:look 7 ev=some (.ptr n 7 0 0)) (h9:look 9 ev=some (.int .i64 V.pk.length)):ClF (go Φ (finP [.tmp 6]) [.c c_5_k3] .normal ⟨ev,⟨O,N⟩⟩):=by
 have e1:=qacu (N:=N) m (by have:=s.g;omega);simp [c_5_k3,h7,e1];refine qbk V.pk.length (fun i e h=>∃O N,h=⟨O,N⟩/\NetM O n V (.func (.func f_10) [] []) C pv lv H/\Tail O N/\look 3 e=some (.iptr 3 [[.slice 1 (ports.map cI),.slice 5 (L.map Link.c),.slice 2 (hosts.map PortID.c)]] 0 0)/\look 7 e=some (.ptr n 7 0 0)/\look 9 e=some (.int .i64 V.pk.length)/\look 15 e=some (.slice 4 (V.log.map Event.c))/\look 16 e=some (.int .i64 i)) ClF ?_ ?_ 0 _ _ (Qc _) ?_
 ·rintro i e _ K hi hK ⟨O,N,rfl,m,hT,g3,g7,g9,g15,g16⟩ ih;exact qab9 hv m s hT ports hosts hLl hi (hdl _ (Qd hi)) K e g3 g7 g9 g15 g16 fun e' O' N' m' hT' q3 q7 q9 q15 q16=>ih _ _ ⟨_,_,rfl,m',hT',by rw [q3,g3],by rw [q7,g7],by rw [q9,g9],by rw [q15,g15],q16⟩
 ·rintro e _ K hK ⟨O,N,rfl,m,hT,g3,g7,g9,g15,g16⟩;have he:=qafr m hT;simp [c_5_l1,g9,g16,hK];exact he _ (by simp [g7]) (by simp [g9])
 ·exact ⟨_,_,rfl,m,hT,by simp [h3],by simp [h7],by simp [h9],by simp,by simp⟩
end
theorem qvr (ports:List Int) (links:List Link) (hosts:List PortID) (cs:List Xf) (acts:List Act) (hal:acts.length<2^40) (hcl:cs.length<2^39) (hll:links.length<2^40) (hcs:∀c∈cs,GS c) (hb:∀a∈acts,okB' a.data) (ho:∀a∈acts,∀o∈a.upd.ops,OpS o):
  qac Φ f_5 [.agg [.slice 1 (ports.map cI),.slice 5 (links.map Link.c),.slice 2 (hosts.map PortID.c)],.slice 4 (cs.map Xf.c),.slice 6 (acts.map Act.c)]=some (.val (.bool true)):=by
 obtain ⟨b,hlg,hsz⟩:=qze ports links hosts cs acts fun c hc=>(hcs c hc).1.rl
 rw [qad (fn:=c_5) rfl rfl];obtain ⟨O',N',v,eN,fN,hbad,hgood⟩:=qaex ports links hosts cs hcl hcs f_10 (O:=[]) (N:=0) (Tail.nil _);cases b with
 | true=>simp [c_5,eN,hlg,qjs]
 | false=>
  obtain ⟨h1,h2,h3,h4,h5,h6⟩:=hsz rfl;by_cases hE:newE ports links hosts cs=0
  rotate_left
  ·simp [c_5,eN,hlg,hE,qjs]
  obtain ⟨nn,rfl,C,pv,lv,H,m,hown⟩:=hgood hE;rw [hE] at eN;obtain ⟨P,hP⟩:=qm8;have hpp:=qadc hP;obtain ⟨ht,hc⟩:=qq1 hE;have j0:NetJ GI 0 ⟨ports,links,hosts,cs,[],[]⟩:=⟨by simp,by simp,by simp,ht,hc,qacz hE fun c hc=>(hcs c hc).1,by simp⟩;have v0:EvI links ⟨ports,links,hosts,cs,[],[]⟩:=⟨fun i hi=>by simp at hi,fun i _ k _ _=>rfl,rfl⟩;have hbA:∀a∈acts,a.data.length<=1000:=fun a ha=>by have:=h6 a ha;omega
  simp [c_5,hlg,eN];have key:∀{r:Option Rt},ClF r->r=some (.val (.bool true)):=fun h=>h
  refine key (qbk acts.length (fun i e h=>∃(O:List (Nat×AO)) (N n C:Nat) (pv lv:AV) (H:List AV) (V:NetV),h=⟨O,N⟩/\NetM O n V (.func (.func f_10) [] []) C pv lv H/\Tail O N/\NetJ GI i V/\EvI links V/\look 2 e=some (.slice 6 (acts.map Act.c))/\
   look 3 e=some (.iptr 3 [[.slice 1 (ports.map cI),.slice 5 (links.map Link.c),.slice 2 (hosts.map PortID.c)]] 0 0)/\look 7 e=some (.ptr n 7 0 0)/\look 9 e=some (.int .i64 V.pk.length)/\look 10 e=some (.int .i64 i)) ClF ?_ ?_ 0 _ _ (Qc _) ?_)
  ·rintro i e _ K hi hK ⟨O,N,n,C,pv,lv,H,V,rfl,m,hT,jj,hv,g2,g3,g7,g9,g10⟩ ih;have hwr:=qao i (by omega);have ha:=Qd hi;have I:=jj.I (by omega);have hkl:=I.s.k;have hwk:IntKind.wrap .i64 ((V.pk.length:Int)+1)=((V.pk.length+1:Nat):Int):=qbr (by omega) (by omega);have jj':=jj.act (U:=updV) hP acts[i] (hb _ ha) (fun d2=>NetJ.upd jj acts[i] (ho _ ha));have hv':=hv.act I hpp acts[i];have hlen:=qabb (V:=V) (P:=P) acts[i];obtain ⟨O2,N2,n2,e2,⟨C2,pv2,lv2,H2,m2,ho2⟩,fw2⟩:=qae1 (U:=updV) (X:=NetM.own n C pv lv H) hP I m (fun j h=>h) hT acts[i] (hbA _ ha) (fun d2 y hy=>qw8 (m.mn (Mn.app (r:=[(N,y)]))) (fun j h=>h) (hT.app1 (Qb _)) I.s (fun c hc=>(I.cg c hc).2) acts[i] (ho _ ha));obtain ⟨q,hq⟩:∃q,actV updV P V acts[i]=q:=⟨_,rfl⟩;rw [hq] at jj' hv' hlen e2 m2;have u0:=fw2.tl N2 (Qb _);rw [Act.ce] at e2;rw [Event.ce] at e2;by_cases z:q.2.2.2=0/\acts[i].dd=0
   ·obtain ⟨z1,z2⟩:=z;rw [QAa ⟨z1,z2⟩] at hlen;rw [z1,z2] at e2;simp [c_5_l0,Act.ce,g2,g3,g7,g9,g10,hi,hK,e2,u0,z2,hwr,hwk,qab,qaa];exact ih _ _ ⟨_,_,n2,C2,pv2,lv2,H2,q.1,rfl,m2,fw2.tl.mono (QAj N2),jj',hv',by simp [g2],by simp [g3],by simp,by simp [hlen],by simp⟩
   ·rw [QA z,Nat.add_zero] at hlen;by_cases z1:q.2.2.2=0
    ·have z2:¬acts[i].dd=0:=fun h=>z ⟨z1,h⟩
     rw [z1] at e2;simp [c_5_l0,Act.ce,g2,g3,g7,g9,g10,hi,hK,e2,u0,z2,hwr,qab,qaa];exact ih _ _ ⟨_,_,n2,C2,pv2,lv2,H2,q.1,rfl,m2,fw2.tl.mono (QAj N2),jj',hv',by simp [g2],by simp [g3],by simp,by simp [hlen,g9],by simp⟩
    ·simp [c_5_l0,Act.ce,g2,g3,g7,g9,g10,hi,hK,e2,u0,z1,hwr,qab,qaa];exact ih _ _ ⟨_,_,n2,C2,pv2,lv2,H2,q.1,rfl,m2,fw2.tl.mono (QAj N2),jj',hv',by simp [g2],by simp [g3],by simp,by simp [hlen,g9],by simp⟩
  ·rintro e _ K hK ⟨O,N,n,C,pv,lv,H,V,rfl,m,hT,jj,hv,g2,g3,g7,g9,g10⟩;have I:=jj.I (by omega);have hend:=qab8 hv m I.s hT ports hosts hll (fun x hx=>by have:=(I.pk x hx).2.1;omega);simp [c_5_l0,g2,g7,g10,hK];exact hend _ (by simp [g3]) (by simp [g7]) (by simp [g9])
  ·exact ⟨_,_,nn,C,pv,lv,H,_,rfl,m,fN.tl,j0,v0,by simp,by simp,by simp,by simp,by simp⟩
theorem qlo (x:Topology) (l:List Xf) (a:List Act) (ox:x.Ok qba) (ol:okL qba (Xf.Ok qba) l) (oa:okL qba (Act.Ok qba) a):qac Φ f_5 [.agg x.c,.slice 4 (l.map Xf.c),.slice 6 (a.map Act.c)]=some (.val (.bool true)):=by
 have e:=qdf;have h1:=ol.1;have h2:=oa.1;have h3:=ox.2.1.1;exact qvr x.ports x.links x.hosts l a (by omega) (by omega) (by omega) (fun c hc=>GS_of (ol.2 c hc)) (fun y hy=>(oa.2 y hy).2.2.2.1.2) fun y hy o ho=>qaey ((oa.2 y hy).2.2.2.2.2.2 o ho)
end Go.Av
