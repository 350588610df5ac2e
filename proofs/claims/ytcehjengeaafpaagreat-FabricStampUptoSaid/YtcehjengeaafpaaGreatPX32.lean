/-
 interp.run = runX.
-/
import Derived.Test.YtcehjengeaafpaaGreatPX19
set_option linter.all false
namespace Go.Av
set_option maxRecDepth 8000
structure CtV (p:Prg):Prop where
 n:∀x∈pre p.Ya,NdV p x/\x.cond.length<2^40
 l:(pre p.Ya).length<2^30
 d:nest p.Ya<=30
def runR (y:Option (Rslt×List (List Int))):Rt:=match y with
 | none=> .val (.tup [.agg noR.c,.slice 1 [],.bool false])
 | some x=> .val (.tup [.agg x.1.c,.slice 1 (x.2.map (cS 1 c32)),.bool true])
theorem U3 {p:Prg} (pk:PKp p) (cv:CtV p) {c:Xe} (cf:CF p c) (rv:RV p c.Xl) (k:Packet) (hb:bOk k.data):
  a9 Φ 47 [.agg p.c,.agg c.c,.agg k.c]=some (runR (runX p c k)):=by
 rw [aC rfl rfl];have hp:=QK pk.fs pk.w pk.hd pk.pa hb;have hpn:∀z:prs p k.data=none,k.port<0\/255<k.port\/True:=fun _=> .inr (.inr trivial)
 rw [Prg.c] at hp;by_cases h0:k.port<0
 ·have hr:runX p c k=none:=by rw [runX,a8 (.inl h0)]
  rw [hr];cases q:prs p k.data with
  | none=>
   rw [q] at hp;obtain ⟨e,he,hp⟩:=hp;rw [Envt.ce] at hp;simp [p5,Prg.c,Xe.c,Packet.c,hp,h0,runR,noR,Rslt.c]
  | some e=>
   rw [q] at hp;simp only [ParP,Envt.ce] at hp;simp [p5,Prg.c,Xe.c,Packet.c,hp,h0,runR,noR,Rslt.c]
 by_cases h1:255<k.port
 ·have hr:runX p c k=none:=by rw [runX,a8 (.inr h1)]
  rw [hr];cases q:prs p k.data with
  | none=>
   rw [q] at hp;obtain ⟨e,he,hp⟩:=hp;rw [Envt.ce] at hp;simp [p5,Prg.c,Xe.c,Packet.c,hp,h0,h1,runR,noR,Rslt.c]
  | some e=>
   rw [q] at hp;simp only [ParP,Envt.ce] at hp;simp [p5,Prg.c,Xe.c,Packet.c,hp,h0,h1,runR,noR,Rslt.c]
 cases q:prs p k.data with
 | none=>
  have hr:runX p c k=none:=by rw [runX,QA (by omega),q]
  rw [hr];rw [q] at hp;obtain ⟨e,he,hp⟩:=hp;rw [Envt.ce] at hp;simp [p5,Prg.c,Xe.c,Packet.c,hp,he,h0,h1,runR,noR,Rslt.c]
 | some e=>
  have hr:runX p c k=some (resX p (ctX p c (nest p.Ya) p.Ya ⟨eSet p e (-1) 0 k.port,c.Xl,[]⟩),(ctX p c (nest p.Ya) p.Ya ⟨eSet p e (-1) 0 k.port,c.Xl,[]⟩).rs):=by
   rw [runX,QA (by omega),q]
  rw [hr];rw [q] at hp;simp only [ParP,Envt.ce] at hp;obtain ⟨ev,hdl,kk,hpay⟩:=FD (fun g hg f hf=>(vhdr (pk.hd g hg)).w f hf) q;have hpl:e.payload.length<2^40:=by rw [hpay,HH];omega
  have xv0:XV p e c.Xl:=⟨ev,rv,hpl⟩;have hport:ok32 0 k.port:=⟨by omega,by omega⟩;have hset:=Ev p e (xv0.evs pk.w) (xv0.m0 pk.w) (-1) 0 k.port hport;have xv:XV p (eSet p e (-1) 0 k.port) c.Xl:=⟨ev.set _ _ _,rv,by rw [Di];exact hpl⟩;have hwr:IntKind.wrap .u32 k.port=k.port:=v7;rw [Prg.c] at hset;generalize eSet p e (-1) 0 k.port=e1 at*;simp only [Envt.ce] at hset;have m0:MM p c 3 [(0,AO.row 4 [[.bool false,.int .i64 0,.Xt 1 [],.Xt 3 []]]),(3,.row 19 [mC p c e1 c.Xl (.Xt 3 [])])] ⟨e1,c.Xl,[]⟩ (.Xt 3 []):=⟨by simp,.inl ⟨rfl,rfl⟩⟩;obtain ⟨O2,N2,hv2,hwk,m2,f2,t2,r2,n2⟩:=NT pk cf p.Ya cv.n m0 xv (by have:=cv.l;simp;omega) (N:=4) (Tail_cons_iff.2 ⟨by omega,Tail_cons_iff.2 ⟨by omega,Tail.nil _⟩⟩) (bV (by simp) (.one (by simp)));have xs2:XS p (ctX p c (nest p.Ya) p.Ya ⟨e1,c.Xl,[]⟩):=XS.ct _ _ _ xv;rw [fA,fT,mC] at hwk;have l0:=f2 0 4 [[.bool false,.int .i64 0,.Xt 1 [],.Xt 3 []]] (by decide) (by simp);generalize ctX p c (nest p.Ya) p.Ya ⟨e1,c.Xl,[]⟩=s2 at*;obtain ⟨L3,N3,v1,v2,v3,v4,hrs,t3,r3,n3,hsn⟩:=NG (N:=N2+1) pk m2 xs2 (t2.mono (by omega)) r2;have hcr:=Iz s2.rs (xs2.r1 pk.w) (xs2.r2 pk.w);have l3:=(m2.app L3).l;have l03:look 0 (O2++L3)=_:=aW l0;have l32:=m2.l;have hs38:=fun O2 n2=>hsn O2 37 n2
  have ao:=ao_mC c s2.e s2.rs m2.h cv.d;rw [mC] at l3 l32 ao;simp [p5,Prg.c,Xe.c,Packet.c,hp,h0,h1,hwr,hset,hwk,hrs,l3,l32,l03,hcr,eZ,r3.eq,r2.eq,r3.sw,a7,ao,hs38,runR,Rslt.c]
theorem Km (c:Xb) (h:c.args.length<2^40):a9 Φ 98 [.agg (Xb.c c)]=some (.val (.agg (Xb.c c))):=by
 rw [aC rfl rfl];have hc:=DM c.args h;simp [EG,Xb.c,hc]
structure CS (c:Xe):Prop where
 r:c.rows.length<2^40
 rr:∀l∈c.rows,l.length<2^39/\∀x∈l,x.entry.keys.length<2^40/\x.entry.call.args.length<2^40
 n:c.Xq.length<2^40
 d:c.Xp.length<2^40
 da:∀x∈c.Xp,x.args.length<2^40
 g:c.Xl.length<2^40
 gg:∀l∈c.Xl,l.length<2^40
def AL (O:List (Nat×AO)) (z:Nat) (A:AV) (es:List (List AV)):Prop:=(es=[]/\A= .Xt z [])\/∃tk,A= .app z es tk/\look tk O=some (.tok z es.length)
def FrT (O O':List (Nat×AO)):Prop:=∀j y,look j O=some y->look j O'=some y
theorem AL.fr {O O':List (Nat×AO)} {z:Nat} {A:AV} {es:List (List AV)} (h:AL O z A es) (f:FrT O O'):AL O' z A es:=by
 rcases h with h | ⟨tk,h1,h2⟩
 ·exact .inl h
 ·exact .inr ⟨tk,h1,f _ _ h2⟩
def zC:List AV:=[.Xt 1 [],.Xt 1 [],.Xt 2 [],.Xt 1 []]
theorem AL.lt {O:List (Nat×AO)} {N z:Nat} {A:AV} {es:List (List AV)} (h:AL O z A es) (f:∀k y,k<N->look k O=some y->k<N):True:=trivial
structure OLI (c:Xe) (i:Nat) (E:Env) (O:List (Nat×AO)) (N:Nat) (A:AV):Prop where
 e1:look 1 E=some (.iptr 4 [c.c] 0 0)
 e2:look 2 E=some (.ptr 0 4 0 0)
 e3:look 3 E=some (.ptr 1 4 0 0)
 e17:look 17 E=some (.slice 1 (c.rows.map (cS 5 Rw.c)))
 e18:look 18 E=some (.int .i64 c.rows.length)
 e19:look 19 E=some (.int .i64 i)
 l0:look 0 O=some (.row 4 [zC])
 l1:look 1 O=some (.row 4 [[A,.slice 1 (c.Xq.map cI),.Xt 2 [],.Xt 1 []]])
 a:AL O 1 A ((c.rows.take i).map (cS 5 Rw.c))
 T:Tail O N
structure ILI (l:List Rw) (j:Nat) (E0 E:Env) (O0 O:List (Nat×AO)) (N0 N:Nat):Prop where
 e:∀k,k=1\/k=2\/k=3\/k=17\/k=18\/k=19->look k E=look k E0
 e23:look 23 E=some (.slice 5 (l.map Rw.c))
 e24:look 24 E=some (.int .i64 l.length)
 e25:look 25 E=some (.int .i64 j)
 e6:look 6 E=some (.app 5 ((l.take j).map Rw.c) N0)
 lt:look N0 O=some (.tok 5 j)
 f:∀k y,k<N0->look k O0=some y->look k O=some y
 T:Tail O N
theorem PS {c:Xe} (s:CS c) {R:Option Rt} {E:Env} {O:List (Nat×AO)} {N:Nat} {A:AV} (h:OLI c 0 E O N A)
  (hend:∀E O N A,OLI c c.rows.length E O N A->go Φ (finP oC.results) [.c eL] .normal ⟨E,⟨O,N⟩⟩=R):
  go Φ (finP oC.results) [.c (.loop gU),.b 0,.c eL] .normal ⟨E,⟨O,N⟩⟩=R:=by
 refine eQ c.rows.length (fun i E h=>∃O N A,h=⟨O,N⟩/\OLI c i E O N A) (fun r=>r=R) ?_ ?_ 0 _ _ (Qc _) ⟨_,_,_,rfl,h⟩
 ·rintro i E _ K hi hK ⟨O,N,A,rfl,h⟩ ih;obtain ⟨e1,e2,e3,e17,e18,e19,l0,l1,a,T⟩:=h;have hw1:IntKind.wrap .i64 ((i:Int)+1)=((i+1:Nat):Int):=cU (by omega) (by have:=s.r;omega);obtain ⟨hll,hlx⟩:=s.rr _ (Qd hi);have htk:c.rows.take (i+1)=c.rows.take i++[c.rows[i]]:=Qh hi;generalize hx:c.rows[i]=l at*;have t0:=T N (Qb _);simp [gU,cS,e17,e18,e19,hi,hx,t0];refine eQ l.length (fun j E2 h=>∃O2 N2,h=⟨O2,N2⟩/\ILI l j E E2 O O2 N N2) (fun r=>r=R) ?_ ?_ 0 _ _ (Qc _) ?_
  rotate_left 2
  ·refine ⟨_,_,rfl,by rintro k (rfl | rfl | rfl | rfl | rfl | rfl)<;>simp,by simp,by simp,by simp,by simp,by rw [aA,t0];simp,fun k y _ h=>aW h,Tail_append_iff.2 ⟨T.mono (by omega),Tail_cons_iff.2 ⟨by omega,Tail.nil _⟩⟩⟩
  ·rintro j E2 _ K2 hj hK2 ⟨O2,N2,rfl,h⟩ ih2;obtain ⟨e,e23,e24,e25,e6,lt,f,T2⟩:=h;have hw2:=aH j (by omega);obtain ⟨hk1,hk2⟩:=hlx _ (Qd hj);have hck:=Ef l[j].entry.keys hk1;have hcc:=Km l[j].entry.call hk2;have htk2:l.take (j+1)=l.take j++[l[j]]:=Qh hj;have hmin:min j l.length=j:=by omega
   have bd:(j+1)*72<=70368744177664:=by omega
   generalize hy:l[j]=y at*;have t2:=T2 N2 (Qb _);have tt2:∀k,look (N2+k) O2=none:=fun k=>T2 _ (by omega)
   have fN:=fun k=>aY (n:=N2+k) T2 lt (by omega)
   rw [Xb.c] at hcc;simp [j9,Rw.ce,Xb.c,e23,e24,e25,e6,hj,hy,hw2,t2,tt2,d7,hck,hcc,lt,hmin,bd,fN,aA,a7];refine ih2 _ _ ?_;refine ⟨_,_,rfl,fun k hk=>?_,by simp [e23],by simp [e24],by simp,by simp [htk2,Rw.ce],by rw [a7,a8 rfl,lt];rfl,fun k y hk hl=>?_,aK (T2.mono (by omega))⟩
   ·rw [<- e k hk];rcases hk with rfl | rfl | rfl | rfl | rfl | rfl<;>simp
   ·rw [a7,QA (by omega),f k y hk hl]
  ·rintro E2 _ K2 hK2 ⟨O2,N2,rfl,h⟩;obtain ⟨e,e23,e24,e25,e6,lt,f,T2⟩:=h;rw [iS] at e6;have g1:=(e 1 (by simp)).trans e1;have g2:=(e 2 (by simp)).trans e2;have g3:=(e 3 (by simp)).trans e3;have g17:=(e 17 (by simp)).trans e17;have g18:=(e 18 (by simp)).trans e18;have g19:=(e 19 (by simp)).trans e19;have k0:=f 0 _ (T.lt l0) l0;have k1:=f 1 _ (T.lt l1) l1;have t2:=T2 N2 (Qb _);have tt2:∀k,look (N2+k) O2=none:=fun k=>T2 _ (by omega)
   have bd:(i+1)*24<=70368744177664:=by have:=s.r;omega
   have fz:mapO (mapO (snap 39 ⟨O2,N2⟩)) (l.map Rw.c)=some (l.map Rw.c):=mL (g:=Rw.c) (fun x=>by simp [Rw.ce,mapO]) l;have fN0:=fun k=>aY (n:=N2+k) T2 k0 (by omega)
   have fN1:=fun k=>aY (n:=N2+k) T2 k1 (by omega)
   have hmin:min i c.rows.length=i:=by omega
   have next:∀{E3:Env} {O3:List (Nat×AO)} {N3:Nat} {A3:AV},(∀k,k=1\/k=2\/k=3\/k=17\/k=18->look k E3=look k E2)->look 19 E3=some (.int .i64 (i+1:Nat))->look 0 O3=some (.row 4 [zC])->look 1 O3=some (.row 4 [[A3,.slice 1 (c.Xq.map cI),.Xt 2 [],.Xt 1 []]])->AL O3 1 A3 ((c.rows.take (i+1)).map (cS 5 Rw.c))->Tail O3 N3->go Φ (finP oC.results) K .normal ⟨E3,⟨O3,N3⟩⟩=R:=fun {E3 O3 N3 A3} hE h19 h0 h1 ha hT=>
    ih _ _ ⟨O3,N3,A3,rfl,by rw [hE 1 (by simp),g1],by rw [hE 2 (by simp),g2],by rw [hE 3 (by simp),g3],by rw [hE 17 (by simp),g17],by rw [hE 18 (by simp),g18],h19,h0,h1,ha,hT⟩
   simp [j9,e24,e25] at hK2 ⊢;rw [hK2];rcases a with ⟨ha,rfl⟩ | ⟨tk,rfl,la⟩
   ·simp [iY,iZ,g3,g19,e6,k1,aA,a7,t2,tt2,fN0,fN1,hw1,fz];have hi0:c.rows.take i=[]:=by simpa using ha
    refine next (A3:= .app 1 [[.slice 5 (l.map Rw.c)]] N2) (by rintro k (rfl | rfl | rfl | rfl | rfl)<;>simp) (by simp) ?_ ?_ ?_ (aK (Tail_append_iff.2 ⟨T2.mono (by omega),Tail_cons_iff.2 ⟨by omega,Tail.nil _⟩⟩))
    ·rw [a7,QA (by decide)];exact aW k0
    ·rw [a7,a8 rfl,aW k1];rfl
    ·right;have fn1:=aY (n:=N2) T2 k1 (Qb _);refine ⟨N2,by rw [htk,hi0];simp [cS],?_⟩;rw [a7,QA fn1.2,aA,t2,htk,hi0];simp
   ·have la2:=f tk _ (T.lt la) la;have ft:=fun k=>aY (n:=N2+k) T2 la2 (by omega)
    have tk1:¬1=tk/\¬tk=1:=by
     have:=aF k1 la2 (by simp);exact ⟨this,fun e=>this e.symm⟩
    have tk0:¬0=tk:=aF k0 la2 (by simp);rw [cQ,uE,hmin] at la2;simp [iY,iZ,g3,g19,e6,k1,la2,aA,a7,t2,tt2,fN0,fN1,ft,hw1,fz,hmin,bd,tk1];refine next (A3:= .app 1 ((c.rows.map (cS 5 Rw.c)).take i++[[.slice 5 (l.map Rw.c)]]) tk) (by rintro k (rfl | rfl | rfl | rfl | rfl)<;>simp) (by simp) ?_ ?_ ?_ (aK (aK T2))
    ·rw [a7,QA (by decide),a7,QA tk0,k0]
    ·rw [a7,a8 rfl,a7,QA tk1.1,k1];rfl
    ·right;refine ⟨tk,by rw [htk];simp [cS],?_⟩;rw [a7,QA tk1.2,a7,a8 rfl,la2,htk];simp [hmin]
 ·rintro E _ K hK ⟨O,N,A,rfl,h⟩;have h0:=h;obtain ⟨e1,e2,e3,e17,e18,e19,l0,l1,a,T⟩:=h;simp [gU,e18,e19] at hK ⊢;rw [hK];simp;refine hend _ O N A ⟨by simp [e1],by simp [e2],by simp [e3],by simp [e17],by simp [e18],by simp [e19],l0,l1,a,T⟩
structure ODI (c:Xe) (i:Nat) (E:Env) (O:List (Nat×AO)) (N:Nat) (A B:AV):Prop where
 e1:look 1 E=some (.iptr 4 [c.c] 0 0)
 e2:look 2 E=some (.ptr 0 4 0 0)
 e3:look 3 E=some (.ptr 1 4 0 0)
 e55:look 55 E=some (.slice 2 (c.Xp.map Xb.c))
 e56:look 56 E=some (.int .i64 c.Xp.length)
 e57:look 57 E=some (.int .i64 i)
 l0:look 0 O=some (.row 4 [zC])
 l1:look 1 O=some (.row 4 [[A,.slice 1 (c.Xq.map cI),B,.Xt 1 []]])
 a:A= .Xt 1 []/\c.rows=[]\/∃tk,A= .app 1 (c.rows.map (cS 5 Rw.c)) tk
 b:AL O 2 B ((c.Xp.take i).map Xb.c)
 T:Tail O N
theorem TZ {c:Xe} (s:CS c) {E:Env} {O:List (Nat×AO)} {N:Nat} {A:AV} (h:OLI c c.rows.length E O N A):
  go Φ (finP oC.results) [.c eL] .normal ⟨E,⟨O,N⟩⟩=some (.val (.agg c.c)):=by
 obtain ⟨e1,e2,e3,e17,e18,e19,l0,l1,a,T⟩:=h;rw [iS] at a;rw [Xe.c] at e1;simp [eL,e1];refine eQ c.Xp.length (fun i E h=>∃O N B,h=⟨O,N⟩/\ODI c i E O N A B) (fun (r:Option Rt)=>r=some (.val (.agg c.c))) ?_ ?_ 0 _ _ (Qc _) ?_
 rotate_left 2
 ·refine ⟨O,N,.Xt 2 [],rfl,by simp [e1,Xe.c],by simp [e2],by simp [e3],by simp,by simp,by simp,l0,l1,?_,.inl ⟨by simp,rfl⟩,T⟩;rcases a with ⟨h,rfl⟩ | ⟨tk,rfl,_⟩
  ·exact .inl ⟨rfl,by simpa using h⟩
  ·exact .inr ⟨tk,rfl⟩
 ·rintro i E _ K hi hK ⟨O,N,B,rfl,h⟩ ih;obtain ⟨e1,e2,e3,e55,e56,e57,l0,l1,a,b,T⟩:=h;have hw1:IntKind.wrap .i64 ((i:Int)+1)=((i+1:Nat):Int):=cU (by omega) (by have:=s.d;omega);have hcc:=Km c.Xp[i] (s.da _ (Qd hi));have htk:c.Xp.take (i+1)=c.Xp.take i++[c.Xp[i]]:=Qh hi;generalize hx:c.Xp[i]=x at*;have t0:=T N (Qb _);have tt:∀k,look (N+k) O=none:=fun k=>T _ (by omega)
  have f1:=fun k=>aY (n:=N+k) T l1 (by omega)
  have hmin:min i c.Xp.length=i:=by omega
  have bd:(i+1)*32<=70368744177664:=by have:=s.d;omega
  have next:∀{E3:Env} {O3:List (Nat×AO)} {N3:Nat} (B3:AV),(∀k,k=1\/k=2\/k=3\/k=55\/k=56->look k E3=look k E)->look 57 E3=some (.int .i64 (i+1:Nat))->look 0 O3=some (.row 4 [zC])->look 1 O3=some (.row 4 [[A,.slice 1 (c.Xq.map cI),B3,.Xt 1 []]])->AL O3 2 B3 ((c.Xp.take (i+1)).map Xb.c)->Tail O3 N3->go Φ (finP oC.results) K .normal ⟨E3,⟨O3,N3⟩⟩=some (.val (.agg c.c)):=fun {E3 O3 N3} B3 hE h19 h0 h1 ha hT=>
   ih _ _ ⟨O3,N3,B3,rfl,by rw [hE 1 (by simp),e1],by rw [hE 2 (by simp),e2],by rw [hE 3 (by simp),e3],by rw [hE 55 (by simp),e55],by rw [hE 56 (by simp),e56],h19,h0,h1,a,ha,hT⟩
  rw [Xb.c] at hcc;rcases b with ⟨hb,rfl⟩ | ⟨tk,rfl,lb⟩
  ·have hi0:c.Xp.take i=[]:=by simpa using hb
   simp [gV,Xb.c,e3,e55,e56,e57,hi,hx,hw1,t0,tt,d7,hcc,l1,aA,a7,f1];have lt2:N+1<N+2:=by omega
   refine next (.app 2 [[.int .i64 x.Xy,.slice 1 (x.args.map c32)]] (N+1)) (by rintro k (rfl | rfl | rfl | rfl | rfl)<;>simp) (by simp) ?_ ?_ ?_ (aK (Tail_append_iff.2 ⟨T.mono (by omega),Tail_cons_iff.2 ⟨lt2,Tail.nil _⟩⟩))
   ·rw [a7,QA (by decide)];exact aW l0
   ·rw [a7,a8 rfl,aW l1];rfl
   ·right;refine ⟨N+1,by rw [htk,hi0];simp [Xb.c],?_⟩;rw [a7,QA (f1 1).2,aA,tt,htk,hi0];simp
  ·have tk1:¬1=tk/\¬tk=1:=by
    have:=aF l1 lb (by simp);exact ⟨this,fun e=>this e.symm⟩
   have tk0:¬0=tk:=aF l0 lb (by simp);have ft:=fun k=>aY (n:=N+k) T lb (by omega)
   rw [cQ,uE,hmin] at lb;simp [gV,Xb.c,e3,e55,e56,e57,hi,hx,hw1,t0,tt,d7,hcc,l1,lb,aA,a7,f1,ft,hmin,bd,tk1];refine next (.app 2 ((c.Xp.map Xb.c).take i++[[.int .i64 x.Xy,.slice 1 (x.args.map c32)]]) tk) (by rintro k (rfl | rfl | rfl | rfl | rfl)<;>simp) (by simp) ?_ ?_ ?_ (aK (aK (T.mono (by omega))))
   ·rw [a7,QA (by decide),a7,QA tk0,l0]
   ·rw [a7,a8 rfl,a7,QA tk1.1,l1];rfl
   ·right;refine ⟨tk,by rw [htk];simp [Xb.c],?_⟩;rw [a7,QA tk1.2,a7,a8 rfl,lb,htk];simp [hmin]
 ·rintro E _ K hK ⟨O,N,B,rfl,h⟩;obtain ⟨e1,e2,e3,e55,e56,e57,l0,l1,a,b,T⟩:=h;rw [iS] at b;have hcr:=Iz c.Xl s.g s.gg;rw [Xe.c] at e1;rw [zC] at l0;simp [oC,gV,e56,e57] at hK ⊢;rw [hK];rcases a with ⟨rfl,ha⟩ | ⟨ta,rfl⟩<;>rcases b with ⟨hb,rfl⟩ | ⟨tb,rfl,_⟩
  ·simp at hb;simp [eK,e1,e2,e3,hcr,l0,l1,a7,Xe.c,ha,hb]
  ·simp [eK,e1,e2,e3,hcr,l0,l1,a7,Xe.c,ha]
  ·simp at hb;simp [eK,e1,e2,e3,hcr,l0,l1,a7,Xe.c,hb]
  ·simp [eK,e1,e2,e3,hcr,l0,l1,a7,Xe.c]
theorem PT (c:Xe) (s:CS c):a9 Φ 45 [.agg c.c]=some (.val (.agg c.c)):=by
 rw [aC rfl rfl];have hi:=JE c.Xq s.n;have hR:some (Rt.val (.agg c.c))=some (Rt.val (.agg (Xe.c c))):=rfl;generalize hQ:some (Rt.val (.agg c.c))=Q;simp [oC,Xe.c,hi];rw [<- hQ];refine PS s (A:= .Xt 1 []) ?_ fun E O N A h=>TZ s h
 exact ⟨by simp [Xe.c],by simp,by simp,by simp,by simp,by simp,by simp [zC],by simp,.inl ⟨by simp,rfl⟩,Tail_cons_iff.2 ⟨by omega,Tail_cons_iff.2 ⟨by omega,Tail.nil _⟩⟩⟩
def ra (b:Bool) (p:Prg) (c:Xe) (l:List Packet):List Rslt×Xe:=if b then runL p c l else (l.map fun _=>noR,c)
structure RAI (p:Prg) (b:Bool) (l:List Packet) (R:List Rslt×Xe) (d tk i:Nat) (E:Env) (O:List (Nat×AO)) (N:Nat) (outs:List Rslt) (c:Xe):Prop where
 e3:look 3 E=some (.iptr 9 [p.c] 0 0)
 e7:look 7 E=some (.ptr 0 4 0 0)
 e8:look 8 E=some (.ptr d 4 0 0)
 e9:look 9 E=some (.bool b)
 e10:look 10 E=some (.app 4 (outs.map Rslt.c) tk)
 e23:look 23 E=some (.slice 2 (l.map Packet.c))
 e24:look 24 E=some (.int .i64 l.length)
 e25:look 25 E=some (.int .i64 i)
 l0:look 0 O=some (.row 4 [zC])
 ld:look d O=some (.row 4 [c.c])
 lt:look tk O=some (.tok 4 outs.length)
 T:Tail O N
 n:outs.length=i
 hR:R=(outs++(ra b p c (l.drop i)).1,(ra b p c (l.drop i)).2)
 v:b=true->CF p c/\RV p c.Xl
theorem Nn {p:Prg} (pk:PKp p) {c:Xe} (rv:RV p c.Xl) {k:Packet} {r:Rslt} {rs:List (List Int)} (h:runX p c k=some (r,rs)):RV p rs:=by
 unfold runX at h;split at h
 ·cases h
 split at h
 ·cases h
 ·rename_i e q;cases h;obtain ⟨ev,_⟩:=FD (fun g hg f hf=>(vhdr (pk.hd g hg)).w f hf) q;exact (SV'.ct (p:=p) (c:=c) (nest p.Ya) p.Ya ⟨eSet p e (-1) 0 k.port,c.Xl,[]⟩ ⟨ev.set _ _ _,rv⟩).r
theorem TQ {p:Prg} {b:Bool} (hb:b=true->PKp p/\CtV p) {l:List Packet} (hl:l.length<2^30) (hk:∀k∈l,bOk k.data) {R:List Rslt×Xe} {d tk:Nat} {E:Env} {O:List (Nat×AO)} {N:Nat} {outs:List Rslt} {c:Xe} (h:RAI p b l R d tk 0 E O N outs c):
  go Φ (finP rW.results) [.c (.loop cR),.b 0,.c iX] .normal ⟨E,⟨O,N⟩⟩=some (.val (.tup [.slice 4 (R.1.map Rslt.c),.agg R.2.c])):=by
 refine eQ l.length (fun i E h=>∃O N outs c,h=⟨O,N⟩/\RAI p b l R d tk i E O N outs c) (fun (r:Option Rt)=>r=some (.val (.tup [.slice 4 (R.1.map Rslt.c),.agg R.2.c]))) ?_ ?_ 0 _ _ (Qc _) ⟨_,_,_,_,rfl,h⟩
 ·rintro i E _ K hi hK ⟨O,N,outs,c,rfl,h⟩ ih;obtain ⟨e3,e7,e8,e9,e10,e23,e24,e25,l0,ld,lt,T,n,hR,v⟩:=h;have hw1:=aH i (by omega);have hbk:=hk _ (Qd hi);rw [Qi hi] at hR;generalize hx:l[i]=k at*;have t0:=T N (Qb _);have tt:∀k,look (N+k) O=none:=fun k=>T _ (by omega)
  have fd:=fun k=>aY (n:=N+k) T ld (by omega)
  have fd0:=aY (n:=N) T ld (Qb _);have ft:=fun k=>aY (n:=N+k) T lt (by omega)
  have ft0:=aY (n:=N) T lt (Qb _);have dt:¬d=tk/\¬tk=d:=by
   have:=aF ld lt (by simp);exact ⟨this,fun e=>this e.symm⟩
  have bd:(outs.length+1)*64<=70368744177664:=by omega
  have ztk:¬0=tk:=aF l0 lt (by simp);have fin:∀{E2:Env} {O2:List (Nat×AO)} {N2:Nat} (r:Rslt) (c':Xe),(∀j,j=3\/j=7\/j=8\/j=9\/j=23\/j=24->look j E2=look j E)->look 10 E2=some (.app 4 (outs.map Rslt.c++[r.c]) tk)->look 25 E2=some (.int .i64 (i+1:Nat))->look 0 O2=some (.row 4 [zC])->look d O2=some (.row 4 [c'.c])->look tk O2=some (.tok 4 (outs.length+1))->Tail O2 N2->
    ra b p c (k::l.drop (i+1))=(r::(ra b p c' (l.drop (i+1))).1,(ra b p c' (l.drop (i+1))).2)->(b=true->CF p c'/\RV p c'.Xl)->go Φ (finP rW.results) K .normal ⟨E2,⟨O2,N2⟩⟩=some (.val (.tup [.slice 4 (R.1.map Rslt.c),.agg R.2.c])):=fun {E2 O2 N2} r c' hE h10 h25 h0 h8 ht hT hr hv=>
   ih _ _ ⟨O2,N2,outs++[r],c',rfl,by rw [hE 3 (by simp),e3],by rw [hE 7 (by simp),e7],by rw [hE 8 (by simp),e8],by rw [hE 9 (by simp),e9],by rw [h10];simp,by rw [hE 23 (by simp),e23],by rw [hE 24 (by simp),e24],h25,h0,h8,by rw [ht];simp,hT,by simp [n],by rw [hR,hr];simp,hv⟩
  have TA:∀(M:Nat) (x y:AO) (k:Nat),k<M->Tail (setl tk y (O++[(N+k,x)])) (N+M):=fun M x y k h=>aK (Tail_append_iff.2 ⟨T.mono (by omega),Tail_cons_iff.2 ⟨by omega,Tail.nil _⟩⟩)
  have ldd:=ld;have hE6:∀{E2:Env},look 3 E2=look 3 E->look 7 E2=look 7 E->look 8 E2=look 8 E->look 9 E2=look 9 E->look 23 E2=look 23 E->look 24 E2=look 24 E->∀j,j=3\/j=7\/j=8\/j=9\/j=23\/j=24->look j E2=look j E:=fun {E2} a1 a2 a3 a4 a5 a6 j hj=>by
   rcases hj with rfl | rfl | rfl | rfl | rfl | rfl<;>assumption
  cases b with
  | false=>
   simp [cR,Packet.c,e3,e8,e9,e10,e23,e24,e25,hi,hx,hw1,t0,tt,d7,aA,a7,lt,bd,ft,ft0];refine fin noR c (hE6 (by simp) (by simp) (by simp) (by simp) (by simp) (by simp)) (by simp [noR,Rslt.c]) (by simp) ?_ ?_ ?_ (TA 2 _ _ 1 (by decide)) (by simp [ra]) (by simp)
   ·rw [a7,QA ztk];exact aW l0
   ·rw [a7,QA dt.1];exact aW ldd
   ·rw [a7,a8 rfl,aW lt];rfl
  | true=>
   obtain ⟨pk,cv⟩:=hb rfl;obtain ⟨cf,rv⟩:=v rfl;have hrun:=U3 pk cv cf rv k hbk;rw [Prg.c] at hrun e3;simp only [Xe.c] at hrun ld;rw [Packet.c] at hrun;cases q:runX p c k with
   | none=>
    rw [q] at hrun;simp only [runR,noR,Rslt.c,oJ] at hrun;simp [cR,Packet.c,e3,e8,e9,e10,e23,e24,e25,hi,hx,hw1,t0,tt,d7,aA,a7,lt,ld,bd,ft,ft0,fd,fd0,dt,hrun];refine fin noR c (hE6 (by simp) (by simp) (by simp) (by simp) (by simp) (by simp)) (by simp [noR,Rslt.c]) (by simp) ?_ ?_ ?_ (TA 3 _ _ 1 (by decide)) (by simp [ra,runL,q]) (fun _=>⟨cf,rv⟩)
    ·rw [a7,QA ztk];exact aW l0
    ·rw [a7,QA dt.1];exact aW ldd
    ·rw [a7,a8 rfl,aW lt];rfl
   | some y=>
    obtain ⟨r,rs⟩:=y;rw [q] at hrun;simp only [runR,Rslt.c] at hrun;simp [cR,Packet.c,e3,e8,e9,e10,e23,e24,e25,hi,hx,hw1,t0,tt,d7,aA,a7,lt,ld,bd,ft,ft0,fd,fd0,dt,hrun];have hd0:¬0=d:=fun h=>by
     subst h;rw [ldd] at l0;simp [zC,Xe.c] at l0
    refine fin r { c with Xl:=rs } (hE6 (by simp) (by simp) (by simp) (by simp) (by simp) (by simp)) (by simp [Rslt.c]) (by simp) ?_ ?_ ?_ ?_ (by simp [ra,runL,q]) (fun _=>⟨⟨cf.rl,cf.dl,cf.rs,cf.dc⟩,Nn pk rv q⟩)
    ·rw [a7,QA ztk,a7,QA hd0];exact aW l0
    ·rw [a7,QA dt.1,a7,a8 rfl,aW ldd];rfl
    ·rw [a7,a8 rfl,a7,QA dt.2,aW lt];rfl
    ·exact aK (aK (Tail_append_iff.2 ⟨T.mono (by omega),Tail_cons_iff.2 ⟨Nat.add_lt_add_left (by decide) _,Tail.nil _⟩⟩))
 ·rintro E _ K hK ⟨O,N,outs,c,rfl,h⟩;obtain ⟨e3,e7,e8,e9,e10,e23,e24,e25,l0,ld,lt,T,n,hR,v⟩:=h;have hR2:R=(outs,c):=by
   rw [hR,rK];cases b<;>simp [ra,runL]
  rw [hR2];have d0:¬d=0/\¬0=d:=by
   have:¬d=0:=fun h=>by
    subst h;rw [ld] at l0;simp [zC,Xe.c] at l0
   exact ⟨this,fun e=>this e.symm⟩
  rw [zC] at l0;simp only [Xe.c] at ld;simp [rW,cR,e24,e25] at hK ⊢;rw [hK];simp [iX,e7,e8,e10,l0,ld,a7,Xe.c,d0,eZ]
theorem PV {p:Prg} (fs:PrgS p) (hc:PC p) {c:Xe} (ct:CfgT c) (cs:CS c) (hv:cfgE p c=0->(PKp p/\CtV p)/\CF p c/\RV p c.Xl) {l:List Packet} (hl:l.length<2^30) (hk:∀k∈l,bOk k.data):
  a9 Φ 18 [.agg p.c,.agg c.c,.slice 2 (l.map Packet.c)]=some (.val (.tup [.slice 4 ((ra (decide (cfgE p c=0)) p c l).1.map Rslt.c),.agg (ra (decide (cfgE p c=0)) p c l).2.c])):=by
 rw [aC rfl rfl];have h1:=PT c cs;have h2:=SY p fs hc c ct;generalize hR:ra (decide (cfgE p c=0)) p c l=R;rw [Prg.c] at h2;simp only [Xe.c] at h1 h2;generalize hQ:some (Rt.val (.tup [.slice 4 (R.1.map Rslt.c),.agg R.2.c]))=Q;simp [rW,Prg.c,Xe.c,h1,h2];rw [<- hQ];refine TQ (b:=decide (cfgE p c=0)) (fun h=>(hv (of_decide_eq_true h)).1) hl hk (R:=R) (d:=1) (tk:=2) (outs:=[]) (c:=c) ?_;refine ⟨by simp [Prg.c],by simp,by simp,by simp,by simp,by simp,by simp,by simp,by simp [zC],by simp [Xe.c],by simp,?_,rfl,by simp [<- hR],fun h=>(hv (of_decide_eq_true h)).2⟩;simp only [Tail_cons_iff];exact ⟨by decide,by decide,by decide,Tail.nil _⟩
theorem PX {p:Prg} (fs:PrgS p) (hc:PC p) {c:Xe} (ct:CfgT c) (cs:CS c) (hv:cfgE p c=0->(PKp p/\CtV p)/\CF p c/\RV p c.Xl) (k:Packet) (hk:bOk k.data) {r:Rslt} {c':Xe} (h:ra (decide (cfgE p c=0)) p c [k]=([r],c')):
  a9 Φ 13 [.agg p.c,.agg c.c,.agg k.c]=some (.val (.tup [.agg r.c,.agg c'.c])):=by
 rw [aC rfl rfl];have h1:=PV fs hc ct cs hv (l:=[k]) (by simp) (by simpa using hk);rw [h] at h1;rw [Prg.c] at h1;simp only [Xe.c,Packet.c,Rslt.c,jL,oJ] at h1;simp [E7,Prg.c,Xe.c,Packet.c,Rslt.c,h1,eZ]
theorem Jz {p:Prg} (v:VProg p) {c:Xb} (h:iL p c=0):(actE p c.Xy).2=0:=by
 unfold iL at h;split at h
 ·cases h
 ·rename_i a ha;obtain ⟨i,hi,hl,_⟩:=lS ha;rw [hi];exact v.ac i hl
theorem P8 {p:Prg} {t:Nat} (ht:t<p.Xm.length) {x:Entry} (h:entE p t x=0):iL p x.call=0:=by
 unfold entE at h;split at h
 ·exact absurd h (by assumption)
 rw [mM,Qa ht] at h;simp only at h;split at h
 ·cases h
 have hf:fe (entG p p.Xm[t] x) p.Xm[t].keys.length 0=none->entF p t x=0:=fun q=>by rw [q] at h;exact h
 cases q:fe (entG p p.Xm[t] x) p.Xm[t].keys.length 0 with
 | some y=>
  rw [q] at h;simp only [lY] at h;subst h;obtain ⟨i,_,hi⟩:=qS q;exfalso;unfold entG at hi;split at hi
  ·split at hi
   ·cases hi
   ·rename_i hz;injection hi with hi
    exact hz hi
  ·cases hi
 | none=>
  have:=hf q;unfold entF at this;split at this
  ·cases this
  split at this
  ·cases this
  split at this
  ·cases this
  split at this
  ·cases this
  ·exact this
theorem rv_of {p:Prg} (v:VProg p) {rs:List (List Int)} (h:conE p rs=0) (hs:∀l∈rs,∀v∈l,ok32 0 v):RV p rs:=by
 unfold conE at h;split at h
 ·cases h
 rename_i hn;have hn:rs.length=p.Xl.length:=Decidable.of_not_not hn;have h1:∀i,i<rs.length->szG p rs i=none:=by
  refine fe_all.1 ?_;cases q:fe (szG p rs) rs.length 0 with
  | none=>rfl
  | some y=>
   rw [q] at h;simp only [lY] at h;subst h;obtain ⟨i,_,hi⟩:=qS q;unfold szG at hi;split at hi
   ·split at hi<;>cases hi
   ·cases hi
 rw [fe_all.2 h1,HE] at h;have h2:∀i,i<rs.length->vlG p rs i=none:=by
  refine fe_all.1 ?_;cases q:fe (vlG p rs) rs.length 0 with
  | none=>rfl
  | some y=>
   rw [q] at h;simp only [lY] at h;subst h;obtain ⟨i,_,hi⟩:=qS q;unfold vlG at hi;split at hi
   ·split at hi<;>cases hi
   ·cases hi
 refine ⟨hn,fun i g x hg hx=>?_⟩;obtain ⟨hi,rfl⟩:=Qm.1 hx;obtain ⟨hi2,rfl⟩:=Qm.1 hg;have a1:=h1 i hi;have a2:=h2 i hi;unfold szG at a1;unfold vlG at a2;rw [hx,hg] at a1 a2;simp only at a1 a2;have hr:=v.rg _ (Qd hi2);unfold regE at hr;split at hr
 ·cases hr
 split at hr
 ·cases hr
 rename_i hwb;have hw:=uZ (HD.2 hwb);refine ⟨tS a1,fun y hy=>⟨(hs _ (Qd hi) y hy).1,?_⟩⟩;split at a2
 ·cases a2
 ·rename_i hany;by_cases z:bF p.Xl[i].Yc<y
  ·exact absurd (tL.2 ⟨y,hy,by simp [z]⟩) hany
  ·rw [GC hw.1 hw.2] at z;omega
theorem JD {B:Nat}:∀(n:Nat) (l:List Xa),SizeOf.sizeOf l<=n->(∀x∈l,Xa.Ok B x)->∀x∈pre l,Xa.Ok B x
 | 0,l,h,_,x,hx=>by
  cases l with
  | nil=>simp [pre] at hx
  | cons y l=>simp at h
 | n+1,[],_,_,x,hx=>by simp [pre] at hx
 | n+1,.mk k t c a b::l,h,ho,x,hx=>by
  simp only [pre,pre1,mD,iW,eI] at hx;have hy:=ho _ (HA ..);have hy2:=hy;simp only [Xa.Ok,Xa.oks_eq] at hy2;simp only [List.cons.sizeOf_spec,Xa.mk.sizeOf_spec] at h;rcases hx with rfl | (hx | hx) | hx
  ·exact hy
  ·exact JD n a (by omega) hy2.2.2.2.1.2 x hx
  ·exact JD n b (by omega) hy2.2.2.2.2.2 x hx
  ·exact JD n l (by omega) (fun z hz=>ho z (QB _ hz)) x hx
theorem WA {p:Prg} {l:List Xa} {x:Xa} (hn:DQ p l x=0):NdV p x:=by
 unfold DQ at hn;by_cases h2:x.kind=2
 ·exact .inl h2
 rw [QA h2] at hn;by_cases h13:x.kind=1\/x.kind=3
 ·rw [a8 h13] at hn;by_cases ht:x.table<0\/(p.Xm.length:Int)<=x.table
  ·rw [a8 ht] at hn;cases hn
  rw [QA ht] at hn;refine .inr ⟨?_,x.table.toNat,by omega,by omega⟩;rcases h13 with h | h
  ·right;have h5:¬(0<x.thn.length+x.els.length):=fun h5=>by
    split at hn
    ·cases hn
    ·rw [a8 ⟨h,h5⟩] at hn;cases hn
   have hz:x.thn.length=0/\x.els.length=0:=by omega
   exact ⟨h,Qg hz.1,Qg hz.2⟩
  ·exact .inl h
 ·rw [QA h13] at hn;cases hn
theorem OW {x:Xa} (h:Xa.Ok iH x):x.cond.length<2^40:=by
 obtain ⟨k,t,c,a,b⟩:=x;simp only [Xa.Ok,okL] at h;have:=CN;have:=h.2.2.1.1;simp only [Xa.cond];omega
theorem WI {p:Prg} (fs:PrgS p) (v:VProg p):CtV p:=by
 have vc:=vctl v.ct;refine ⟨fun x hx=>?_,by have:=vc.n;omega,by have:=vc.d;omega⟩;have hok:=JD (B:=iH) _ _ (Qb _) fs.co x hx;obtain ⟨i,hi,rfl⟩:=Qn.1 hx;exact ⟨WA (vc.e i hi),OW hok⟩
theorem pk_of {p:Prg} (fs:PrgS p) (v:VProg p):PKp p:=by
 refine ⟨fs,⟨fs.h,fs.hl,fs.m,?_,fs.r,fun g hg=>?_,fun g hg=>?_⟩,v.hd,fun t ht=>by simp only [tOk,decide_eq_true_eq];exact v.tb t ht,v.dp,v.pa⟩
 ·have:=v.m3 0 (by decide);exact (Qm.1 this).1
 ·have:=v.rg g hg;unfold regE at this;split at this
  ·cases this
  split at this
  ·cases this
  split at this
  ·cases this
  ·omega
 ·have:=v.rg g hg;unfold regE at this;split at this
  ·cases this
  split at this
  ·cases this
  ·rename_i hwb;exact (uZ (HD.2 hwb)).2
theorem Js {p:Prg} (fs:PrgS p) {c:Xe} (ct:CfgT c) (h:cfgE p c=0):(PKp p/\CtV p)/\CF p c/\RV p c.Xl:=by
 have cv:=(G3 p c).1 h;have v:=vprog cv.prg;refine ⟨⟨pk_of fs v,WI fs v⟩,⟨cv.rl,cv.dl,fun l hl=>?_,fun d hd=>?_⟩,rv_of v cv.con fun l hl=>(ct.gs l hl).2⟩
 ·obtain ⟨k,hk,rfl⟩:=Qn.1 hl;have hkt:k<p.Xm.length:=by rw [<- cv.rl];exact hk
  have tv:=CfgV.at cv hkt;have hs:=ct.rs _ hl;refine ⟨hs.1,fun x hx=>⟨hs.2 x hx,?_⟩,tv.inc⟩;have hc:=P8 hkt (tv.ent x hx);exact ⟨Jz v hc,hc,(hs.2 x hx).ar,(hs.2 x hx).al⟩
 ·obtain ⟨k,hk,rfl⟩:=Qn.1 hd;have hkt:k<p.Xm.length:=by rw [<- cv.dl];exact hk
  have tv:=CfgV.at cv hkt;have hs:=ct.ds _ hd;have hc:iL p c.Xp[k]=0:=by
   have:=tv.Yb;unfold iT at this;split at this
   ·cases this
   ·exact this
  exact ⟨Jz v hc,hc,hs.2,hs.1⟩
def b2sV (h:AH) (o:Option AV):Option (AV×AH):=match o with
 | some v=>evOp [(0,v)] 0 h (.b2s (.t 0))
 | none=>none
theorem WL {e:Env} {nx:Nat} {h:AH} {n:Nat}:evOp e nx h (.b2s (.t n))=b2sV h (look n e):=by
 cases hl:look n e with
 | none=>simp only [evOp,evX,hl,b2sV]
 | some v=>simp only [evOp,evX,hl,b2sV,look,if_true]
theorem TH {call:aJ} {e:Env} {nx:Nat} {h:AH} {n:Nat}:aB call e nx h (.b2s (.t n))=cV (b2sV h (look n e)):=by rw [Hf,WL]
def strB (l:List Int):List UInt8:=l.map fun n=>UInt8.ofNat n.toNat
theorem Nb (F:List AV->Option UInt8) (hF:∀n,F (c8 n)=some (UInt8.ofNat n.toNat)):∀l:List Int,mapO F (l.map c8)=some (strB l)
 | []=>rfl
 | a::l=>by simp only [jL,mapO,hF,Nb F hF l,strB]
theorem au (h:AH) (z:Nat) (l:List Int):b2sV h (some (.slice z (l.map c8)))=some (.str (strB l),h):=by
 simp only [b2sV,evOp,evX,look,if_true,jJ];rw [Nb _ (fun n=>rfl)]
theorem KS (l:List Int):a9 Φ 23 [.slice 1 (l.map c8),.slice 1 (l.map c8)]=some (.val (.bool true)):=by
 rw [aC rfl rfl];have s1:=fun h=>au h 1 l
 simp [E8,s1,TH,-Hf]
set_option maxRecDepth 4000
theorem O9 {p:Prg} {t:Int} {tb:Tbl} (h:(tblE p t).2=0) (ht:at? p.Xm t=some tb):tb.size<=256:=by
 unfold tblE at h;rw [ht] at h;simp only at h;split at h
 ·cases h
 split at h
 ·cases h
 split at h
 ·cases h
 ·omega
theorem P7 {p:Prg} {t:Int} {x:Entry} (h:entE p t x=0):(tblE p t).2=0:=by
 unfold entE at h;refine Decidable.byContradiction fun hc=>?_
 rw [a8 hc] at h;exact hc h
theorem CfgV.small {p:Prg} {c:Xe} (v:CfgV p c):∀l∈c.rows,l.length<=256:=by
 intro l hl;obtain ⟨k,hk,rfl⟩:=Qn.1 hl;have hkt:k<p.Xm.length:=by rw [<- v.rl];exact hk
 have hv:=v.at hkt;by_cases h0:c.rows[k].length=0
 ·omega
 have he:=hv.ent _ (Qd (show 0<c.rows[k].length by omega));have hs:=O9 (P7 he) (by rw [mM];exact Qa hkt);have:=hv.size;omega
theorem CfgV.u {p:Prg} {c:Xe} (v:CfgV p c) (s:CfgT c):CfgU c:=⟨s,fun l hl=>by have:=v.small l hl;omega⟩
theorem EU {p:Prg} (op:p.Ok iH):CfgT (lU p):=by
 have f:=IX op;have e:=CN;have ht:=f.t;have hr:=f.r;obtain ⟨_,_,_,_,_,o5,_⟩:=op;refine ⟨by simpa [lU] using ht,?_,by simpa [lU] using ht,by simpa [lU] using ht,?_,by simpa [lU,newR] using hr,?_⟩
 ·intro l hl;simp [lU] at hl;obtain ⟨_,_,rfl⟩:=hl;simp
 ·intro d hd;simp [lU] at hd;obtain ⟨t,ht,rfl⟩:=hd;have:=o5.2 t ht;simp only [Tbl.Ok,Xb.Ok] at this;exact ⟨by have:=this.2.2.2.1.2.1;omega,fun v hv=>this.2.2.2.1.2.2 v hv⟩
 ·intro l hl;simp [lU,newR] at hl;obtain ⟨r,_,rfl⟩:=hl;have:=UV r;refine ⟨by simp;omega,?_⟩;intro v hv;have:=H4 hv;subst this;exact ⟨by omega,by omega⟩
def S6 (N:Nat) (O:List (Nat×AO)) (p:Prg) (r:Option (Rt×AH)):Prop:=
 ((prgD p).1≠0/\r=some (.val (.tup [.nilptr,.int .i64 (prgD p).1]),⟨O,N+1⟩))\/
 ((prgD p).1=0/\∃S O' N',r=some (.val (.tup [.ptr S.s 15 0 0,.int .i64 0]),⟨O',N'⟩)/\StoreM O' S p (lU p)/\(∀j,S.own j->N<=j)/\Kp (Rs O) N O O'/\Tail O' N'/\N<=N')
theorem EK (p:Prg) (op:p.Ok iH) (hc:PC p) {O:List (Nat×AO)} {N:Nat} (hT:Tail O N):
  S6 N O p (aD Φ 26 [.agg (Prg.c p)] ⟨O,N⟩):=by
 rw [cP rfl rfl];have f:=IX op;have h:=hc.1;have t0:=hT N (Qb _);have hT1:Tail O (N+1):=hT.mono (by omega);have sT:=EU op;have he:=O8 p f fun t ht=>(sT.ds t.Yb (by simp [lU];exact ⟨t,ht,rfl⟩)).1
 simp only [Prg.e,dgC] at h he;by_cases z:(prgD p).1=0
 ·obtain ⟨S,O',N',e,h1,h2,h3,h4,h5⟩:=U6 p op (lU p) ⟨sT,fun l hl=>by simp [lU] at hl;obtain ⟨_,_,rfl⟩:=hl;simp⟩ (fun l hl=>by simp [lU] at hl;obtain ⟨_,_,rfl⟩:=hl;simp) hT1 (CfgR.imm (O:=O) (lU p));rw [<- Xe.ce] at e;simp only [Prg.e] at e;simp [AR,Prg.e,h,z,he,t0,e];refine .inr ⟨z,S,O',N',rfl,h1,fun j hj=>by have:=h2 j hj;omega,fun j hj hx=>h3 j (by omega) hx,h4,by omega⟩
 ·simp [AR,Prg.e,h,z,t0];exact .inl ⟨z,rfl⟩
section
variable {O:List (Nat×AO)} {N:Nat} {S:SV} {p:Prg} {c:Xe}
theorem StoreM.se (m:StoreM O S p c):look S.s O=some (.row 15 [(S.v1::S.v2::S.v3::S.v4::nC p [S.vi,.bool true])]):=by
 have hs:=m.s;simp only [SV.cells,Prg.e,mD,pA] at hs;exact hs
theorem StoreM.l1 (m:StoreM O S p c):lenOf S.v1=some c.rows.length:=by
 have:=m.cm.r.len;rw [cQ,m.cm.rl] at this;exact this
theorem RP (m:StoreM O S p c) (hl:c.rows.length=p.Xm.length) (t:Int):aD Φ 73 [.ptr S.s 15 0 0,.int .i64 t] ⟨O,N⟩=some (.val (.bool (inT p t)),⟨O,N⟩):=by
 rw [cP rfl rfl];have hs:=m.se;have l1:=m.l1;by_cases z:0<=t
 ·simp [AY,hs,l1,z,inT,hl,-lenOf]
 ·simp [AY,z,inT,-lenOf]
theorem StoreM.idx (m:StoreM O S p c) {k:Nat} (hk:k<c.rows.length):∃id es0,S.vi= .row id 1 0 c.rows.length/\look id O=some (.row 1 es0)/\c.rows.length<=es0.length/\∃hM:k<S.M.length,es0[k]? =some [.map (S.M[k])]/\look (S.M[k]) O=some (.map (ents c.rows[k])):=by
 have hl:=m.x.len;obtain ⟨id,es0,e,hl1,hle,ht⟩:=m.x.i.nonempty (by simp;omega);rw [cQ,hl] at e hle;have hM:k<S.M.length:=by omega
 refine ⟨id,es0,e,hl1,hle,hM,BO hM ht,m.x.m k _ _ (Qa hM) (Qa hk)⟩
theorem StoreM.tab (m:StoreM O S p c) {k:Nat} (hk:k<c.rows.length):∃id es0,S.v1= .row id 1 0 c.rows.length/\look id O=some (.row 1 es0)/\c.rows.length<=es0.length/\(∃hV:k<S.V.length,es0[k]? =some [S.V[k]]/\Mu O 5 S.V[k] (c.rows[k].map Rw.c))/\es0.take c.rows.length=S.V.map fun x=>[x]:=by
 have hl:=m.cm.rl;obtain ⟨id,es0,e,hl1,hle,ht⟩:=m.cm.r.nonempty (by simp;omega);have ht':=ht;rw [cQ,hl] at e hle ht';have hV:k<S.V.length:=by omega
 refine ⟨id,es0,e,hl1,hle,⟨hV,BO hV ht,m.cm.rv k _ _ (Qa hV) (Qa hk)⟩,ht'⟩
end
def Dz (N:Nat) (O:List (Nat×AO)) (S:SV) (p:Prg) (c':Xe) (v:AV) (r:Option (Rt×AH)):Prop:=
 ∃S' O' N',r=some (.val v,⟨O',N'⟩)/\StoreM O' S' p c'/\S'.s=S.s/\(∀j,S'.own j->S.own j\/N<=j)/\Kp (fun j=>S.own j\/Rs O j) N O O'/\Tail O' N'/\N<=N'
theorem Mu.upd {O':List (Nat×AO)} {id z k:Nat} {es es0:List (List AV)} {y:List AV} (hl:look id O'=some (.row z (es0.set k y))) (hle:es.length<=es0.length) (ht:es0.take es.length=es):Mu O' z (.row id z 0 es.length) (es.set k y):=
 .row id _ _ _ (by simp) hl (by simpa using hle) (by rw [List.length_set,List.take_set,ht])
def SV.chg (S:SV) (k j:Nat):Prop:=(∃v,S.V[k]? =some v/\vid v=some j)\/vid S.v1=some j\/vid S.v2=some j\/vid S.vi=some j\/S.M[k]? =some j
def SV.tab (S:SV) (k:Nat) (v:AV) (m:Nat):SV:=⟨S.s,S.v1,S.v2,S.v3,S.v4,S.vi,S.V.set k v,S.M.set k m⟩
section
variable {O O':List (Nat×AO)} {S:SV} {p:Prg} {c:Xe} {k:Nat}
theorem StoreM.vrow (m:StoreM O S p c) {j:Nat} {v:AV} {i:Nat} (hv:S.V[j]? =some v) (hi:vid v=some i):∃es,look i O=some (.row 5 es):=by
 have hj:=(Qm.1 hv).1;exact (m.cm.rv j v _ hv (Qa (by rw [<- m.cm.rl];exact hj))).own hi
theorem StoreM.mmap (m:StoreM O S p c) {j i:Nat} (hv:S.M[j]? =some i):∃es,look i O=some (.map es):=by
 have hj:=(Qm.1 hv).1;exact ⟨_,m.x.m j i _ hv (Qa (by rw [<- m.x.len];exact hj))⟩
theorem StoreM.upd (m:StoreM O S p c) (hk:k<c.rows.length) {v':AV} {m':Nat} {l':List Rw} {nx:Int}
  (keep:∀j,S.own j->¬S.chg k j->look j O'=look j O)
  (h1:Mu O' 1 S.v1 ((S.V.set k v').map fun x=>[x])) (h2:Mu O' 1 S.v2 ((c.Xq.set k nx).map cI)) (h3:Mu O' 1 S.vi ((S.M.set k m').map fun x=>[.map x])) (h4:Mu O' 5 v' (l'.map Rw.c)) (h5:look m' O'=some (.map (ents l')))
  (h6:∀z es t,v'≠ .app z es t) (d1:∀i,vid v'=some i->(∃v,S.V[k]? =some v/\vid v=some i)\/∀x,look i O=some x->x= .res) (d2:S.M[k]? =some m'\/∀x,look m' O=some x->x= .res):
  StoreM O' (S.tab k v' m') p ⟨c.rows.set k l',c.Xq.set k nx,c.Xp,c.Xl⟩:=by
 have hVl:=m.cm.rl;have hMl:=m.x.len;have ks:look S.s O'=look S.s O:=by
  refine keep S.s (.inl rfl) ?_;rintro (⟨v,hv,hi⟩ | hi | hi | hi | hi)
  ·obtain ⟨es,hl⟩:=m.vrow hv hi;exact aF m.s hl (by simp) rfl
  ·obtain ⟨es,hl⟩:=m.cm.r.own hi;exact aF m.s hl (by simp) rfl
  ·obtain ⟨es,hl⟩:=m.cm.n.own hi;exact aF m.s hl (by simp) rfl
  ·obtain ⟨es,hl⟩:=m.x.i.own hi;exact aF m.s hl (by simp) rfl
  ·obtain ⟨es,hl⟩:=m.mmap hi;exact aF m.s hl (by simp) rfl
 have kv:∀(j:Nat) (v:AV) (i:Nat),j≠k->S.V[j]? =some v->vid v=some i->look i O'=look i O:=by
  intro j v i hj hv hi;obtain ⟨es0,hl0⟩:=m.vrow hv hi;refine keep i (.inr (.inl (.inr (.inr (.inr ⟨v,Qe hv,hi⟩))))) ?_;rintro (⟨w,hw,hi'⟩ | hi' | hi' | hi' | hi')
  ·exact hj (m.cm.vi j k v w i hv hw hi hi')
  ·obtain ⟨es,hl⟩:=m.cm.r.own hi';exact aF hl0 hl (by simp) rfl
  ·obtain ⟨es,hl⟩:=m.cm.n.own hi';exact aF hl0 hl (by simp) rfl
  ·obtain ⟨es,hl⟩:=m.x.i.own hi';exact aF hl0 hl (by simp) rfl
  ·obtain ⟨es,hl⟩:=m.mmap hi';exact aF hl0 hl (by simp) rfl
 have km:∀(j i:Nat),j≠k->S.M[j]? =some i->look i O'=look i O:=by
  intro j i hj hv;obtain ⟨es0,hl0⟩:=m.mmap hv;refine keep i (.inr (.inr (.inr (Qe hv)))) ?_;rintro (⟨w,hw,hi'⟩ | hi' | hi' | hi' | hi')
  ·obtain ⟨es,hl⟩:=m.vrow hw hi';exact aF hl0 hl (by simp) rfl
  ·obtain ⟨es,hl⟩:=m.cm.r.own hi';exact aF hl0 hl (by simp) rfl
  ·obtain ⟨es,hl⟩:=m.cm.n.own hi';exact aF hl0 hl (by simp) rfl
  ·obtain ⟨es,hl⟩:=m.x.i.own hi';exact aF hl0 hl (by simp) rfl
  ·exact hj (m.x.nd j k i hv hi')
 have kd:Mu O' 2 S.v3 (c.Xp.map Xb.c):=by
  refine m.cm.d.fr fun i hi=>?_
  obtain ⟨es0,hl0⟩:=m.cm.d.own hi;refine keep i (.inr (.inl (.inr (.inr (.inl hi))))) ?_;rintro (⟨w,hw,hi'⟩ | hi' | hi' | hi' | hi')
  ·obtain ⟨es,hl⟩:=m.vrow hw hi';exact aF hl0 hl (by simp) rfl
  ·obtain ⟨es,hl⟩:=m.cm.r.own hi';exact aF hl0 hl (by simp) rfl
  ·obtain ⟨es,hl⟩:=m.cm.n.own hi';exact aF hl0 hl (by simp) rfl
  ·obtain ⟨es,hl⟩:=m.x.i.own hi';exact aF hl0 hl (by simp) rfl
  ·obtain ⟨es,hl⟩:=m.mmap hi';exact aF hl0 hl (by simp) rfl
 have other:∀(j:Nat) (v:AV) (i:Nat),j≠k->S.V[j]? =some v->vid v=some i->vid v'=some i->False:=by
  intro j v i hj hv hi hi';rcases d1 i hi' with ⟨w,hw,hw'⟩ | hf
  ·exact hj (m.cm.vi j k v w i hv hw hi hw')
  ·obtain ⟨es,hl⟩:=m.vrow hv hi;have:=hf _ hl;cases this
 refine ⟨?_,⟨h1,by simp [SV.tab,hVl],?_,h2,kd,m.cm.g,m.cm.rn,?_,?_⟩,⟨h3,by simp [SV.tab,hMl],?_,?_⟩,m.ri,m.ni⟩
 ·show look S.s O'=_;rw [ks];exact m.s
 ·intro j v l hv hl;simp only [SV.tab] at hv;by_cases hj:k=j
  ·subst hj;rw [List.getElem?_set_self (by omega)] at hv hl;cases hv;cases hl;exact h4
  ·rw [List.getElem?_set_ne hj] at hv hl;have h0:=m.cm.rv j v l hv hl;exact h0.fr fun i hi=>kv j v i (fun e=>hj e.symm) hv hi
 ·intro a b v w i ha hb hi hi';simp only [SV.tab] at ha hb;by_cases hka:k=a
  ·by_cases hkb:k=b
   ·omega
   ·subst hka;rw [List.getElem?_set_self (by omega)] at ha;rw [List.getElem?_set_ne hkb] at hb;cases ha;exact (other b w i (fun e=>hkb e.symm) hb hi' hi).elim
  ·by_cases hkb:k=b
   ·subst hkb;rw [List.getElem?_set_self (by omega)] at hb;rw [List.getElem?_set_ne hka] at ha;cases hb;exact (other a v i (fun e=>hka e.symm) ha hi hi').elim
   ·rw [List.getElem?_set_ne hka] at ha;rw [List.getElem?_set_ne hkb] at hb;exact m.cm.vi a b v w i ha hb hi hi'
 ·intro v hv;simp only [SV.tab] at hv;rcases Qq hv with hv | rfl
  ·exact m.cm.va v hv
  ·exact h6
 ·intro j i l hi hl;simp only [SV.tab] at hi;by_cases hj:k=j
  ·subst hj;rw [List.getElem?_set_self (by omega)] at hi hl;cases hi;cases hl;exact h5
  ·rw [List.getElem?_set_ne hj] at hi hl;rw [km j i (fun e=>hj e.symm) hi];exact m.x.m j i l hi hl
 ·intro a b i ha hb;simp only [SV.tab] at ha hb;have oth:∀j,j≠k->S.M[j]? =some m'->False:=by
   intro j hj hv;rcases d2 with h0 | hf
   ·exact hj (m.x.nd j k m' hv h0)
   ·obtain ⟨es,hl⟩:=m.mmap hv;have:=hf _ hl;cases this
  by_cases hka:k=a
  ·by_cases hkb:k=b
   ·omega
   ·subst hka;rw [List.getElem?_set_self (by omega)] at ha;rw [List.getElem?_set_ne hkb] at hb;cases ha;exact (oth b (fun e=>hkb e.symm) hb).elim
  ·by_cases hkb:k=b
   ·subst hkb;rw [List.getElem?_set_self (by omega)] at hb;rw [List.getElem?_set_ne hka] at ha;cases hb;exact (oth a (fun e=>hka e.symm) ha).elim
   ·rw [List.getElem?_set_ne hka] at ha;rw [List.getElem?_set_ne hkb] at hb;exact m.x.nd a b i ha hb
end
theorem W5 (r:Rw) (x:Entry) (hb:r.entry.keys.length<2^40):a9 Φ 76 [.agg (Rw.c r),.iptr 4 [Entry.c x] 0 0]=some (.val (.bool (sk r.entry x))):=by
 rw [aC rfl rfl];have h:=EW r.entry x hb;simp [ED,Rw.ce,Entry.ce,h]
theorem PU (l:List Rw) (x:Entry) (hl:l.length<2^40) (hs:∀r∈l,r.entry.keys.length<2^40):a9 Φ 145 [.slice 5 (l.map Rw.c),.func (.func 76) [] [.iptr 4 [Entry.c x] 0 0]]=some (.val (.int .i64 (ix (fun r=>sk r.entry x) l 0))):=by
 rw [aC rfl rfl];simp [rR];refine (oD l.length (fun i e=>look 0 e=some (.slice 5 (l.map Rw.c))/\look 1 e=some (.func (.func 76) [] [.iptr 4 [Entry.c x] 0 0])/\look 7 e=some (.int .i64 l.length)/\look 8 e=some (.int .i64 i))
  (fun i=>some (.val (.int .i64 (ix (fun r=>sk r.entry x) l i)))) ?_ ?_ 0 _ (Qc _) ?_).trans (by simp)
 ·rintro i e L hi hL ⟨h0,h1,h7,h8⟩ ih;have hw:=aH i (by omega);have hd:=W5 l[i] x (hs _ (Qd hi));simp only [Rw.ce,Entry.ce] at hd h1;cases z:sk l[i].entry x with
  | true=>
   rw [DG hi (by simpa using z)];rw [z] at hd;simp [aZ,Rw.ce,h0,h1,h7,h8,hi,hd]
  | false=>
   rw [D7 hi (by simpa using z)];rw [z] at hd;simp [aZ,Rw.ce,h0,h1,h7,h8,hi,hd,hw];exact ih _ ⟨by simp [h0],by simp [h1,Entry.ce],by simp [h7],by simp⟩
 ·rintro e L hL ⟨h0,h1,h7,h8⟩;rw [DF];simp [aZ,fH,h7,h8,hL]
 ·simp
theorem OV (l:List Rw) (x:Entry) (hl:l.length<2^40) (hs:∀r∈l,r.entry.keys.length<2^40):a9 Φ 75 [.slice 5 (l.map Rw.c),.func (.func 76) [] [.iptr 4 [Entry.c x] 0 0]]=some (.val (.bool (l.any fun r=>sk r.entry x))):=by
 rw [aC rfl rfl];have h:=PU l x hl hs;simp only [Entry.ce] at h;rw [<- DE];simp [AZ,Entry.ce,h]
theorem IB {O:List (Nat×AO)} {N:Nat} {S:SV} {p:Prg} {c:Xe} (m:StoreM O S p c) (f:PrgS p) (v:CfgV p c) (s:CfgT c) (hT:Tail O N) (t:Int) (x:Entry) (hx:EntS x):
  Dz N O S p (if insE p c t x=0 then insC c t x else c) (.tup [.int .i64 (if insE p c t x=0 then uW c t else 0),.int .i64 (insE p c t x)]) (aD Φ 27 [.ptr S.s 15 0 0,.int .i64 t,.agg (Entry.c x)] ⟨O,N⟩):=by
 rw [cP rfl rfl];have t0:=hT N (Qb _);have hl:=v.rl;have hk1:Kp (fun j=>S.own j\/Rs O j) N O (O++[(N,AO.row 4 [Entry.c x])]):=Kp.app (fun _ _ _=>rfl) (Qb _);have hT1:=hT.app1 (o:=AO.row 4 [Entry.c x]) (Qb N);have m1:StoreM (O++[(N,AO.row 4 [Entry.c x])]) S p c:=m.kp (X:=fun _=>False) hT (Kp.app (fun _ _ _=>rfl) (Qb _)) (by simp);have b1:look N (O++[(N,AO.row 4 [Entry.c x])])=some (.row 4 [Entry.c x]):=by rw [aA,t0];simp
 have same:insE p c t x≠0->Dz N O S p (if insE p c t x=0 then insC c t x else c) (.tup [.int .i64 (if insE p c t x=0 then uW c t else 0),.int .i64 (insE p c t x)]) (some (.val (.tup [.int .i64 0,.int .i64 (insE p c t x)]),⟨O++[(N,AO.row 4 [Entry.c x])],N+1⟩)):=by
  intro h;rw [QA h,QA h];exact ⟨S,_,_,rfl,m1,rfl,fun j hj=> .inl hj,hk1,hT1,by omega⟩
 have hs:=m1.se;have ht:=RP (N:=N+1) m1 hl t;have he:=Mm p f t x hx;simp only [Prg.e] at he;simp only [Entry.ce] at b1 hs ht he same;cases z:inT p t with
 | false=>
  have hE:insE p c t x=8:=by simp [insE,z]
  rw [z] at ht;have same:=same (by rw [hE];decide);rw [hE] at same ⊢;simp [oZ,Entry.ce,t0,hs,ht];simpa using same
 | true=>
 obtain ⟨k,rfl,hk⟩:=Mx z;have hk':k<c.rows.length:=by omega
 have hkn:k<c.Xq.length:=by rw [v.nl];exact hk
 have hrow:DH c (k:Int)=c.rows[k]:=Ak hk';have hnx:uW c (k:Int)=c.Xq[k]:=Bd hkn;have hsz:JM p (k:Int)=p.Xm[k].size:=Ho hk;have hE:insE p c k x=if entE p k x≠0 then entE p k x else if (c.rows[k].any fun y=>sk y.entry x)=true then 7 else if p.Xm[k].size<=c.rows[k].length\/1073741824<=c.Xq[k] then 13 else 0:=by
  unfold insE;rw [z,hrow,hnx,hsz];simp
 rw [z] at ht;by_cases y:entE p k x=0
 rotate_left
 ·rw [a8 y] at hE;have same:=same (by rw [hE];exact y);rw [hE] at same ⊢;simp [oZ,Entry.ce,t0,hs,ht,b1,he,y];simpa [y] using same
 rw [QA (by simpa using y)] at hE;rw [y] at he;obtain ⟨rid,es1,e1,lr,hle1,⟨hV,g1,g5⟩,ht1⟩:=m1.tab hk';have hsl:=s.rs _ (Qd hk');have hcon:=OV c.rows[k] x hsl.1 fun r hr=>(hsl.2 r hr).kl
 have hsnp:=fun n=>g5.snp (N:=N+1) (n:=n)
 have hsn2:∀n,snap (n+2) ⟨O++[(N,AO.row 4 [Entry.c x])],N+1⟩ S.V[k]=some (.slice 5 (c.rows[k].map Rw.c)):=fun n=>by
  rw [hsnp (n+1),mL (n:=n+1) (fun x=>Ew x)];rfl
 have hsn3:=hsn2 38;rw [e1] at hs;simp only [Entry.ce] at hcon hsn3 lr;cases w:c.rows[k].any fun y=>sk y.entry x with
 | true=>
  rw [a8 w] at hE;have same:=same (by rw [hE];decide);rw [w] at hcon;rw [hE] at same ⊢;simp [oZ,Entry.ce,t0,hs,ht,b1,he,lr,hk',g1,hsn3,hcon];simpa using same
 | false=>
 rw [QA (by rw [w];decide)] at hE;rw [w] at hcon;have hvl:=g5.len;rw [cQ] at hvl;obtain ⟨nid,esn,e2,ln,hle2,ht2⟩:=m1.cm.n.nonempty (by simp;omega);rw [cQ] at e2 hle2;have gn:=BO hkn ht2;rw [cIe] at gn;rw [e2] at hs;simp only [Entry.ce] at ln;have hkt:=hk;by_cases u:p.Xm[k].size<=c.rows[k].length
 ·rw [a8 (.inl u)] at hE;have same:=same (by rw [hE];decide);rw [hE] at same ⊢;simp [oZ,Entry.ce,Tbl.e,t0,hs,ht,b1,he,lr,hk',g1,hsn3,hcon,hvl,ln,hkn,gn,hkt,u,-lenOf];simpa using same
 by_cases q:1073741824<=c.Xq[k]
 ·rw [a8 (.inr q)] at hE;have same:=same (by rw [hE];decide);rw [hE] at same ⊢;simp [oZ,Entry.ce,Tbl.e,t0,hs,ht,b1,he,lr,hk',g1,hsn3,hcon,hvl,ln,hkn,gn,hkt,u,q,-lenOf];simpa using same
 rw [QA (by omega)] at hE;rw [hE];have hM:=m1.x.len;obtain ⟨iid,esi,e3,li,hle3,hMk,gi,lm⟩:=m1.idx hk';rw [e3] at hs;simp only [Entry.ce] at li lm;have hv:=v.at hk;have hput:=Cx c.Xq[k] (.int .i64 (c.rows[k].length:Nat)) c.rows[k] 0 fun r hr=>by have:=hv.lt r hr;omega
 rw [show t8 c.rows[k] 0=ents c.rows[k] from rfl] at hput;have hce:=Il x hx.al hx.kl;simp only [Entry.ce] at hce;simp [oZ,Entry.ce,Tbl.e,t0,hs,ht,b1,he,lr,hk',g1,hsn3,hcon,hvl,ln,hkn,gn,hkt,u,q,li,lm,gi,hput,-lenOf,-PM];generalize hO2:setl S.M[k] (AO.map (ents c.rows[k]++[(AV.int IntKind.i64 c.Xq[k],AV.int IntKind.i64 (c.rows[k].length:Nat))])) (O++[(N,AO.row 4 [[AV.slice 2 (List.map Xh.c x.keys),AV.int IntKind.i64 x.Xs,AV.int IntKind.i64 x.call.Xy,AV.slice 1 (List.map c32 x.call.args)]])])=O2;rw [<- Entry.ce] at hO2;have hlm:look S.M[k] (O++[(N,AO.row 4 [Entry.c x])])=some (.map (ents c.rows[k])):=m1.x.m k _ _ (Qa hMk) (Qa hk');have k2:∀j,j≠S.M[k]->look j O2=look j (O++[(N,AO.row 4 [Entry.c x])]):=fun j hj=>by rw [<- hO2,a7,QA hj]
 have hT2:Tail O2 (N+1):=by rw [<- hO2];exact aK hT1
 have kr:∀j z es,look j (O++[(N,AO.row 4 [Entry.c x])])=some (.row z es)->look j O2=some (.row z es):=fun j z es hj=>by rw [k2 j (aF hj hlm (by simp)),hj]
 have ls2:=kr S.s _ _ (by simp only [Entry.ce];exact hs);have lr2:=kr rid _ _ (by simp only [Entry.ce];exact lr);have ln2:=kr nid _ _ (by simp only [Entry.ce];exact ln);have lb2:=kr N _ _ (by simp only [Entry.ce];exact b1);have lm2:look S.M[k] O2=some (.map (ents c.rows[k]++[(AV.int IntKind.i64 c.Xq[k],AV.int IntKind.i64 (c.rows[k].length:Nat))])):=by rw [<- hO2,a7,a8 rfl,hlm];rfl
 clear hO2;have u0:=hT2 (N+1+112) (by omega);have fsx:=aY (n:=N+1+112) hT2 ls2 (by omega);have frx:=aY (n:=N+1+112) hT2 lr2 (by omega);have fnx:=aY (n:=N+1+112) hT2 ln2 (by omega);have fnb:¬N=N+1+112/\¬N+1+112=N:=by omega
 have hrn:¬rid=nid:=fun e=>m1.cm.rn rid (by rw [e1];rfl) (by rw [e2,e];rfl)
 have hnr:¬nid=rid:=fun e=>hrn e.symm
 have hwr:IntKind.wrap .i64 (c.Xq[k]+1)=c.Xq[k]+1:=cU (by have:=hv.nx0;omega) (by omega);have hsr:=aF ls2 lr2 (by simp);have hsn:=aF ls2 ln2 (by simp);have hrs:=hsr.symm;have hns:=hsn.symm;have hbeq:(S.s == N+1+112)=false:=by simp [fsx]
 have hkl1:k<es1.length:=by omega
 have hkln:k<esn.length:=by omega
 have hci:insC c (k:Int) x=⟨c.rows.set k (c.rows[k]++[⟨c.Xq[k],x⟩]),c.Xq.set k (c.Xq[k]+1),c.Xp,c.Xl⟩:=by
  unfold insC;rw [hrow,hnx];simp
 have hsnoc:ents (c.rows[k]++[⟨c.Xq[k],x⟩])=ents c.rows[k]++[(AV.int IntKind.i64 c.Xq[k],AV.int IntKind.i64 (c.rows[k].length:Nat))]:=Iu _ _;have hVl:=m1.cm.rl;have fin:∀(O':List (Nat×AO)) (N':Nat) (v':AV),Tail O' N'->N<=N'->look rid O'=some (.row 1 (es1.set k [v']))->look nid O'=some (.row 1 (esn.set k [.int .i64 (c.Xq[k]+1)]))->
   (∀j,j<N+1->j≠rid->j≠nid->(∀i,vid S.V[k]=some i->j≠i)->look j O2≠some .res->look j O'=look j O2)->Mu O' 5 v' ((c.rows[k]++[Rw.mk c.Xq[k] x]).map Rw.c)->(∀z es t,v'≠ .app z es t)->(∀i,vid v'=some i->vid S.V[k]=some i\/N+1<=i)->
   Dz N O S p (insC c (k:Int) x) (.tup [.int .i64 (uW c (k:Int)),.int .i64 0]) (some (.val (.tup [.int .i64 c.Xq[k],.int .i64 0]),⟨O',N'⟩)):=by
  intro O' N' v' hT' hN' a1 a2 a3 a4 a5 a6;rw [hnx,hci];have own1:S.own rid:= .inr (.inl (.inl (by rw [e1];rfl)));have own2:S.own nid:= .inr (.inl (.inr (.inl (by rw [e2];rfl))));have own3:S.own S.M[k]:= .inr (.inr (.inr (Qd hMk)));have own4:∀i,vid S.V[k]=some i->S.own i:=fun i hi=> .inr (.inl (.inr (.inr (.inr ⟨_,Qd hV,hi⟩))))
  have keep:∀j,S.own j->¬S.chg k j->look j O'=look j (O++[(N,AO.row 4 [Entry.c x])]):=by
   intro j hj hc;obtain ⟨w,hw,hwn⟩:=m1.own_lk hj;have h2:look j O2=some w:=by
    rw [k2 j (fun e=>hc (.inr (.inr (.inr (.inr (by rw [e];exact Qa hMk)))))),hw]
   rw [a3 j (hT1.lt hw) (fun e=>hc (.inr (.inl (by rw [e,e1];rfl)))) (fun e=>hc (.inr (.inr (.inl (by rw [e,e2];rfl))))) (fun i hi e=>hc (.inl ⟨_,Qa hV,by rw [e];exact hi⟩)) (by rw [h2];simpa using hwn),h2,hw]
  have h5no:∀i,vid S.V[k]=some i->∃es,look i (O++[(N,AO.row 4 [Entry.c x])])=some (.row 5 es):=fun i hi=>m1.vrow (Qa hV) hi
  have up:=m1.upd (k:=k) (v':=v') (m':=S.M[k]) (l':=c.rows[k]++[⟨c.Xq[k],x⟩]) (nx:=c.Xq[k]+1) (O':=O') hk' keep
   (by
    have hmu:=Mu.upd (O':=O') (id:=rid) (z:=1) (k:=k) (es:=S.V.map fun x=>[x]) (es0:=es1) (y:=[v']) a1 (by rw [cQ,hVl];exact hle1) (by rw [cQ,hVl];exact ht1);rw [cQ,hVl] at hmu;rw [e1,qZ];exact hmu)
   (by
    have hmu:=Mu.upd (O':=O') (id:=nid) (z:=1) (k:=k) (es:=c.Xq.map cI) (es0:=esn) (y:=[.int .i64 (c.Xq[k]+1)]) a2 (by rw [cQ];exact hle2) ht2;rw [cQ] at hmu;rw [e2,qZ,cIe];exact hmu)
   (by
    have hmm:S.M.set k S.M[k]=S.M:=by simp
    rw [hmm];refine m1.x.i.fr fun i hi=>?_
    obtain ⟨es0,hl0⟩:=m1.x.i.own hi;have h2:=kr i _ _ hl0;rw [a3 i (hT1.lt hl0) (fun e=>m1.ri i (by rw [e,e1];rfl) hi) (fun e=>m1.ni i (by rw [e,e2];rfl) hi) (fun i' hi' e=>by obtain ⟨es5,h5⟩:=h5no i' hi';exact aF hl0 h5 (by simp) e) (by rw [h2];simp),h2,hl0])
   a4
   (by
    rw [hsnoc,<- lm2];refine a3 _ (hT1.lt hlm) (fun e=>?_) (fun e=>?_) (fun i hi e=>?_) (by rw [lm2];simp)
    ·exact aF lm2 lr2 (by simp) e
    ·exact aF lm2 ln2 (by simp) e
    ·obtain ⟨es5,h5⟩:=h5no i hi;exact aF lm2 (kr i _ _ h5) (by simp) e)
   a5
   (fun i hi=>by
    rcases a6 i hi with h | h
    ·exact .inl ⟨_,Qa hV,h⟩
    ·exact .inr fun w hw=>by have:=hT1.lt hw;omega)
   (.inl (Qa hMk))
  refine ⟨S.tab k v' S.M[k],O',N',rfl,up,rfl,?_,?_,hT',hN'⟩
  ·intro j hj;rcases hj with hj | hj | hj | hj
   ·exact .inl (.inl hj)
   ·rcases hj with hj | hj | hj | ⟨w,hw,hj⟩
    ·exact .inl (.inr (.inl (.inl hj)))
    ·exact .inl (.inr (.inl (.inr (.inl hj))))
    ·exact .inl (.inr (.inl (.inr (.inr (.inl hj)))))
    ·rcases Qq hw with hw | rfl
     ·exact .inl (.inr (.inl (.inr (.inr (.inr ⟨w,hw,hj⟩)))))
     ·rcases a6 j hj with h | h
      ·exact .inl (own4 j h)
      ·exact .inr (by omega)
   ·exact .inl (.inr (.inr (.inl hj)))
   ·simp only [SV.tab] at hj;rcases Qq hj with hj | rfl
    ·exact .inl (.inr (.inr (.inr hj)))
    ·exact .inl own3
  ·intro j hj hx;have hx1:¬S.own j:=fun h=>hx (.inl h)
   have hx2:¬look j O=some .res:=fun h=>hx (.inr h)
   have h1:=hk1 j hj hx;have h2:=k2 j (fun e=>hx1 (by rw [e];exact own3));rw [a3 j (by omega) (fun e=>hx1 (by rw [e];exact own1)) (fun e=>hx1 (by rw [e];exact own2)) (fun i hi e=>hx1 (by rw [e];exact own4 i hi)) (by rw [h2,h1];exact hx2),h2,h1]
 cases hVk:S.V[k] with
 | Xt z es=>
  rw [hVk] at g5 g1;have hl0:c.rows[k]=[]/\z=5/\es=[]:=by
   generalize hgen:c.rows[k].map Rw.c=gl at g5;cases g5;exact ⟨by simpa using hgen,rfl,rfl⟩
  obtain ⟨hl0,rfl,rfl⟩:=hl0;simp [ls2,lr2,ln2,lb2,u0,aA,a7,mJ,fsx,frx,fnx,fnb,hk',hkn,g1,hce,gn,hnr,hwr,hbeq,hsr];refine fin _ (N+1+112+1) (.row (N+1+112) 5 0 1) ?_ (by omega) ?_ ?_ ?_ ?_ (by simp) (by intro i hi;cases hi;right;omega)
  ·refine aK (HL (aK ?_));exact G1 (hT2.mono (by omega)) (HG _)
  ·simp [a7,mJ,aA,lr2,hrn]
  ·simp [a7,mJ,aA,ln2,hnr]
  ·intro j hj b1 b2 b3 b4;have hj2:¬N+1+112=j:=by omega
   have hi:look j (setl rid (AO.row 1 (es1.set k [.row (N+1+112) 5 0 1])) (O2++[(N+1+112,AO.row 5 [[AV.int IntKind.i64 c.Xq[k],AV.slice 2 (List.map Xh.c x.keys),AV.int IntKind.i64 x.Xs,AV.int IntKind.i64 x.call.Xy,AV.slice 1 (List.map c32 x.call.args)]])]))=look j O2:=by
    rw [a7,QA b1,aA];simp [look,hj2]
   rw [a7,QA b2,mJ (by rw [hi];exact b4),hi]
  ·refine .row (N+1+112) _ [Rw.c (Rw.mk c.Xq[k] x)] _ (by simp [hl0]) ?_ (by simp [hl0]) (by simp [hl0]);simp [a7,mJ,fnx,frx,u0,Rw.ce]
 | row id5 z off n=>
  rw [hVk] at g5 g1;have hg:z=5/\off=0/\n=c.rows[k].length/\∃es5,look id5 (O++[(N,AO.row 4 [Entry.c x])])=some (.row 5 es5)/\c.rows[k].length<=es5.length/\es5.take c.rows[k].length=c.rows[k].map Rw.c:=by
   generalize hgen:c.rows[k].map Rw.c=gl at g5;have hlen:gl.length=c.rows[k].length:=by rw [<- hgen];simp
   cases g5 with
   | row _ _ es5 _ hn hl5 hle5 ht5=>exact ⟨rfl,rfl,by omega,es5,hl5,by omega,by rw [<- hlen];exact ht5⟩
  obtain ⟨rfl,rfl,rfl,es5,hl5,hle5,ht5⟩:=hg;have l52:=kr _ _ _ hl5;have f5:=aY (n:=N+1+112) hT2 l52 (by omega);have h5s:=aF l52 ls2 (by simp);have h5r:=aF l52 lr2 (by simp);have h5n:=aF l52 ln2 (by simp);have hs5:=h5s.symm;have hr5:=h5r.symm;have hn5:=h5n.symm;have h5b:=aF l52 lb2 (by simp);have hb5:=h5b.symm;have hq5:(S.s == id5)=false:=by simpa using hs5
  have hbd:(c.rows[k].length+1)*72<=70368744177664:=by have:=v.small _ (Qd hk');omega
  have hls:=v.small _ (Qd hk');have hres:look (N+1+112) (O2++[(N+1+112,AO.res)])=some .res:=by rw [aA,u0];simp
  have hdr:look (N+1+112) (dropl id5 (O2++[(N+1+112,AO.res)]))=some .res:=by rw [iR (fun e=>f5.2 e),hres]
  by_cases hfull:c.rows[k].length=es5.length
  ·have hbd2:(es5.length+1)*72<=70368744177664:=by rw [<- hfull];exact hbd
   simp [ls2,lr2,ln2,lb2,u0,aA,a7,mJ,iR,fsx,frx,fnx,fnb,hk',hkn,g1,hce,gn,hnr,hwr,hbeq,hsr,l52,f5,hs5,hr5,hn5,hq5,hbd2,hfull,hdr];refine fin _ (N+1+112+1) (.row (N+1+112) 5 0 (es5.length+1)) ?_ (by omega) ?_ ?_ ?_ ?_ (by simp) (by intro i hi;cases hi;right;omega)
   ·refine aK (HL (aK (aK (uN ?_))));exact G1 (hT2.mono (by omega)) (HG _)
   ·simp [a7,mJ,aA,iR,lr2,hrn,frx,hr5]
   ·simp [a7,mJ,aA,iR,ln2,hnr,fnx,hn5]
   ·intro j hj b1 b2 b3 b4;have hj2:¬N+1+112=j:=by omega
    have hj3:¬j=N+1+112:=by omega
    have hj5:j≠id5:=b3 id5 (by rw [hVk];rfl);have hi:∀A B,look j (setl rid A (setl (N+1+112) B (dropl id5 (O2++[(N+1+112,AO.res)]))))=look j O2:=by
     intro A B;rw [a7,QA b1,a7,QA hj3,iR hj5,aA];simp [look,hj2]
    rw [a7,QA b2,mJ (by rw [hi];exact b4),hi]
   ·have htk:es5=c.rows[k].map Rw.c:=by rw [<- ht5,hfull,iS]
    refine .row (N+1+112) _ (es5++[Rw.c (Rw.mk c.Xq[k] x)]) _ (by simp [hfull]) ?_ (by simp [htk]) (by simp [htk,Qo]);simp [a7,mJ,hdr,fnx,frx,Rw.ce]
  ·have hlt:c.rows[k].length<es5.length:=by omega
   have hlt2:c.rows[k].length+1<=es5.length:=by omega
   have hne:¬es5.length=c.rows[k].length:=by omega
   simp [ls2,lr2,ln2,lb2,u0,aA,a7,mJ,fsx,frx,fnx,fnb,hk',hkn,g1,hce,gn,hnr,hwr,hsr,l52,f5,hs5,hr5,hn5,hq5,hbd,hfull,hlt2];refine fin _ (N+1+112+1) (.row id5 5 0 (c.rows[k].length+1)) ?_ (by omega) ?_ ?_ ?_ ?_ (by simp) (by intro i hi;cases hi;left;rw [hVk];rfl)
   ·refine aK (HL (aK (aK ?_)));exact G1 (hT2.mono (by omega)) (HG _)
   ·simp [a7,mJ,aA,lr2,hrn,hr5]
   ·simp [a7,mJ,aA,ln2,hnr,hn5]
   ·intro j hj b1 b2 b3 b4;have hj2:¬N+1+112=j:=by omega
    have hj5:j≠id5:=b3 id5 (by rw [hVk];rfl);have hi:∀A B,look j (setl rid A (setl id5 B (O2++[(N+1+112,AO.res)])))=look j O2:=by
     intro A B;rw [a7,QA b1,a7,QA hj5,aA];simp [look,hj2]
    rw [a7,QA b2,mJ (by rw [hi];exact b4),hi]
   ·refine .row id5 _ (es5.take c.rows[k].length++Rw.c (Rw.mk c.Xq[k] x)::es5.drop (c.rows[k].length+1)) _ (by simp) ?_ (by simp;omega) ?_
    ·simp [a7,mJ,aA,l52,h5r,h5n,Rw.ce]
    ·rw [cQ,nJ,List.length_singleton,tN,ht5];have hll:(c.rows[k].map Rw.c).length=c.rows[k].length:=by simp
     rw [List.take_append,hll,Qo (by rw [hll];omega),show c.rows[k].length+1 - c.rows[k].length=1 by omega];simp
 | app z es t=>exact absurd hVk (m1.cm.va _ (Qd hV) _ _ _)
 | _=>rw [hVk] at g5;cases g5
def SV.snap (S:SV) (p:Prg) (c:Xe):List AV:= .slice 1 (c.rows.map (cS 5 Rw.c)):: .slice 1 (c.Xq.map cI):: .slice 2 (c.Xp.map Xb.c):: .slice 1 (c.Xl.map (cS 1 c32))::(Prg.c p++[.slice 1 (S.M.map fun _=>[.junk]),.bool true])
theorem MQ (n:Nat) (H:AH) (m:Nat):Go.Av.snap (n+1) H (.map m)=some .junk:=by simp only [Go.Av.snap]
theorem Hz {n:Nat} {H:AH}:∀l:List Nat,mapO (mapO (Go.Av.snap (n+1) H)) (l.map fun m=>[AV.map m])=some (l.map fun _=>[.junk])
 | []=>rfl
 | a::l=>by simp only [jL,mapO,MQ,Hz l]
theorem StoreM.snp {O:List (Nat×AO)} {S:SV} {p:Prg} {c:Xe} {N n:Nat} (m:StoreM O S p c):Go.Av.snap (n+7) ⟨O,N⟩ (.ptr S.s 15 0 0)=some (.iptr 15 [S.snap p c] 0 0):=by
 have h1:=m.cm.snpR (n:=n+2) (N:=N);have h2:=m.cm.snpN (n:=n+2) (N:=N);have h3:=m.cm.snpD (n:=n+2) (N:=N);have h4:=m.cm.snpG (n:=n+2) (N:=N);have h5:Go.Av.snap (n+6) ⟨O,N⟩ S.vi=some (.slice 1 (S.M.map fun _=>[.junk])):=by
  rw [m.x.i.snp,Hz];rfl
 have hs:=m.s;simp only [SV.cells,Prg.e,mD,pA] at hs;simp [hs,h1,h2,h3,h4,h5,SV.snap,Prg.e]
theorem Gt {p:Prg} {c:Xe} (u:CfgU c) (S:SV):a9 Φ 30 [.iptr 15 [S.snap p c] 0 0]=some (.val (.agg (Xe.c c))):=by
 rw [aC rfl rfl];have hT1:Tail [(0,AO.row 4 [[.Xt 1 [],.Xt 1 [],.Xt 2 [],.Xt 1 []]])] 1:=by simp [Tail_cons_iff,FR]
 obtain ⟨w1,w2,w3,w4,V,O',N',e,h1,h2,h3,h4,h5⟩:=Fh c u hT1 (CfgR.imm (O:=[(0,AO.row 4 [[.Xt 1 [],.Xt 1 [],.Xt 2 [],.Xt 1 []]])]) c);have ln:look 0 O'=some (.row 4 [[.Xt 1 [],.Xt 1 [],.Xt 2 [],.Xt 1 []]]):=h3.lk hT1 (by simp) (by simp);have h6:CfgM (setl 0 (.row 4 [[w1,w2,w3,w4]]) O') w1 w2 w3 w4 V c:=h1.fr fun j hj=>by
  have:=h2 j hj;rw [a7,QA (by omega)]
 have a1:=fun N=>h6.snpR (n:=35) (N:=N)
 have a2:=fun N=>h6.snpN (n:=35) (N:=N)
 have a3:=fun N=>h6.snpD (n:=35) (N:=N)
 have a4:=fun N=>h6.snpG (n:=35) (N:=N)
 simp [E9,SV.snap,Prg.e,e,ln,a7,a1,a2,a3,a4,Xe.c]
theorem WG {p:Prg} (v:VProg p) {rs:List (List Int)} (r:RV p rs):conE p rs=0:=by
 unfold conE;rw [QA (by simp [r.n])];have h1:fe (szG p rs) rs.length 0=none:=fe_all.2 fun i hi=>by
  have hi2:i<p.Xl.length:=by rw [<- r.n];exact hi
  unfold szG;rw [Qa hi,Qa hi2];simp only;rw [a8 (r.l i _ _ (Qa hi2) (Qa hi)).1]
 have h2:fe (vlG p rs) rs.length 0=none:=fe_all.2 fun i hi=>by
  have hi2:i<p.Xl.length:=by rw [<- r.n];exact hi
  have hx:=(r.l i _ _ (Qa hi2) (Qa hi)).2;have hr:=v.rg _ (Qd hi2);unfold regE at hr;split at hr
  ·cases hr
  split at hr
  ·cases hr
  rename_i hwb;have hw:=uZ (HD.2 hwb);unfold vlG;rw [Qa hi,Qa hi2];simp only;rw [QA];intro hany;obtain ⟨y,hy,hd⟩:=tL.1 hany;have h3:=(hx y hy).2;rw [GC hw.1 hw.2] at hd;simp at hd;omega
 rw [h1,h2];rfl
theorem X5 {p:Prg} (pk:PKp p) {rs:List (List Int)} (r:RV p rs):rs.length<2^40/\∀l∈rs,l.length<2^40/\∀v∈l,ok32 0 v:=by
 refine ⟨by rw [r.n];exact pk.w.rl,fun l hl=>?_⟩;obtain ⟨i,hi,rfl⟩:=Qn.1 hl;have hi2:i<p.Xl.length:=by rw [<- r.n];exact hi
 have h:=r.l i _ _ (Qa hi2) (Qa hi);have h1:=pk.w.rz _ (Qd hi2);have h2:=pk.w.rw' _ (Qd hi2);exact ⟨by have:=h.1;omega,fun v hv=>mB (h.2 v hv) (by omega)⟩
theorem OU {p:Prg} {c:Xe} (h:cfgE p c=0) {rs:List (List Int)} (r:RV p rs):cfgE p { c with Xl:=rs }=0:=by
 have cv:=(G3 p c).1 h;have v:=vprog cv.prg;exact (G3 p _).2 ⟨cv.prg,cv.rl,cv.nl,cv.dl,cv.tab,WG v r⟩
theorem W0 {p:Prg} {c:Xe} (ct:CfgT c) {rs:List (List Int)} (h:rs.length<2^40/\∀l∈rs,l.length<2^40/\∀v∈l,ok32 0 v):CfgT { c with Xl:=rs }:=
 ⟨ct.rl,ct.rs,ct.nl,ct.dl,ct.ds,h.1,h.2⟩
theorem fsF:PrgS pF:=IX JW
theorem o8 {x:Int} (h:by8 x):ok32 0 x:=⟨h.1,by have:=h.2;omega⟩
theorem r1S {port ver:Int} (hp:by8 port) (hv:by8 ver):EntS (r1F port ver).entry:=⟨by simp [r1F],fun m hm=>by
 simp [r1F] at hm;subst hm;exact ⟨o8 hp,(by decide:(0:Int)<=255),(by decide:(255:Int)<=4294967295)⟩,by simp [r1F],fun v h=>by
 simp [r1F] at h;subst h;exact o8 hv⟩
theorem x2S {k0 k1 k2 k3 k4 k5:Xh} (h0:G8 k0) (h1:G8 k1) (h2:G8 k2) (h3:G8 k3) (h4:G8 k4) (h5:G8 k5) {pr a b:Int} (ha:by8 a) (hb:by8 b):EntS (x2F k0 k1 k2 k3 k4 k5 pr a b):=⟨by simp [x2F],fun m hm=>by
 have g:G8 m:=by
  simp [x2F] at hm;rcases hm with rfl | rfl | rfl | rfl | rfl | rfl<;>assumption
 exact ⟨o8 g.v,o8 g.m⟩,by simp [x2F],fun v h=>by
 simp [x2F] at h;rcases h with rfl | rfl
 ·exact o8 ha
 ·exact o8 hb⟩
theorem T0:CfgT (lU pF):=EU JW
theorem T1 {port ver:Int} (hp:by8 port) (hv:by8 ver):CfgT (c1F port ver):=by
 have t:=T0;refine ⟨(by decide:3<2^40),?_,(by decide:3<2^40),t.dl,t.ds,t.gl,t.gs⟩;intro l hl;have:(c1F port ver).rows=[[r1F port ver],[],[]]:=rfl;rw [this] at hl;simp at hl;rcases hl with rfl | rfl
 ·exact ⟨by simp,fun r hr=>by simp at hr;subst hr;exact r1S hp hv⟩
 ·simp
theorem T2 {port ver:Int} {x:Entry} (hp:by8 port) (hv:by8 ver) (hx:EntS x):CfgT (c2F port ver x):=by
 have t:=T0;refine ⟨by rw [DS];simp,?_,(by decide:3<2^40),t.dl,t.ds,t.gl,t.gs⟩;intro l hl;rw [DS] at hl;simp at hl;rcases hl with rfl | rfl | rfl
 ·exact ⟨by simp,fun r hr=>by simp at hr;subst hr;exact r1S hp hv⟩
 ·simp
 ·exact ⟨by simp,fun r hr=>by simp at hr;subst hr;exact hx⟩
theorem S2 {port ver:Int} {x:Entry} (hp:by8 port) (hv:by8 ver) (hx:EntS x):CS (c2F port ver x):=by
 have t:=T2 hp hv hx;refine ⟨t.rl,?_,t.nl,t.dl,fun d hd=>(t.ds d hd).1,t.gl,?_⟩
 ·intro l hl;have h:=t.rs l hl;rw [DS] at hl;refine ⟨?_,fun r hr=>⟨(h.2 r hr).kl,(h.2 r hr).al⟩⟩;simp at hl;rcases hl with rfl | rfl | rfl<;>simp
 ·exact fun l hl=>(t.gs l hl).1
theorem U2 {port ver:Int} {x:Entry} (hp:by8 port) (hv:by8 ver) (hx:EntS x):CfgU (c2F port ver x):=⟨T2 hp hv hx,fun l hl=>by
 rw [DS] at hl;simp at hl;rcases hl with rfl | rfl | rfl<;>simp⟩
theorem ingE (a b:Int):a9 Φ 28 [.int .i64 a,.int .i64 b]=some (.val (.agg (Entry.c ⟨[⟨iand .u32 (IntKind.wrap .u32 a) 255,255⟩],0,⟨0,[iand .u32 (IntKind.wrap .u32 b) 255]⟩⟩))):=zG (n:=100) (by kernel_rfl)
def ptk (x:Int) (k:Int):Int:=iand .u32 (IntKind.wrap .u32 (ishr .u64 x k)) 255
theorem firE (a b v m to lab:Int):a9 Φ 31 [.int .i64 a,.int .i64 b,.int .i64 7,.agg [.int .u64 v,.int .u64 m],.agg [.int .i64 2,.slice 1 [[.int .u32 to],[.int .u32 lab]]]]=
  some (.val (.agg (Entry.c (x2F ⟨iand .u32 (IntKind.wrap .u32 a) 255,255⟩ ⟨iand .u32 (IntKind.wrap .u32 b) 255,255⟩ ⟨0,255⟩ ⟨ptk v 16,ptk m 16⟩ ⟨ptk v 8,ptk m 8⟩ ⟨ptk v 0,ptk m 0⟩ 7 to lab)))):=zG (n:=100) (by kernel_rfl)
theorem nexE (a b to lab:Int):a9 Φ 29 [.int .i64 a,.int .i64 b,.agg [.int .i64 2,.slice 1 [[.int .u32 to],[.int .u32 lab]]]]=
  some (.val (.agg (Entry.c (x2F ⟨0,0⟩ ⟨iand .u32 (IntKind.wrap .u32 a) 255,255⟩ ⟨iand .u32 (IntKind.wrap .u32 b) 255,255⟩ ⟨0,0⟩ ⟨0,0⟩ ⟨0,0⟩ 0 to lab)))):=zG (n:=100) (by kernel_rfl)
theorem encE (s t u:Int):a9 Φ 32 [.agg [.int .u8 s,.int .u8 t,.int .u8 u],.slice 1 [[.int .u8 9]]]=some (.val (.slice 1 ([1,s,t,u,9].map c8))):=zG (n:=100) (by kernel_rfl)
theorem flowE {s t u:Int} (hs:by8 s) (ht:by8 t) (hu:by8 u):a9 Φ 34 [.agg [.int .u8 s,.int .u8 t,.int .u8 u]]=some (.val (.int .u64 (s*65536+t*256+u))):=by
 obtain ⟨_,_⟩:=hs;obtain ⟨_,_⟩:=ht;obtain ⟨_,_⟩:=hu;have w:∀x:Int,0<=x->x<18446744073709551616->IntKind.wrap .u64 x=x:=fun x h0 h1=>D3 h0 (by omega)
 rw [aC rfl rfl];simp [EA,w s (by omega) (by omega),w t (by omega) (by omega),w u (by omega) (by omega),w (s*65536) (by omega) (by omega),w (t*256) (by omega) (by omega),w (s*65536+t*256) (by omega) (by omega),w (s*65536+t*256+u) (by omega) (by omega)]
theorem Oa:a9 Φ 24 []=some (.val (.bool true)):=Ze (n:=200) (by kernel_rfl)
@[ext] structure Ingress where
 port:Int
 version:Int
 dest:Int
 label:Int
 cube:Cube
 flow:Flow
 deriving DecidableEq,Inhabited
def Ingress.c (x:Ingress):List AV:=[.int .u8 x.port,.int .u8 x.version,.int .u8 x.dest,.int .u8 x.label,.int .u64 x.cube.value,.int .u64 x.cube.Yd,.int .u8 x.flow.src,.int .u8 x.flow.dst,.int .u8 x.flow.typ]
@[simp] theorem Ingress.c_length (x:Ingress):(Ingress.c x).length=9:=by simp [Ingress.c]
def Ingress.Ok (B:Nat) (x:Ingress):Prop:=ok8 B x.port/\ok8 B x.version/\ok8 B x.dest/\ok8 B x.label/\Cube.Ok B x.cube/\Flow.Ok B x.flow
theorem Ingress.rd {P:Go.Program} {B:Nat} {t:TypeId} {f0 f1 f2 f3 f4 f5:Go.Field} (hu:P.underlying t=some (.struct #[f0,f1,f2,f3,f4,f5])) (h0:Rd P B f0.type c8 (ok8 B)) (h1:Rd P B f1.type c8 (ok8 B)) (h2:Rd P B f2.type c8 (ok8 B)) (h3:Rd P B f3.type c8 (ok8 B)) (h4:Rd P B f4.type Cube.c (Cube.Ok B)) (h5:Rd P B f5.type Flow.c (Flow.Ok B)):Rd P B t Ingress.c (Ingress.Ok B):=
 .st hu (h0.q (h1.q (h2.q (h3.q (h4.q h5.o))))) fun ⟨a,b,c,d,e,f⟩ h=>⟨⟨a,b,c,d,e,f⟩,by simp [Ingress.c,Cube.c,Flow.c,c8],h⟩
theorem Co:∀{O:List (Nat×AO)} {N:Nat},Tail O N->O.filter (fun p=>decide (p.1<N))=O
 | [],_,_=>rfl
 | (u,x)::r,N,h=>by
  obtain ⟨h1,h2⟩:=Tail_cons_iff.1 h;rw [List.filter_cons_of_pos (by simpa using h1),Co h2]
theorem Cn:∀{O:List (Nat×AO)} {N:Nat},Tail O N->O.filter (fun p=> !decide (p.1<N))=[]
 | [],_,_=>rfl
 | (u,x)::r,N,h=>by
  obtain ⟨h1,h2⟩:=Tail_cons_iff.1 h;rw [List.filter_cons_of_neg (by simpa using h1),Cn h2]
theorem wr8 {x:Int} (h:by8 x):IntKind.wrap .i64 x=x:=by
 obtain ⟨n,rfl⟩:=mP h.1;have:=h.2;exact cU
theorem wr8u {x:Int} (h:by8 x):IntKind.wrap .u32 x=x:=v7 h.1 (by have:=h.2;omega)
theorem Np {c:Xe} (cv:CfgV pF c) (ct:CfgT c) (cs:CS c) {k:Packet} (hk:bOk k.data) {r:Rslt} {rs:List (List Int)} (h:runX pF c k=some (r,rs)):
  a9 Φ 13 [.agg pF.c,.agg c.c,.agg k.c]=some (.val (.tup [.agg r.c,.agg (Xe.c { c with Xl:=rs })]))/\a9 Φ 22 [.agg pF.c,.agg (Xe.c { c with Xl:=rs })]=some (.val (.int .i64 0)):=by
 have z:=(G3 pF c).2 cv;obtain ⟨⟨pk,cvv⟩,cf,rv⟩:=Js fsF ct z;have hr:=Nn pk rv h;refine ⟨PX fsF pcF ct cs (fun h=>Js fsF ct h) k hk ?_,?_⟩
 ·simp [z,ra,runL,h]
 ·have:=QP pF fsF pF_hv pcF { c with Xl:=rs } (W0 (p:=pF) ct (X5 pk hr));rw [OU z hr] at this;exact this
theorem Vt (x:Ingress) (o:x.Ok iH):a9 Φ 10 [.agg (Ingress.c x)]=some (.val (.bool true)):=by
 obtain ⟨port,ver,to,lab,⟨V,M⟩,⟨s,t,u⟩⟩:=x;obtain ⟨hp,hv,hto,hl,⟨hV,hM⟩,⟨hs,ht,hu⟩⟩:=o;have b8:∀{y:Int},ok8 iH y->by8 y:=fun h=>⟨h.1,by have:=h.2;omega⟩
 replace hp:by8 port:=b8 hp
 replace hv:by8 ver:=b8 hv
 replace hto:by8 to:=b8 hto
 replace hl:by8 lab:=b8 hl
 replace hs:by8 s:=b8 hs
 replace ht:by8 t:=b8 ht
 replace hu:by8 u:=b8 hu
 replace hV:v6 V:=⟨hV.1,by have:=hV.2;simp only at this;omega⟩
 replace hM:v6 M:=⟨hM.1,by have:=hM.2;simp only at this;omega⟩
 have hC:v6 (iand .u64 V M):=by
  rw [DP hV hM];have:=Nat.and_le_left (n:=V.toNat) (m:=M.toNat);have h1:=hV.1;have h2:=hV.2;exact ⟨by omega,by omega⟩
 have hCn:(iand .u64 V M).toNat=V.toNat&&& M.toNat:=by rw [DP hV hM];rfl
 have i0:=ingE port ver;rw [wr8u hp,wr8u hv,i8 hp,i8 hv] at i0
 replace i0:a9 Φ 28 [.int .i64 port,.int .i64 ver]=some (.val (.agg (Entry.c (r1F port ver).entry))):=i0
 have i1:=firE port ver (iand .u64 V M) M to lab;have pe:∀k:Nat,k<64->(⟨ptk (iand .u64 V M) k,ptk M k⟩:Xh)=keyF V.toNat M.toNat k:=fun k hk=>by
  unfold ptk keyF;rw [Mc hC k hk,Mc hM k hk,hCn]
 have p16:=pe 16 (by decide);have p8:=pe 8 (by decide);have p0:=pe 0 (by decide);simp only [HB] at p16 p8 p0;rw [wr8u hp,wr8u hv,i8 hp,i8 hv,p16,p8,p0] at i1;have g0:=G8.ex hp;have g1:=G8.ex hv;have g2:=G8.ex (x:=0) ⟨by decide,by decide⟩;have g3:=D8 V.toNat M.toNat 16;have g4:=D8 V.toNat M.toNat 8;have g5:=D8 V.toNat M.toNat 0;have hmt:=PG hp hv hs ht hu V.toNat M.toNat to lab;have z2:=ent2 g0 g1 g2 g3 g4 g5 (pr:=7) (a:=to) (b:=lab) (.inr rfl) hto hl;have xs:=x2S g0 g1 g2 g3 g4 g5 (pr:=7) (a:=to) (b:=lab) hto hl;have hx2:(x2F ⟨port,255⟩ ⟨ver,255⟩ ⟨0,255⟩ (keyF V.toNat M.toNat 16) (keyF V.toNat M.toNat 8) (keyF V.toNat M.toNat 0) 7 to lab).call=⟨2,[to,lab]⟩:=rfl;generalize x2F ⟨port,255⟩ ⟨ver,255⟩ ⟨0,255⟩ (keyF V.toNat M.toNat 16) (keyF V.toNat M.toNat 8) (keyF V.toNat M.toNat 0) 7 to lab=X at*;rcases EK pF JW pcF (O:=[]) (N:=2) (Tail.nil 2) with ⟨hz,_⟩ | ⟨_,Sa,O1,N1,e1,m1,f1,k1,T1',l1⟩
 ·exact absurd Mf hz
 have q2:=IB m1 fsF cfg0 T0 T1' 0 (r1F port ver).entry (r1S hp hv);rw [ins0 hp hv] at q2;simp only [if_true] at q2;obtain ⟨Sb,O2,N2,e2,m2,s2,f2,k2,T2',l2⟩:=q2;have q3:=IB m2 fsF (cfg1 hp hv) (T1 hp hv) T2' 2 X xs;rw [show insC (lU pF) 0 (r1F port ver).entry=c1F port ver from rfl,ins2 z2] at q3;simp only [if_true] at q3;obtain ⟨Sc,O3,N3,e3,m3,s3,f3,k3,T3',l3⟩:=q3;have cv:=cfg2 hp hv z2;have ct:=T2 hp hv xs;have cs:=S2 hp hv xs;have cu:=U2 hp hv xs;rw [show insC (c1F port ver) 2 X=c2F port ver X from rfl] at m3;obtain ⟨rs,hits,hrun⟩:=NO (DS port ver X) (dfl2 port ver X) hx2 hp hv hs ht hu hto hl [9] (by decide);rw [hmt] at hrun;have hbk:bOk [1,s,t,u,9]:=by
  intro y hy;simp at hy;rcases hy with rfl | rfl | rfl | rfl | rfl
  ·decide
  ·exact hs
  ·exact ht
  ·exact hu
  ·decide
 obtain ⟨r1,r2⟩:=Np cv ct cs (k:=⟨port,[1,s,t,u,9]⟩) hbk hrun;have sn:=fun N n=>m3.snp (N:=N) (n:=n)
 have pc:=Gt (p:=pF) cu Sc;have ef:=flowE hs ht hu;have ee:=encE s t u;generalize c2F port ver X=c at*;have w1:=wr8 hp;have w2:=wr8 hv;have w3:=wr8u hto;have w4:=wr8u hl;have w5:=wr8 hto;have o1:=Co T3';have o2:=Cn T3';have t3:∀k,look (N3+k) O3=none:=fun k=>T3' _ (by omega)
 have fp:=Mo;have rp:=UT;rw [s2] at e3;rw [s3,s2] at sn;simp only [Prg.e] at e1 r1 r2 fp rp;have sn40:∀N,snap 40 ⟨O3,N⟩ (.ptr Sa.s 15 0 0)=some (.iptr 15 [Sc.snap pF c] 0 0):=fun N=>sn N 33
 have hE:v6 (s*65536+t*256+u):=by
  obtain ⟨_,_⟩:=hs;obtain ⟨_,_⟩:=ht;obtain ⟨_,_⟩:=hu;exact ⟨by omega,by omega⟩
 have hA:v6 (iand .u64 (s*65536+t*256+u) M):=by
  rw [DP hE hM];have:=Nat.and_le_left (n:=(s*65536+t*256+u).toNat) (m:=M.toNat);have h1:=hE.1;have h2:=hE.2;exact ⟨by omega,by omega⟩
 have cE1:iand .u64 (iand .u64 (s*65536+t*256+u) M) 16777215=(((s*65536+t*256+u).toNat&&& M.toNat&&& 16777215:Nat):Int):=by
  rw [DP hA ⟨by decide,by decide⟩,DP hE hM];rfl
 have cE2:iand .u64 (iand .u64 V M) 16777215=((V.toNat&&& M.toNat&&& 16777215:Nat):Int):=by
  rw [DP hC ⟨by decide,by decide⟩,hCn];rfl
 have wk:=Oa;have n1:(N3+61 == N3)=false/\(N3+60 == N3)=false/\(N3+1 == N3)=false/\(N3 == N3+1)=false:=by simp
 rw [aC rfl rfl];by_cases q:(s*65536+t*256+u).toNat&&& M.toNat&&& 16777215=V.toNat&&& M.toNat&&& 16777215
 ·rw [decide_eq_true q] at r1;simp only [if_true,Rslt.c,Packet.c,Xe.c,jL,oJ,c8] at r1;have eb:=KS [2,ver,lab,s,t,u,9];simp only [jL,oJ,c8] at eb ee;simp only [Xe.c] at pc r2;simp [AQ,Wr.above,n1,Ingress.c,Prg.e,Xe.c,eb,fp,e1,i0,w1,w2,w3,w4,w5,e2,i1,e3,GU,AH.old,AH.cut,t3,aA,a7,o1,o2,sn40,pc,ee,r1,r2,rp,ef,cE1,cE2,q,wk,d7]
 ·rw [decide_eq_false q] at r1;simp only [iV,if_false,Rslt.c,Packet.c,Xe.c,jL,oJ,c8] at r1;simp only [jL,oJ,c8] at ee;simp only [Xe.c] at pc r2;simp [AQ,Wr.above,n1,Ingress.c,Prg.e,Xe.c,fp,e1,i0,w1,w2,w3,w4,e2,i1,e3,GU,AH.old,AH.cut,t3,aA,a7,o1,o2,sn40,pc,ee,r1,r2,rp,ef,cE1,cE2,q,wk,d7]
theorem Vq (x:Ingress) (pay:List Int) (o:x.Ok iH) (op:okL iH (ok8 iH) pay):a9 Φ 9 [.agg (Ingress.c x),.slice 1 (pay.map c8)]=some (.val (.bool true)):=by
 obtain ⟨port,ver,to,lab,⟨V,M⟩,⟨s,t,u⟩⟩:=x;obtain ⟨hp,hv,hto,hl,_,⟨hs,ht,hu⟩⟩:=o;have b8:∀{y:Int},ok8 iH y->by8 y:=fun h=>⟨h.1,by have:=h.2;omega⟩
 replace hp:by8 port:=b8 hp
 replace hv:by8 ver:=b8 hv
 replace hto:by8 to:=b8 hto
 replace hl:by8 lab:=b8 hl
 replace hs:by8 s:=b8 hs
 replace ht:by8 t:=b8 ht
 replace hu:by8 u:=b8 hu
 have wk:=Oa;rw [aC rfl rfl];by_cases hlen:300<pay.length
 ·simp [KD,Ingress.c,hlen,wk]
 have i0:=ingE port ver;rw [wr8u hp,wr8u hv,i8 hp,i8 hv] at i0
 replace i0:a9 Φ 28 [.int .i64 port,.int .i64 ver]=some (.val (.agg (Entry.c (r1F port ver).entry))):=i0
 have i1:=nexE ver lab to 0;rw [wr8u hv,wr8u hl,i8 hv,i8 hl] at i1;have h0:by8 0:=⟨by decide,by decide⟩;have g1:=G8.ex hv;have g2:=G8.ex hl;have z2:=ent2 G8.free g1 g2 G8.free G8.free G8.free (pr:=0) (a:=to) (b:=0) (.inl rfl) hto h0;have xs:=x2S G8.free g1 g2 G8.free G8.free G8.free (pr:=0) (a:=to) (b:=0) hto h0;generalize x2F ⟨0,0⟩ ⟨ver,255⟩ ⟨lab,255⟩ ⟨0,0⟩ ⟨0,0⟩ ⟨0,0⟩ 0 to 0=X at*;rcases EK pF JW pcF (O:=[]) (N:=1) (Tail.nil 1) with ⟨hz,_⟩ | ⟨_,Sa,O1,N1,e1,m1,f1,k1,T1',l1⟩
 ·exact absurd Mf hz
 have q2:=IB m1 fsF cfg0 T0 T1' 0 (r1F port ver).entry (r1S hp hv);rw [ins0 hp hv] at q2;simp only [if_true] at q2;obtain ⟨Sb,O2,N2,e2,m2,s2,f2,k2,T2',l2⟩:=q2;have q3:=IB m2 fsF (cfg1 hp hv) (T1 hp hv) T2' 2 X xs;rw [show insC (lU pF) 0 (r1F port ver).entry=c1F port ver from rfl,ins2 z2] at q3;simp only [if_true] at q3;obtain ⟨Sc,O3,N3,e3,m3,s3,f3,k3,T3',l3⟩:=q3;have cv:=cfg2 hp hv z2;have ct:=T2 hp hv xs;have cs:=S2 hp hv xs;have cu:=U2 hp hv xs;rw [show insC (c1F port ver) 2 X=c2F port ver X from rfl] at m3;obtain ⟨rs,hits,hrun⟩:=NN (DS port ver X) (dfl2 port ver X) hp hv hl hs ht hu pay (by omega);have hbk:bOk (2::ver::lab::s::t::u::pay):=by
  intro y hy;simp at hy;rcases hy with rfl | rfl | rfl | rfl | rfl | rfl | hy
  ·decide
  ·exact hv
  ·exact hl
  ·exact hs
  ·exact ht
  ·exact hu
  ·exact b8 (op.2 y hy)
 obtain ⟨r1,r2⟩:=Np cv ct cs (k:=⟨port,2::ver::lab::s::t::u::pay⟩) hbk hrun;have m4:StoreM (O3++[(N3,AO.tok 1 (6+pay.length))]) Sc pF (c2F port ver X):=m3.kp (X:=fun _=>False) T3' (Kp.app (fun _ _ _=>rfl) (Qb _)) (by simp);have sn:=fun N=>m4.snp (N:=N) (n:=33)
 have pc:=Gt (p:=pF) cu Sc;generalize c2F port ver X=c at*;have w1:=wr8 hp;have w2:=wr8 hv;have w3:=wr8u hto;have w4:=wr8 hl;have o1:=Co (T3'.mono (Nat.le_succ N3));have o2:=Cn (T3'.mono (Nat.le_succ N3));have t3:∀k,look (N3+k) O3=none:=fun k=>T3' _ (by omega)
 have t30:look N3 O3=none:=T3' _ (Qb _);have fp:=Mo;have n1:(N3+66 == N3)=false/\(N3+65 == N3)=false/\(N3+1 == N3)=false/\(N3 == N3+1)=false:=by simp
 rw [s2] at e3;rw [s3,s2] at sn;have al:jK 1 (pay.map c8)=true:=p6 1 c8 pay fun x=>by simp
 have b1:6+pay.length<=70368744177664:=by omega
 simp only [Prg.e] at e1 r1 r2 fp;simp only [Rslt.c,Packet.c,Xe.c,jL,oJ,c8] at r1;simp only [Xe.c] at pc r2;simp [KD,Wr.above,n1,Ingress.c,Prg.e,Xe.c,hlen,fp,e1,i0,w1,w2,w3,w4,e2,i1,e3,GU,AH.old,AH.cut,t3,t30,aA,a7,o1,o2,sn,pc,r1,wk,al,b1,d7]
end Go.Av
