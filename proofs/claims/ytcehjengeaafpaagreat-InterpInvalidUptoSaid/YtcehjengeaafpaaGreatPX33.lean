/-
 A value is equal to itself.
-/
import Derived.Test.YtcehjengeaafpaaGreatPX22
set_option linter.unusedVariables false
set_option linter.unusedSimpArgs false
set_option linter.constructorNameAsVariable false
namespace Go.Av
set_option maxRecDepth 4000
def Rf (n:Nat) (a:AV):Prop:=avEq n a a=true
def RfL (n:Nat) (l:List AV):Prop:=∀a∈l,Rf n a
theorem MN {Z:Type} {f:Z->Z->Bool}:∀{l:List Z},(∀a∈l,f a a=true)->eqL f l l=true
 | [],_=>rfl
 | a::l,h=>by
  simp only [eqL,dJ];exact ⟨h a (by simp),MN fun b hb=>h b (by simp [hb])⟩
theorem mX (n:Nat) (k:IntKind) (x:Int):Rf (n+1) (.int k x):=by simp [Rf,avEq]
theorem qww (n:Nat) (x:Bool):Rf (n+1) (.bool x):=by simp [Rf,avEq]
theorem N6 (n:Nat) (x:List UInt8):Rf (n+1) (.str x):=by simp [Rf,avEq]
theorem fS {Z:Type} {n z:Nat} {l:List Z} {f:Z->List AV} (h:∀x∈l,RfL n (f x)):Rf (n+1) (.slice z (l.map f)):=by
 simp only [Rf,avEq,dJ];refine ⟨by simp,MN fun x hx=>MN fun a ha=>?_⟩;obtain ⟨y,hy,rfl⟩:=lH.1 hx;exact h y hy a ha
theorem Mz {Z:Type} {n z t:Nat} {l:List Z} {f:Z->List AV} (h:∀x∈l,RfL n (f x)):Rf (n+1) (.app z (l.map f) t):=by
 simp only [Rf,avEq,dJ];refine ⟨by simp,MN fun x hx=>MN fun a ha=>?_⟩;obtain ⟨y,hy,rfl⟩:=lH.1 hx;exact h y hy a ha
theorem Lp (n z:Nat):Rf (n+1) (.Xt z []):=by simp [Rf,avEq,eqL]
theorem lO (n:Nat):RfL n []:=fun _ h=>by cases h
theorem bU {n:Nat} {a:AV} {l:List AV} (h:Rf n a) (h2:RfL n l):RfL n (a::l):=fun b hb=>by
 rcases iW.1 hb with rfl | hb
 ·exact h
 ·exact h2 b hb
theorem N5 (n:Nat) (x:Int):RfL (n+1) (c32 x):=bU (mX ..) (lO _)
theorem rf_c8 (n:Nat) (x:Int):RfL (n+1) (c8 x):=bU (mX ..) (lO _)
theorem WW (n:Nat) (x:Int):RfL (n+1) (cI x):=bU (mX ..) (lO _)
theorem rf_cB (n:Nat) (x:Bool):RfL (n+1) (cB x):=bU (qww ..) (lO _)
theorem WX {Z:Type} {n z:Nat} {f:Z->List AV} (h:∀x,RfL n (f x)) (l:List Z):RfL (n+1) (cS z f l):=bU (fS fun x _=>h x) (lO _)
theorem Tn (n:Nat) (x:Fld):RfL (n+1) (Fld.c x):=by
 simp only [Fld.c];exact bU (N6 ..) (bU (mX ..) (lO _))
theorem Lq (n:Nat) (x:Xi):RfL (n+2) (Xi.c x):=by
 simp only [Xi.c];exact bU (N6 ..) (bU (fS fun y _=>Tn n y) (lO _))
theorem Lt (n:Nat) (x:Xg):RfL (n+1) (Xg.c x):=by
 simp only [Xg.c];exact bU (N6 ..) (bU (mX ..) (bU (mX ..) (lO _)))
theorem RA (n:Nat) (x:Xd):RfL (n+1) (Xd.c x):=by
 simp only [Xd.c];exact bU (mX ..) (bU (mX ..) (bU (mX ..) (lO _)))
theorem Lv (n:Nat) (x:Xf):RfL (n+2) (Xf.c x):=by
 rw [Xf.e]
 repeat first | exact lO _ | refine bU (mX ..) ?_ | refine bU (fS fun y _=>RA n y) ?_
theorem My (n:Nat) (x:Action):RfL (n+3) (Action.c x):=by
 rw [Action.e];exact bU (N6 ..) (bU (fS fun y _=>Tn (n+1) y) (bU (fS fun y _=>Lv n y) (lO _)))
theorem Lx (n:Nat) (x:Xk):RfL (n+1) (Xk.c x):=by
 simp only [Xk.c,FieldRef.c,n9,wE]
 repeat first | exact lO _ | refine bU (mX ..) ?_
theorem Lw (n:Nat) (x:Tbl):RfL (n+2) (Tbl.c x):=by
 simp only [Tbl.c,Xb.c,n9,wE]
 repeat first | exact lO _ | refine bU (mX ..) ?_ | refine bU (N6 ..) ?_ | refine bU (fS fun y _=>Lx n y) ?_ | refine bU (fS fun y _=>WW n y) ?_ | refine bU (fS fun y _=>N5 n y) ?_
theorem Lu (n:Nat) (x:Xj):RfL (n+1) (Xj.c x):=by
 simp only [Xj.c]
 repeat first | exact lO _ | refine bU (mX ..) ?_
theorem Ls (n:Nat) (x:Xc):RfL (n+2) (Xc.c x):=by
 simp only [Xc.c]
 repeat first | exact lO _ | refine bU (mX ..) ?_ | refine bU (qww ..) ?_ | refine bU (N6 ..) ?_ | refine bU (fS fun y _=>Lu n y) ?_ | refine bU (fS fun y _=>WW n y) ?_
theorem Tm (n:Nat):∀(d:Nat) (l:List Xa),nest l<=d->∀x∈l,RfL (n+d+2) (Xa.c x)
 | 0,l,h,x,hx=>by
  have:=UU hx;omega
 | d+1,l,h,.mk k t c a b,hx=>by
  have h1:=UU hx;simp only [EH] at h1;rw [Xa.e];have e:n+(d+1)+2=(n+d+2)+1:=by omega
  have e2:n+(d+1)+2=(n+d+1)+1+1:=by omega
  refine bU (mX ..) (bU (mX ..) (bU ?_ (bU ?_ (bU ?_ (lO _)))))
  ·rw [e2];exact fS fun y _=>RA _ y
  ·rw [e];exact fS fun y hy=>Tm n d a (by omega) y hy
  ·rw [e];exact fS fun y hy=>Tm n d b (by omega) y hy
theorem rf_km (n:Nat) (x:Xh):RfL (n+1) (Xh.c x):=by
 simp only [Xh.c]
 repeat first | exact lO _ | refine bU (mX ..) ?_
theorem rf_rw (n:Nat) (x:Rw):RfL (n+2) (Rw.c x):=by
 rw [Rw.ce]
 repeat first | exact lO _ | refine bU (mX ..) ?_ | refine bU (fS fun y _=>rf_km n y) ?_ | refine bU (fS fun y _=>N5 n y) ?_
theorem Ih (n:Nat) (x:Xb):RfL (n+2) (Xb.c x):=by
 simp only [Xb.c];exact bU (mX ..) (bU (fS fun y _=>N5 n y) (lO _))
theorem Lr (n:Nat) (x:Hit):RfL (n+1) (Hit.c x):=by
 simp only [Hit.c]
 repeat first | exact lO _ | refine bU (mX ..) ?_
theorem rf_mC {p:Prg} (c:Xe) (e:Envt) (rs:List (List Int)) {O:List (Nat×AO)} {h:List Hit} {hv:AV} (hh:HV O h hv) (hd:nest p.Ya<=30):RfL 40 (mC p c e rs hv):=by
 have hvr:Rf 40 hv:=by
  rcases hh with ⟨_,rfl⟩ | ⟨tk,rfl,_⟩
  ·exact Lp ..
  ·exact Mz fun y _=>Lr _ y
 simp only [mC];refine bU (fS fun y _=>rf_cB _ y) (bU (fS fun y _=>WX (N5 37) y) (bU (fS fun y _=>N5 _ y) (bU (fS fun y _=>rf_c8 _ y) (bU (fS fun y _=>WX (N5 37) y) (bU hvr ?_)))));refine bU (N6 ..) (bU (fS fun y _=>Lq _ y) (bU (fS fun y _=>Tn _ y) (bU (fS fun y _=>Lt _ y) (bU (fS fun y _=>My _ y) (bU (fS fun y _=>Lw _ y) (bU (fS fun y _=>Ls _ y) ?_))))));refine bU (fS fun y hy=>Tm 7 30 p.Ya hd y hy) (bU (fS fun y _=>WW _ y) ?_);exact bU (fS fun y _=>WX (rf_rw 36) y) (bU (fS fun y _=>WW _ y) (bU (fS fun y _=>Ih _ y) (bU (fS fun y _=>WX (N5 37) y) (lO _))))
theorem ao_mC {p:Prg} (c:Xe) (e:Envt) (rs:List (List Int)) {O:List (Nat×AO)} {h:List Hit} {hv:AV} (hh:HV O h hv) (hd:nest p.Ya<=30):aoEq (some (.row 19 [mC p c e rs hv])) (some (.row 19 [mC p c e rs hv]))=true:=by
 simp only [aoEq,dJ];refine ⟨by simp,MN fun x hx=>?_⟩;rw [List.mem_singleton] at hx;subst hx;exact MN fun a ha=>rf_mC c e rs hh hd a ha
set_option maxRecDepth 8000
structure CtV (p:Prg):Prop where
 n:∀x∈pre p.Ya,NdV p x/\x.cond.length<2^40
 l:(pre p.Ya).length<2^30
 d:nest p.Ya<=30
def runR (y:Option (Rslt×List (List Int))):Rt:=match y with
 | none=> .val (.tup [.agg noR.c,.slice 1 [],.bool false])
 | some x=> .val (.tup [.agg x.1.c,.slice 1 (x.2.map (cS 1 c32)),.bool true])
theorem Gd {p:Prg} (pk:PKp p) (cv:CtV p) {c:Xe} (cf:CF p c) (rv:RV p c.Xl) (k:Packet) (hb:bOk k.data):
  a8 Φ LX [.agg p.c,.agg c.c,.agg k.c]=some (runR (runX p c k)):=by
 rw [aA rfl rfl];have hp:=Az pk.fs pk.w pk.hd pk.pa hb;have hpn:∀z:prs p k.data=none,k.port<0\/255<k.port\/True:=fun _=> .inr (.inr trivial)
 rw [Prg.c] at hp;by_cases h0:k.port<0
 ·have hr:runX p c k=none:=by rw [runX,a9 (.inl h0)]
  rw [hr];cases q:prs p k.data with
  | none=>
   rw [q] at hp;obtain ⟨e,he,hp⟩:=hp;rw [Envt.ce] at hp;simp [r7,Prg.c,Xe.c,Packet.c,hp,h0,runR,noR,Rslt.c]
  | some e=>
   rw [q] at hp;simp only [ParP,Envt.ce] at hp;simp [r7,Prg.c,Xe.c,Packet.c,hp,h0,runR,noR,Rslt.c]
 by_cases h1:255<k.port
 ·have hr:runX p c k=none:=by rw [runX,a9 (.inr h1)]
  rw [hr];cases q:prs p k.data with
  | none=>
   rw [q] at hp;obtain ⟨e,he,hp⟩:=hp;rw [Envt.ce] at hp;simp [r7,Prg.c,Xe.c,Packet.c,hp,h0,h1,runR,noR,Rslt.c]
  | some e=>
   rw [q] at hp;simp only [ParP,Envt.ce] at hp;simp [r7,Prg.c,Xe.c,Packet.c,hp,h0,h1,runR,noR,Rslt.c]
 cases q:prs p k.data with
 | none=>
  have hr:runX p c k=none:=by rw [runX,QA (by omega),q]
  rw [hr];rw [q] at hp;obtain ⟨e,he,hp⟩:=hp;rw [Envt.ce] at hp;simp [r7,Prg.c,Xe.c,Packet.c,hp,he,h0,h1,runR,noR,Rslt.c]
 | some e=>
  have hr:runX p c k=some (resX p (ctX p c (nest p.Ya) p.Ya ⟨eSet p e (-1) 0 k.port,c.Xl,[]⟩),(ctX p c (nest p.Ya) p.Ya ⟨eSet p e (-1) 0 k.port,c.Xl,[]⟩).rs):=by
   rw [runX,QA (by omega),q]
  rw [hr];rw [q] at hp;simp only [ParP,Envt.ce] at hp;obtain ⟨ev,hdl,kk,hpay⟩:=RJ (fun g hg f hf=>(vhdr (pk.hd g hg)).w f hf) q;have hpl:e.payload.length<2^40:=by rw [hpay,U9];omega
  have xv0:XV p e c.Xl:=⟨ev,rv,hpl⟩;have hport:ok32 0 k.port:=⟨by omega,by omega⟩;have hset:=Ts p e (xv0.evs pk.w) (xv0.m0 pk.w) (-1) 0 k.port hport;have xv:XV p (eSet p e (-1) 0 k.port) c.Xl:=⟨ev.set _ _ _,rv,by rw [Rv];exact hpl⟩;have hwr:IntKind.wrap .u32 k.port=k.port:=L0 (by omega) (by omega);rw [Prg.c] at hset;generalize eSet p e (-1) 0 k.port=e1 at*;simp only [Envt.ce] at hset;have m0:MM p c 3 [(0,AO.row 4 [[.bool false,a7 0,.Xt 1 [],.Xt 3 []]]),(3,.row 19 [mC p c e1 c.Xl (.Xt 3 [])])] ⟨e1,c.Xl,[]⟩ (.Xt 3 []):=⟨by simp,.inl ⟨rfl,rfl⟩⟩;obtain ⟨O2,N2,hv2,hwk,m2,f2,t2,r2,n2⟩:=ZQ pk cf p.Ya cv.n m0 xv (by have:=cv.l;simp;omega) (N:=4) (Tail_cons_iff.2 ⟨by omega,Tail_cons_iff.2 ⟨by omega,Tail.nil _⟩⟩) (dU (by simp) (.one (by simp)));have xs2:XS p (ctX p c (nest p.Ya) p.Ya ⟨e1,c.Xl,[]⟩):=XS.ct _ _ _ xv;rw [fA,fT,mC] at hwk;have l0:=f2 0 4 [[.bool false,a7 0,.Xt 1 [],.Xt 3 []]] (by decide) (by simp);generalize ctX p c (nest p.Ya) p.Ya ⟨e1,c.Xl,[]⟩=s2 at*;obtain ⟨L3,N3,v1,v2,v3,v4,hrs,t3,r3,n3,hsn⟩:=XO (N:=N2+1) pk m2 xs2 (t2.mono (by omega)) r2;have hcr:=Wv s2.rs (xs2.r1 pk.w) (xs2.r2 pk.w);have l3:=(m2.app L3).l;have l03:look 0 (O2++L3)=_:=cH l0;have l32:=m2.l;have hs38:=fun O2 n2=>hsn O2 37 n2
  have ao:=ao_mC c s2.e s2.rs m2.h cv.d;rw [mC] at l3 l32 ao;simp [r7,Prg.c,Xe.c,Packet.c,hp,h0,h1,hwr,hset,hwk,hrs,l3,l32,l03,hcr,gB,r3.eq,r2.eq,r3.sw,aC,ao,hs38,runR,Rslt.c]
theorem qtb (c:Xb) (h:c.args.length<2^40):a8 Φ FD [.agg (Xb.c c)]=some (.val (.agg (Xb.c c))):=by
 rw [aA rfl rfl];have hc:=Tf c.args h;simp [Q6,Xb.c,hc]
structure CS (c:Xe):Prop where
 r:c.rows.length<2^40
 rr:∀l∈c.rows,l.length<2^39/\∀x∈l,x.entry.keys.length<2^40/\x.entry.call.args.length<2^40
 n:c.Xq.length<2^40
 d:c.Xp.length<2^40
 da:∀x∈c.Xp,x.args.length<2^40
 g:c.Xl.length<2^40
 gg:∀l∈c.Xl,l.length<2^40
def AL (O:List (Nat×AO)) (z:Nat) (A:AV) (es:List (List AV)):Prop:=(es=[]/\A= .Xt z [])\/∃tk,A= .app z es tk/\look tk O=some (.tok z es.length)
def FrT (O O':List (Nat×AO)):Prop:=∀j y,look j O=some y->look j O'=some y
theorem AL.fr {O O':List (Nat×AO)} {z:Nat} {A:AV} {es:List (List AV)} (h:AL O z A es) (f:FrT O O'):AL O' z A es:=by
 rcases h with h | ⟨tk,h1,h2⟩
 ·exact .inl h
 ·exact .inr ⟨tk,h1,f _ _ h2⟩
def zC:List AV:=[.Xt 1 [],.Xt 1 [],.Xt 2 [],.Xt 1 []]
theorem AL.lt {O:List (Nat×AO)} {N z:Nat} {A:AV} {es:List (List AV)} (h:AL O z A es) (f:∀k y,k<N->look k O=some y->k<N):True:=trivial
structure OLI (c:Xe) (i:Nat) (E:Env) (O:List (Nat×AO)) (N:Nat) (A:AV):Prop where
 e1:look 1 E=some (.iptr 4 [c.c] 0 0)
 e2:look 2 E=some (.ptr 0 4 0 0)
 e3:look 3 E=some (.ptr 1 4 0 0)
 e17:look 17 E=some (.slice 1 (c.rows.map (cS 5 Rw.c)))
 e18:look 18 E=some (a7 c.rows.length)
 e19:look 19 E=some (a7 i)
 l0:look 0 O=some (.row 4 [zC])
 l1:look 1 O=some (.row 4 [[A,.slice 1 (c.Xq.map cI),.Xt 2 [],.Xt 1 []]])
 a:AL O 1 A ((c.rows.take i).map (cS 5 Rw.c))
 T:Tail O N
structure ILI (l:List Rw) (j:Nat) (E0 E:Env) (O0 O:List (Nat×AO)) (N0 N:Nat):Prop where
 e:∀k,k=1\/k=2\/k=3\/k=17\/k=18\/k=19->look k E=look k E0
 e23:look 23 E=some (.slice 5 (l.map Rw.c))
 e24:look 24 E=some (a7 l.length)
 e25:look 25 E=some (a7 j)
 e6:look 6 E=some (.app 5 ((l.take j).map Rw.c) N0)
 lt:look N0 O=some (.tok 5 j)
 f:∀k y,k<N0->look k O0=some y->look k O=some y
 T:Tail O N
theorem ZC {c:Xe} (s:CS c) {R:Option Rt} {E:Env} {O:List (Nat×AO)} {N:Nat} {A:AV} (h:OLI c 0 E O N A)
  (hend:∀E O N A,OLI c c.rows.length E O N A->go Φ (finP oR.results) [.c c_45_k6] .normal ⟨E,⟨O,N⟩⟩=R):
  go Φ (finP oR.results) [.c (.loop c_45_l3),.b 0,.c c_45_k6] .normal ⟨E,⟨O,N⟩⟩=R:=by
 refine gL c.rows.length (fun i E h=>∃O N A,h=⟨O,N⟩/\OLI c i E O N A) (fun r=>r=R) ?_ ?_ 0 _ _ (Qc _) ⟨_,_,_,rfl,h⟩
 ·rintro i E _ K hi hK ⟨O,N,A,rfl,h⟩ ih;obtain ⟨e1,e2,e3,e17,e18,e19,l0,l1,a,T⟩:=h;have hw1:IntKind.wrap .i64 ((i:Int)+1)=((i+1:Nat):Int):=cN (by omega) (by have:=s.r;omega);obtain ⟨hll,hlx⟩:=s.rr _ (Qd hi);have htk:c.rows.take (i+1)=c.rows.take i++[c.rows[i]]:=Qh hi;generalize hx:c.rows[i]=l at*;have t0:=T N (Qb _);simp [c_45_l3,cS,e17,e18,e19,hi,hx,t0];refine gL l.length (fun j E2 h=>∃O2 N2,h=⟨O2,N2⟩/\ILI l j E E2 O O2 N N2) (fun r=>r=R) ?_ ?_ 0 _ _ (Qc _) ?_
  rotate_left 2
  ·refine ⟨_,_,rfl,by rintro k (rfl | rfl | rfl | rfl | rfl | rfl)<;>simp,by simp,by simp,by simp,by simp,by rw [aH,t0];simp,fun k y _ h=>cH h,Tail_append_iff.2 ⟨T.mono (by omega),Tail_cons_iff.2 ⟨by omega,Tail.nil _⟩⟩⟩
  ·rintro j E2 _ K2 hj hK2 ⟨O2,N2,rfl,h⟩ ih2;obtain ⟨e,e23,e24,e25,e6,lt,f,T2⟩:=h;have hw2:=aM j (by omega);obtain ⟨hk1,hk2⟩:=hlx _ (Qd hj);have hck:=qzh l[j].entry.keys hk1;have hcc:=qtb l[j].entry.call hk2;have htk2:l.take (j+1)=l.take j++[l[j]]:=Qh hj;have hmin:min j l.length=j:=by omega
   have bd:(j+1)*72<=70368744177664:=by omega
   generalize hy:l[j]=y at*;have t2:=T2 N2 (Qb _);have tt2:∀k,look (N2+k) O2=none:=fun k=>T2 _ (by omega)
   have fN:=fun k=>eX (n:=N2+k) T2 lt (by omega)
   rw [Xb.c] at hcc;simp [c_45_l0,Rw.ce,Xb.c,e23,e24,e25,e6,hj,hy,hw2,t2,tt2,fW,hck,hcc,lt,hmin,bd,fN,aH,aC];refine ih2 _ _ ?_;refine ⟨_,_,rfl,fun k hk=>?_,by simp [e23],by simp [e24],by simp,by simp [htk2,Rw.ce],by rw [aC,a9 rfl,lt];rfl,fun k y hk hl=>?_,d6 (T2.mono (by omega))⟩
   ·rw [<- e k hk];rcases hk with rfl | rfl | rfl | rfl | rfl | rfl<;>simp
   ·rw [aC,QA (by omega),f k y hk hl]
  ·rintro E2 _ K2 hK2 ⟨O2,N2,rfl,h⟩;obtain ⟨e,e23,e24,e25,e6,lt,f,T2⟩:=h;rw [jQ] at e6;have g1:=(e 1 (by simp)).trans e1;have g2:=(e 2 (by simp)).trans e2;have g3:=(e 3 (by simp)).trans e3;have g17:=(e 17 (by simp)).trans e17;have g18:=(e 18 (by simp)).trans e18;have g19:=(e 19 (by simp)).trans e19;have k0:=f 0 _ (T.lt l0) l0;have k1:=f 1 _ (T.lt l1) l1;have t2:=T2 N2 (Qb _);have tt2:∀k,look (N2+k) O2=none:=fun k=>T2 _ (by omega)
   have bd:(i+1)*24<=70368744177664:=by have:=s.r;omega
   have fz:mapO (mapO (snap 39 ⟨O2,N2⟩)) (l.map Rw.c)=some (l.map Rw.c):=r9 (g:=Rw.c) (fun x=>by simp [Rw.ce,mapO]) l;have fN0:=fun k=>eX (n:=N2+k) T2 k0 (by omega)
   have fN1:=fun k=>eX (n:=N2+k) T2 k1 (by omega)
   have hmin:min i c.rows.length=i:=by omega
   have next:∀{E3:Env} {O3:List (Nat×AO)} {N3:Nat} {A3:AV},(∀k,k=1\/k=2\/k=3\/k=17\/k=18->look k E3=look k E2)->look 19 E3=some (a7 (i+1:Nat))->look 0 O3=some (.row 4 [zC])->look 1 O3=some (.row 4 [[A3,.slice 1 (c.Xq.map cI),.Xt 2 [],.Xt 1 []]])->AL O3 1 A3 ((c.rows.take (i+1)).map (cS 5 Rw.c))->Tail O3 N3->go Φ (finP oR.results) K .normal ⟨E3,⟨O3,N3⟩⟩=R:=fun {E3 O3 N3 A3} hE h19 h0 h1 ha hT=>
    ih _ _ ⟨O3,N3,A3,rfl,by rw [hE 1 (by simp),g1],by rw [hE 2 (by simp),g2],by rw [hE 3 (by simp),g3],by rw [hE 17 (by simp),g17],by rw [hE 18 (by simp),g18],h19,h0,h1,ha,hT⟩
   simp [c_45_l0,e24,e25] at hK2 ⊢;rw [hK2];rcases a with ⟨ha,rfl⟩ | ⟨tk,rfl,la⟩
   ·simp [c_45_k1,c_45_k2,g3,g19,e6,k1,aH,aC,t2,tt2,fN0,fN1,hw1,fz];have hi0:c.rows.take i=[]:=by simpa using ha
    refine next (A3:= .app 1 [[.slice 5 (l.map Rw.c)]] N2) (by rintro k (rfl | rfl | rfl | rfl | rfl)<;>simp) (by simp) ?_ ?_ ?_ (d6 (Tail_append_iff.2 ⟨T2.mono (by omega),Tail_cons_iff.2 ⟨by omega,Tail.nil _⟩⟩))
    ·rw [aC,QA (by decide)];exact cH k0
    ·rw [aC,a9 rfl,cH k1];rfl
    ·right;have fn1:=eX (n:=N2) T2 k1 (Qb _);refine ⟨N2,by rw [htk,hi0];simp [cS],?_⟩;rw [aC,QA fn1.2,aH,t2,htk,hi0];simp
   ·have la2:=f tk _ (T.lt la) la;have ft:=fun k=>eX (n:=N2+k) T2 la2 (by omega)
    have tk1:¬1=tk/\¬tk=1:=by
     have:=cW k1 la2 (by simp);exact ⟨this,fun e=>this e.symm⟩
    have tk0:¬0=tk:=cW k0 la2 (by simp);rw [qN,iA,hmin] at la2;simp [c_45_k1,c_45_k2,g3,g19,e6,k1,la2,aH,aC,t2,tt2,fN0,fN1,ft,hw1,fz,hmin,bd,tk1];refine next (A3:= .app 1 ((c.rows.map (cS 5 Rw.c)).take i++[[.slice 5 (l.map Rw.c)]]) tk) (by rintro k (rfl | rfl | rfl | rfl | rfl)<;>simp) (by simp) ?_ ?_ ?_ (d6 (d6 T2))
    ·rw [aC,QA (by decide),aC,QA tk0,k0]
    ·rw [aC,a9 rfl,aC,QA tk1.1,k1];rfl
    ·right;refine ⟨tk,by rw [htk];simp [cS],?_⟩;rw [aC,QA tk1.2,aC,a9 rfl,la2,htk];simp [hmin]
 ·rintro E _ K hK ⟨O,N,A,rfl,h⟩;have h0:=h;obtain ⟨e1,e2,e3,e17,e18,e19,l0,l1,a,T⟩:=h;simp [c_45_l3,e18,e19] at hK ⊢;rw [hK];simp;refine hend _ O N A ⟨by simp [e1],by simp [e2],by simp [e3],by simp [e17],by simp [e18],by simp [e19],l0,l1,a,T⟩
structure ODI (c:Xe) (i:Nat) (E:Env) (O:List (Nat×AO)) (N:Nat) (A B:AV):Prop where
 e1:look 1 E=some (.iptr 4 [c.c] 0 0)
 e2:look 2 E=some (.ptr 0 4 0 0)
 e3:look 3 E=some (.ptr 1 4 0 0)
 e55:look 55 E=some (.slice 2 (c.Xp.map Xb.c))
 e56:look 56 E=some (a7 c.Xp.length)
 e57:look 57 E=some (a7 i)
 l0:look 0 O=some (.row 4 [zC])
 l1:look 1 O=some (.row 4 [[A,.slice 1 (c.Xq.map cI),B,.Xt 1 []]])
 a:A= .Xt 1 []/\c.rows=[]\/∃tk,A= .app 1 (c.rows.map (cS 5 Rw.c)) tk
 b:AL O 2 B ((c.Xp.take i).map Xb.c)
 T:Tail O N
theorem Ga {c:Xe} (s:CS c) {E:Env} {O:List (Nat×AO)} {N:Nat} {A:AV} (h:OLI c c.rows.length E O N A):
  go Φ (finP oR.results) [.c c_45_k6] .normal ⟨E,⟨O,N⟩⟩=some (.val (.agg c.c)):=by
 obtain ⟨e1,e2,e3,e17,e18,e19,l0,l1,a,T⟩:=h;rw [jQ] at a;rw [Xe.c] at e1;simp [c_45_k6,e1];refine gL c.Xp.length (fun i E h=>∃O N B,h=⟨O,N⟩/\ODI c i E O N A B) (fun (r:Option Rt)=>r=some (.val (.agg c.c))) ?_ ?_ 0 _ _ (Qc _) ?_
 rotate_left 2
 ·refine ⟨O,N,.Xt 2 [],rfl,by simp [e1,Xe.c],by simp [e2],by simp [e3],by simp,by simp,by simp,l0,l1,?_,.inl ⟨by simp,rfl⟩,T⟩;rcases a with ⟨h,rfl⟩ | ⟨tk,rfl,_⟩
  ·exact .inl ⟨rfl,by simpa using h⟩
  ·exact .inr ⟨tk,rfl⟩
 ·rintro i E _ K hi hK ⟨O,N,B,rfl,h⟩ ih;obtain ⟨e1,e2,e3,e55,e56,e57,l0,l1,a,b,T⟩:=h;have hw1:IntKind.wrap .i64 ((i:Int)+1)=((i+1:Nat):Int):=cN (by omega) (by have:=s.d;omega);have hcc:=qtb c.Xp[i] (s.da _ (Qd hi));have htk:c.Xp.take (i+1)=c.Xp.take i++[c.Xp[i]]:=Qh hi;generalize hx:c.Xp[i]=x at*;have t0:=T N (Qb _);have tt:∀k,look (N+k) O=none:=fun k=>T _ (by omega)
  have f1:=fun k=>eX (n:=N+k) T l1 (by omega)
  have hmin:min i c.Xp.length=i:=by omega
  have bd:(i+1)*32<=70368744177664:=by have:=s.d;omega
  have next:∀{E3:Env} {O3:List (Nat×AO)} {N3:Nat} (B3:AV),(∀k,k=1\/k=2\/k=3\/k=55\/k=56->look k E3=look k E)->look 57 E3=some (a7 (i+1:Nat))->look 0 O3=some (.row 4 [zC])->look 1 O3=some (.row 4 [[A,.slice 1 (c.Xq.map cI),B3,.Xt 1 []]])->AL O3 2 B3 ((c.Xp.take (i+1)).map Xb.c)->Tail O3 N3->go Φ (finP oR.results) K .normal ⟨E3,⟨O3,N3⟩⟩=some (.val (.agg c.c)):=fun {E3 O3 N3} B3 hE h19 h0 h1 ha hT=>
   ih _ _ ⟨O3,N3,B3,rfl,by rw [hE 1 (by simp),e1],by rw [hE 2 (by simp),e2],by rw [hE 3 (by simp),e3],by rw [hE 55 (by simp),e55],by rw [hE 56 (by simp),e56],h19,h0,h1,a,ha,hT⟩
  rw [Xb.c] at hcc;rcases b with ⟨hb,rfl⟩ | ⟨tk,rfl,lb⟩
  ·have hi0:c.Xp.take i=[]:=by simpa using hb
   simp [c_45_l4,Xb.c,e3,e55,e56,e57,hi,hx,hw1,t0,tt,fW,hcc,l1,aH,aC,f1];have lt2:N+1<N+2:=by omega
   refine next (.app 2 [[a7 x.Xy,.slice 1 (x.args.map c32)]] (N+1)) (by rintro k (rfl | rfl | rfl | rfl | rfl)<;>simp) (by simp) ?_ ?_ ?_ (d6 (Tail_append_iff.2 ⟨T.mono (by omega),Tail_cons_iff.2 ⟨lt2,Tail.nil _⟩⟩))
   ·rw [aC,QA (by decide)];exact cH l0
   ·rw [aC,a9 rfl,cH l1];rfl
   ·right;refine ⟨N+1,by rw [htk,hi0];simp [Xb.c],?_⟩;rw [aC,QA (f1 1).2,aH,tt,htk,hi0];simp
  ·have tk1:¬1=tk/\¬tk=1:=by
    have:=cW l1 lb (by simp);exact ⟨this,fun e=>this e.symm⟩
   have tk0:¬0=tk:=cW l0 lb (by simp);have ft:=fun k=>eX (n:=N+k) T lb (by omega)
   rw [qN,iA,hmin] at lb;simp [c_45_l4,Xb.c,e3,e55,e56,e57,hi,hx,hw1,t0,tt,fW,hcc,l1,lb,aH,aC,f1,ft,hmin,bd,tk1];refine next (.app 2 ((c.Xp.map Xb.c).take i++[[a7 x.Xy,.slice 1 (x.args.map c32)]]) tk) (by rintro k (rfl | rfl | rfl | rfl | rfl)<;>simp) (by simp) ?_ ?_ ?_ (d6 (d6 (T.mono (by omega))))
   ·rw [aC,QA (by decide),aC,QA tk0,l0]
   ·rw [aC,a9 rfl,aC,QA tk1.1,l1];rfl
   ·right;refine ⟨tk,by rw [htk];simp [Xb.c],?_⟩;rw [aC,QA tk1.2,aC,a9 rfl,lb,htk];simp [hmin]
 ·rintro E _ K hK ⟨O,N,B,rfl,h⟩;obtain ⟨e1,e2,e3,e55,e56,e57,l0,l1,a,b,T⟩:=h;rw [jQ] at b;have hcr:=Wv c.Xl s.g s.gg;rw [Xe.c] at e1;rw [zC] at l0;simp [oR,c_45_l4,e56,e57] at hK ⊢;rw [hK];rcases a with ⟨rfl,ha⟩ | ⟨ta,rfl⟩<;>rcases b with ⟨hb,rfl⟩ | ⟨tb,rfl,_⟩
  ·simp at hb;simp [c_45_k5,e1,e2,e3,hcr,l0,l1,aC,Xe.c,ha,hb]
  ·simp [c_45_k5,e1,e2,e3,hcr,l0,l1,aC,Xe.c,ha]
  ·simp at hb;simp [c_45_k5,e1,e2,e3,hcr,l0,l1,aC,Xe.c,hb]
  ·simp [c_45_k5,e1,e2,e3,hcr,l0,l1,aC,Xe.c]
theorem ZD (c:Xe) (s:CS c):a8 Φ F8 [.agg c.c]=some (.val (.agg c.c)):=by
 rw [aA rfl rfl];have hi:=Kb c.Xq s.n;have hR:some (Rt.val (.agg c.c))=some (Rt.val (.agg (Xe.c c))):=rfl;generalize hQ:some (Rt.val (.agg c.c))=Q;simp [oR,Xe.c,hi];rw [<- hQ];refine ZC s (A:= .Xt 1 []) ?_ fun E O N A h=>Ga s h
 exact ⟨by simp [Xe.c],by simp,by simp,by simp,by simp,by simp,by simp [zC],by simp,.inl ⟨by simp,rfl⟩,Tail_cons_iff.2 ⟨by omega,Tail_cons_iff.2 ⟨by omega,Tail.nil _⟩⟩⟩
def ra (b:Bool) (p:Prg) (c:Xe) (l:List Packet):List Rslt×Xe:=if b then runL p c l else (l.map fun _=>noR,c)
structure RAI (p:Prg) (b:Bool) (l:List Packet) (R:List Rslt×Xe) (d tk i:Nat) (E:Env) (O:List (Nat×AO)) (N:Nat) (outs:List Rslt) (c:Xe):Prop where
 e3:look 3 E=some (.iptr 9 [p.c] 0 0)
 e7:look 7 E=some (.ptr 0 4 0 0)
 e8:look 8 E=some (.ptr d 4 0 0)
 e9:look 9 E=some (.bool b)
 e10:look 10 E=some (.app 4 (outs.map Rslt.c) tk)
 e23:look 23 E=some (.slice 2 (l.map Packet.c))
 e24:look 24 E=some (a7 l.length)
 e25:look 25 E=some (a7 i)
 l0:look 0 O=some (.row 4 [zC])
 ld:look d O=some (.row 4 [c.c])
 lt:look tk O=some (.tok 4 outs.length)
 T:Tail O N
 n:outs.length=i
 hR:R=(outs++(ra b p c (l.drop i)).1,(ra b p c (l.drop i)).2)
 v:b=true->CF p c/\RV p c.Xl
theorem Hf {p:Prg} (pk:PKp p) {c:Xe} (rv:RV p c.Xl) {k:Packet} {r:Rslt} {rs:List (List Int)} (h:runX p c k=some (r,rs)):RV p rs:=by
 unfold runX at h;split at h
 ·cases h
 split at h
 ·cases h
 ·rename_i e q;cases h;obtain ⟨ev,_⟩:=RJ (fun g hg f hf=>(vhdr (pk.hd g hg)).w f hf) q;exact (SV'.ct (p:=p) (c:=c) (nest p.Ya) p.Ya ⟨eSet p e (-1) 0 k.port,c.Xl,[]⟩ ⟨ev.set _ _ _,rv⟩).r
theorem Hk {p:Prg} {b:Bool} (hb:b=true->PKp p/\CtV p) {l:List Packet} (hl:l.length<2^30) (hk:∀k∈l,bOk k.data) {R:List Rslt×Xe} {d tk:Nat} {E:Env} {O:List (Nat×AO)} {N:Nat} {outs:List Rslt} {c:Xe} (h:RAI p b l R d tk 0 E O N outs c):
  go Φ (finP yE.results) [.c (.loop c_18_l0),.b 0,.c c_18_k1] .normal ⟨E,⟨O,N⟩⟩=some (.val (.tup [.slice 4 (R.1.map Rslt.c),.agg R.2.c])):=by
 refine gL l.length (fun i E h=>∃O N outs c,h=⟨O,N⟩/\RAI p b l R d tk i E O N outs c) (fun (r:Option Rt)=>r=some (.val (.tup [.slice 4 (R.1.map Rslt.c),.agg R.2.c]))) ?_ ?_ 0 _ _ (Qc _) ⟨_,_,_,_,rfl,h⟩
 ·rintro i E _ K hi hK ⟨O,N,outs,c,rfl,h⟩ ih;obtain ⟨e3,e7,e8,e9,e10,e23,e24,e25,l0,ld,lt,T,n,hR,v⟩:=h;have hw1:=aM i (by omega);have hbk:=hk _ (Qd hi);rw [Qi hi] at hR;generalize hx:l[i]=k at*;have t0:=T N (Qb _);have tt:∀k,look (N+k) O=none:=fun k=>T _ (by omega)
  have fd:=fun k=>eX (n:=N+k) T ld (by omega)
  have fd0:=eX (n:=N) T ld (Qb _);have ft:=fun k=>eX (n:=N+k) T lt (by omega)
  have ft0:=eX (n:=N) T lt (Qb _);have dt:¬d=tk/\¬tk=d:=by
   have:=cW ld lt (by simp);exact ⟨this,fun e=>this e.symm⟩
  have bd:(outs.length+1)*64<=70368744177664:=by omega
  have ztk:¬0=tk:=cW l0 lt (by simp);have fin:∀{E2:Env} {O2:List (Nat×AO)} {N2:Nat} (r:Rslt) (c':Xe),(∀j,j=3\/j=7\/j=8\/j=9\/j=23\/j=24->look j E2=look j E)->look 10 E2=some (.app 4 (outs.map Rslt.c++[r.c]) tk)->look 25 E2=some (a7 (i+1:Nat))->look 0 O2=some (.row 4 [zC])->look d O2=some (.row 4 [c'.c])->look tk O2=some (.tok 4 (outs.length+1))->Tail O2 N2->
    ra b p c (k::l.drop (i+1))=(r::(ra b p c' (l.drop (i+1))).1,(ra b p c' (l.drop (i+1))).2)->(b=true->CF p c'/\RV p c'.Xl)->go Φ (finP yE.results) K .normal ⟨E2,⟨O2,N2⟩⟩=some (.val (.tup [.slice 4 (R.1.map Rslt.c),.agg R.2.c])):=fun {E2 O2 N2} r c' hE h10 h25 h0 h8 ht hT hr hv=>
   ih _ _ ⟨O2,N2,outs++[r],c',rfl,by rw [hE 3 (by simp),e3],by rw [hE 7 (by simp),e7],by rw [hE 8 (by simp),e8],by rw [hE 9 (by simp),e9],by rw [h10];simp,by rw [hE 23 (by simp),e23],by rw [hE 24 (by simp),e24],h25,h0,h8,by rw [ht];simp,hT,by simp [n],by rw [hR,hr];simp,hv⟩
  have TA:∀(M:Nat) (x y:AO) (k:Nat),k<M->Tail (setl tk y (O++[(N+k,x)])) (N+M):=fun M x y k h=>d6 (Tail_append_iff.2 ⟨T.mono (by omega),Tail_cons_iff.2 ⟨by omega,Tail.nil _⟩⟩)
  have ldd:=ld;have hE6:∀{E2:Env},look 3 E2=look 3 E->look 7 E2=look 7 E->look 8 E2=look 8 E->look 9 E2=look 9 E->look 23 E2=look 23 E->look 24 E2=look 24 E->∀j,j=3\/j=7\/j=8\/j=9\/j=23\/j=24->look j E2=look j E:=fun {E2} a1 a2 a3 a4 a5 a6 j hj=>by
   rcases hj with rfl | rfl | rfl | rfl | rfl | rfl<;>assumption
  cases b with
  | false=>
   simp [c_18_l0,Packet.c,e3,e8,e9,e10,e23,e24,e25,hi,hx,hw1,t0,tt,fW,aH,aC,lt,bd,ft,ft0];refine fin noR c (hE6 (by simp) (by simp) (by simp) (by simp) (by simp) (by simp)) (by simp [noR,Rslt.c]) (by simp) ?_ ?_ ?_ (TA 2 _ _ 1 (by decide)) (by simp [ra]) (by simp)
   ·rw [aC,QA ztk];exact cH l0
   ·rw [aC,QA dt.1];exact cH ldd
   ·rw [aC,a9 rfl,cH lt];rfl
  | true=>
   obtain ⟨pk,cv⟩:=hb rfl;obtain ⟨cf,rv⟩:=v rfl;have hrun:=Gd pk cv cf rv k hbk;rw [Prg.c] at hrun e3;simp only [Xe.c] at hrun ld;rw [Packet.c] at hrun;cases q:runX p c k with
   | none=>
    rw [q] at hrun;simp only [runR,noR,Rslt.c,nW] at hrun;simp [c_18_l0,Packet.c,e3,e8,e9,e10,e23,e24,e25,hi,hx,hw1,t0,tt,fW,aH,aC,lt,ld,bd,ft,ft0,fd,fd0,dt,hrun];refine fin noR c (hE6 (by simp) (by simp) (by simp) (by simp) (by simp) (by simp)) (by simp [noR,Rslt.c]) (by simp) ?_ ?_ ?_ (TA 3 _ _ 1 (by decide)) (by simp [ra,runL,q]) (fun _=>⟨cf,rv⟩)
    ·rw [aC,QA ztk];exact cH l0
    ·rw [aC,QA dt.1];exact cH ldd
    ·rw [aC,a9 rfl,cH lt];rfl
   | some y=>
    obtain ⟨r,rs⟩:=y;rw [q] at hrun;simp only [runR,Rslt.c] at hrun;simp [c_18_l0,Packet.c,e3,e8,e9,e10,e23,e24,e25,hi,hx,hw1,t0,tt,fW,aH,aC,lt,ld,bd,ft,ft0,fd,fd0,dt,hrun];have hd0:¬0=d:=fun h=>by
     subst h;rw [ldd] at l0;simp [zC,Xe.c] at l0
    refine fin r { c with Xl:=rs } (hE6 (by simp) (by simp) (by simp) (by simp) (by simp) (by simp)) (by simp [Rslt.c]) (by simp) ?_ ?_ ?_ ?_ (by simp [ra,runL,q]) (fun _=>⟨⟨cf.rl,cf.dl,cf.rs,cf.dc⟩,Hf pk rv q⟩)
    ·rw [aC,QA ztk,aC,QA hd0];exact cH l0
    ·rw [aC,QA dt.1,aC,a9 rfl,cH ldd];rfl
    ·rw [aC,a9 rfl,aC,QA dt.2,cH lt];rfl
    ·exact d6 (d6 (Tail_append_iff.2 ⟨T.mono (by omega),Tail_cons_iff.2 ⟨Nat.add_lt_add_left (by decide) _,Tail.nil _⟩⟩))
 ·rintro E _ K hK ⟨O,N,outs,c,rfl,h⟩;obtain ⟨e3,e7,e8,e9,e10,e23,e24,e25,l0,ld,lt,T,n,hR,v⟩:=h;have hR2:R=(outs,c):=by
   rw [hR,wW];cases b<;>simp [ra,runL]
  rw [hR2];have d0:¬d=0/\¬0=d:=by
   have:¬d=0:=fun h=>by
    subst h;rw [ld] at l0;simp [zC,Xe.c] at l0
   exact ⟨this,fun e=>this e.symm⟩
  rw [zC] at l0;simp only [Xe.c] at ld;simp [yE,c_18_l0,e24,e25] at hK ⊢;rw [hK];simp [c_18_k1,e7,e8,e10,l0,ld,aC,Xe.c,d0,gB]
theorem ZE {p:Prg} (fs:PrgS p) (hc:(pre p.Ya).length<2^40 - 1) {c:Xe} (ct:CfgT c) (cs:CS c) (hv:cfgE p c=0->(PKp p/\CtV p)/\CF p c/\RV p c.Xl) {l:List Packet} (hl:l.length<2^30) (hk:∀k∈l,bOk k.data):
  a8 Φ F7 [.agg p.c,.agg c.c,.slice 2 (l.map Packet.c)]=some (.val (.tup [.slice 4 ((ra (decide (cfgE p c=0)) p c l).1.map Rslt.c),.agg (ra (decide (cfgE p c=0)) p c l).2.c])):=by
 rw [aA rfl rfl];have h1:=ZD c cs;have h2:=Et p fs hc c ct;generalize hR:ra (decide (cfgE p c=0)) p c l=R;rw [Prg.c] at h2;simp only [Xe.c] at h1 h2;generalize hQ:some (Rt.val (.tup [.slice 4 (R.1.map Rslt.c),.agg R.2.c]))=Q;simp [yE,Prg.c,Xe.c,h1,h2];rw [<- hQ];refine Hk (b:=decide (cfgE p c=0)) (fun h=>(hv (of_decide_eq_true h)).1) hl hk (R:=R) (d:=1) (tk:=2) (outs:=[]) (c:=c) ?_;refine ⟨by simp [Prg.c],by simp,by simp,by simp,by simp,by simp,by simp,by simp,by simp [zC],by simp [Xe.c],by simp,?_,rfl,by simp [<- hR],fun h=>(hv (of_decide_eq_true h)).2⟩;simp only [Tail_cons_iff];exact ⟨by decide,by decide,by decide,Tail.nil _⟩
theorem ZF {p:Prg} (fs:PrgS p) (hc:(pre p.Ya).length<2^40 - 1) {c:Xe} (ct:CfgT c) (cs:CS c) (hv:cfgE p c=0->(PKp p/\CtV p)/\CF p c/\RV p c.Xl) (k:Packet) (hk:bOk k.data) {r:Rslt} {c':Xe} (h:ra (decide (cfgE p c=0)) p c [k]=([r],c')):
  a8 Φ LN [.agg p.c,.agg c.c,.agg k.c]=some (.val (.tup [.agg r.c,.agg c'.c])):=by
 rw [aA rfl rfl];have h1:=ZE fs hc ct cs hv (l:=[k]) (by simp) (by simpa using hk);rw [h] at h1;rw [Prg.c] at h1;simp only [Xe.c,Packet.c,Rslt.c,nV,nW] at h1;simp [PY,Prg.c,Xe.c,Packet.c,Rslt.c,h1,gB]
theorem Km (b:Bool) (p:Prg) (c:Xe) (k:Packet):∃r c',ra b p c [k]=([r],c'):=by
 cases b with
 | false=>exact ⟨noR,c,rfl⟩
 | true=>
  cases q:runX p c k with
  | none=>exact ⟨noR,c,by simp [ra,runL,q]⟩
  | some y=>exact ⟨y.1,{ c with Xl:=y.2 },by simp [ra,runL,q]⟩
theorem Zx {p:Prg} (v:VProg p) {c:Xb} (h:j9 p c=0):(actE p c.Xy).2=0:=by
 unfold j9 at h;split at h
 ·cases h
 ·rename_i a ha;obtain ⟨i,hi,hl,_⟩:=kO ha;rw [hi];exact v.ac i hl
theorem ZY {p:Prg} {t:Nat} (ht:t<p.Xm.length) {x:Entry} (h:entE p t x=0):j9 p x.call=0:=by
 unfold entE at h;split at h
 ·exact absurd h (by assumption)
 rw [qT,Qa ht] at h;simp only at h;split at h
 ·cases h
 have hf:fe (entG p p.Xm[t] x) p.Xm[t].keys.length 0=none->entF p t x=0:=fun q=>by rw [q] at h;exact h
 cases q:fe (entG p p.Xm[t] x) p.Xm[t].keys.length 0 with
 | some y=>
  rw [q] at h;simp only [jO] at h;subst h;obtain ⟨i,_,hi⟩:=vK q;exfalso;unfold entG at hi;split at hi
  ·split at hi
   ·cases hi
   ·rename_i hz;injection hi with hi
    exact hz hi
  ·cases hi
 | none=>
  have:=hf q;unfold entF at this;split at this
  ·cases this
  split at this
  ·cases this
  split at this
  ·cases this
  split at this
  ·cases this
  ·exact this
theorem rv_of {p:Prg} (v:VProg p) {rs:List (List Int)} (h:conE p rs=0) (hs:∀l∈rs,∀v∈l,ok32 0 v):RV p rs:=by
 unfold conE at h;split at h
 ·cases h
 rename_i hn;have hn:rs.length=p.Xl.length:=Decidable.of_not_not hn;have h1:∀i,i<rs.length->szG p rs i=none:=by
  refine fe_all.1 ?_;cases q:fe (szG p rs) rs.length 0 with
  | none=>rfl
  | some y=>
   rw [q] at h;simp only [jO] at h;subst h;obtain ⟨i,_,hi⟩:=vK q;unfold szG at hi;split at hi
   ·split at hi<;>cases hi
   ·cases hi
 rw [fe_all.2 h1,QD] at h;have h2:∀i,i<rs.length->vlG p rs i=none:=by
  refine fe_all.1 ?_;cases q:fe (vlG p rs) rs.length 0 with
  | none=>rfl
  | some y=>
   rw [q] at h;simp only [jO] at h;subst h;obtain ⟨i,_,hi⟩:=vK q;unfold vlG at hi;split at hi
   ·split at hi<;>cases hi
   ·cases hi
 refine ⟨hn,fun i g x hg hx=>?_⟩;obtain ⟨hi,rfl⟩:=Qm.1 hx;obtain ⟨hi2,rfl⟩:=Qm.1 hg;have a1:=h1 i hi;have a2:=h2 i hi;unfold szG at a1;unfold vlG at a2;rw [hx,hg] at a1 a2;simp only at a1 a2;have hr:=v.rg _ (Qd hi2);unfold regE at hr;split at hr
 ·cases hr
 split at hr
 ·cases hr
 rename_i hwb;have hw:=KR (Bool.eq_false_iff.2 hwb);refine ⟨E1 a1,fun y hy=>⟨(hs _ (Qd hi) y hy).1,?_⟩⟩;split at a2
 ·cases a2
 ·rename_i hany;by_cases z:cD p.Xl[i].Yc<y
  ·exact absurd (GI.2 ⟨y,hy,by simp [z]⟩) hany
  ·rw [VW hw.1 hw.2] at z;omega
theorem WF {B:Nat}:∀(n:Nat) (l:List Xa),SizeOf.sizeOf l<=n->(∀x∈l,Xa.Ok B x)->∀x∈pre l,Xa.Ok B x
 | 0,l,h,_,x,hx=>by
  cases l with
  | nil=>simp [pre] at hx
  | cons y l=>simp at h
 | n+1,[],_,_,x,hx=>by simp [pre] at hx
 | n+1,.mk k t c a b::l,h,ho,x,hx=>by
  simp only [pre,pre1,n9,iW,gI] at hx;have hy:=ho _ (U6 ..);have hy2:=hy;simp only [Xa.Ok,Xa.oks_eq] at hy2;simp only [List.cons.sizeOf_spec,Xa.mk.sizeOf_spec] at h;rcases hx with rfl | (hx | hx) | hx
  ·exact hy
  ·exact WF n a (by omega) hy2.2.2.2.1.2 x hx
  ·exact WF n b (by omega) hy2.2.2.2.2.2 x hx
  ·exact WF n l (by omega) (fun z hz=>ho z (ET _ hz)) x hx
theorem Ld {p:Prg} {l:List Xa} {x:Xa} (hn:iD p l x=0):NdV p x:=by
 unfold iD at hn;by_cases h2:x.kind=2
 ·exact .inl h2
 rw [QA h2] at hn;by_cases h13:x.kind=1\/x.kind=3
 ·rw [a9 h13] at hn;by_cases ht:x.table<0\/(p.Xm.length:Int)<=x.table
  ·rw [a9 ht] at hn;cases hn
  rw [QA ht] at hn;refine .inr ⟨?_,x.table.toNat,by omega,by omega⟩;rcases h13 with h | h
  ·right;have h5:¬(0<x.thn.length+x.els.length):=fun h5=>by
    split at hn
    ·cases hn
    ·rw [a9 ⟨h,h5⟩] at hn;cases hn
   have hz:x.thn.length=0/\x.els.length=0:=by omega
   exact ⟨h,Qg hz.1,Qg hz.2⟩
  ·exact .inl h
 ·rw [QA h13] at hn;cases hn
theorem ZN {x:Xa} (h:Xa.Ok lK x):x.cond.length<2^40:=by
 obtain ⟨k,t,c,a,b⟩:=x;simp only [Xa.Ok,okL] at h;have:=K3;have:=h.2.2.1.1;simp only [Xa.cond];omega
theorem Ke {p:Prg} (fs:PrgS p) (v:VProg p):CtV p:=by
 have vc:=vctl v.ct;refine ⟨fun x hx=>?_,by have:=vc.n;omega,by have:=vc.d;omega⟩;have hok:=WF (B:=lK) _ _ (Qb _) fs.co x hx;obtain ⟨i,hi,rfl⟩:=Qn.1 hx;exact ⟨Ld (vc.e i hi),ZN hok⟩
theorem pk_of {p:Prg} (fs:PrgS p) (v:VProg p):PKp p:=by
 refine ⟨fs,⟨fs.h,fs.hl,fs.m,?_,fs.r,fun g hg=>?_,fun g hg=>?_⟩,v.hd,fun t ht=>by simp only [tOk,decide_eq_true_eq];exact v.tb t ht,v.dp,v.pa⟩
 ·have:=v.m3 0 (by decide);exact (Qm.1 this).1
 ·have:=v.rg g hg;unfold regE at this;split at this
  ·cases this
  split at this
  ·cases this
  split at this
  ·cases this
  ·omega
 ·have:=v.rg g hg;unfold regE at this;split at this
  ·cases this
  split at this
  ·cases this
  ·rename_i hwb;exact (KR (Bool.eq_false_iff.2 hwb)).2
theorem G' {p:Prg} (fs:PrgS p) {c:Xe} (ct:CfgT c) (h:cfgE p c=0):(PKp p/\CtV p)/\CF p c/\RV p c.Xl:=by
 have cv:=(qze p c).1 h;have v:=vprog cv.prg;refine ⟨⟨pk_of fs v,Ke fs v⟩,⟨cv.rl,cv.dl,fun l hl=>?_,fun d hd=>?_⟩,rv_of v cv.con fun l hl=>(ct.gs l hl).2⟩
 ·obtain ⟨k,hk,rfl⟩:=Qn.1 hl;have hkt:k<p.Xm.length:=by rw [<- cv.rl];exact hk
  have tv:=CfgV.at cv hkt;have hs:=ct.rs _ hl;refine ⟨hs.1,fun x hx=>⟨hs.2 x hx,?_⟩,tv.inc⟩;have hc:=ZY hkt (tv.ent x hx);exact ⟨Zx v hc,hc,(hs.2 x hx).ar,(hs.2 x hx).al⟩
 ·obtain ⟨k,hk,rfl⟩:=Qn.1 hd;have hkt:k<p.Xm.length:=by rw [<- cv.dl];exact hk
  have tv:=CfgV.at cv hkt;have hs:=ct.ds _ hd;have hc:j9 p c.Xp[k]=0:=by
   have:=tv.Yb;unfold iX at this;split at this
   ·cases this
   ·exact this
  exact ⟨Zx v hc,hc,hs.2,hs.1⟩
def Tw (r:Option Rt):Prop:=∃b,r=some (.val (.bool b))
theorem Ji {p:Prg} (fs:PrgS p) {c:Xe} (cs:CS c):Tw (a8 Φ LM [.agg p.c,.agg c.c]):=by
 rw [aA rfl rfl];simp [LB,Prg.c,Xe.c];refine gL c.rows.length (fun i E H=>look 2 E=some (.iptr 9 [p.c] 0 0)/\look 3 E=some (.iptr 4 [c.c] 0 0)/\look 7 E=some (a7 i)/\look 6 E=some (a7 0)/\(∃n,look 5 E=some (a7 n))/\H.objs=[]) Tw ?_ ?_ 0 _ _ (Qc _) ?_
 rotate_left 2
 ·exact ⟨by simp [Prg.c],by simp [Xe.c],by simp,by simp,⟨0,by simp⟩,rfl⟩
 ·rintro i E ⟨objs,n⟩ K hi hK ⟨e2,e3,e7,e6,⟨m,e5⟩,h⟩ ih;cases h;have hw:IntKind.wrap .i64 ((i:Int)+1)=((i+1:Nat):Int):=cN (by omega) (by have:=cs.r;omega);simp only [Xe.c] at e3;simp [c_11_l0,cS,e3,e7,e5,hi,hw];refine ih _ _ ?_;exact ⟨by simp [e2],by simp [e3,Xe.c],by simp,by simp [e6],⟨IntKind.wrap .i64 (m+c.rows[i].length),by simp⟩,rfl⟩
 ·rintro E ⟨objs,n⟩ K hK ⟨e2,e3,e7,e6,⟨m,e5⟩,h⟩;cases h;simp only [Xe.c] at e3;simp [LB,c_11_l0,e3,e7] at hK ⊢;rw [hK];simp [c_11_k3];refine gL p.Xx.length (fun i E H=>look 2 E=some (.iptr 9 [p.c] 0 0)/\look 3 E=some (.iptr 4 [c.c] 0 0)/\look 8 E=some (a7 i)/\(∃n,look 5 E=some (a7 n))/\(∃n,look 6 E=some (a7 n))/\H.objs=[]) Tw ?_ ?_ 0 _ _ (Qc _) ?_
  rotate_left 2
  ·exact ⟨by simp [e2],by simp [e3,Xe.c],by simp,⟨m,by simp [e5]⟩,⟨0,by simp [e6]⟩,rfl⟩
  ·rintro i E ⟨objs,n⟩ K hi hK ⟨e2,e3,e8,⟨m,e5⟩,⟨m2,e6⟩,h⟩ ih;cases h;have hw:IntKind.wrap .i64 ((i:Int)+1)=((i+1:Nat):Int):=cN (by omega) (by have:=fs.a;omega);rw [Prg.c] at e2;simp [c_11_l1,Action.e,e2,e8,e6,hi,hw];refine ih _ _ ?_;exact ⟨by simp [e2,Prg.c],by simp [e3],by simp,⟨m,by simp [e5]⟩,⟨IntKind.wrap .i64 (m2+p.Xx[i].body.length),by simp⟩,rfl⟩
  ·rintro E ⟨objs,n⟩ K hK ⟨e2,e3,e8,⟨m,e5⟩,⟨m2,e6⟩,h⟩;cases h;rw [Prg.c] at e2;simp only [Xe.c] at e3;simp [c_11_l1,e2,e8] at hK ⊢;rw [hK];by_cases z1:60<m
   ·simp [c_11_k2,e2,e3,e5,e6,z1];exact ⟨_,rfl⟩
   by_cases z2:60<m2
   ·simp [c_11_k2,e2,e3,e5,e6,z1,z2];exact ⟨_,rfl⟩
   by_cases z3:12<p.Xo.length
   ·simp [c_11_k2,e2,e3,e5,e6,z1,z2,z3];exact ⟨_,rfl⟩
   by_cases z4:16<p.Xm.length
   ·simp [c_11_k2,e2,e3,e5,e6,z1,z2,z3,z4];exact ⟨_,rfl⟩
   by_cases z5:16<p.Xw.length
   ·simp [c_11_k2,e2,e3,e5,e6,z1,z2,z3,z4,z5];exact ⟨_,rfl⟩
   by_cases z6:30<p.Ya.length
   ·simp [c_11_k2,e2,e3,e5,e6,z1,z2,z3,z4,z5,z6];exact ⟨_,rfl⟩
   ·simp [c_11_k2,e2,e3,e5,e6,z1,z2,z3,z4,z5,z6];exact ⟨_,rfl⟩
def b2sV (h:AH) (o:Option AV):Option (AV×AH):=match o with
 | some v=>evOp [(0,v)] 0 h (.b2s (.t 0))
 | none=>none
theorem Ko {e:Env} {nx:Nat} {h:AH} {n:Nat}:evOp e nx h (.b2s (.t n))=b2sV h (look n e):=by
 cases hl:look n e with
 | none=>simp only [evOp,evX,hl,b2sV]
 | some v=>simp only [evOp,evX,hl,b2sV,look,if_true]
theorem Fh {call:bC} {e:Env} {nx:Nat} {h:AH} {n:Nat}:aE call e nx h (.b2s (.t n))=eJ (b2sV h (look n e)):=by rw [Wb,Ko]
def strB (l:List Int):List UInt8:=l.map fun n=>UInt8.ofNat n.toNat
theorem qwh (F:List AV->Option UInt8) (hF:∀n,F (c8 n)=some (UInt8.ofNat n.toNat)):∀l:List Int,mapO F (l.map c8)=some (strB l)
 | []=>rfl
 | a::l=>by simp only [nV,mapO,hF,qwh F hF l,strB]
theorem qxb (h:AH) (z:Nat) (l:List Int):b2sV h (some (.slice z (l.map c8)))=some (.str (strB l),h):=by
 simp only [b2sV,evOp,evX,look,if_true,jM];rw [qwh _ (fun n=>rfl)]
theorem qxy (l:List Int):a8 Φ LR [.slice 1 (l.map c8),.slice 1 (l.map c8)]=some (.val (.bool true)):=by
 rw [aA rfl rfl];have s1:=fun h=>qxb h 1 l
 simp [Q0,s1,Fh,-Wb]
theorem qzr (l:List Hit) (hl:l.length<2^40):a8 Φ LS [.slice 3 (l.map Hit.c),.slice 3 (l.map Hit.c)]=some (.val (.bool true)):=by
 rw [aA rfl rfl];simp [LC];refine gL l.length (fun i E H=>look 0 E=some (.slice 3 (l.map Hit.c))/\look 1 E=some (.slice 3 (l.map Hit.c))/\look 5 E=some (a7 i)/\H.objs=[]) (fun (r:Option Rt)=>r=some (.val (.bool true))) ?_ ?_ 0 _ _ (Qc _) ?_
 rotate_left 2
 ·exact ⟨by simp,by simp,by simp,rfl⟩
 ·rintro i E ⟨objs,n⟩ K hi hK ⟨e0,e1,e5,h⟩ ih;cases h;have hw:=aM i (by omega);simp [c_40_l0,Hit.c,e0,e1,e5,hi,hw];refine ih _ _ ?_;exact ⟨by simp [e0],by simp [e1],by simp,rfl⟩
 ·rintro E ⟨objs,n⟩ K hK ⟨e0,e1,e5,h⟩;cases h;simp [LC,c_40_l0,e0,e5] at hK ⊢;rw [hK];simp [c_40_k1]
theorem A' (r:Rslt) (hl:r.hits.length<2^40):a8 Φ LO [.agg r.c,.agg r.c]=some (.val (.bool true)):=by
 rw [aA rfl rfl];have h1:=qxy r.data;have h2:=qzr r.hits hl;simp [PZ,Rslt.c,h1,h2]
structure Cs26 (p:Prg) (c:Xe) (k:Packet):Prop where
 fs:PrgS p
 ct:CfgT c
 cs:CS c
 sc:CfgS c
 hc:(pre p.Ya).length<2^40 - 1
 kb:bOk k.data
 kl:k.data.length<2^40
def x26 (p:Prg) (c:Xe) (k:Packet):AV:= .agg (p.c++(c.c++k.c))
end Go.Av
