/-
 The decoder's operations.
-/
import Derived.Test.YtjdbnnnakpacjaaGreatY1
import Derived.Test.YtjdbnnnakpacjaaGreatW28K
set_option linter.unusedVariables false
set_option linter.unusedSimpArgs false
set_option linter.constructorNameAsVariable false
namespace Go.Av
set_option maxRecDepth 4000
def KeyV (X:AV) (l:List Xi):Prop:=(X= .Xu 2 []/\l=[])\/∃t,X= .app 2 (l.map Xi.c) t
def OQ (T:List (Nat×AO)) (p:Nat) (o:Xc) (s:Stt) (r:Option (Rt×AH)):Prop:=
 ∃KX X1 X2 E N,r=some (.val (.agg [.int .i64 o.kind,.int .i64 o.table,.int .i64 o.id,KX,.int .i64 o.entry.Xt,.int .i64 o.entry.call.action,X1,.int .i64 o.call.action,X2]),⟨(0,.row 2 [cSt s])::(T++E),N⟩)/\
  HExt p E N/\KeyV KX o.entry.keys/\ArgV X1 o.entry.call.args/\ArgV X2 o.call.args
theorem qand (s:Stt):(qbr s).1=(qbq (rdN 1 (rdN 2 s).1).2.toNat (rdN 1 (rdN 2 s).1).1).1:=rfl
theorem qnt (s:Stt):(qbr s).2.args=(qbq (rdN 1 (rdN 2 s).1).2.toNat (rdN 1 (rdN 2 s).1).1).2:=rfl
theorem qanc (s:Stt):(qbr s).2.action=(rdN 2 s).2:=rfl
theorem qtm (s:Stt) (hb:okB s.b) (T:List (Nat×AO)) (p:Nat) (hp:1<=p) (hT:Tail T p) (hS:qao T=T):
  ∃X E N,qah Φ f_193 [.ptr 0 2 0 0] ⟨(0,.row 2 [cSt s])::T,p⟩=some (.val (.agg [.int .i64 (qbr s).2.action,X]),⟨(0,.row 2 [cSt (qbr s).1])::(T++E),N⟩)/\HExt p E N/\ArgV X (qbr s).2.args:=
 dcall s hb T p hp hT hS
theorem Tail.three {T E:List (Nat×AO)} {p N:Nat} (hT:Tail T p) (a b:AO) (hE:Tail E N) (h:p+2<=N):Tail (T++(p,a)::(p+1,b)::E) N:=by
 intro j hj;have h1:=hT j (by omega);have h2:=hE j hj;have n1:¬p=j:=by omega
 have n2:¬p+1=j:=by omega
 simp [h1,h2,n1,n2]
theorem qabk (T:List (Nat×AO)) (p:Nat) (hp:1<=p) (hT:Tail T p) (hS:qao T=T) (s:Stt) (hb:okB s.b) (tb pr:Int) (keys:List Xi) (KX:AV) (hK:KeyV KX keys) (Z:List AV) (hZ:Z.length=9)
  (E1:List (Nat×AO)) (N:Nat) (hN:p+2<=N) (hE1:Tail E1 N) (hE2:∀j,j<=p+1->look j E1=none) (hE3:qao E1=E1) (e:Env)
  (h0:look 0 e=some (.ptr 0 2 0 0)) (h2:look 2 e=some (.ptr p 9 0 0)) (h3:look 3 e=some (.ptr (p+1) 9 0 0)):
  OQ T p ⟨1,tb,0,⟨keys,pr,(qbr s).2⟩,qc9⟩ (qbr s).1 (go Φ (finC [.cell 2 true 9]) [.c c_124_k1,.b 0,.c c_124_k2] .normal
   ⟨e,⟨(0,.row 2 [cSt s])::(T++(p,.row 9 [Z])::(p+1,.row 9 [[.int .i64 1,.int .i64 tb,.int .i64 0,KX,.int .i64 pr,.int .i64 0,.Xu 1 [],.int .i64 0,.Xu 1 []]])::E1),N⟩⟩):=by
 obtain ⟨X,E,N2,hc,hx,hv⟩:=qtm s hb (T++(p,.row 9 [Z])::(p+1,.row 9 [[.int .i64 1,.int .i64 tb,.int .i64 0,KX,.int .i64 pr,.int .i64 0,.Xu 1 [],.int .i64 0,.Xu 1 []]])::E1) N (by omega) (hT.three _ _ hE1 hN) (by simp [qca,hS,hE3]);have hpp:=hT p (Qb _);have hp1:=hT (p+1) (by omega);have p0:¬(0=p):=by omega
 have p0':¬(p=0):=by omega
 simp only [qat,QAi,QAh] at hc;refine ⟨KX,X,.Xu 1 [],(p,.row 9 [[.int .i64 1,.int .i64 tb,.int .i64 0,KX,.int .i64 pr,.int .i64 (qbr s).2.action,X,.int .i64 0,.Xu 1 []]])::(p+1,.row 9 [[.int .i64 1,.int .i64 tb,.int .i64 0,KX,.int .i64 pr,.int .i64 (qbr s).2.action,X,.int .i64 0,.Xu 1 []]])::(E1++E),N2,?_,⟨by have:=hx.le;omega,?_,?_,by simp [qca,hE3,hx.sw]⟩,hK,hv,.inl ⟨rfl,rfl⟩⟩
 ·simp [c_124_k1,c_124_k2,qat,h0,h2,h3,hc,hpp,hp1,p0,p0',hZ,qc9]
 ·intro j hj;have n1:¬p=j:=by omega
  have n2:¬p+1=j:=by omega
  have:=hE2 j (by omega);have h4:=hx.lo j (by omega);simp [n1,n2,this,h4]
 ·intro j hj;have hle:=hx.le;have n1:¬p=j:=by omega
  have n2:¬p+1=j:=by omega
  have:=hE1 j (by omega);have h4:=hx.hi j hj;simp [n1,n2,this,h4]
theorem qzx (tb pr:Int) (l:List Xi) (t:Nat):aoEq (some (.row 9 [[.int .i64 1,.int .i64 tb,.int .i64 0,.app 2 (l.map Xi.c) t,.int .i64 pr,.int .i64 0,.Xu 1 [],.int .i64 0,.Xu 1 []]]))
  (some (.row 9 [[.int .i64 1,.int .i64 tb,.int .i64 0,.app 2 (l.map Xi.c) t,.int .i64 pr,.int .i64 0,.Xu 1 [],.int .i64 0,.Xu 1 []]]))=true:=by
 apply qhp;intro x hx;simp only [QAe,QAr,or_false] at hx;rcases hx with rfl | rfl | rfl | rfl | rfl | rfl | rfl | rfl | rfl
 case _=>exact qbi 39 _ _
 case _=>exact qbi 39 _ _
 case _=>exact qbi 39 _ _
 case _=>
  refine qs4 39 _ _ _ (qef _ _ ?_);intro x hx;obtain ⟨y,_,rfl⟩:=QAv.1 hx;rw [Xi.ceJ];exact qef _ _ (by simp;exact ⟨qbi 38 _ _,qbi 38 _ _⟩)
 case _=>exact qbi 39 _ _
 case _=>exact qbi 39 _ _
 case _=>exact qgx 39 _
 case _=>exact qbi 39 _ _
 case _=>exact qgx 39 _
theorem qxo (tb pr:Int):aoEq (some (.row 9 [[.int .i64 1,.int .i64 tb,.int .i64 0,.Xu 2 [],.int .i64 pr,.int .i64 0,.Xu 1 [],.int .i64 0,.Xu 1 []]]))
  (some (.row 9 [[.int .i64 1,.int .i64 tb,.int .i64 0,.Xu 2 [],.int .i64 pr,.int .i64 0,.Xu 1 [],.int .i64 0,.Xu 1 []]]))=true:=by
 apply qhp;intro x hx;simp only [QAe,QAr,or_false] at hx;rcases hx with rfl | rfl | rfl | rfl | rfl | rfl | rfl | rfl | rfl
 case _=>exact qbi 39 _ _
 case _=>exact qbi 39 _ _
 case _=>exact qbi 39 _ _
 case _=>exact qgx 39 _
 case _=>exact qbi 39 _ _
 case _=>exact qbi 39 _ _
 case _=>exact qgx 39 _
 case _=>exact qbi 39 _ _
 case _=>exact qgx 39 _
def KQ (T:List (Nat×AO)) (p:Nat) (tb pr:Int) (x:Nat×Stt×List Xi) (r:Option (Rt×AH)):Prop:=
 OQ T p ⟨1,tb,0,⟨x.2.2++(qck x.1 x.2.1).2,pr,(qbr (qck x.1 x.2.1).1).2⟩,qc9⟩ (qbr (qck x.1 x.2.1).1).1 r
theorem qag2 (T:List (Nat×AO)) (p:Nat) (hp:1<=p) (hT:Tail T p) (hS:qao T=T) (tb pr:Int) (Z:List AV) (hZ:Z.length=9) (t:Nat) (ht:p+1<t) (k:Nat) (s:Stt) (acc:List Xi) (hb:okB s.b) (hk:acc.length+k<=255) (e:Env) (N:Nat) (hN:t<N)
  (h0:look 0 e=some (.ptr 0 2 0 0)) (h2:look 2 e=some (.ptr p 9 0 0)) (h3:look 3 e=some (.ptr (p+1) 9 0 0)) (h4:look 4 e=some (.int .u32 k)):
  KQ T p tb pr (k,s,acc) (go Φ (finC [.cell 2 true 9]) [.c (.loop c_124_l0),.b 1,.c c_124_k1,.b 0,.c c_124_k2] .normal
   ⟨e,⟨(0,.row 2 [cSt s])::(T++[(p,.row 9 [Z]),(p+1,.row 9 [[.int .i64 1,.int .i64 tb,.int .i64 0,.app 2 (acc.map Xi.c) t,.int .i64 pr,.int .i64 0,.Xu 1 [],.int .i64 0,.Xu 1 []]]),(t,.tok 2 acc.length)]),N⟩⟩):=by
 refine qhw (fun x:Nat×Stt×List Xi=>x.1) (fun x e h=>okB x.2.1.b/\x.2.2.length+x.1<=255/\look 0 e=some (.ptr 0 2 0 0)/\look 2 e=some (.ptr p 9 0 0)/\look 3 e=some (.ptr (p+1) 9 0 0)/\look 4 e=some (.int .u32 x.1)/\
  ∃N,t<N/\h=⟨(0,.row 2 [cSt x.2.1])::(T++[(p,.row 9 [Z]),(p+1,.row 9 [[.int .i64 1,.int .i64 tb,.int .i64 0,.app 2 (x.2.2.map Xi.c) t,.int .i64 pr,.int .i64 0,.Xu 1 [],.int .i64 0,.Xu 1 []]]),(t,.tok 2 x.2.2.length)]),N⟩) (KQ T p tb pr) ?_ (k,s,acc) e _ ⟨hb,hk,h0,h2,h3,h4,N,hN,rfl⟩
 rintro ⟨k,s,acc⟩ e _ L hL ⟨hb,hk,h0,h2,h3,h4,N,hN,rfl⟩ ih;simp only at hb hk h4 ih;have hpp:=hT p (Qb _);have hp1:=hT (p+1) (by omega);have htt:=hT t (by omega);have p0:¬(0=p):=by omega
 have p0':¬(p=0):=by omega
 have t0:¬(0=t):=by omega
 have t1:¬(p=t):=by omega
 have t2:¬(p+1=t):=by omega
 have hNr:=hT (N+56) (by omega);have e1:¬(p=N+56):=by omega
 have e2:¬(p+1=N+56):=by omega
 have e3:¬(t=N+56):=by omega
 have hTl:Tail [(t,AO.tok 2 acc.length)] N:=by
  intro j hj;have:¬t=j:=by omega
  simp [this]
 have hLo:∀j,j<=p+1->look j [(t,AO.tok 2 acc.length)]=none:=by
  intro j hj;have:¬t=j:=by omega
  simp [this]
 have hend:=fun (e:Env) (a:look 0 e=some (.ptr 0 2 0 0)) (b:look 2 e=some (.ptr p 9 0 0)) (c:look 3 e=some (.ptr (p+1) 9 0 0))=>
  qabk T p hp hT hS s hb tb pr acc (.app 2 (acc.map Xi.c) t) (.inr ⟨t,rfl⟩) Z hZ [(t,.tok 2 acc.length)] N (by omega) hTl hLo (by simp) e a b c
 simp only [qat] at hend;cases k with
 | zero=>
  simp only [KQ,qck,List.append_nil];simp [c_124_l0,qat,h0,h2,h3,h4,hL,hpp,hp1,htt,p0,p0',t0,t1,t2];exact hend _ (by simp [h0]) (by simp [h2]) (by simp [h3])
 | succ k=>
  have q:(0:Int)<(k:Int)+1:=by omega
  by_cases z:s.e=0
  rotate_left
  ·simp only [KQ,qhm z,List.append_nil];simp [c_124_l0,qat,h0,h2,h3,h4,hL,hpp,hp1,htt,p0,p0',t0,t1,t2,z,q];exact hend _ (by simp [h0]) (by simp [h2]) (by simp [h3])
  have hb4:okB (rdN 4 s).1.b:=qbd hb;have hnum:=qku s hb;have hnum2:=qku _ hb4;simp only [qat,z] at hnum hnum2;have ha:=qzx tb pr acc t;have hw:IntKind.wrap .u32 (k:Int)=(k:Int):=qcp (by omega);have hlen:((acc.length:Nat)+1)*8<=70368744177664:=by omega
  have:=ih (k,(qe8 s).1,acc++[(qe8 s).2]);simp only [KQ,qmj z,QAi,QAh,QAj] at this ⊢;simp [c_124_l0,qat,h0,h2,h3,h4,hL,hpp,hp1,htt,p0,p0',t0,t1,t2,z,q,hnum,hnum2,ha,hS,qca,hw,hNr,e1,e2,e3,hlen];exact this _ _ (QAt k) ⟨qjo hb,by simp;omega,by simp [h0],by simp [h2],by simp [h3],by simp,N+56+1,by omega,by simp [qat,Xi.ceJ,qe8]⟩
theorem qic {s:Stt} (h:s.e≠0):qbr s=(s,qc9):=by
 simp [qbr,qnd h,qhl h,qc9]
theorem qv6 {s:Stt} (h:s.e≠0):qe5 s=(s,qcw):=by
 simp [qe5,qnd h,qhm h,qic h,qcw]
theorem qw9 {s:Stt} (h:s.e≠0):rdI s=(s,0):=by
 simp [rdI,qnd h]
theorem qahc (t:Int) (s:Stt):qcl 1 t s=((qe5 s).1,⟨1,t,0,(qe5 s).2,qc9⟩):=by
 by_cases h:s.e=0
 ·simp [qcl,h]
 ·simp [qcl,h,qv6 h]
theorem qahd (t:Int) (s:Stt):qcl 2 t s=((qbr (rdI s).1).1,⟨2,t,(rdI s).2,qcw,(qbr (rdI s).1).2⟩):=by
 by_cases h:s.e=0
 ·by_cases g:(rdI s).1.e=0
  ·simp [qcl,h,g]
  ·simp [qcl,h,g,qic g]
 ·simp [qcl,h,qw9 h,qic h]
theorem qahe (t:Int) (s:Stt):qcl 3 t s=((rdI s).1,⟨3,t,(rdI s).2,qcw,qc9⟩):=by
 by_cases h:s.e=0
 ·simp [qcl,h]
 ·simp [qcl,h,qw9 h]
theorem qahf (t:Int) (s:Stt):qcl 4 t s=((qbr s).1,⟨4,t,0,qcw,(qbr s).2⟩):=by
 by_cases h:s.e=0
 ·simp [qcl,h]
 ·simp [qcl,h,qic h]
theorem qahb (k t:Int) {s:Stt} (h:s.e≠0):qcl k t s=(s,⟨k,t,0,qcw,qc9⟩):=by simp [qcl,h]
theorem qkm {T:List (Nat×AO)} {p N:Nat} (x y:List AV) (E:List (Nat×AO)) (hN:p+2<=N) (h:HExt (p+2) E N):HExt p ((p,.row 9 [x])::(p+1,.row 9 [y])::E) N:=by
 refine ⟨by omega,?_,?_,by simp [h.sw]⟩
 ·intro j hj;have n1:¬p=j:=by omega
  have n2:¬p+1=j:=by omega
  have:=h.lo j (by omega);simp [n1,n2,this]
 ·intro j hj;have n1:¬p=j:=by omega
  have n2:¬p+1=j:=by omega
  have:=h.hi j hj;simp [n1,n2,this]
theorem qs1 (p:Nat):HExt p [] p:=⟨Qb _,fun _ _=>rfl,fun _ _=>rfl,by simp⟩
theorem dop (s:Stt) (hb:okB s.b) (T:List (Nat×AO)) (p:Nat) (hp:1<=p) (hT:Tail T p) (hS:qao T=T):
  OQ T p (rdOp s).2 (rdOp s).1 (qah Φ f_124 [.ptr 0 2 0 0] ⟨(0,.row 2 [cSt s])::T,p⟩):=by
 have hb1:okB (rdN 1 s).1.b:=qbd hb;have hbk:okB (qel (rdN 1 s)).b:=qmb hb1;have hb2:okB (rdN 2 (qel (rdN 1 s))).1.b:=qbd hbk;have hn1:=qsq s hb;have hn2:=qx9 (qel (rdN 1 s)) hbk;have hrng:=qha hb;have hr2:=qqx hbk;have hw1:IntKind.wrap .i64 (rdN 1 s).2=(rdN 1 s).2:=qbb (by omega) (by omega);have hw2:IntKind.wrap .i64 (rdN 2 (qel (rdN 1 s))).2=(rdN 2 (qel (rdN 1 s))).2:=qbb (by omega) (by omega);have hpp:=hT p (Qb _);have hp1:=hT (p+1) (by omega);have p0:¬(0=p):=by omega
 have p0':¬(p=0):=by omega
 rw [qau (fn:=c_124) rfl rfl];simp only [rdOp];have hq:∀(ok:Bool),ok=(decide (1<=(rdN 1 s).2)&&decide ((rdN 1 s).2<=4))->∀T N,qah Φ f_123 [.ptr 0 2 0 0,.bool ok,.int .i64 5] ⟨(0,.row 2 [cSt (rdN 1 s).1])::T,N⟩=
   some (.val (.tup []),⟨(0,.row 2 [cSt (qel (rdN 1 s))])::T,N⟩):=by
  rintro ok rfl T N;rw [dreq];simp only [qel];by_cases a:(rdN 1 s).1.e=0
  ·by_cases b:1<=(rdN 1 s).2
   ·by_cases c:(rdN 1 s).2<=4
    ·have d:¬((rdN 1 s).2<1):=by omega
     have d':¬(4<(rdN 1 s).2):=by omega
     simp [a,b,c,d,d']
    ·have d':4<(rdN 1 s).2:=by omega
     simp [a,b,c,d']
   ·have d:(rdN 1 s).2<1:=by omega
    simp [a,b,d]
  ·simp [a]
 have hkn:¬(1<=(rdN 1 s).2/\(rdN 1 s).2<=4)->(qel (rdN 1 s)).e≠0:=by
  intro h;simp only [qel];split
  ·simp
  ·rename_i g;simp only [not_and,not_or] at g;intro h0;exact h (by have:=g h0;omega)
 simp only [qat] at hn1 hn2 hq;generalize rdN 1 s=pk at*;obtain ⟨s1,k⟩:=pk;simp only at*;generalize qel (s1,k)=s2 at*;by_cases c1:k=1
 ·subst c1;have hqt:=hq true (by simp);rw [qahc];have hb3:okB (rdN 2 (rdN 2 s2).1).1.b:=qbd hb2;have hb4:okB (rdN 1 (rdN 2 (rdN 2 s2).1).1).1.b:=qbd hb3;have hn3:=qx9 _ hb2;have hn4:=qsq _ hb3;have hrg4:=qha hb3;have hrg3:=qqx hb2;have hw3:IntKind.wrap .i64 (rdN 2 (rdN 2 s2).1).2=(rdN 2 (rdN 2 s2).1).2:=qbb (by omega) (by omega);simp only [qe5];obtain ⟨n,hn⟩:∃n:Nat,(rdN 1 (rdN 2 (rdN 2 s2).1).1).2=(n:Int):=⟨_,(QCm hrg4.1).symm⟩;rw [hn,QCd];rw [hn] at hn4 hrg4;simp only [qat] at hn3 hn4;generalize (rdN 1 (rdN 2 (rdN 2 s2).1).1).1=s4 at*;generalize (rdN 2 (rdN 2 s2).1).2=pr at*;generalize (rdN 2 s2).2=tb at*;simp [c_124,qat,hn1,hn2,hn3,hn4,hw1,hw2,hw3,hqt,hpp,hp1,p0,p0'];have hend:=fun (e:Env) (a:look 0 e=some (.ptr 0 2 0 0)) (b:look 2 e=some (.ptr p 9 0 0)) (c:look 3 e=some (.ptr (p+1) 9 0 0))=>
   qabk T p hp hT hS s4 hb4 tb pr [] (.Xu 2 []) (.inl ⟨rfl,rfl⟩) [.int .i64 0,.int .i64 0,.int .i64 0,.Xu 2 [],.int .i64 0,.int .i64 0,.Xu 1 [],.int .i64 0,.Xu 1 []] rfl [] (p+1+1) (by omega) (fun _ _=>rfl) (fun _ _=>rfl) (by simp) e a b c
  simp only [qat] at hend;refine qpf (OQ T p _ _) fun L hL hX=>?_
  by_cases q:n=0
  ·subst q;simp [c_124_l0,hL,hpp,hp1,p0,p0',qck];exact hend _ (by simp) (by simp) (by simp)
  obtain ⟨m,rfl⟩:∃m,n=m+1:=⟨n - 1,by omega⟩;have q':(0:Int)<(m:Int)+1:=by omega
  by_cases z:s4.e=0
  rotate_left
  ·simp [c_124_l0,hL,hpp,hp1,p0,p0',q',z,qhm z];exact hend _ (by simp) (by simp) (by simp)
  have hb5:okB (rdN 4 s4).1.b:=qbd hb4;have hnum:=qku s4 hb4;have hnum2:=qku _ hb5;simp only [qat,z] at hnum hnum2;have ha:=qxo tb pr;have hw:IntKind.wrap .u32 (m:Int)=(m:Int):=qcp (by omega);have hp58:=hT (p+1+1+56) (by omega);have e1:¬(p=p+1+1+56):=by omega
  have e2:¬(p+1=p+1+1+56):=by omega
  have e3:¬(p+1+1+56=p):=by omega
  have e4:¬(p+1+1+56=p+1):=by omega
  simp [c_124_l0,qat,hpp,hp1,p0,p0',z,q',hnum,hnum2,ha,hS,qca,hw,hp58,e1,e2,e3,e4];rw [hX];have key:=fun e N hN=>qag2 T p hp hT hS tb pr [.int .i64 0,.int .i64 0,.int .i64 0,.Xu 2 [],.int .i64 0,.int .i64 0,.Xu 1 [],.int .i64 0,.Xu 1 []] rfl (p+1+1+56) (by omega) m (qe8 s4).1 [(qe8 s4).2] (qjo hb4) (by simp;omega) e N hN
  simp only [KQ,qat,Xi.ceJ,QBj,QBl,QAh,QAj] at key;simp only [qmj z];exact key _ (p+1+1+56+1) (by omega) (by simp) (by simp) (by simp) (by simp)
 by_cases c2:k=2
 ·subst c2;have hqt:=hq true (by simp);have hi:=did _ hb2;have hbI:okB (rdI (rdN 2 s2).1).1.b:=qki hb2;rw [qahd];obtain ⟨X,E,N,hc,hx,hv⟩:=qtm _ hbI (T++[(p,.row 9 [[.int .i64 0,.int .i64 0,.int .i64 0,.Xu 2 [],.int .i64 0,.int .i64 0,.Xu 1 [],.int .i64 0,.Xu 1 []]]),(p+1,.row 9 [[.int .i64 2,.int .i64 (rdN 2 s2).2,.int .i64 (rdI (rdN 2 s2).1).2,.Xu 2 [],.int .i64 0,.int .i64 0,.Xu 1 [],.int .i64 0,.Xu 1 []]])]) (p+1+1) (by omega)
   (hT.three _ _ (fun _ _=>rfl) (Qb _)) (by simp [qca,hS])
  simp only [qat,QAi,QAh,QAj] at hc hi;refine ⟨.Xu 2 [],.Xu 1 [],X,(p,.row 9 [[.int .i64 2,.int .i64 (rdN 2 s2).2,.int .i64 (rdI (rdN 2 s2).1).2,.Xu 2 [],.int .i64 0,.int .i64 0,.Xu 1 [],.int .i64 (qbr (rdI (rdN 2 s2).1).1).2.action,X]])::
   (p+1,.row 9 [[.int .i64 2,.int .i64 (rdN 2 s2).2,.int .i64 (rdI (rdN 2 s2).1).2,.Xu 2 [],.int .i64 0,.int .i64 0,.Xu 1 [],.int .i64 (qbr (rdI (rdN 2 s2).1).1).2.action,X]])::E,N,?_,qkm (T:=T) _ _ _ (by have:=hx.le;omega) hx,.inl ⟨rfl,rfl⟩,.inl ⟨rfl,rfl⟩,hv⟩
  simp [c_124,c_124_k2,qat,hn1,hn2,hw1,hw2,hqt,hi,hc,hpp,hp1,p0,p0',qcw,qc9]
 by_cases c3:k=3
 ·subst c3;have hqt:=hq true (by simp);have hi:=did _ hb2;simp only [qat] at hi;rw [qahe];refine ⟨.Xu 2 [],.Xu 1 [],.Xu 1 [],(p,.row 9 [[.int .i64 3,.int .i64 (rdN 2 s2).2,.int .i64 (rdI (rdN 2 s2).1).2,.Xu 2 [],.int .i64 0,.int .i64 0,.Xu 1 [],.int .i64 0,.Xu 1 []]])::
   (p+1,.row 9 [[.int .i64 3,.int .i64 (rdN 2 s2).2,.int .i64 (rdI (rdN 2 s2).1).2,.Xu 2 [],.int .i64 0,.int .i64 0,.Xu 1 [],.int .i64 0,.Xu 1 []]])::[],p+1+1,?_,qkm (T:=T) _ _ _ (by omega) (qs1 _),.inl ⟨rfl,rfl⟩,.inl ⟨rfl,rfl⟩,.inl ⟨rfl,rfl⟩⟩
  simp [c_124,c_124_k2,qat,hn1,hn2,hw1,hw2,hqt,hi,hpp,hp1,p0,p0',qcw,qc9]
 by_cases c4:k=4
 ·subst c4;have hqt:=hq true (by simp);rw [qahf];obtain ⟨X,E,N,hc,hx,hv⟩:=qtm _ hb2 (T++[(p,.row 9 [[.int .i64 0,.int .i64 0,.int .i64 0,.Xu 2 [],.int .i64 0,.int .i64 0,.Xu 1 [],.int .i64 0,.Xu 1 []]]),(p+1,.row 9 [[.int .i64 4,.int .i64 (rdN 2 s2).2,.int .i64 0,.Xu 2 [],.int .i64 0,.int .i64 0,.Xu 1 [],.int .i64 0,.Xu 1 []]])]) (p+1+1) (by omega)
   (hT.three _ _ (fun _ _=>rfl) (Qb _)) (by simp [qca,hS])
  simp only [qat,QAi,QAh,QAj] at hc;refine ⟨.Xu 2 [],.Xu 1 [],X,(p,.row 9 [[.int .i64 4,.int .i64 (rdN 2 s2).2,.int .i64 0,.Xu 2 [],.int .i64 0,.int .i64 0,.Xu 1 [],.int .i64 (qbr (rdN 2 s2).1).2.action,X]])::
   (p+1,.row 9 [[.int .i64 4,.int .i64 (rdN 2 s2).2,.int .i64 0,.Xu 2 [],.int .i64 0,.int .i64 0,.Xu 1 [],.int .i64 (qbr (rdN 2 s2).1).2.action,X]])::E,N,?_,qkm (T:=T) _ _ _ (by have:=hx.le;omega) hx,.inl ⟨rfl,rfl⟩,.inl ⟨rfl,rfl⟩,hv⟩
  simp [c_124,c_124_k2,qat,hn1,hn2,hw1,hw2,hqt,hc,hpp,hp1,p0,p0',qcw,qc9]
 ·have hz:=hkn (by omega);rw [qahb _ _ (by rw [qnd hz];exact hz)];refine ⟨.Xu 2 [],.Xu 1 [],.Xu 1 [],(p,.row 9 [[.int .i64 k,.int .i64 (rdN 2 s2).2,.int .i64 0,.Xu 2 [],.int .i64 0,.int .i64 0,.Xu 1 [],.int .i64 0,.Xu 1 []]])::
   (p+1,.row 9 [[.int .i64 k,.int .i64 (rdN 2 s2).2,.int .i64 0,.Xu 2 [],.int .i64 0,.int .i64 0,.Xu 1 [],.int .i64 0,.Xu 1 []]])::[],p+1+1,?_,qkm (T:=T) _ _ _ (by omega) (qs1 _),.inl ⟨rfl,rfl⟩,.inl ⟨rfl,rfl⟩,.inl ⟨rfl,rfl⟩⟩
  by_cases d1:1<=k
  ·have d2:¬(k<=4):=by omega
   have hqt:=hq false (by simp [d2]);simp [c_124,c_124_k2,qat,hn1,hn2,hw1,hw2,hqt,d1,d2,c1,c2,c3,c4,hpp,hp1,p0,p0',qcw,qc9]
  ·have hqt:=hq false (by simp [d1]);simp [c_124,c_124_k2,qat,hn1,hn2,hw1,hw2,hqt,d1,c1,c2,c3,c4,hpp,hp1,p0,p0',qcw,qc9]
theorem qacu (s:Stt) (acc:List Xc) (e:Env) (h4:look 4 e=some (.ptr 0 2 0 0)) (h6:look 6 e=some (.app 9 (acc.map Xc.c) 1)) (T:List (Nat×AO)) (N:Nat) (hS:qao T=T):
  go Φ (finP [.tmp 2,.tmp 3]) [.c c_57_k1] .normal ⟨e,⟨(0,.row 2 [[.slice 1 (s.b.map c8),.int .i64 s.e]])::T,N⟩⟩=some (.val (.tup [.slice 9 ((if endE s=0 then acc else []).map Xc.c),.int .i64 (endE s)])):=by
 by_cases z:s.e=0
 rotate_left
 ·have:endE s=s.e:=by simp [endE,z]
  have hq:=dreq s;simp only [qat,z,false_and,if_false] at hq;simp [c_57_k1,h4,h6,z,this,hS,hq]
 by_cases q:s.b=[]
 ·have:endE s=0:=by simp [endE,z,q]
  have hq:=dreq s true 4 T N;simp only [qat,z,q,QBl,reduceCtorEq,and_false,if_false] at hq;simp [c_57_k1,h4,h6,z,this,q,hq]
 ·have:endE s=4:=by simp [endE,z,q]
  have hl:¬(s.b.length=0):=by simpa using q
  have hq:=dreq s false 4 T N;simp only [qat,z,and_self,if_true] at hq;simp [c_57_k1,h4,h6,z,this,hS,hl,q,hq]
theorem qaaf (n:Nat) (hn:n<=255) (k:Nat) (s:Stt) (acc:List Xc) (hb:okB s.b) (hk:acc.length+k=n) (e:Env) (T:List (Nat×AO)) (N:Nat)
  (h4:look 4 e=some (.ptr 0 2 0 0)) (h5:look 5 e=some (.int .i64 n)) (h6:look 6 e=some (.app 9 (acc.map Xc.c) 1)) (h7:look 7 e=some (.int .i64 acc.length))
  (hT:Tail T N) (hN:2<=N) (hS:qao T=T):
  go Φ (finP [.tmp 2,.tmp 3]) [.c (.loop c_57_l0),.b 0,.c c_57_k1] .normal ⟨e,⟨(0,.row 2 [cSt s])::(1,.tok 9 acc.length)::T,N⟩⟩=RD (k,s,acc):=by
 refine qua (fun x:Nat×Stt×List Xc=>x.1) (fun x e h=>okB x.2.1.b/\x.2.2.length+x.1=n/\look 4 e=some (.ptr 0 2 0 0)/\
  look 5 e=some (.int .i64 n)/\look 6 e=some (.app 9 (x.2.2.map Xc.c) 1)/\look 7 e=some (.int .i64 x.2.2.length)/\∃T N,Tail T N/\2<=N/\qao T=T/\h=⟨(0,.row 2 [cSt x.2.1])::(1,.tok 9 x.2.2.length)::T,N⟩)
  RD ?_ (k,s,acc) e _ ⟨hb,hk,h4,h5,h6,h7,T,N,hT,hN,hS,rfl⟩
 rintro ⟨k,s,acc⟩ e _ L hL ⟨hb,hk,h4,h5,h6,h7,T,N,hT,hN,hS,rfl⟩ ih;simp only at hb hk h6 h7 ih;have hw:IntKind.wrap .i64 ((acc.length:Int)+1)=((acc.length+1:Nat):Int):=qbb (by omega) (by omega);have hend:=fun (e:Env) (a:look 4 e=some (.ptr 0 2 0 0)) (b:look 6 e=some (.app 9 (acc.map Xc.c) 1))=>qacu s acc e a b ((1,.tok 9 acc.length)::T) N (by simp [hS])
 cases k with
 | zero=>
  have q:¬((acc.length:Int)<n):=by omega
  simp [c_57_l0,qat,h4,h5,h6,h7,hL,q];refine (hend _ (by simp [h4]) (by simp [h6])).trans (by simp [RD,qdh])
 | succ k=>
  have q:(acc.length:Int)<n:=by omega
  by_cases z:s.e=0
  rotate_left
  ·simp [c_57_l0,qat,h4,h5,h6,h7,hL,q,z];refine (hend _ (by simp [h4]) (by simp [h6])).trans (by simp [RD,qpp z])
  obtain ⟨KX,X1,X2,E,N2,hc,hx,hK,hA1,hA2⟩:=dop s hb ((1,.tok 9 acc.length)::T) N (by omega) (by
   intro j hj;have n1:¬1=j:=by omega
   simp [n1,hT j hj]) (by simp [hS])
  have hlen:((acc.length:Nat)+1)*120<=70368744177664:=by omega
  simp only [qat,z,QAh] at hc;have hT2:Tail (T++E) N2:=by
   intro j hj;have h1:=hT j (by have:=hx.le;omega);have h2:=hx.hi j hj;simp [h1,h2]
  have hN2:2<=N2:=by have:=hx.le;omega
  have hS2:qao (T++E)=T++E:=by simp [qca,hS,hx.sw]
  rcases hK with ⟨rfl,hk0⟩ | ⟨tk,rfl⟩<;>rcases hA1 with ⟨rfl,ha0⟩ | ⟨t1,rfl⟩<;>rcases hA2 with ⟨rfl,hb0⟩ | ⟨t2,rfl⟩
  ·simp [c_57_l0,qat,h4,h5,h6,h7,hL,q,z,hc,hw,hlen];exact (ih (k,(rdOp s).1,acc++[(rdOp s).2]) _ _ (QAt k) ⟨qex hb,by simp;omega,by simp [h4],by simp [h5],by simp [Xc.ce,hk0,ha0,hb0],by simp,T++E,N2,hT2,hN2,hS2,by simp [qat]⟩).trans (by simp [RD,qey z])
  ·simp [c_57_l0,qat,h4,h5,h6,h7,hL,q,z,hc,hw,hlen];exact (ih (k,(rdOp s).1,acc++[(rdOp s).2]) _ _ (QAt k) ⟨qex hb,by simp;omega,by simp [h4],by simp [h5],by simp [Xc.ce,hk0,ha0],by simp,T++E,N2,hT2,hN2,hS2,by simp [qat]⟩).trans (by simp [RD,qey z])
  ·simp [c_57_l0,qat,h4,h5,h6,h7,hL,q,z,hc,hw,hlen];exact (ih (k,(rdOp s).1,acc++[(rdOp s).2]) _ _ (QAt k) ⟨qex hb,by simp;omega,by simp [h4],by simp [h5],by simp [Xc.ce,hk0,hb0],by simp,T++E,N2,hT2,hN2,hS2,by simp [qat]⟩).trans (by simp [RD,qey z])
  ·simp [c_57_l0,qat,h4,h5,h6,h7,hL,q,z,hc,hw,hlen];exact (ih (k,(rdOp s).1,acc++[(rdOp s).2]) _ _ (QAt k) ⟨qex hb,by simp;omega,by simp [h4],by simp [h5],by simp [Xc.ce,hk0],by simp,T++E,N2,hT2,hN2,hS2,by simp [qat]⟩).trans (by simp [RD,qey z])
  ·simp [c_57_l0,qat,h4,h5,h6,h7,hL,q,z,hc,hw,hlen];exact (ih (k,(rdOp s).1,acc++[(rdOp s).2]) _ _ (QAt k) ⟨qex hb,by simp;omega,by simp [h4],by simp [h5],by simp [Xc.ce,ha0,hb0],by simp,T++E,N2,hT2,hN2,hS2,by simp [qat]⟩).trans (by simp [RD,qey z])
  ·simp [c_57_l0,qat,h4,h5,h6,h7,hL,q,z,hc,hw,hlen];exact (ih (k,(rdOp s).1,acc++[(rdOp s).2]) _ _ (QAt k) ⟨qex hb,by simp;omega,by simp [h4],by simp [h5],by simp [Xc.ce,ha0],by simp,T++E,N2,hT2,hN2,hS2,by simp [qat]⟩).trans (by simp [RD,qey z])
  ·simp [c_57_l0,qat,h4,h5,h6,h7,hL,q,z,hc,hw,hlen];exact (ih (k,(rdOp s).1,acc++[(rdOp s).2]) _ _ (QAt k) ⟨qex hb,by simp;omega,by simp [h4],by simp [h5],by simp [Xc.ce,hb0],by simp,T++E,N2,hT2,hN2,hS2,by simp [qat]⟩).trans (by simp [RD,qey z])
  ·simp [c_57_l0,qat,h4,h5,h6,h7,hL,q,z,hc,hw,hlen];exact (ih (k,(rdOp s).1,acc++[(rdOp s).2]) _ _ (QAt k) ⟨qex hb,by simp;omega,by simp [h4],by simp [h5],by simp [Xc.ce],by simp,T++E,N2,hT2,hN2,hS2,by simp [qat]⟩).trans (by simp [RD,qey z])
theorem qx6 (b:List Int) (hb:okB b):qad Φ f_57 [.slice 1 (b.map c8)]=some (.val (.tup [.slice 9 ((decB b).1.map Xc.c),.int .i64 (decB b).2])):=by
 rw [qaa (fn:=c_57) rfl rfl];have hn1:=qsq ⟨b,0⟩ hb;have hb1:okB (rdN 1 ⟨b,0⟩).1.b:=qbd hb;have hrng:=qha (s:=⟨b,0⟩) hb;have hw1:IntKind.wrap .i64 (rdN 1 ⟨b,0⟩).2=(rdN 1 ⟨b,0⟩).2:=qbb (by omega) (by omega);have key:=fun n hn hk=>qaaf n hn n (cntS (rdN 1 ⟨b,0⟩)) [] (qth hb1) hk
 have hq:∀(ok:Bool),ok=decide ((rdN 1 ⟨b,0⟩).2<=64)->∀T N,qah Φ f_123 [.ptr 0 2 0 0,.bool ok,.int .i64 5] ⟨(0,.row 2 [cSt (rdN 1 ⟨b,0⟩).1])::T,N⟩=
   some (.val (.tup []),⟨(0,.row 2 [cSt (cntS (rdN 1 ⟨b,0⟩))])::T,N⟩):=by
  rintro ok rfl T N;rw [dreq];simp only [cntS];by_cases a:(rdN 1 ⟨b,0⟩).1.e=0
  ·by_cases c:(rdN 1 ⟨b,0⟩).2<=64
   ·have d:¬(64<(rdN 1 ⟨b,0⟩).2):=by omega
    simp [a,c,d]
   ·have d:64<(rdN 1 ⟨b,0⟩).2:=by omega
    simp [a,c,d]
  ·have:=qur a;simp [a,this]
 have hdec:decB b=(if endE (qdh (rdN 1 ⟨b,0⟩).2.toNat (cntS (rdN 1 ⟨b,0⟩))).1=0 then (qdh (rdN 1 ⟨b,0⟩).2.toNat (cntS (rdN 1 ⟨b,0⟩))).2 else [],endE (qdh (rdN 1 ⟨b,0⟩).2.toNat (cntS (rdN 1 ⟨b,0⟩))).1):=rfl;rw [hdec];simp only [qat,QBl,QAq] at hn1 hq key;generalize cntS (rdN 1 ⟨b,0⟩)=s2 at*;obtain ⟨n,hn⟩:∃n:Nat,(rdN 1 ⟨b,0⟩).2=(n:Int):=⟨_,(QCm hrng.1).symm⟩;rw [hn] at hn1 hrng hw1 hq;rw [hn,QCd];have hq':=hq (decide (n<=64)) (decide_eq_decide.2 (by omega));simp [c_57,qat,hn1,hw1,hq'];refine (key n (by omega) (by simp) _ [] 2 ?_ ?_ ?_ ?_ (Tail.nil 2) (Qb _) (by simp)).trans ?_
 ·simp
 ·simp
 ·simp
 ·simp
 ·simp [RD]
theorem qa0 {t:Nat} {x y:AO}:∀{O:List (Nat×AO)},look t O=some x->look t (setl t y O)=some y
 | [],h=>by simp at h
 | (u,z)::r,h=>by
  by_cases hu:u=t
  ·subst hu;simp
  ·simp [hu] at h;simp [hu,qa0 h]
theorem qci {t j:Nat} {y:AO} (hj:j≠t):∀{O:List (Nat×AO)},look j (setl t y O)=look j O
 | []=>by simp
 | (u,z)::r=>by
  by_cases hu:u=t
  ·subst hu;have:¬u=j:=fun h=>hj h.symm
   simp [this]
  ·by_cases hv:u=j
   ·subst hv;simp [hu]
   ·simp [hu,hv,qci hj]
theorem qdg {t:Nat} {y z:AO}:∀{O:List (Nat×AO)},setl t z (setl t y O)=setl t z O
 | []=>by simp
 | (u,w)::r=>by
  by_cases hu:u=t
  ·subst hu;simp
  ·simp [hu,qdg]
theorem qgf {t:Nat} {x y:AO}:∀{O r:List (Nat×AO)},look t O=some x->setl t y (O++r)=setl t y O++r
 | [],_,h=>by simp at h
 | (u,w)::o,r,h=>by
  by_cases hu:u=t
  ·subst hu;simp
  ·simp [hu] at h;simp [hu,qgf h]
theorem qeq {t N:Nat} {y:AO} {O:List (Nat×AO)} (h:Tail O N) (ht:t<N):Tail (setl t y O) N:=by
 intro j hj;rw [qci (by omega)];exact h j hj
theorem wr8u (v:Int):IntKind.wrap .u8 v=v % 256:=by simp [IntKind.wrap,IntKind.bits,IntKind.signed]
theorem ishr0 (v:Int):ishr .i64 v 0=v:=by
 unfold ishr;have:(2:Int)^(min (0:Int).toNat (IntKind.bits .i64))=1:=by decide
 rw [this,Int.fdiv_one]
theorem ishr8 (v:Int):ishr .i64 v 8=v / 256:=by
 unfold ishr;have:(2:Int)^(min (8:Int).toNat (IntKind.bits .i64))=256:=by decide
 rw [this,QBe _ (by decide)]
theorem qaj1 (v:Int):ishr .i64 v 16=v / 65536:=by
 unfold ishr;have:(2:Int)^(min (16:Int).toNat (IntKind.bits .i64))=65536:=by decide
 rw [this,QBe _ (by decide)]
theorem qaj2 (v:Int):ishr .i64 v 24=v / 16777216:=by
 unfold ishr;have:(2:Int)^(min (24:Int).toNat (IntKind.bits .i64))=16777216:=by decide
 rw [this,QBe _ (by decide)]
theorem qxm {O:List (Nat×AO)} {N t:Nat} {E:List (List AV)} {v:Int} (h:look t O=some (.tok 1 E.length)) (hE:E.length<=1099511627776):
  qah Φ f_129 [.app 1 E t,.int .i64 v,.int .i64 2] ⟨O,N⟩=some (.val (.app 1 (E++[[.int .u8 (v / 256 % 256)],[.int .u8 (v % 256)]]) t),⟨setl t (.tok 1 (E.length+2)) O,N⟩):=by
 rw [qau (fn:=c_129) rfl rfl];have k1:IntKind.wrap .i64 1=1:=by decide
 have k0:IntKind.wrap .i64 0=0:=by decide
 have k8:IntKind.wrap .i64 8=8:=by decide
 have km:IntKind.wrap .i64 (-1)= -1:=by decide
 have l1:E.length+1<=70368744177664:=by omega
 have l2:E.length+1+1<=70368744177664:=by omega
 simp [c_129,k1];rw [qar];simp [c_129_l0,k0,k8,h,l1,wr8u];rw [qar];simp [c_129_l0,k0,km,qa0 h,l2,wr8u];rw [qar];simp [c_129_l0,c_129_k1];exact ⟨⟨by rw [ishr8],by rw [ishr0]⟩,qdg⟩
theorem qon {O:List (Nat×AO)} {N t:Nat} {E:List (List AV)} {v:Int} (h:look t O=some (.tok 1 E.length)) (hE:E.length<=1099511627776):
  qah Φ f_129 [.app 1 E t,.int .i64 v,.int .i64 4] ⟨O,N⟩=some (.val (.app 1 (E++[[.int .u8 (v / 16777216 % 256)],[.int .u8 (v / 65536 % 256)],[.int .u8 (v / 256 % 256)],[.int .u8 (v % 256)]]) t),⟨setl t (.tok 1 (E.length+4)) O,N⟩):=by
 rw [qau (fn:=c_129) rfl rfl];have k3:IntKind.wrap .i64 3=3:=by decide
 have k2:IntKind.wrap .i64 2=2:=by decide
 have k1:IntKind.wrap .i64 1=1:=by decide
 have k0:IntKind.wrap .i64 0=0:=by decide
 have k8:IntKind.wrap .i64 8=8:=by decide
 have k16:IntKind.wrap .i64 16=16:=by decide
 have k24:IntKind.wrap .i64 24=24:=by decide
 have km:IntKind.wrap .i64 (-1)= -1:=by decide
 have l1:E.length+1<=70368744177664:=by omega
 have l2:E.length+1+1<=70368744177664:=by omega
 have l3:E.length+1+1+1<=70368744177664:=by omega
 have l4:E.length+1+1+1+1<=70368744177664:=by omega
 simp [c_129,k3];rw [qar];simp [c_129_l0,k2,k24,h,l1,wr8u];rw [qar];simp [c_129_l0,k1,k16,qa0 h,l2,wr8u,qdg];rw [qar];simp [c_129_l0,k0,k8,qa0 h,l3,wr8u,qdg];rw [qar];simp [c_129_l0,k0,km,qa0 h,l4,wr8u,qdg];rw [qar];simp [c_129_l0,c_129_k1];exact ⟨by rw [qaj2],by rw [qaj1],by rw [ishr8],by rw [ishr0]⟩
def AQ (t N:Nat) (E:List (List AV)) (r:Option (Rt×AH)):Prop:=
 ∃O' N',r=some (.val (.app 1 E t),⟨O',N'⟩)/\N<=N'/\Tail O' N'/\look t O'=some (.tok 1 E.length)
theorem qoq {l:List Int} {i:Nat} (hi:i<l.length):qct (l.take (i+1))=qct (l.take i)++be4 l[i]:=by
 unfold qct;rw [Qh hi,QBb,List.flatten_append];simp
theorem qiu:∀l:List Int,(qct l).length=4*l.length
 | []=>by simp [qct]
 | x::l=>by
  have:=qiu l;have e:qct (x::l)=be4 x++qct l:=by simp [qct]
  rw [e,QAc,this];simp [be4];omega
theorem qos (v:Int):(be4 v).map c8=[[.int .u8 (v / 16777216 % 256)],[.int .u8 (v / 65536 % 256)],[.int .u8 (v / 256 % 256)],[.int .u8 (v % 256)]]:=by simp [be4,c8e]
theorem qor (v:Int):(be2 v).map c8=[[.int .u8 (v / 256 % 256)],[.int .u8 (v % 256)]]:=by simp [be2,c8e]
theorem qxl {N0 N t:Nat} {E:List (List AV)} {l:List Int} (ht:t<N) (hE:E.length<=549755814900) (hl:l.length<=255) (ho:∀x∈l,0<=x/\x<=4294967295) (hN0:N0<=N)
  (e:Env) (O:List (Nat×AO)) (hT:Tail O N) (h:look t O=some (.tok 1 E.length)) (h0:look 0 e=some (.app 1 E t)) (h19:look 19 e=some (.slice 1 (l.map c32))) (h20:look 20 e=some (.int .i64 l.length)) (h21:look 21 e=some (.int .i64 0)):
  AQ t N0 (E++(qct l).map c8) (go Φ (finC [.tmp 4]) [.c (.loop c_130_l0),.b 0,.c c_130_k1] .normal ⟨e,⟨O,N⟩⟩):=by
 refine qhw (fun i:Nat=>l.length - i) (fun i e h=>i<=l.length/\look 0 e=some (.app 1 (E++(qct (l.take i)).map c8) t)/\look 19 e=some (.slice 1 (l.map c32))/\look 20 e=some (.int .i64 l.length)/\look 21 e=some (.int .i64 i)/\
  ∃O,Tail O N/\look t O=some (.tok 1 (E++(qct (l.take i)).map c8).length)/\h=⟨O,N⟩) (fun _=>AQ t N0 (E++(qct l).map c8)) ?_ 0 e _ ⟨Qc _,by simp [h0,qct],h19,h20,by simp [h21],O,hT,by simp [h,qct],rfl⟩
 rintro i e _ L hL ⟨hi,h0,h19,h20,h21,O,hT,h,rfl⟩ ih;rcases Qv i l.length with hlt | hge
 ·have hw:=qal i (by omega);have hx:=ho _ (Qd hlt);have hx64:IntKind.wrap .i64 l[i]=l[i]:=qbb (by omega) (by omega);have hlen:(E++(qct (l.take i)).map c8).length<=1099511627776:=by
   rw [QAc,QAb,qiu,QAp];omega
  have h4:=qon (N:=N) (v:=l[i]) h hlen;simp [c_130_l0,h0,h19,h20,h21,hlt,hL,qmv,hx64,hw,h4];refine ih (i+1) _ _ (by omega) ⟨hlt,?_,by simp [h19,qmv],by simp [h20],by simp,_,qeq hT ht,?_,rfl⟩
  ·simp [qoq hlt,qos]
  ·rw [qa0 h];simp [qoq hlt,be4];omega
 ·have hi':i=l.length:=by omega
  subst hi';simp [c_130_l0,c_130_k1,h0,h19,h20,h21,hL];refine ⟨O,N,by simp,hN0,hT,?_⟩;rw [h];simp
theorem qxk {O:List (Nat×AO)} {N t:Nat} {E:List (List AV)} {c:Xb} (h:look t O=some (.tok 1 E.length)) (hT:Tail O N) (ht:t<N) (hE:E.length<=549755813888) (ha:c.args.length<=255) (ho:okC c):
  AQ t N (E++(qcn c).map c8) (qah Φ f_130 [.app 1 E t,.agg (cC c)] ⟨O,N⟩):=by
 rw [qau (fn:=c_130) rfl rfl];have hN:=hT N (Qb _);have hw:IntKind.wrap .u8 (c.args.length:Int)=(c.args.length:Int):=by rw [wr8u];omega
 have h2:=qxm (O:=O++[(N,.row 2 [cC c])]) (N:=N+1) (t:=t) (E:=E) (v:=c.action) (by rw [qa2,h];rfl) (by omega);have hl:E.length+2+1<=70368744177664:=by omega
 have hne:¬N=t:=by omega
 have hne':¬t=N:=by omega
 simp only [cC_e,qgf h] at h2;simp [c_130,cC_e,hN,h2,qa2,qa0 h,qci hne,qgf (qa0 h),qdg,hl,hw];have hl:=fun e h1 h2 h3 h4=>qxl (N0:=N) (N:=N+1) (t:=t) (E:=E++[[.int .u8 (c.action / 256 % 256)],[.int .u8 (c.action % 256)],[.int .u8 c.args.length]]) (l:=c.args) (Nat.lt_succ_of_lt ht) (by rw [QAc];simp only [QAn,QAq];omega) ha ho (QBh N) e
  (setl t (.tok 1 (E.length+2+1)) O++[(N,.row 2 [[.int .i64 c.action,.slice 1 (c.args.map c32)]])]) ((qeq hT ht).app _) (by rw [qa2,qa0 h];simp) h1 h2 h3 h4
 have e:E++(qcn c).map c8=(E++[[.int .u8 (c.action / 256 % 256)],[.int .u8 (c.action % 256)],[.int .u8 c.args.length]])++(qct c.args).map c8:=by
  simp [qcn,be2,c8e]
 rw [e];exact hl _ (by simp) (by simp) (by simp) (by simp)
def opC1:Xv:=match c_64.body with | .seq a _=>a | c=>c
def opC2:Xv:=match c_64.body with | .seq _ (.seq a _)=>a | c=>c
def opC3:Xv:=match c_64.body with | .seq _ (.seq _ a)=>a | c=>c
theorem qake:c_64.body= .seq opC1 (.seq opC2 opC3):=rfl
theorem qwm (n z:Nat) (es:List (List AV)) (h:eqL (eqL (avEq n)) es es=true):avEq (n+1) (.slice z es) (.slice z es)=true:=by unfold avEq;simp [h]
theorem qae3 (o:Xc):aoEq (some (.row 9 [Xc.c o])) (some (.row 9 [Xc.c o]))=true:=by
 apply qhp;intro x hx;have hk:∀l:List Xi,avEq 40 (.slice 2 (l.map Xi.c)) (.slice 2 (l.map Xi.c))=true:=by
  intro l;refine qwm 39 _ _ (qef _ _ ?_);intro x hx;obtain ⟨y,_,rfl⟩:=QAv.1 hx;rw [Xi.ceJ];exact qef _ _ (by simp;exact ⟨qbi 38 _ _,qbi 38 _ _⟩)
 have ha:∀l:List Int,avEq 40 (.slice 1 (l.map c32)) (.slice 1 (l.map c32))=true:=by
  intro l;refine qwm 39 _ _ (qef _ _ ?_);intro x hx;obtain ⟨y,_,rfl⟩:=QAv.1 hx;rw [qmv];exact qef _ _ (by simp;exact qbi 38 _ _)
 rw [Xc.ce] at hx;simp only [QAe,QAr,or_false] at hx;rcases hx with rfl | rfl | rfl | rfl | rfl | rfl | rfl | rfl | rfl
 case _=>exact qbi 39 _ _
 case _=>exact qbi 39 _ _
 case _=>exact qbi 39 _ _
 case _=>exact hk _
 case _=>exact qbi 39 _ _
 case _=>exact qbi 39 _ _
 case _=>exact ha _
 case _=>exact qbi 39 _ _
 case _=>exact ha _
def opT (o:Xc):List Int:=be2 o.table++(if o.kind=1 then be2 o.entry.Xt++((o.entry.keys.length:Int)::(qb1 o.entry.keys++qcn o.entry.call)) else if o.kind=2 then be4 o.id++qcn o.call else if o.kind=3 then be4 o.id else qcn o.call)
theorem qakd (o:Xc):opB o=o.kind::opT o:=rfl
theorem qns {t z f:Nat}:∀{O:List (Nat×AO)},look t O=some (.tok z f)->look t (qao O)=some (.tok z f)
 | [],h=>by simp at h
 | (u,w)::r,h=>by
  by_cases hu:u=t
  ·subst hu;simp at h;subst h;simp
  ·simp [hu] at h;have:=qns h;cases w<;>simp [hu,this]
theorem qni {N:Nat}:∀{O:List (Nat×AO)},Tail O N->Tail (qao O) N
 | [],h=>by simpa using h
 | (u,w)::r,h=>by
  have hr:Tail r N:=by
   intro j hj;have:=h j hj;by_cases hu:u=j
   ·subst hu;simp at this
   ·simpa [hu] using this
  have ih:=qni hr;intro j hj;have hu:¬u=j:=by
   intro hu;subst hu;have:=h u hj;simp at this
  have:=ih j hj;cases w<;>simp [hu,this]
theorem qys {l:List Xi} {i:Nat} (hi:i<l.length):qb1 (l.take (i+1))=qb1 (l.take i)++(be4 l[i].value++be4 l[i].mask):=by
 unfold qb1;rw [Qh hi,QBb,List.flatten_append];simp [keyB]
theorem qi1:∀l:List Xi,(qb1 l).length=8*l.length
 | []=>by simp [qb1]
 | x::l=>by
  have:=qi1 l;have e:qb1 (x::l)=keyB x++qb1 l:=by simp [qb1]
  rw [e,QAc,this];simp [keyB,be4];omega
theorem Tail.ltJ {O:List (Nat×AO)} {N t:Nat} {x:AO} (hT:Tail O N) (h:look t O=some x):t<N:=by
 rcases Qv t N with h1 | h1
 ·exact h1
 ·rw [hT t h1] at h;cases h
theorem qacg {N0 t p:Nat} {E:List (List AV)} {o:Xc} (hpt:p≠t) (hE:E.length<=274877916944) (hl:o.entry.keys.length<=255) (ho:∀x∈o.entry.keys,okK x) (ha:o.entry.call.args.length<=255) (ho2:okC o.entry.call)
  (e:Env) (O:List (Nat×AO)) (N:Nat) (hN0:N0<=N) (hT:Tail O N) (h:look t O=some (.tok 1 E.length)) (hp:look p O=some (.row 9 [Xc.c o]))
  (h0:look 0 e=some (.app 1 E t)) (h3:look 3 e=some (.ptr p 9 0 0)) (h36:look 36 e=some (.slice 2 (o.entry.keys.map Xi.c))) (h37:look 37 e=some (.int .i64 o.entry.keys.length)) (h38:look 38 e=some (.int .i64 0)):
  AQ t N0 (E++((qb1 o.entry.keys).map c8++(qcn o.entry.call).map c8)) (go Φ (finC [.tmp 4]) [.c (.loop c_64_l0),.b 1,.c c_64_k1,.b 0,.c c_64_k2] .normal ⟨e,⟨O,N⟩⟩):=by
 refine qhw (fun i:Nat=>o.entry.keys.length - i) (fun i e h=>i<=o.entry.keys.length/\look 0 e=some (.app 1 (E++(qb1 (o.entry.keys.take i)).map c8) t)/\look 3 e=some (.ptr p 9 0 0)/\look 36 e=some (.slice 2 (o.entry.keys.map Xi.c))/\look 37 e=some (.int .i64 o.entry.keys.length)/\look 38 e=some (.int .i64 i)/\
  ∃O N,N0<=N/\Tail O N/\look t O=some (.tok 1 (E++(qb1 (o.entry.keys.take i)).map c8).length)/\look p O=some (.row 9 [Xc.c o])/\h=⟨O,N⟩) (fun _=>AQ t N0 (E++((qb1 o.entry.keys).map c8++(qcn o.entry.call).map c8))) ?_ 0 e _ ⟨Qc _,by simp [h0,qb1],h3,h36,h37,by simp [h38],O,N,hN0,hT,by simp [h,qb1],hp,rfl⟩
 rintro i e _ L hL ⟨hi,h0,h3,h36,h37,h38,O,N,hN0,hT,h,hp,rfl⟩ ih;have htN:=hT.ltJ h;have hpN:=hT.ltJ hp;have hlenT:(E++(qb1 (o.entry.keys.take i)).map c8).length<=274877926944:=by
  rw [QAc,QAb,qi1,QAp];omega
 rcases Qv i o.entry.keys.length with hlt | hge
 ·have hw:=qal i (by omega);obtain ⟨hx,hy⟩:=ho _ (Qd hlt);have hx64:IntKind.wrap .i64 o.entry.keys[i].value=o.entry.keys[i].value:=qbb (by omega) (by omega);have hy64:IntKind.wrap .i64 o.entry.keys[i].mask=o.entry.keys[i].mask:=qbb (by omega) (by omega);have hNN:=hT N (Qb _);have hNt:¬N=t:=by omega
  have hNp:¬N=p:=by omega
  have hD2:E++(qb1 (o.entry.keys.take (i+1))).map c8=(E++(qb1 (o.entry.keys.take i)).map c8)++((be4 o.entry.keys[i].value).map c8++(be4 o.entry.keys[i].mask).map c8):=by
   rw [qys hlt];simp
  generalize E++(qb1 (o.entry.keys.take i)).map c8=D at*;have h4:=qon (O:=O++[(N,.row 2 [[.int .u32 o.entry.keys[i].value,.int .u32 o.entry.keys[i].mask]])]) (N:=N+1) (v:=o.entry.keys[i].value) (by rw [qa2,h];rfl) (by omega:D.length<=1099511627776);have h5:=qon (O:=setl t (.tok 1 (D.length+4)) O++[(N,.row 2 [[.int .u32 o.entry.keys[i].value,.int .u32 o.entry.keys[i].mask]])]) (N:=N+1) (t:=t) (v:=o.entry.keys[i].mask)
   (E:=D++[[.int .u8 (o.entry.keys[i].value / 16777216 % 256)],[.int .u8 (o.entry.keys[i].value / 65536 % 256)],[.int .u8 (o.entry.keys[i].value / 256 % 256)],[.int .u8 (o.entry.keys[i].value % 256)]])
   (by rw [qa2,qa0 h,QAc];rfl) (by rw [QAc];simp only [QAn,QAq];omega)
  rw [qgf h] at h4;rw [qgf (qa0 h)] at h5;simp only [qdg,QAi,QAh,QAj] at h5;have hl2:look N (setl t (.tok 1 (D.length+4)) O)=none:=by rw [qci hNt];exact hNN
  simp [c_64_l0,h0,h3,h36,h37,h38,hlt,hL,Xi.ceJ,hx64,hy64,hw,hNN,h4,h5,hl2];refine ih (i+1) _ _ (by omega) ⟨hlt,?_,by simp [h3],by simp [h36,Xi.ceJ],by simp [h37],by simp,_,N+1,by omega,(qeq hT htN).app _,?_,?_,rfl⟩
  ·simp [hD2,qos]
  ·rw [qa2,qa0 h,hD2];simp [be4]
  ·rw [qa2,qci hpt,hp];rfl
 ·have hi':i=o.entry.keys.length:=by omega
  subst hi';obtain ⟨O',N',hc,g1,g2,g3⟩:=qxk (N:=N) (c:=o.entry.call) h hT htN (by omega) ha ho2;simp only [cC_e,QAk] at hc;rw [Xc.ce] at hp;rw [QAk] at h0;simp [c_64_l0,c_64_k1,h0,h3,h36,h37,h38,hL,hp,hc];rw [QAk] at g3;exact ⟨O',N',by simp,by omega,g2,by simpa using g3⟩
theorem qwl {O:List (Nat×AO)} {N0 N t p:Nat} {E:List (List AV)} {o:Xc} (h:look t O=some (.tok 1 E.length)) (hp:look p O=some (.row 9 [Xc.c o])) (hpt:p≠t) (hT:Tail O N) (ht:t<N) (hN0:N0<=N) (hE:E.length<=274877906944) (he:opE o=true) (ho:okO o)
  (e:Env) (h0:look 0 e=some (.app 1 E t)) (h3:look 3 e=some (.ptr p 9 0 0)):
  AQ t N0 (E++(opT o).map c8) (go Φ (finC [.tmp 4]) [.c opC3] .normal ⟨e,⟨O,N⟩⟩):=by
 obtain ⟨o1,o2,o3⟩:=ho;unfold opE at he;rw [QAd] at he;obtain ⟨he1,he2⟩:=he;have h2:=qxm (N:=N) (v:=o.table) h (by omega);rw [Xc.ce] at hp;by_cases c3:o.kind=3
 ·have h4:=qon (O:=setl t (.tok 1 (E.length+2)) O) (N:=N) (t:=t) (E:=E++[[.int .u8 (o.table / 256 % 256)],[AV.int .u8 (o.table % 256)]]) (v:=o.id) (by rw [qa0 h];simp) (by simp;omega);rw [c3] at hp;simp [opC3,c_64,h0,h3,hp,h2,qci hpt,h4,qdg];refine ⟨_,N,by simp [opT,c3,qor,qos];rfl,hN0,qeq hT ht,?_⟩;rw [qa0 h];simp [opT,c3,be2,be4]
 have hlk2:look t (setl t (.tok 1 (E.length+2)) O)=some (.tok 1 (E++[[AV.int .u8 (o.table / 256 % 256)],[AV.int .u8 (o.table % 256)]]).length):=by rw [qa0 h];simp
 by_cases c4:o.kind=4
 ·simp [c4] at he2;simp [qcq] at he2;obtain ⟨O',N',hc,g1,g2,g3⟩:=qxk (N:=N) (c:=o.call) hlk2 (qeq hT ht) ht (by simp;omega) he2.2 o3;simp only [cC_e] at hc;rw [c4] at hp;simp [opC3,c_64,c_64_k2,h0,h3,hp,h2,qci hpt,hc];have e2:E++(opT o).map c8=(E++[[AV.int .u8 (o.table / 256 % 256)],[AV.int .u8 (o.table % 256)]])++(qcn o.call).map c8:=by simp [opT,c4,qor]
  rw [e2];exact ⟨O',N',by simp,by omega,g2,g3⟩
 by_cases c2:o.kind=2
 ·simp [c2] at he2;obtain ⟨hi,he3⟩:=he2;simp [qcq] at he3;have h4:=qon (N:=N+1) (v:=o.id) hlk2 (by simp;omega);have hlk4:look t (setl t (.tok 1 (E.length+6)) O)=some (.tok 1 (E++[[AV.int .u8 (o.table / 256 % 256)],[AV.int .u8 (o.table % 256)],[AV.int .u8 (o.id / 16777216 % 256)],[AV.int .u8 (o.id / 65536 % 256)],[AV.int .u8 (o.id / 256 % 256)],[AV.int .u8 (o.id % 256)]]).length):=by rw [qa0 h];simp
  obtain ⟨O',N',hc,g1,g2,g3⟩:=qxk (N:=N+1) (c:=o.call) hlk4 ((qeq hT ht).mono (QBh N)) (Nat.lt_succ_of_lt ht) (by simp;omega) he3.2 o3;simp only [cC_e] at hc;have ha:=qae3 o;rw [Xc.ce,c2] at ha;rw [c2] at hp;simp [opC3,c_64,h0,h3,hp,h2,qci hpt,h4,qdg,hc,ha];have e2:E++(opT o).map c8=(E++[[AV.int .u8 (o.table / 256 % 256)],[AV.int .u8 (o.table % 256)],[AV.int .u8 (o.id / 16777216 % 256)],[AV.int .u8 (o.id / 65536 % 256)],[AV.int .u8 (o.id / 256 % 256)],[AV.int .u8 (o.id % 256)]])++(qcn o.call).map c8:=by simp [opT,c2,qor,qos]
  rw [e2];exact ⟨qao O',N',by simp,by omega,qni g2,qns g3⟩
 have c1:o.kind=1:=by
  by_cases c1:o.kind=1
  ·exact c1
  ·simp [c1,c2,c3,c4] at he2
 simp [c1] at he2;obtain ⟨hpr,hkl,hca⟩:=he2;simp [qcq] at hca;have h3':=qxm (N:=N) (v:=o.entry.Xt) hlk2 (by simp;omega);have hlk4:look t (setl t (.tok 1 (E.length+4)) O)=some (.tok 1 (E++[[AV.int .u8 (o.table / 256 % 256)],[AV.int .u8 (o.table % 256)],[AV.int .u8 (o.entry.Xt / 256 % 256)],[AV.int .u8 (o.entry.Xt % 256)]]).length):=by rw [qa0 h];simp
 have hw:IntKind.wrap .u8 (o.entry.keys.length:Int)=(o.entry.keys.length:Int):=by rw [wr8u];omega
 have hl:E.length+4+1<=70368744177664:=by omega
 have hE5:E++(opT o).map c8=(E++[[AV.int .u8 (o.table / 256 % 256)],[AV.int .u8 (o.table % 256)],[AV.int .u8 (o.entry.Xt / 256 % 256)],[AV.int .u8 (o.entry.Xt % 256)],[AV.int .u8 (o.entry.keys.length:Int)]])++((qb1 o.entry.keys).map c8++(qcn o.entry.call).map c8):=by
  simp [opT,c1,qor,c8e]
 have key:=fun e O N a b c d f g k m n=>qacg (N0:=N0) (t:=t) (p:=p) (E:=E++[[AV.int .u8 (o.table / 256 % 256)],[AV.int .u8 (o.table % 256)],[AV.int .u8 (o.entry.Xt / 256 % 256)],[AV.int .u8 (o.entry.Xt % 256)],[AV.int .u8 (o.entry.keys.length:Int)]]) (o:=o) hpt (by simp;omega) hkl o1 hca.2 o2 e O N a b c d f g k m n
 have hp':=hp;rw [c1] at hp';rw [hE5];simp [opC3,c_64,h0,h3,hp',h2,qci hpt,h3',qdg,qa0 h,hl,hw];simp only [QAi,QAh,QAj] at key;exact key _ _ N hN0 (qeq hT ht) (by rw [qa0 h];simp) (by rw [qci hpt];exact hp) (by simp) (by simp [h3]) (by simp) (by simp) (by simp)
def BV (B:AV) (E:List (List AV)) (O:List (Nat×AO)):Prop:=B= .Xu 1 E\/∃t,B= .app 1 E t/\look t O=some (.tok 1 E.length)
theorem quj {o:Xc} (he:opE o=true):1<=o.kind/\o.kind<=4:=by
 by_cases k1:o.kind=1
 ·omega
 by_cases k2:o.kind=2
 ·omega
 by_cases k3:o.kind=3
 ·omega
 by_cases k4:o.kind=4
 ·omega
 ·simp [opE,k1,k2,k3,k4] at he
theorem aop {O:List (Nat×AO)} {N:Nat} {B:AV} {E:List (List AV)} {o:Xc} (hB:BV B E O) (hT:Tail O N) (hE:E.length<=274877906900) (he:opE o=true) (ho:okO o):
  ∃t,AQ t N (E++(opB o).map c8) (qah Φ f_64 [B,.agg (Xc.c o)] ⟨O,N⟩):=by
 have hk:=quj he;have hw:IntKind.wrap .u8 o.kind=o.kind:=by rw [wr8u];omega
 have hl:E.length+1<=70368744177664:=by omega
 have hNN:=hT N (Qb _);have e2:E++(opB o).map c8=(E++[[AV.int .u8 o.kind]])++(opT o).map c8:=by simp [qakd,c8e]
 rw [qau (fn:=c_64) rfl rfl,e2,qake];have hres:c_64.results=[.tmp 4]:=rfl;rw [hres];rcases hB with rfl | ⟨t,rfl,h⟩
 ·refine ⟨N+1,?_⟩;have hN1:=hT (N+1) (by omega);have key:=fun e a b=>qwl (O:=O++[(N,.row 9 [Xc.c o]),(N+1,.tok 1 (E.length+1))]) (N0:=N) (N:=N+1+1) (t:=N+1) (p:=N) (E:=E++[[AV.int .u8 o.kind]]) (o:=o) (by simp [qa2,hN1]) (by simp [qa2,hNN]) (by omega)
   (by have:=(hT.app (.row 9 [Xc.c o])).app (.tok 1 (E.length+1));simpa using this) (by omega) (by omega) (by simp;omega) he ho e a b
  simp [opC1,opC2,c_64,Xc.ce,hNN,hN1,hw,hl];simp only [Xc.ce,QAi,QAh,QAj] at key;exact key _ (by simp) (by simp)
 ·refine ⟨t,?_⟩;have htN:=hT.ltJ h;have hNt:¬N=t:=by omega
  have key:=fun e a b=>qwl (O:=setl t (.tok 1 (E.length+1)) O++[(N,.row 9 [Xc.c o])]) (N0:=N) (N:=N+1) (t:=t) (p:=N) (E:=E++[[AV.int .u8 o.kind]]) (o:=o) (by rw [qa2,qa0 h];simp) (by rw [qa2,qci hNt,hNN];simp) hNt
   ((qeq hT htN).app _) (by omega) (by omega) (by simp;omega) he ho e a b
  simp [opC1,opC2,c_64,Xc.ce,hNN,hw,hl,qa2,h,qgf h];simp only [Xc.ce,QAi,QAh,QAj] at key;exact key _ (by simp) (by simp)
theorem qt6 (n:Int):qad Φ f_127 [.int .i64 n]=some (.val (.bool (qb2 n))):=by
 rw [qaa (fn:=c_127) rfl rfl];by_cases q:0<=n<;>simp [c_127,qb2,q]
theorem qaa6 (c:Xb):qad Φ f_128 [.agg (cC c)]=some (.val (.bool (qcq c))):=by
 rw [qaa (fn:=c_128) rfl rfl];have h:=qt6 c.action;cases q:qb2 c.action with
 | false=>rw [q] at h;simp [c_128,cC_e,qcq,h,q]
 | true=>rw [q] at h;simp [c_128,cC_e,qcq,h,q]
theorem qyr (o:Xc):qad Φ f_63 [.agg (Xc.c o)]=some (.val (.bool (opE o))):=by
 rw [qaa (fn:=c_63) rfl rfl];have h1:=qt6 o.table;have h2:=qt6 o.entry.Xt;have h3:=qaa6 o.entry.call;have h4:=qaa6 o.call;simp only [cC_e] at h3 h4;have hid:idI o.id=(decide (0<=o.id)&&decide (o.id<=2147483647)):=rfl;by_cases c1:o.kind=1
 ·have e:opE o=(qb2 o.table&&(qb2 o.entry.Xt&&(decide (o.entry.keys.length<=255)&&qcq o.entry.call))):=by simp [opE,c1]
  rw [e];by_cases qi:0<=o.id<;>cases q1:qb2 o.table<;>cases q2:qb2 o.entry.Xt<;>by_cases q3:o.entry.keys.length<=255<;>rw [q1] at h1<;>rw [q2] at h2<;>simp [c_63,Xc.ce,c1,qi,h1,h2,h3,q3]
 by_cases c2:o.kind=2
 ·have e:opE o=(qb2 o.table&&(idI o.id&&qcq o.call)):=by simp [opE,c2]
  rw [e,hid];by_cases qi:0<=o.id<;>by_cases qj:o.id<=2147483647<;>cases q1:qb2 o.table<;>rw [q1] at h1<;>simp [c_63,Xc.ce,c2,qi,qj,h1,h4]
 by_cases c3:o.kind=3
 ·have e:opE o=(qb2 o.table&&idI o.id):=by simp [opE,c3]
  rw [e,hid];by_cases qi:0<=o.id<;>by_cases qj:o.id<=2147483647<;>cases q1:qb2 o.table<;>rw [q1] at h1<;>simp [c_63,Xc.ce,c3,qi,qj,h1]
 by_cases c4:o.kind=4
 ·have e:opE o=(qb2 o.table&&qcq o.call):=by simp [opE,c4]
  rw [e];by_cases qi:0<=o.id<;>cases q1:qb2 o.table<;>rw [q1] at h1<;>simp [c_63,Xc.ce,c4,qi,h1,h4]
 ·have e:opE o=false:=by simp [opE,c1,c2,c3,c4]
  rw [e];by_cases qi:0<=o.id<;>simp [c_63,Xc.ce,c1,c2,c3,c4,qi]
theorem qagw {o:Xc} (h:opE o=true):(opB o).length<=4000:=by
 unfold opE at h;rw [QAd] at h;obtain ⟨_,h⟩:=h;have hcall:∀c:Xb,qcq c=true->(qcn c).length<=1100:=by
  intro c hc;simp [qcq] at hc;simp only [qcn,be2,QAc,QAn,QAq,qiu];omega
 unfold opB;by_cases c1:o.kind=1
 ·simp [c1] at h;have:=hcall _ h.2.2;rw [QAa c1];simp only [be2,QAc,QAn,QAq,qi1];omega
 by_cases c2:o.kind=2
 ·simp [c2] at h;have:=hcall _ h.2;rw [QA c1,QAa c2];simp only [be2,be4,QAc,QAn,QAq];omega
 by_cases c3:o.kind=3
 ·rw [QA c1,QA c2,QAa c3];simp only [be2,be4,QAc,QAn,QAq];omega
 by_cases c4:o.kind=4
 ·simp [c4] at h;have:=hcall _ h;rw [QA c1,QA c2,QA c3];simp only [be2,QAc,QAn,QAq];omega
 ·simp [c1,c2,c3,c4] at h
theorem qabp {l:List Xc} {i:Nat} (hi:i<l.length):opsB (l.take (i+1))=opsB (l.take i)++opB l[i]:=by
 unfold opsB;rw [Qh hi,QBb,List.flatten_append];simp
theorem qul:∀{l:List Xc},(∀o∈l,opE o=true)->(opsB l).length<=4000*l.length
 | [],_=>by simp [opsB]
 | x::l,h=>by
  have h1:=qul (l:=l) (fun y hy=>h y (QAo _ hy));have h2:=qagw (h x (QAz ..));have e:opsB (x::l)=opB x++opsB l:=by simp [opsB]
  rw [e,QAc,QAn];omega
theorem qafu {l:List Xc} (hl:l.length<=64) (h:∀o∈l.take l.length,opE o=true):encB l=(l.length:Int)::opsB l:=by
 rw [QAk] at h;unfold encB;rw [QAa ⟨hl,h⟩]
theorem qacz {l:List Xc} {i:Nat} (hi:i<l.length) (h:opE l[i]=false):encB l=[]:=by
 unfold encB;rw [QA];intro q;have:=q.2 _ (Qd hi);rw [h] at this;cases this
theorem qagg (l:List Xc) (ho:∀o∈l,okO o):qad Φ f_24 [.slice 9 (l.map Xc.c)]=some (.val (.slice 1 ((encB l).map c8))):=by
 rw [qaa (fn:=c_24) rfl rfl];by_cases q:64<l.length
 ·have:encB l=[]:=by unfold encB;rw [QA (by omega)]
  simp [c_24,q,this]
 have hl:l.length<=64:=by omega
 have hw:IntKind.wrap .u8 (l.length:Int)=(l.length:Int):=by rw [wr8u];omega
 simp [c_24,q,hw];refine qhw (fun i:Nat=>l.length - i) (fun i e h=>i<=l.length/\(∀o∈l.take i,opE o=true)/\look 13 e=some (.slice 9 (l.map Xc.c))/\look 14 e=some (.int .i64 l.length)/\look 15 e=some (.int .i64 i)/\
  ∃B O N,look 3 e=some B/\BV B (([(l.length:Int)]++opsB (l.take i)).map c8) O/\Tail O N/\h=⟨O,N⟩) (fun _ (r:Option Rt)=>r=some (Rt.val (AV.slice 1 ((encB l).map c8)))) ?_ 0 _ _ ⟨Qc _,by simp,by simp,by simp,by simp,.Xu 1 [[.int .u8 (l.length:Int)]],[],0,by simp,.inl (by simp [opsB,c8e]),Tail.nil 0,rfl⟩
 rintro i e _ L hL ⟨hi,hp,h13,h14,h15,B,O,N,h3,hB,hT,rfl⟩ ih;have hNN:=hT N (Qb _);rcases Qv i l.length with hlt | hge
 ·have hwi:=qal i (by omega);have hen:=qyr l[i];rw [Xc.ce] at hen;cases hq:opE l[i] with
  | false=>
   rw [hq] at hen;simp [c_24_l0,Xc.ce,h3,h13,h14,h15,hL,hlt,hNN,hen,qacz hlt hq]
  | true=>
   rw [hq] at hen;have hlen:((([(l.length:Int)]++opsB (l.take i)).map c8).length)<=274877906900:=by
    have:=qul hp;rw [QAp] at this;rw [QAb,QAc];simp only [QAn,QAq];omega
   have hB2:BV B (([(l.length:Int)]++opsB (l.take i)).map c8) (O++[(N,.row 9 [Xc.c l[i]])]):=by
    rcases hB with h | ⟨t,h,h2⟩
    ·exact .inl h
    ·exact .inr ⟨t,h,by rw [qa2,h2];rfl⟩
   obtain ⟨t,O',N',hc,g1,g2,g3⟩:=aop (N:=N+1) hB2 (hT.app _) hlen hq (ho _ (Qd hlt));rw [Xc.ce] at hc;simp [c_24_l0,Xc.ce,h3,h13,h14,h15,hL,hlt,hNN,hen,hc,hwi];have hE2:([(l.length:Int)]++opsB (l.take (i+1))).map c8=([(l.length:Int)]++opsB (l.take i)).map c8++(opB l[i]).map c8:=by
    rw [qabp hlt];simp
   refine ih (i+1) _ _ (by omega) ⟨hlt,?_,by simp [h13,Xc.ce],by simp [h14],by simp,.app 1 (([(l.length:Int)]++opsB (l.take i)).map c8++(opB l[i]).map c8) t,O',N',by simp,by rw [hE2];exact .inr ⟨t,rfl,g3⟩,g2,rfl⟩
   ·intro o ho';rw [Qh hlt] at ho';rcases QAf.1 ho' with h | h
    ·exact hp o h
    ·simp at h;rw [h];exact hq
 ·have hi':i=l.length:=by omega
  subst hi';rw [qafu hl hp];rw [QAk] at hB;rcases hB with rfl | ⟨t,rfl,h2⟩
  ·simp [c_24_l0,c_24_k1,h3,h13,h14,h15,hL]
  ·simp [c_24_l0,c_24_k1,h3,h13,h14,h15,hL]
theorem qpm:∀(n:Nat) {s:Stt},okB s.b->(qbq n s).2.length<=n/\∀x∈(qbq n s).2,0<=x/\x<=4294967295
 | 0,_,_=>by simp [qbq]
 | n+1,s,hb=>by
  by_cases z:s.e=0
  ·rw [qjn z];obtain ⟨h1,h2⟩:=qpm n (s:=(rdN 4 s).1) (qbd hb);refine ⟨by simp;exact h1,?_⟩;intro x hx;rcases QAe.1 hx with rfl | hx
   ·exact qnc hb
   ·exact h2 x hx
  ·rw [qhl z];simp
theorem qpn:∀(n:Nat) {s:Stt},okB s.b->(qck n s).2.length<=n/\∀x∈(qck n s).2,okK x
 | 0,_,_=>by simp [qck]
 | n+1,s,hb=>by
  by_cases z:s.e=0
  ·rw [qmj z];obtain ⟨h1,h2⟩:=qpn n (s:=(qe8 s).1) (qjo hb);refine ⟨by simp;exact h1,?_⟩;intro x hx;rcases QAe.1 hx with rfl | hx
   ·exact ⟨qnc hb,qnc (qbd hb)⟩
   ·exact h2 x hx
  ·rw [qhm z];simp
def smC (c:Xb):Prop:=c.args.length<2^40/\okC c
theorem qld {s:Stt} (hb:okB s.b):smC (qbr s).2:=by
 have hb1:okB (rdN 2 s).1.b:=qbd hb;obtain ⟨h1,h2⟩:=qpm (rdN 1 (rdN 2 s).1).2.toNat (s:=(rdN 1 (rdN 2 s).1).1) (qbd hb1);have:=qha hb1;exact ⟨by rw [qnt];omega,by unfold okC;rw [qnt];exact h2⟩
theorem qiw:smC qc9:=⟨by simp [qc9],by simp [okC,qc9]⟩
def smE (x:Entry):Prop:=x.keys.length<2^40/\(∀k∈x.keys,okK k)/\smC x.call
theorem qv8 {s:Stt} (hb:okB s.b):smE (qe5 s).2:=by
 have hb1:okB (rdN 2 s).1.b:=qbd hb;have hb2:okB (rdN 1 (rdN 2 s).1).1.b:=qbd hb1;obtain ⟨h1,h2⟩:=qpn (rdN 1 (rdN 2 s).1).2.toNat hb2;have:=qha hb1;refine ⟨?_,h2,qld (qle _ hb2)⟩;show (qck (rdN 1 (rdN 2 s).1).2.toNat (rdN 1 (rdN 2 s).1).1).2.length<_;omega
theorem qja:smE qcw:=⟨by simp [qcw],by simp [qcw],qiw⟩
def smO (o:Xc):Prop:=smE o.entry/\smC o.call
theorem qad0 {s:Stt} (hb:okB s.b):smO (rdOp s).2:=by
 have b2:okB (rdN 2 (qel (rdN 1 s))).1.b:=qbd (qmb (qbd hb));unfold rdOp qcl;simp only;split
 ·exact ⟨qja,qiw⟩
 split
 ·exact ⟨qv8 b2,qiw⟩
 split
 ·refine ⟨qja,?_⟩;simp only;split
  ·exact qld (qki b2)
  ·exact qiw
 split
 ·exact ⟨qja,qiw⟩
 ·exact ⟨qja,qld b2⟩
theorem qrz:∀(n:Nat) {s:Stt},okB s.b->(qdh n s).2.length<=n/\∀x∈(qdh n s).2,smO x
 | 0,_,_=>by simp [qdh]
 | n+1,s,hb=>by
  by_cases z:s.e=0
  ·rw [qey z];obtain ⟨h1,h2⟩:=qrz n (s:=(rdOp s).1) (qex hb);refine ⟨by simp;exact h1,?_⟩;intro x hx;rcases QAe.1 hx with rfl | hx
   ·exact qad0 hb
   ·exact h2 x hx
  ·rw [qpp z];simp
theorem qtn {b:List Int} (hb:okB b):(decB b).1.length<=255/\∀x∈(decB b).1,smO x:=by
 have hb1:okB (cntS (rdN 1 ⟨b,0⟩)).b:=qth (qbd hb);obtain ⟨h1,h2⟩:=qrz (rdN 1 ⟨b,0⟩).2.toNat hb1;have:=qha (s:=⟨b,0⟩) hb;unfold decB;simp only;split
 ·exact ⟨by omega,h2⟩
 ·simp
def qot (o:Xc):Bool:=decide (300<o.entry.keys.length) || (decide (300<o.entry.call.args.length) || decide (300<o.call.args.length))
def qgp (l:List Xc):Bool:=decide (80<l.length) || qc1 l qot 0
theorem qvx (l:List Xc) (hb:l.length<2^40):qad Φ f_55 [.slice 9 (l.map Xc.c)]=some (.val (.bool (qgp l))):=by
 rw [qaa (fn:=c_55) rfl rfl];by_cases q:80<l.length
 ·simp [c_55,qgp,q]
 simp [c_55,qgp,q];refine qcj l.length (fun i e=>look 0 e=some (.slice 9 (l.map Xc.c))/\look 3 e=some (.int .i64 i)) (fun i=>some (Rt.val (AV.bool (qc1 l qot i)))) ?_ ?_ 0 _ (Qc _) ?_
 ·rintro i e L hi hL ⟨h0,h3⟩ ih;have hw:=qal i (by omega);cases hb:qot l[i] with
  | true=>
   rw [qp9 hi hb];unfold qot at hb;by_cases y0:300<l[i].entry.keys.length
   ·simp [c_55_l0,Xc.ce,h0,h3,hi,hL,y0]
   by_cases y1:300<l[i].entry.call.args.length
   ·simp [c_55_l0,Xc.ce,h0,h3,hi,hL,y0,y1]
   simp [y0,y1] at hb;simp [c_55_l0,Xc.ce,h0,h3,hi,hL,y0,y1,hb]
  | false=>
   rw [qit hi hb];unfold qot at hb;simp only [QBk,decide_eq_false_iff_not] at hb;obtain ⟨y0,y1,y2⟩:=hb;simp [c_55_l0,Xc.ce,h0,h3,hi,hL,y0,y1,y2,hw];exact ih _ ⟨by simp [h0,Xc.ce],by simp⟩
 ·rintro e L hL ⟨h0,h3⟩;rw [qmu];simp [c_55_l0,c_55_k1,h0,h3,hL]
 ·simp
def b2sV (h:AH) (o:Option AV):Option (AV×AH):=match o with
 | some v=>evOp [(0,v)] 0 h (.b2s (.t 0))
 | none=>none
theorem qajv {e:Env} {nx:Nat} {h:AH} {n:Nat}:evOp e nx h (.b2s (.t n))=b2sV h (look n e):=by
 cases hl:look n e with
 | none=>simp only [evOp,evX,hl,b2sV]
 | some v=>simp only [evOp,evX,hl,b2sV,look,if_true]
theorem qafw {call:qak} {e:Env} {nx:Nat} {h:AH} {n:Nat}:qac call e nx h (.b2s (.t n))=qbj (b2sV h (look n e)):=by rw [qo2,qajv]
def strB (l:List Int):List UInt8:=l.map fun n=>UInt8.ofNat n.toNat
theorem qwz (F:List AV->Option UInt8) (hF:∀n,F (c8 n)=some (UInt8.ofNat n.toNat)):∀l:List Int,mapO F (l.map c8)=some (strB l)
 | []=>rfl
 | a::l=>by simp only [QBj,mapO,hF,qwz F hF l,strB]
theorem qxs (h:AH) (z:Nat) (l:List Int):b2sV h (some (.slice z (l.map c8)))=some (.str (strB l),h):=by
 simp only [b2sV,evOp,evX,look,if_true,qc0];rw [qwz _ (fun n=>rfl)]
theorem qf6 (v:Int):okB (be4 v):=by
 intro x hx;simp [be4] at hx;omega
theorem qqd (v:Int):okB (be2 v):=by
 intro x hx;simp [be2] at hx;omega
theorem qfm {a b:List Int} (ha:okB a) (hb:okB b):okB (a++b):=by
 intro x hx;rcases QAf.1 hx with h | h
 ·exact ha x h
 ·exact hb x h
theorem qla {a:Int} {b:List Int} (ha:0<=a/\a<=255) (hb:okB b):okB (a::b):=by
 intro x hx;rcases QAe.1 hx with rfl | h
 ·exact ha
 ·exact hb x h
theorem qzy (l:List Int):okB (qct l):=by
 intro x hx;unfold qct at hx;obtain ⟨y,hy,hx⟩:=QBc.1 hx;obtain ⟨v,_,rfl⟩:=QAv.1 hy;exact qf6 v x hx
theorem qaa9 (l:List Xi):okB (qb1 l):=by
 intro x hx;unfold qb1 at hx;obtain ⟨y,hy,hx⟩:=QBc.1 hx;obtain ⟨v,_,rfl⟩:=QAv.1 hy;exact qfm (qf6 _) (qf6 _) x hx
theorem qlv {c:Xb} (h:qcq c=true):okB (qcn c):=by
 simp [qcq] at h;exact qfm (qqd _) (qla (by omega) (qzy _))
theorem qagx {o:Xc} (h:opE o=true):okB (opB o):=by
 have hk:=quj h;unfold opE at h;rw [QAd] at h;refine qla (by omega) (qfm (qqd _) ?_);obtain ⟨_,h⟩:=h;by_cases c1:o.kind=1
 ·rw [QAa c1] at h ⊢;simp only [QAd,decide_eq_true_eq] at h;exact qfm (qqd _) (qla (by omega) (qfm (qaa9 _) (qlv h.2.2)))
 rw [QA c1] at h ⊢;by_cases c2:o.kind=2
 ·rw [QAa c2] at h ⊢;simp only [QAd] at h;exact qfm (qf6 _) (qlv h.2)
 rw [QA c2] at h ⊢;by_cases c3:o.kind=3
 ·rw [QAa c3];exact qf6 _
 rw [QA c3] at h ⊢;by_cases c4:o.kind=4
 ·rw [QAa c4] at h;exact qlv h
 ·omega
theorem qtu (l:List Xc):okB (encB l):=by
 unfold encB;split
 ·rename_i h;refine qla (by omega) ?_;intro x hx;unfold opsB at hx;obtain ⟨y,hy,hx⟩:=QBc.1 hx;obtain ⟨o,ho,rfl⟩:=QAv.1 hy;exact qagx (h.2 o ho) x hx
 ·intro x hx;cases hx
end Go.Av
