/-
 A packet in memory: a field's place.
-/
import Derived.Test.YtcehjengeaafpaaGreatQ8
set_option linter.all false
namespace Go.Av
set_option maxRecDepth 6000
theorem NRw.len {O:List (Nat×AO)} {B:Nat} {X:AV} {es:List (List AV)} (h:NRw O B X es):lenOf X=some es.length:=by
 rcases h with ⟨rfl,rfl⟩ | ⟨id,rfl,_⟩<;>rfl
theorem NRw.sU {O:List (Nat×AO)} {B N:Nat} {X:AV} {l:List Int} (h:NRw O B X (l.map c32)):snap 40 ⟨O,N⟩ X=some (.slice 1 (l.map c32)):=h.snp (n:=39) (tA (g:=c32) (fun x=>by simp [c32]) l)
theorem NRw.sB {O:List (Nat×AO)} {B N:Nat} {X:AV} {l:List Bool} (h:NRw O B X (l.map cB)):snap 40 ⟨O,N⟩ X=some (.slice 1 (l.map cB)):=h.snp (n:=39) (tA (g:=cB) (fun x=>by simp [cB]) l)
theorem bL {O L:List (Nat×AO)} {j:Nat} {y:AO} (h:look j O=some y):look j (O++L)=some y:=by rw [aC,h];rfl
theorem EM.app {O:List (Nat×AO)} {B:Nat} {V F M:AV} {A:List AV} {e:Envt} (h:EM O B V F M A e) (L:List (Nat×AO)):EM (O++L) B V F M A e:=
 ⟨h.v.fr fun _ _ h=>bL h,h.m.fr fun _ _ h=>bL h,h.f.fr fun _ _ h=>bL h,h.r.fr fun _ _ _ h=>bL h,h.mne⟩
def ElP (N:Nat) (O:List (Nat×AO)) (M:AV) (A:List AV) (e:Envt) (h f:Int) (r:Option (Rt×AH)):Prop:=
 ∃X L N',r=some (.val (.tup [X,.bool (eHas e h f)]),⟨O++L,N'⟩)/\Tail (O++L) N'/\NR (O++L)/\N<=N'/\(eHas e h f=true->(h= -1/\X=M)\/∃k:Nat,h=k/\A[k]? =some X)
theorem Dv {O:List (Nat×AO)} {N B:Nat} (hT:Tail O N) (hN:NR O) {V F M:AV} {A:List AV} {e:Envt} (m:EM O B V F M A e) (h f:Int) (P:AV):
  ElP N O M A e h f (aG Φ 173 [.agg [V,F,M,P],.agg [a7 h,a7 f]] ⟨O,N⟩):=by
 rw [eQ rfl rfl];have t0:=hT N (Qb _);have t1:=hT (N+1) (by omega);have n1:¬N=N+1:=by omega
 have hi:=ls;have fin:∀{X:AV} {x y:AO} {b:Bool},b=eHas e h f->x≠ .res->y≠ .res->(eHas e h f=true->(h= -1/\X=M)\/∃k:Nat,h=k/\A[k]? =some X)->ElP N O M A e h f (some (.val (.tup [X,.bool b]),⟨O++[(N,x),(N+1,y)],N+2⟩)):=fun {X x y b} hb hx hy hh=>by
  rw [hb];exact ⟨X,_,_,rfl,Tail_append_iff.2 ⟨hT.mono (by omega),Tail_cons_iff.2 ⟨by omega,Tail_cons_iff.2 ⟨by omega,Tail.nil _⟩⟩⟩,hN.app (bO hx (.one hy)),by omega,hh⟩
 by_cases hm:h= -1
 ·subst hm;have sM:=fun L n=>NRw.sU (N:=n) (m.app L).m
  have e1:eHas e (-1) f=decide (0<=f/\f<(e.metaF.map c32).length):=by simp [eHas,LA]
  simp [gE,t0,t1,n1,sM,hi,aC];exact fin (by rw [e1];simp) (by simp) (by simp) fun _=> .inl ⟨rfl,rfl⟩
 have sV:=fun L n=>NRw.sB (N:=n) (m.app L).v
 have hv:=QJ e.valid h;have hlF:=m.f.len;rw [tH,m.r.len] at hlF;have out:(at? e.Xz h)=none->eHas e h f=false:=fun z=>by simp [eHas,hm,z]
 by_cases h0:h<0
 ·have z:=out (cY h0);rw [cY h0] at hv;simp at hv;simp [gE,t0,t1,n1,sV,hi,aC,hm,A1,cP,h0,hv,hlF,-lenOf];exact fin (by rw [z]) (by simp) (by simp) fun q=>by rw [z] at q;cases q
 by_cases h1:(e.Xz.length:Int)<=h
 ·have z:=out (cW h1);cases q:(at? e.valid h).getD false with
  | false=>
   rw [q] at hv;simp [gE,t0,t1,n1,sV,hi,aC,hm,A1,cP,h0,h1,hv,hlF,-lenOf];exact fin (by rw [z]) (by simp) (by simp) fun q=>by rw [z] at q;cases q
  | true=>
   rw [q] at hv;have hi0:=ls [] f;have e0:decide (0<=f/\f<(([]:List (List AV)).length:Int))=false:=by simp
   rw [e0] at hi0;simp [gE,t0,t1,n1,sV,hi0,aC,hm,A1,cP,h0,h1,hv,hlF,-lenOf];exact fin (by rw [z]) (by simp) (by simp) fun q=>by rw [z] at q;cases q
 obtain ⟨k,rfl⟩:=f9 (show 0<=h by omega);have hk:k<e.Xz.length:=by omega
 have hk2:¬e.Xz.length<=k:=by omega
 have hkA:k<A.length:=by rw [m.r.len];exact hk
 rcases m.f with ⟨hA,rfl⟩ | ⟨id,rfl,lF,hid,hne⟩
 ·simp at hA;rw [hA] at hkA;simp at hkA
 have fi:=eR hT lF (Qb N);have fi1:=eR (n:=N+1) hT lF (by omega);have hAk:A[k]? =some A[k]:=Qa hkA;have sA:∀L n,snap 40 ⟨O++L,n⟩ A[k]=some (.slice 1 (e.Xz[k].map c32)):=fun L n=>by
  have:=(m.app L).r.row k _ _ hAk (Qa hk);rcases this with ⟨z,h⟩ | ⟨id,h,hl,_⟩
  ·rw [h,z];simp
  ·have h2:=tA (g:=c32) (n:=39) (H:=⟨O++L,n⟩) (fun x=>by simp [c32]) e.Xz[k];have ht:(e.Xz[k].map c32).take e.Xz[k].length=e.Xz[k].map c32:=Qo (by simp);rw [h];simp [hl,ht,h2]
 have hlA:=m.r.len;have e1:eHas e k f=((at? e.valid k).getD false&&decide (0<=f/\f<(e.Xz[k].map c32).length)):=by simp [eHas,hm,hk,LA]
 cases q:(at? e.valid (k:Int)).getD false with
 | false=>
  rw [q] at hv e1;simp [gE,t0,t1,n1,sV,sA,hi,aC,hm,A1,cP,hk,hk2,hv,hlA,lF,fi,fi1];exact fin (by rw [e1];rfl) (by simp) (by simp) fun _=> .inr ⟨k,rfl,hAk⟩
 | true=>
  rw [q] at hv e1;simp [gE,t0,t1,n1,sV,sA,hi,aC,hm,A1,cP,hk,hk2,hv,hlA,lF,fi,fi1];exact fin (by rw [e1];simp) (by simp) (by simp) fun _=> .inr ⟨k,rfl,hAk⟩
theorem ST {G I:Type} {f:G->List AV} {g:I->List AV} (hfg:∀a b,f a≠g b) {l:List G} {m:List I} (h:l.map f=m.map g):m=[]:=by
 cases m with
 | nil=>rfl
 | cons b m=>
  cases l with
  | nil=>simp at h
  | cons a l=>simp at h;exact absurd h.1 (hfg a b)
theorem EF {O:List (Nat×AO)} {id j:Nat} {es es':List (List AV)} {y:AO} (hl:look id O=some (.row 1 es)) (hj:look j O=some (.row 1 es')) (hne:es≠es'):look j (setl id y O)=some (.row 1 es'):=by
 rw [aA,QA (fun e=>by subst e;rw [hl] at hj;cases hj;exact hne rfl),hj]
theorem EM.setM {O:List (Nat×AO)} {B:Nat} {V F M:AV} {A:List AV} {e:Envt} (h:EM O B V F M A e) {id n:Nat} (hM:M= .row id 1 0 n) (l':List Int) (hl:l'.length=e.metaF.length):
  EM (setl id (.row 1 (l'.map c32)) O) B V F M A { e with metaF:=l' }:=by
 obtain ⟨v,m,f,r,mne⟩:=h;rcases m with ⟨_,h2⟩ | ⟨id',h1,lM,hB,hne⟩
 ·rw [hM] at h2;cases h2
 rw [hM] at h1;cases h1;subst hM;have hne':e.metaF≠[]:=fun z=>hne (by simp [z])
 refine ⟨?_,?_,?_,?_,mne⟩
 ·rcases v with v | ⟨iv,h1,h2,h3,h4⟩
  ·exact .inl v
  ·exact .inr ⟨iv,h1,EF lM h2 fun z=>hne' (ST (by simp [cB,c32]) z.symm),h3,h4⟩
 ·exact .inr ⟨id,by simp [hl],by rw [aA,a9 rfl,lM];rfl,hB,fun z=>hne' (by simp at z;subst z;exact Qg hl.symm)⟩
 ·rcases f with f | ⟨iv,h1,h2,h3,h4⟩
  ·exact .inl f
  ·exact .inr ⟨iv,h1,EF lM h2 fun z=>hne (r.head (fun x hx=>by obtain ⟨y,_,rfl⟩:=iU.1 hx;exact .inr ⟨_,_,rfl⟩) z.symm),h3,h4⟩
 ·refine ⟨r.len,fun k x l hx hl2=>?_,r.inj⟩;rcases r.row k x l hx hl2 with h | ⟨i2,g1,g2,g3⟩
  ·exact .inl h
  ·refine .inr ⟨i2,g1,?_,g3⟩;rw [aA,QA (fun z=>by subst z;subst g1;exact mne k i2 _ _ hx rfl),g2]
theorem EM.setA {O:List (Nat×AO)} {B:Nat} {V F M:AV} {A:List AV} {e:Envt} (h:EM O B V F M A e) {k id n:Nat} (hA:A[k]? =some (.row id 1 0 n)) (l':List Int) (hl:l'.length=n):
  EM (setl id (.row 1 (l'.map c32)) O) B V F M A { e with Xz:=e.Xz.set k l' }:=by
 obtain ⟨v,m,f,r,mne⟩:=h;have hk:k<A.length:=(Qm.1 hA).1;have hk2:k<e.Xz.length:=by rw [<- r.len];exact hk
 rcases r.row k _ _ hA (Qa hk2) with ⟨_,h2⟩ | ⟨id',h1,lA,hB⟩
 ·cases h2
 cases h1;refine ⟨?_,?_,?_,r.set hA l' hl,mne⟩
 ·rcases v with v | ⟨iv,h1,h2,h3,h4⟩
  ·exact .inl v
  ·refine .inr ⟨iv,h1,EF lA h2 fun z=>h4 ?_,h3,h4⟩;rw [ST (by simp [cB,c32]) z];rfl
 ·rcases m with m | ⟨iv,h1,h2,h3,h4⟩
  ·exact .inl m
  ·refine .inr ⟨iv,h1,?_,h3,h4⟩;rw [aA,QA (fun z=>by subst z;exact mne k iv _ _ hA h1),h2]
 ·rcases f with f | ⟨iv,h1,h2,h3,h4⟩
  ·exact .inl f
  ·refine .inr ⟨iv,h1,EF lA h2 fun z=>h4 ?_,h3,h4⟩;rw [<- z];exact r.head (fun x hx=>by obtain ⟨y,_,rfl⟩:=iU.1 hx;exact .inr ⟨_,_,rfl⟩) z.symm
theorem EM.snp {O:List (Nat×AO)} {B N:Nat} {V F M:AV} {A:List AV} {e:Envt} (h:EM O B V F M A e):mapO (snap 39 ⟨O,N⟩) [V,F,M,.slice 1 (e.payload.map c8)]=some e.c:=by
 have h1:=h.v.snp (N:=N) (n:=38) (tA (g:=cB) (fun x=>by simp [cB]) e.valid);have h2:=h.m.snp (N:=N) (n:=38) (tA (g:=c32) (fun x=>by simp [c32]) e.metaF);have h3:=h.f.snp (N:=N) (n:=38) (h.r.snp 36);simp only [mapO,h1,h2,h3,Envt.ce];simp
theorem uK {Φ:FuncId->Option AFun} {I:Type} {fin:Option (Ex×St)->Option I} {t:Nat} {ks:List Nat} {K:List Fr} {e:Env} {H:AH} {id z i off:Nat} {o:Option (List (List AV))}:frzB Φ fin t ks K e H id z i off true o=go Φ fin (.f ks::K) .normal ⟨e,H⟩:=by cases o<;>rfl
theorem mh (p:Prg) (e:Envt) (s:EvS e) (hm:e.metaF≠[]) (h f v:Int) (hv:ok32 0 v):
  a8 Φ 103 [.agg p.c,.agg e.c,.agg [a7 h,a7 f],.int .u32 v]=some (.val (.agg (eSet p e h f v).c)):=by
 rw [aB rfl rfl];have hw:=O8 p h f;have T1:Tail [(0,AO.row 4 [z4])] 1:=Tail_cons_iff.2 ⟨by omega,Tail.nil _⟩;obtain ⟨O1,N1,V,F,M,A,hr,em,kp,T,hN1,nr⟩:=dq T1 (.one (by simp)) e s;have l0:look 0 O1=some (.row 4 [z4]):=by rw [kp 0 (by omega) (by simp)];rfl
 have t0:=T N1 (Qb _);rcases em.m with ⟨z,_⟩ | ⟨im,rfl,lM,him,_⟩
 ·simp at z;exact absurd z hm
 generalize hMl:(e.metaF.map c32).length=lm at*;have n0:¬0=N1/\¬N1=0:=by omega
 obtain ⟨X,L,N2,hr2,T2,nr2,hN2,hX⟩:=Dv (T.app1 (o:= .row 4 [[V,F,.row im 1 0 lm,.slice 1 (e.payload.map c8)]]) (Qb _)) (nr.app (.one (by simp))) (em.app _) h f (.slice 1 (e.payload.map c8));have em2:=(em.app [(N1,.row 4 [[V,F,.row im 1 0 lm,.slice 1 (e.payload.map c8)]])]).app L;have lN1:look N1 (O1++[(N1,.row 4 [[V,F,.row im 1 0 lm,.slice 1 (e.payload.map c8)]])]++L)=some (.row 4 [[V,F,.row im 1 0 lm,.slice 1 (e.payload.map c8)]]):=bL (by rw [aC,t0];simp);have l02:look 0 (O1++[(N1,.row 4 [[V,F,.row im 1 0 lm,.slice 1 (e.payload.map c8)]])]++L)=some (.row 4 [z4]):=bL (bL l0);generalize hO2:O1++[(N1,.row 4 [[V,F,.row im 1 0 lm,.slice 1 (e.payload.map c8)]])]++L=O2 at*;rw [Envt.ce] at hr;simp only [Prg.e] at hw;have w0:=DL p h f;simp only [z4,clR] at hr l02;have sn:∀(O:List (Nat×AO)) n (e':Envt),EM O 1 V F (.row im 1 0 lm) A e'->e'.payload=e.payload->mapO (snap 39 ⟨O,n⟩) [V,F,.row im 1 0 lm,.slice 1 (e.payload.map c8)]=some e'.c:=fun O n e' h hp=>by
  rw [<- hp];exact h.snp
 have fin:∀(O:List (Nat×AO)) n (e':Envt),EM O 1 V F (.row im 1 0 lm) A e'->e'.payload=e.payload->look 0 O=some (.row 4 [[.Xt 1 [],.Xt 1 [],.Xt 1 [],.Xt 1 []]])->retP ⟨setl 0 (.row 4 [[V,F,.row im 1 0 lm,.slice 1 (e.payload.map c8)]]) O,n⟩ (some (.agg [V,F,.row im 1 0 lm,.slice 1 (e.payload.map c8)]))=some (.val (.agg e'.c)):=fun O n e' h hp hl=>by
  have h2:EM (setl 0 (.row 4 [[V,F,.row im 1 0 lm,.slice 1 (e.payload.map c8)]]) O) 1 V F (.row im 1 0 lm) A e':=by
   have key:∀(es:List (List AV)) (j:Nat),1<=j->look j O=some (.row 1 es)->look j (setl 0 (.row 4 [[V,F,.row im 1 0 lm,.slice 1 (e.payload.map c8)]]) O)=some (.row 1 es):=fun es j hj h=>by rw [aA,QA (by omega),h]
   exact ⟨h.v.fr fun j h1 h2=>key _ j h1 h2,h.m.fr fun j h1 h2=>key _ j h1 h2,h.f.fr fun j h1 h2=>key _ j h1 h2,h.r.fr fun j l h1 h2=>key _ j h1 h2,h.mne⟩
  rw [MU,show aI=39+1 from rfl,SH,sn _ _ e' h2 hp];rfl
 generalize hR:some (Rt.val (AV.agg (eSet p e h f v).c))=R;cases q:eHas e h f with
 | false=>
  rw [q] at hr2;have e1:eSet p e h f v=e:=by simp [eSet,q]
  rw [e1] at hR;simp [uY,Prg.e,Envt.ce,hr,t0,n0,aC,aA,uK,hw,hr2,lN1,l02,-retP];rw [<- hR];exact fin O2 N2 e em2 rfl l02
 | true=>
  rw [q] at hr2;by_cases zw:wid p h f=0
  ·have e1:eSet p e h f v=e:=by simp [eSet,zw]
   rw [e1] at hR;rw [zw] at hw;simp [uY,Prg.e,Envt.ce,hr,t0,n0,aC,aA,uK,hw,hr2,lN1,l02,-retP];rw [<- hR];exact fin O2 N2 e em2 rfl l02
  have zw':0<wid p h f:=by omega
  have hi:=w4 hv (show 1<=wid p h f by omega) w0.2;have hmk:=nZ (wid p h f);have e1:eSet p e h f v=ePut h f (v % 2^(wid p h f).toNat) e:=by simp [eSet,zw,q]
  rw [e1] at hR;generalize v % 2^(wid p h f).toNat=u at*;rcases hX q with ⟨rfl,rfl⟩ | ⟨k,rfl,hAk⟩
  ·simp only [eHas,if_true] at q;obtain ⟨x,hx⟩:=zX.1 q;obtain ⟨j,rfl,hj,_⟩:=iX hx;have lM2:look im O2=some (.row 1 (e.metaF.map c32)):=by rw [<- hO2];exact bL (bL lM)
   have hjl:j<lm:=by rw [<- hMl];simpa using hj
   have e2:ePut (-1) j u e={ e with metaF:=e.metaF.set j u }:=by simp [ePut]
   have em3:=em2.setM rfl (e.metaF.set j u) (by simp);have i1:¬im=N1/\¬N1=im:=by have:=aW lM2 lN1 (by simp);exact ⟨this,fun e=>this e.symm⟩
   have i0:¬im=0/\¬0=im:=by omega
   have hst:(e.metaF.map c32).set j [AV.int .u32 u]=(e.metaF.set j u).map c32:=by rw [uX];simp [c32]
   simp [uY,Prg.e,Envt.ce,hr,t0,n0,aC,aA,uK,hw,hr2,lN1,l02,zw',hmk,hi,hjl,lM2,hj,i1,i0,c32,-retP];rw [hst,<- hR,e2];exact fin _ N2 _ em3 rfl (by rw [aA,QA i0.2,l02])
  ·have hm1:¬((k:Int)= -1):=by omega
   simp only [eHas,QA hm1,d7] at q;obtain ⟨x,hx⟩:=zX.1 q.2;obtain ⟨l,hx1,hx2⟩:=Qt.1 hx;rw [oV] at hx1;obtain ⟨j,rfl,hj,_⟩:=iX hx2;have hk:k<e.Xz.length:=(Qm.1 hx1).1;rcases em2.r.row k X l hAk hx1 with ⟨z,_⟩ | ⟨id,rfl,lA,hid⟩
   ·rw [z] at hj;simp at hj
   have e2:ePut k j u e={ e with Xz:=e.Xz.set k (l.set j u) }:=by simp [ePut,hm1,vZ,hx1]
   have em3:=em2.setA hAk (l.set j u) (by simp);have i1:¬id=N1/\¬N1=id:=by have:=aW lA lN1 (by simp);exact ⟨this,fun e=>this e.symm⟩
   have i0:¬id=0/\¬0=id:=by omega
   have hst:(l.map c32).set j [AV.int .u32 u]=(l.set j u).map c32:=by rw [uX];simp [c32]
   simp [uY,Prg.e,Envt.ce,hr,t0,n0,aC,aA,uK,hw,hr2,lN1,l02,zw',hmk,hi,lA,hj,i1,i0,c32,-retP];rw [hst,<- hR,e2];exact fin _ N2 _ em3 rfl (by rw [aA,QA i0.2,l02])
theorem AG {a:Int} (h:ok32 0 a):IntKind.wrap .u64 a=a:=vW h.1 (by have:=h.2;omega)
theorem zM {a:Int} (ha:0<=a) {w:Int} (h1:1<=w) (h2:w<=32):a8 Φ 252 [.int .u64 a,a7 w]=some (.val (.int .u32 (a % 2^w.toNat))):=by
 rw [aB rfl rfl];obtain ⟨k,rfl⟩:=f9 (show 0<=w by omega);have q1:=EH k;have q2:=JM k (by omega);rw [wBad_false.2 ⟨h1,h2⟩] at q1;have hp:=CW (show k<=32 by omega);have hm:=JL a k;have hz:¬((2:Int)^k=0):=by have:=yR k;omega
 have ht:Int.tmod a (2^k)=a % 2^k:=AJ ha;have c1:IntKind.wrap .u64 (a % 2^k)=a % 2^k:=vW hm.1 (by omega);have c2:IntKind.wrap .u32 (a % 2^k)=a % 2^k:=sQ hm.1 (by omega);simp only [uW];generalize a % 2^k=X at*;simp [GP,q1,q2,hz,ht,c1,c2]
theorem NG {a w:Int} (h:fitW a w):a % 2^w.toNat=a:=EZ h.2.2.1 h.2.2.2
theorem DI {a w:Int} (h:fitW a w):ok32 0 a:=nW h.2.2 (by have:=h.2.1;omega)
theorem On {a b w:Int} (ha:ok32 0 a) (hb:ok32 0 b) (h1:1<=w) (h2:w<=32):a8 Φ 341 [.int .u32 a,.int .u32 b,a7 w]=some (.val (.int .u32 ((a+b) % 2^w.toNat))):=by
 rw [aB rfl rfl];have a1:=ha.1;have a2:=ha.2;have b1:=hb.1;have b2:=hb.2;have hr:=zM (a:=a+b) (by omega) h1 h2;have hw:IntKind.wrap .u64 (a+b)=a+b:=vW;simp [I4,AG ha,AG hb,hw,hr]
theorem Ph {a b w:Int} (ha:fitW a w) (hb:fitW b w):a8 Φ 342 [.int .u32 a,.int .u32 b,a7 w]=some (.val (.int .u32 ((a - b) % 2^w.toNat))):=by
 rw [aB rfl rfl];obtain ⟨h1,h2,a1,a2⟩:=id ha;obtain ⟨_,_,b1,b2⟩:=id hb;have q1:=EH w;rw [wBad_false.2 ⟨h1,h2⟩] at q1;have q2:=zM a1 h1 h2;have q3:=zM b1 h1 h2;rw [NG ha] at q2;rw [NG hb] at q3;have hp:=CW (show w.toNat<=32 by omega);have q4:=JM w.toNat (by omega);rw [show ((w.toNat:Nat):Int)=w by omega] at q4;have c1:IntKind.wrap .u64 (2^w.toNat+a)=2^w.toNat+a:=vW;have c2:IntKind.wrap .u64 (2^w.toNat+a - b)=2^w.toNat+a - b:=vW;have q5:=zM (a:=2^w.toNat+a - b) (by omega) h1 h2;rw [show 2^w.toNat+a - b=(a - b)+2^w.toNat by omega,Int.add_emod_right] at q5;rw [show (a - b)+2^w.toNat=2^w.toNat+a - b by omega] at q5;simp [I5,q1,q2,q3,q4,q5,AG (DI ha),AG (DI hb),c1,c2]
theorem Np {a w:Int} (h:fitW a w):a8 Φ 337 [.int .u32 a,a7 w]=some (.val (.int .u32 (2^w.toNat - 1 - a))):=by
 rw [aB rfl rfl];obtain ⟨h1,h2,a1,a2⟩:=id h;have q1:=UW w;have q2:=zM a1 h1 h2;rw [NG h] at q2;rw [NL h1 h2] at q1;have hp:=CW (show w.toNat<=32 by omega);have c1:IntKind.wrap .u32 (2^w.toNat - 1 - a)=2^w.toNat - 1 - a:=sQ;simp [HW,q1,q2,AG (DI h),c1]
theorem mod2 (a:Int) (i k:Nat):2*(a*2^i % 2^k) % 2^k=a*2^(i+1) % 2^k:=by
 rw [Int.mul_emod,Int.emod_emod,<- Int.mul_emod,Int.pow_succ,Int.mul_comm (2:Int),Int.mul_assoc]
theorem Pf {a n w:Int} (ha:ok32 0 a) (h1:1<=w) (h2:w<=32) (h3:0<=n) (h4:n<=31):a8 Φ 338 [.int .u32 a,a7 n,a7 w]=some (.val (.int .u32 (a*2^n.toNat % 2^w.toNat))):=by
 rw [aB rfl rfl];obtain ⟨m,rfl⟩:=f9 h3;have q1:=zM ha.1 h1 h2;have hp:=CW (show w.toNat<=32 by omega);simp [HX,AG ha,q1];refine (dC m (fun i e=>look 1 e=some (a7 m)/\look 2 e=some (a7 w)/\look 7 e=some (.int .u32 (a*2^i % 2^w.toNat))/\look 8 e=some (a7 i)) (fun i=>some (Rt.val (.int .u32 (a*2^m % 2^w.toNat)))) ?_ ?_ 0 _ (Qc _) ?_).trans (by simp)
 ·rintro i e L hi hL ⟨g1,g2,g7,g8⟩ ih;have hw:=aF i (by omega);have i32:(i:Int)<32:=by omega
  have hf:=JL (a*2^i) w.toNat;have s:=mod2 a i w.toNat;generalize a*2^i % 2^w.toNat=X at*;have q2:=zM (a:=2*X) (by omega) h1 h2;rw [s] at q2;have c1:IntKind.wrap .u64 X=X:=vW;have c2:IntKind.wrap .u64 (2*X)=2*X:=vW;simp [lT,g1,g2,g7,g8,hi,i32,hw,c1,c2,q2];exact ih _ ⟨by simp [g1],by simp [g2],by simp,by simp⟩
 ·rintro e L hL ⟨g1,g2,g7,g8⟩;simp [lT,rJ,g1,g7,g8,hL]
 ·simp
theorem Pg {a n w:Int} (h:fitW a w) (h3:0<=n) (h4:n<=31):a8 Φ 339 [.int .u32 a,a7 n,a7 w]=some (.val (.int .u32 (a / 2^n.toNat))):=by
 rw [aB rfl rfl];obtain ⟨m,rfl⟩:=f9 h3;obtain ⟨h1,h2,a1,a2⟩:=id h;have q1:=zM a1 h1 h2;rw [NG h] at q1;simp [HY,AG (DI h),q1];refine (dC m (fun i e=>look 1 e=some (a7 m)/\look 7 e=some (.int .u32 (a / 2^i))/\look 8 e=some (a7 i)) (fun i=>some (Rt.val (.int .u32 (a / 2^m)))) ?_ ?_ 0 _ (Qc _) ?_).trans (by simp)
 ·rintro i e L hi hL ⟨g1,g7,g8⟩ ih;have hw:=aF i (by omega);have i32:(i:Int)<32:=by omega
  have hf:=V6 ⟨a1,a2⟩ i;have hp:=CW (show w.toNat<=32 by omega);have s:a / 2^i / 2=a / 2^(i+1):=by rw [Int.pow_succ,Int.ediv_ediv_of_nonneg (zB (yR i))]
  generalize a / 2^i=X at*;have c0:X.tdiv 2=X / 2:=K9 hf.1;have c1:IntKind.wrap .u32 (X / 2)=X / 2:=sQ;simp [lU,g1,g7,g8,hi,i32,hw,c0,c1];exact ih _ ⟨by simp [g1],by simp [s],by simp⟩
 ·rintro e L hL ⟨g1,g7,g8⟩;simp [lU,rK,g1,g7,g8,hL]
 ·simp
theorem Cs {a n u:Int} (ha:ok32 0 a) (h1:1<=u) (h2:u<=32) (h3:0<=n) (h4:n+u<=32):a8 Φ 340 [.int .u32 a,a7 n,a7 u]=some (.val (.int .u32 (a / 2^n.toNat % 2^u.toNat))):=by
 rw [aB rfl rfl];have q1:=EH u;rw [wBad_false.2 ⟨h1,h2⟩] at q1;have q4:=JM n.toNat (by omega);rw [show ((n.toNat:Nat):Int)=n by omega] at q4;have hz:¬((2:Int)^n.toNat=0):=by have:=yR n.toNat;omega
 have ht:a.tdiv (2^n.toNat)=a / 2^n.toNat:=K9 ha.1;have hd0:0<=a / 2^n.toNat:=Int.ediv_nonneg ha.1 (zB (yR _));have hd1:a / 2^n.toNat<=a:=Int.ediv_le_self _ ha.1;have a2:=ha.2;have q5:=zM hd0 h1 h2;have c1:IntKind.wrap .u64 (a / 2^n.toNat)=a / 2^n.toNat:=vW hd0 (by omega);have n0:¬n<0:=by omega
 have hw:IntKind.wrap .i64 (32 - u)=32 - u:=aQ;have n1:¬32 - u<n:=by omega
 generalize a / 2^n.toNat=X at*;simp [HZ,q1,q4,n0,hw,n1,AG ha,hz,ht,c1,q5]
theorem Nh {a w b u:Int} (ha:fitW a w) (hb:fitW b u) (h:w+u<=32):a8 Φ 343 [.int .u32 a,a7 w,.int .u32 b,a7 u]=some (.val (.tup [.int .u32 (a*2^u.toNat+b),.bool true])):=by
 rw [aB rfl rfl];obtain ⟨h1,h2,a1,a2⟩:=id ha;obtain ⟨g1,g2,b1,b2⟩:=id hb;have q1:=EH w;rw [wBad_false.2 ⟨h1,h2⟩] at q1;have q2:=EH u;rw [wBad_false.2 ⟨g1,g2⟩] at q2;have q3:=zM a1 h1 h2;rw [NG ha] at q3;have q4:=zM b1 g1 g2;rw [NG hb] at q4;have q5:=JM u.toNat (by omega);rw [show ((u.toNat:Nat):Int)=u by omega] at q5;have hw:IntKind.wrap .i64 (w+u)=w+u:=aQ;have hn:¬32<w+u:=by omega
 have hc:=ji ⟨a1,a2⟩ ⟨b1,b2⟩;have hp:=CW (show w.toNat+u.toNat<=32 by omega);have hm:0<=a*2^u.toNat:=Int.mul_nonneg a1 (zB (yR _));have c1:IntKind.wrap .u64 (a*2^u.toNat)=a*2^u.toNat:=vW hm (by omega);have c2:IntKind.wrap .u32 (a*2^u.toNat)=a*2^u.toNat:=sQ hm (by omega);have c3:IntKind.wrap .u32 (a*2^u.toNat+b)=a*2^u.toNat+b:=sQ hc.1 (by omega);simp [I6,q1,q2,q3,q4,q5,hw,hn,AG (DI ha),AG (DI hb),c1,c2,c3]
theorem VN (b:Bool):a8 Φ 254 [.bool b]=some (.val (.int .u32 (if b then 1 else 0))):=by
 rw [aB rfl rfl];cases b<;>simp [GQ]
theorem Oo (x:Xd) (hx:ari x.op=1) (a w j:Int) (ha:fitW a w) (hc:(comb x w 0 0).2=0):a8 Φ 256 [.agg (Xd.c x),.slice 3 [[.int .u32 a,a7 w,a7 j]]]=some (.val (.int .u32 (xUn x a w))):=by
 rw [aB rfl rfl];obtain ⟨op,n,u⟩:=x;have hf:=ha;obtain ⟨w1,w2,a1⟩:=ha;rcases jc hx with o | o | o | o<;>simp only at o<;>subst o
 ·simp [d8,Xd.e,Np hf,xUn]
 ·have e:0<=n/\n<=31:=by
   unfold comb at hc;rw [a9 (by simp)] at hc;split at hc
   ·cases hc
   ·simp only at*;omega
  simp [d8,Xd.e,Pf (DI hf) w1 w2 e.1 e.2,xUn]
 ·have e:0<=n/\n<=31:=by
   unfold comb at hc;rw [a9 (by simp)] at hc;split at hc
   ·cases hc
   ·simp only at*;omega
  simp [d8,Xd.e,Pg hf e.1 e.2,xUn]
 ·have e:0<=n/\n+u<=32/\1<=u/\u<=32:=by
   unfold comb at hc;rw [QA (by simp),a9 rfl] at hc;split at hc
   ·cases hc
   rename_i c;split at hc
   ·cases hc
   ·rename_i c2;simp only [not_or,OJ] at c c2;have:=CM c2.1;omega
  simp [d8,Xd.e,Cs (DI hf) e.2.2.1 e.2.2.2 e.1 e.2.1,xUn]
theorem Oq (x:Xd) (hx:ari x.op=2) (a b w u j k:Int) (ha:fitW a w) (hb:fitW b u) (hc:(comb x w u 0).2=0):a8 Φ 256 [.agg (Xd.c x),.slice 3 [[.int .u32 a,a7 w,a7 j],[.int .u32 b,a7 u,a7 k]]]=some (.val (.int .u32 (xBin x.op a b w u))):=by
 rw [aB rfl rfl];obtain ⟨op,n,z⟩:=x;have o:=jd hx;obtain ⟨w1,w2,a1⟩:=id ha;simp only at o;by_cases o14:op=14
 ·subst o14;have e:w+u<=32:=by
   unfold comb at hc;rw [QA (by simp),QA (by simp),a9 rfl] at hc;exact (EX hc).2.2
  simp [d8,Xd.e,Nh ha hb e,xBin]
 have e:w=u:=by
  unfold comb at hc;rw [QA (by simp;omega),QA (by simp;omega),QA o14,QA (by simp;omega)] at hc;split at hc
  ·cases hc
  ·rename_i c;exact Decidable.byContradiction fun q=>c ⟨hx,q⟩
 subst e;have t1:=VN (decide (a=b));have t2:=VN (decide (a<b));have:op=9\/op=10\/op=11\/op=12\/op=13\/op=15\/op=16:=by omega
 rcases this with rfl | rfl | rfl | rfl | rfl | rfl | rfl
 ·simp [d8,Xd.e,On (DI ha) (DI hb) w1 w2,xBin]
 ·simp [d8,Xd.e,Ph ha hb,xBin]
 ·simp [d8,Xd.e,xBin]
 ·simp [d8,Xd.e,xBin]
 ·simp [d8,Xd.e,xBin]
 ·simp at t1;simp [d8,Xd.e,xBin,t1]
 ·simp at t2;simp [d8,Xd.e,xBin,t2]
theorem Ot (x:Xd) (hx:x.op=17) (a b c w u v j k m:Int):a8 Φ 256 [.agg (Xd.c x),.slice 3 [[.int .u32 a,a7 w,a7 j],[.int .u32 b,a7 u,a7 k],[.int .u32 c,a7 v,a7 m]]]=some (.val (.int .u32 (if a=1 then b else c))):=by
 rw [aB rfl rfl];obtain ⟨op,n,z⟩:=x;simp only at hx;subst hx;by_cases h:a=1<;>simp [d8,Xd.e,h]
set_option maxRecDepth 8000
theorem wrU32 {x:Int} (h:0<=x) (h2:x<=4294967295):IntKind.wrap .u32 x=x:=by
 simp [IntKind.wrap,IntKind.bits,IntKind.signed];omega
theorem Nn (v:Int) (hv:ok32 0 v) (k:Nat) (hk:k<=32):a8 Φ 156 [.int .u32 v,a7 k]=some (.val (.int .u32 (v % 2^k))):=by
 rw [aB rfl rfl];have hv1:=hv.1;have hv2:=hv.2;have hc:IntKind.wrap .u64 v=v:=vW;have hp0:(0:Int)<2^k:=zY (by decide);have hm0:=Int.emod_nonneg v (Int.ne_of_gt hp0);have hm1:v % 2^k<=v:=by have:=TJ v hp0;by_cases q:v<2^k;rw [EZ hv1 q];omega;omega
 have hc2:IntKind.wrap .u32 (v % 2^k)=v % 2^k:=wrU32 hm0 (by omega);have ht:Int.tmod v (2^k)=v % 2^k:=AJ hv1;have hz:¬((2:Int)^k=0):=Int.ne_of_gt hp0;have hc3:IntKind.wrap .u64 (v % 2^k)=v % 2^k:=vW;generalize hX:v % 2^k=X;simp [FF];refine (dC k (fun i e=>look 0 e=some (.int .u32 v)/\look 1 e=some (a7 k)/\look 5 e=some (.int .u64 (2^i))/\look 6 e=some (a7 i)) (fun i=>some (Rt.val (.int .u32 X))) ?_ ?_ 0 _ (Qc _) ?_).trans (by simp)
 ·rintro i e L hi hL ⟨h0,h1,h5,h6⟩ ih;have hw:=aF i (by omega);have hp:=VF (i:=i) (by omega);simp [jN,h1,h5,h6,hi,hw,hp];exact ih _ ⟨by simp [h0],by simp [h1],by simp,by simp⟩
 ·rintro e L hL ⟨h0,h1,h5,h6⟩;simp [jN,pQ,h0,h1,h5,h6,hL,hc,hz,ht,hc2,hc3,<- hX]
 ·simp
theorem OV (e:Envt) (h f:Int):a8 Φ 154 [.agg (Envt.c e),.agg [a7 h,a7 f]]=some (.val (.bool (if h= -1 then (at? e.metaF f).isSome else ((at? e.Xz h).bind fun l=>at? l f).isSome))):=by
 rw [aB rfl rfl];by_cases hm:h= -1
 ·subst hm;by_cases f0:f<0
  ·have:¬0<=f:=by omega
   simp [jM,Envt.c,this,cY f0]
  by_cases f1:(e.metaF.length:Int)<=f
  ·have h1:0<=f:=by omega
   have h2:¬f<e.metaF.length:=by omega
   simp [jM,Envt.c,h1,h2,cW f1]
  obtain ⟨k,rfl⟩:=f9 (show 0<=f by omega);have hk:k<e.metaF.length:=by omega
  simp [jM,Envt.c,hk]
 by_cases h0:h<0
 ·have:¬0<=h:=by omega
  simp [jM,Envt.c,hm,this,cY h0]
 by_cases h1:(e.Xz.length:Int)<=h
 ·have h2:0<=h:=by omega
  have h3:¬h<e.Xz.length:=by omega
  simp [jM,Envt.c,hm,h2,h3,cW h1]
 obtain ⟨m,rfl⟩:=f9 (show 0<=h by omega);have hmk:m<e.Xz.length:=by omega
 by_cases f0:f<0
 ·have:¬0<=f:=by omega
  simp [jM,Envt.c,hm,hmk,this,cY f0,cS]
 by_cases f1:(e.Xz[m].length:Int)<=f
 ·have h1:0<=f:=by omega
  have h2:¬f<e.Xz[m].length:=by omega
  simp [jM,Envt.c,hm,hmk,h1,h2,cW f1,cS]
 obtain ⟨k,rfl⟩:=f9 (show 0<=f by omega);have hk:k<e.Xz[m].length:=by omega
 simp [jM,Envt.c,hm,hmk,hk,cS]
theorem QE (e:Envt) (h:Int):a8 Φ 155 [.agg (Envt.c e),a7 h]=some (.val (.bool ((at? e.valid h).getD false))):=by
 rw [aB rfl rfl];by_cases h0:h<0
 ·have:¬0<=h:=by omega
  simp [wP,Envt.c,this,cY h0]
 by_cases h1:(e.valid.length:Int)<=h
 ·have h2:0<=h:=by omega
  have h3:¬h<e.valid.length:=by omega
  simp [wP,Envt.c,h2,h3,cW h1]
 obtain ⟨m,rfl⟩:=f9 (show 0<=h by omega);have hmk:m<e.valid.length:=by omega
 simp [wP,Envt.c,hmk,cB]
theorem kq (e:Envt) (h f:Int):a8 Φ 253 [.agg (Envt.c e),.agg [a7 h,a7 f]]=some (.val (.int .u32 (eGet e h f))):=by
 rw [aB rfl rfl];have h1:=OV e h f;have h2:=QE e h;rw [Envt.ce] at h1 h2;unfold eGet;by_cases hm:h= -1
 ·rw [a9 hm] at h1 ⊢;subst hm;cases q:at? e.metaF f with
  | none=>
   rw [q] at h1;simp [sW,Envt.ce,h1]
  | some v=>
   obtain ⟨k,rfl,hk,rfl⟩:=iX q;rw [q] at h1;simp [sW,Envt.ce,h1,hk,c32]
 rw [QA hm] at h1 ⊢;cases q:(at? e.Xz h).bind fun l=>at? l f with
 | none=>
  rw [q] at h1;simp [sW,Envt.ce,h1]
 | some v=>
  rw [q] at h1;obtain ⟨l,q1,q2⟩:=Qt.1 q;obtain ⟨m,rfl,hmk,rfl⟩:=iX q1;obtain ⟨k,rfl,hk,rfl⟩:=iX q2;cases z:(at? e.valid (m:Int)).getD false with
  | false=>
   rw [z] at h2;simp [sW,Envt.ce,h1,h2,hm]
  | true=>
   rw [z] at h2;simp [sW,Envt.ce,h1,h2,hm,hmk,hk,c32,cS]
section
variable (p:Prg) (ps:List Fld) (e:Envt) (args:List Int) (l:List Xd) (hg:∀h f,ok32 0 (eGet e h f)) (ha:∀v∈args,ok32 0 v) (hl:l.length<2^40)
include hg ha hl
theorem Uv (i:Nat) (hi:i<l.length) (hx:ari l[i].op=0) (hc:(prim p ps l[i]).2=0):
  a8 Φ 162 [.slice 3 (l.map Xd.c),a7 i,.agg (scC p ps),.agg e.c,.slice 1 (args.map c32)]=some (.val (.agg [.int .u32 (xLd e args l[i] (prim p ps l[i]).1),a7 (prim p ps l[i]).1,a7 (i+1:Nat)])):=by
 have hck:=LD p ps l hl (l.length - i+1) i (by omega) (by omega);have hch:chk p ps l (l.length - i+1) i= .ok ((prim p ps l[i]).1,i+1):=by
  simp only [chk,Qa hi];rw [QA (by omega),a9 hx,a9 hc]
 rw [hch] at hck;simp only [chkR] at hck;rw [aB rfl rfl];have hw:=VZ hc;have hw1:IntKind.wrap .i64 ((i:Int)+1)=(i:Int)+1:=aQ;have hget:=kq e l[i].n l[i].w;rw [Envt.ce] at hget;simp only [aE] at hck;generalize hxe:l[i]=x at*;obtain ⟨op,n,z⟩:=x;simp only at hget hx;have ho:op=1\/op=2\/op=3\/op=4:=by
  simp only [ari] at hx;split at hx
  ·omega
  split at hx
  ·cases hx
  split at hx
  ·cases hx
  split at hx<;>cases hx
 rcases ho with rfl | rfl | rfl | rfl
 ·have e:prim p ps ⟨1,n,z⟩=(z,0)/\0<=n/\n<2^z.toNat:=by
   simp only [prim,if_true] at hc ⊢;split
   ·rename_i c;rw [a9 c] at hc;cases hc
   rename_i c;rw [QA c] at hc;split
   ·rename_i c;rw [a9 c] at hc;cases hc
   ·exact ⟨rfl,by omega,by omega⟩
  obtain ⟨e,n0,n1⟩:=e;rw [e] at hck hw ⊢;have hn:ok32 0 n:=nW (k:=z.toNat) ⟨n0,n1⟩ (by simp only at hw;omega);have hwr:IntKind.wrap .u32 n=n:=sQ hn.1 (by have:=hn.2;omega);have hmod:n % 2^z.toNat=n:=EZ n0 n1;simp at hck;simp [iW,aE,Xd.e,Envt.ce,hi,hxe,hck,hw1,hwr,hmod,xLd]
 ·have pe:prim p ps ⟨2,n,z⟩=match decl p n z with | some w=>wide w | none=>(0,8):=by simp [prim];rfl
  have e:∃w,prim p ps ⟨2,n,z⟩=(w,0):=by
   rw [pe] at hc ⊢;split
   ·rename_i w q;rw [q] at hc;exact ⟨w,Prod.ext (EX hc).1 hc⟩
   ·rename_i q;rw [q] at hc;cases hc
  obtain ⟨w,e2⟩:=e;rw [e2] at hck hw ⊢;have hv:=hg n z;have hr:=zM hv.1 hw.1 hw.2;simp only at hck hr;simp [iW,aE,Xd.e,Envt.ce,hi,hxe,hck,hw1,hget,hr,AG hv,xLd]
 ·have pe:prim p ps ⟨3,n,z⟩=match at? ps n with | some f=>wide f.Yc | none=>(0,8):=by simp [prim];rfl
  have e:∃w,0<=n/\prim p ps ⟨3,n,z⟩=(w,0):=by
   rw [pe] at hc ⊢;split
   ·rename_i w q;rw [q] at hc;obtain ⟨k,rfl,_⟩:=iX q;exact ⟨_,by omega,Prod.ext (EX hc).1 hc⟩
   ·rename_i q;rw [q] at hc;cases hc
  obtain ⟨w,n0,e2⟩:=e;rw [e2] at hck hw ⊢;obtain ⟨k,rfl⟩:=f9 n0;simp only at hck;by_cases hk:k<args.length
  ·have hv:=ha _ (Qd hk);have hr:=zM hv.1 hw.1 hw.2;simp only at hr;simp [iW,aE,Xd.e,Envt.ce,hi,hxe,hck,hw1,hk,hr,AG hv,xLd,c32]
  ·simp [iW,aE,Xd.e,Envt.ce,hi,hxe,hck,hw1,hk,xLd]
 ·have pe:prim p ps ⟨4,n,z⟩=if (at? p.Xo n).isSome then (1,0) else (0,8):=by simp [prim]
  have e:0<=n/\prim p ps ⟨4,n,z⟩=(1,0):=by
   rw [pe] at hc ⊢;split
   ·rename_i q;rw [LA] at q;simp only [decide_eq_true_eq] at q;exact ⟨q.1,rfl⟩
   ·rename_i q;rw [QA q] at hc;cases hc
  obtain ⟨n0,e2⟩:=e;rw [e2] at hck hw ⊢;obtain ⟨k,rfl⟩:=f9 n0;have b0:=VN false;have b1:=VN true;simp only at hck;by_cases hk:k<e.valid.length
  ·cases q:e.valid[k]<;>simp [iW,aE,Xd.e,Envt.ce,hi,hxe,hck,hw1,hk,q,b0,b1,xLd,cB]
  ·simp [iW,aE,Xd.e,Envt.ce,hi,hxe,hck,hw1,hk,b0,xLd]
theorem RD:∀(n i:Nat) (w:Int) (j:Nat),l.length - i<n->i<=l.length->chk p ps l n i= .ok (w,j)->
  a8 Φ 162 [.slice 3 (l.map Xd.c),a7 i,.agg (scC p ps),.agg e.c,.slice 1 (args.map c32)]=some (.val (.agg [.int .u32 (evx p ps l e args n i).1,a7 w,a7 j]))
 | 0,i,w,j,hn,hi,h=>by omega
 | n+1,i,w,j,hn,hi,h=>by
  have hck:=LD p ps l hl (n+1) i hn hi;rw [h] at hck;simp only [chkR] at hck;have ih:=RD n;simp only [chk] at h;simp only [evx];by_cases hi:i<l.length
  rotate_left
  ·rw [Qk (by omega)] at h;cases h
  rw [Qa hi] at h;simp only [Qa hi] at h ⊢;have hA:=ub l[i].op;have hw1:IntKind.wrap .i64 ((i:Int)+1)=(i:Int)+1:=aQ;have e1:((i+1:Nat):Int)=(i:Int)+1:=by omega
  simp only [aE,Envt.ce] at hck ih;split at h
  ·cases h
  rename_i a0;split at h
  ·rename_i k0;rw [a9 k0];split at h
   ·rename_i k1;cases h;exact Uv p ps e args l hg ha hl i hi k0 k1
   ·cases h
  rename_i k0;rw [QA k0];have o1:¬l[i].op=1:=fun h=>k0 (by rw [h];decide)
  have o2:¬l[i].op=2:=fun h=>k0 (by rw [h];decide)
  have o3:¬l[i].op=3:=fun h=>k0 (by rw [h];decide)
  have o4:¬l[i].op=4:=fun h=>k0 (by rw [h];decide)
  rw [aB rfl rfl];split at h
  ·cases h
  rename_i a i1 h1;obtain ⟨_,f1⟩:=CK p ps l e args n (i+1) a i1 h1;have ih1:=ih (i+1) a i1 (by omega) (by omega) h1;obtain ⟨ra,r1,r2⟩:=wG h1;have ev1:(evx p ps l e args n (i+1)).2=(a,i1):=(CK p ps l e args n (i+1) a i1 h1).1;rw [e1] at ih1;rw [ev1];generalize (evx p ps l e args n (i+1)).1=v1 at*;split at h
  ·rename_i k1;rw [a9 k1];split at h
   ·rename_i k2;cases h;rw [k1] at hA;have hu:=Oo l[i] k1 v1 a j f1 k2;simp only [Xd.e] at hu;simp [iW,aE,Xd.e,Envt.ce,hi,hck,hw1,o1,o2,o3,o4];rw [aT];simp [aR,hA,ih1,Xd.e];rw [aT];simp [aR,gD,hA,ih1,Xd.e,wr1,hu]
   ·cases h
  rename_i k1;rw [QA k1];split at h
  ·cases h
  rename_i b i2 h2;have ih2:=ih i1 b i2 (by omega) (by omega) h2;obtain ⟨rb,s1,s2⟩:=wG h2;obtain ⟨ev2,f2⟩:=CK p ps l e args n i1 b i2 h2;rw [ev2];generalize (evx p ps l e args n i1).1=v2 at*;split at h
  ·rename_i k2;rw [a9 k2];split at h
   ·rename_i k3;cases h;rw [k2] at hA;have hu:=Oq l[i] k2 v1 v2 a b i1 j f1 f2 k3;simp only [Xd.e] at hu;simp [iW,aE,Xd.e,Envt.ce,hi,hck,hw1,o1,o2,o3,o4];rw [aT];simp [aR,hA,ih1,Xd.e];rw [aT];simp [aR,hA,ih2,Xd.e,wr1];rw [aT];simp [aR,gD,hA,Xd.e,wr2,hu]
   ·cases h
  rename_i k2;rw [QA k2];split at h
  ·cases h
  rename_i c i3 h3;have ih3:=ih i2 c i3 (by omega) (by omega) h3;obtain ⟨ev3,f3⟩:=CK p ps l e args n i2 c i3 h3;rw [ev3];generalize (evx p ps l e args n i2).1=v3 at*;split at h
  rotate_left
  ·cases h
  rename_i k3;cases h;have o17:=je a0 k0 k1 k2;have hA3:ari l[i].op=3:=by rw [o17];decide
  rw [hA3] at hA;have hu:=Ot l[i] o17 v1 v2 v3 a b c i1 i2 j;simp only [Xd.e] at hu;simp [iW,aE,Xd.e,Envt.ce,hi,hck,hw1,o1,o2,o3,o4];rw [aT];simp [aR,hA,ih1,Xd.e];rw [aT];simp [aR,hA,ih2,Xd.e,wr1];rw [aT];simp [aR,hA,ih3,Xd.e,wr2];rw [aT];simp [aR,gD,hA,Xd.e,wr3,hu]
omit hl in
theorem ko:a8 Φ 92 [.slice 3 (l.map Xd.c),.agg (scC p ps),.agg e.c,.slice 1 (args.map c32)]=some (.val (.int .u32 (evl p ps l e args))):=by
 rw [aB rfl rfl];have hE:=VJ p ps l;unfold evl;simp only [aE] at hE;by_cases z:(exE p ps l).2=0
 ·rw [z] at hE;rw [a9 z];obtain ⟨w,j,hl,hc⟩:∃w j,l.length<=24/\chk p ps l (l.length+1) 0= .ok (w,j):=by
   unfold exE at z;split at z
   ·cases z
   split at z
   ·rename_i x q;exact absurd z (NV p ps l _ _ _ q)
   ·rename_i w i q;exact ⟨w,i,by omega,q⟩
  have hr:=RD p ps e args l hg ha (by omega) (l.length+1) 0 w j (by omega) (by omega) hc;simp only [aE,Envt.ce] at hr;simp at hr;simp [KS,aE,Envt.ce,hE,hr]
 ·rw [QA z];have z':¬(exE p ps l).2=0:=z;simp [KS,aE,Envt.ce,hE,z']
end
def SU (O:List (Nat×AO)) (N:Nat) (a:AV) (es:List (List AV)):Prop:=∀O' n,(∀j x,j<N->look j O=some (.row 1 x)->look j O'=some (.row 1 x))->dF ⟨O',n⟩ a=some es/\snap 37 ⟨O',n⟩ a=some (.slice 1 es)/\snap 38 ⟨O',n⟩ a=some (.slice 1 es)
def Flt (es:List (List AV)):Prop:=∀m H,mapO (mapO (snap (m+1) H)) es=some es
theorem jn (l:List Int):Flt (l.map c32):=fun _ _=>tA (g:=c32) (fun x=>by simp [c32]) l
theorem QU (l:List Bool):Flt (l.map cB):=fun _ _=>tA (g:=cB) (fun x=>by simp [cB]) l
theorem SU.sl (O:List (Nat×AO)) (N:Nat) (es:List (List AV)):SU O N (.slice 1 es) es:=fun _ _ _=>⟨rfl,by simp,by simp⟩
theorem SU.mono {O O':List (Nat×AO)} {N N':Nat} {a:AV} {es:List (List AV)} (h:SU O N a es) (hk:∀j x,j<N->look j O=some (.row 1 x)->look j O'=some (.row 1 x)) (hN:N<=N'):SU O' N' a es:=fun O2 n h2=>h O2 n fun j y hj hy=>h2 j y (by omega) (hk j y hj hy)
theorem SU.row {O:List (Nat×AO)} {N id:Nat} {es:List (List AV)} (hl:look id O=some (.row 1 es)) (hid:id<N) (hf:Flt es):SU O N (.row id 1 0 es.length) es:=fun O' n h=>by
 have h2:=h id _ hid hl;have h3:=hf 35 ⟨O',n⟩;have h4:=hf 36 ⟨O',n⟩;simp [dF,AH.get,h2,h3,h4]
theorem SU.nil (O:List (Nat×AO)) (N:Nat):SU O N (.Xt 1 []) []:=fun _ _ _=>⟨rfl,by simp [mapO],by simp [mapO]⟩
structure CG (O0:List (Nat×AO)) (N:Nat) (O':List (Nat×AO)) (N':Nat) (F:AV) (A:List AV) (L:List (List Int)):Prop where
 f:NRw O' N F (A.map fun x=>[x])
 r:RL O' N A L
 kp:Kp (fun _=>False) N O0 O'
 t:Tail O' N'
 nr:NR O'
 hN:N<=N'
def Keeps (O' O2:List (Nat×AO)):Prop:=∀(es:List (List AV)),(∀x∈es,(∃b,x=[.bool b])\/∃k n,x=[.int k n])->∀j,look j O'=some (.row 1 es)->es≠[]->look j O2=some (.row 1 es)
theorem CG.next {O0:List (Nat×AO)} {N:Nat} {O' O1:List (Nat×AO)} {N':Nat} {F X:AV} {A:List AV} {L:List (List Int)} (h:CG O0 N O' N' F A L) {x:List Int} {k1 k2 k3 K:Nat} {L2:List (Nat×AO)} (h12:k1<k2\/x=[]) (h23:k2<k3) (h3:k3<K)
  (hk:∀j es,look j O'=some (.row 1 es)->(∀n,F≠ .row j 1 0 n)->look j O1=some (.row 1 es)) (hkp:∀j,j<N->look j O1=look j O') (hT1:Tail O1 N') (hn1:NR O1)
  (hX:(x=[]/\X= .Xt 1 []/\L2=[(N'+k2,.row 1 [[X]]),(N'+k3,.row 1 ((A++[X]).map fun x=>[x]))])\/
   (x≠[]/\X= .row (N'+k1) 1 0 x.length/\L2=[(N'+k1,.row 1 (x.map c32)),(N'+k2,.row 1 [[X]]),(N'+k3,.row 1 ((A++[X]).map fun x=>[x]))])):
  CG O0 N (O1++L2) (N'+K) (.row (N'+k3) 1 0 (A.length+1)) (A++[X]) (L++[x])/\Keeps O' (O1++L2):=by
 obtain ⟨f,r,kp,hT,nr,hN⟩:=h;have app:∀j y,look j O1=some y->look j (O1++L2)=some y:=fun j y h=>by rw [aC,h];rfl
 have key:Keeps O' (O1++L2):=fun es he j hj hne=>by
  refine app j _ (hk j _ hj fun n hF=>?_);rcases f with ⟨_,hF2⟩ | ⟨id,hF2,lF,_,_⟩
  ·rw [hF2] at hF;cases hF
  ·rw [hF2] at hF;cases hF;rw [lF] at hj;injection hj with hj
   injection hj with _ hj
   exact hne (r.head he hj)
 have hL2:look (N'+k3) (O1++L2)=some (.row 1 ((A++[X]).map fun x=>[x])):=by
  rw [aC,hT1 _ (by omega)];rcases hX with ⟨_,_,rfl⟩ | ⟨hx,_,rfl⟩
  ·have:¬k2=k3:=by omega
   simp [this]
  ·have:=h12.resolve_right hx;have:¬k2=k3:=by omega
   have:¬k1=k3:=by omega
   simp [*]
 have rf:∀(j:Nat) (l:List Int),N<=j->look j O'=some (.row 1 (l.map c32))->look j (O1++L2)=some (.row 1 (l.map c32)):=fun j l _ hj=>by
  by_cases z:l.map c32=[]
  ·refine app j _ (hk j _ hj fun n hF=>?_);rcases f with ⟨_,hF2⟩ | ⟨id,hF2,lF,_,hne⟩
   ·rw [hF2] at hF;cases hF
   ·rw [hF2] at hF;cases hF;rw [lF,z] at hj;injection hj with hj
    injection hj with _ hj
    exact hne hj
  ·exact key _ (fun x hx=>by obtain ⟨y,_,rfl⟩:=iU.1 hx;exact .inr ⟨_,_,rfl⟩) j hj z
 refine ⟨⟨.inr ⟨N'+k3,by simp,hL2,by omega,by simp⟩,?_,?_,?_,?_,by omega⟩,key⟩
 ·rcases hX with ⟨rfl,rfl,_⟩ | ⟨_,rfl,rfl⟩
  ·exact r.snoc0 rf
  ·refine r.snoc hT rf (by omega) (by omega) ?_;rw [aC,hT1 _ (by omega)];simp
 ·intro j hj hx2;rw [aC];have h1:=kp j hj hx2;rw [hkp j hj,h1];cases hz:look j O0 with
  | some y=>rfl
  | none=>
   rcases hX with ⟨_,_,rfl⟩ | ⟨_,_,rfl⟩<;>simp<;>(repeat rw [j9 _ _ _ _ (by omega)])<;>rfl
 ·rcases hX with ⟨_,_,rfl⟩ | ⟨hx,_,rfl⟩<;>simp only [Tail_append_iff,Tail_cons_iff]
  ·exact ⟨hT1.mono (by omega),by omega,by omega,Tail.nil _⟩
  ·have:=h12.resolve_right hx;exact ⟨hT1.mono (by omega),by omega,by omega,by omega,Tail.nil _⟩
 ·rcases hX with ⟨_,_,rfl⟩ | ⟨_,_,rfl⟩
  ·exact hn1.app (bO (by simp) (.one (by simp)))
  ·exact hn1.app (bO (by simp) (bO (by simp) (.one (by simp))))
structure AE (O:List (Nat×AO)) (N:Nat) (V F M P:AV) (e:Envt):Prop where
 v:SU O N V (e.valid.map cB)
 m:SU O N M (e.metaF.map c32)
 f:F= .slice 1 (e.Xz.map (cS 1 c32))\/∃(fd:Nat) (A:List AV),F= .row fd 1 0 A.length/\fd<N/\look fd O=some (.row 1 (A.map fun x=>[x]))/\A.length=e.Xz.length/\∀(k:Nat) (a:AV) (x:List Int),A[k]? =some a->e.Xz[k]? =some x->SU O N a (x.map c32)
 p:P= .slice 1 (e.payload.map c8)\/∃tk,P= .app 1 (e.payload.map c8) tk
def YCl (N:Nat) (O:List (Nat×AO)) (e:Envt) (r:Option (Rt×AH)):Prop:=
 ∃(O':List (Nat×AO)) (N':Nat) (V F M:AV) (A:List AV) (tk:Nat),r=some (.val (.agg [V,F,M,.app 1 (e.payload.map c8) tk]),⟨O',N'⟩)/\EM O' N V F M A e/\Kp (fun _=>False) N O O'/\Tail O' N'/\N<=N'/\NR O'
structure YI (O0:List (Nat×AO)) (N:Nat) (e:Envt) (g:List AV) (c a b i:Nat) (E:Env) (O':List (Nat×AO)) (N':Nat) (V F:AV) (A:List AV):Prop where
 e1:look 1 E=some (.ptr c 4 0 0)
 e2:look 2 E=some (.ptr a 4 0 0)
 e3:look 3 E=some (.ptr b 4 0 0)
 e4:look 4 E=some (a7 i)
 lc:look c O'=some (.row 4 [g])
 la:look a O'=some (.row 4 [z4])
 lb:look b O'=some (.row 4 [[V,F,.Xt 1 [],.Xt 1 []]])
 v:NRw O' N V (e.valid.map cB)
 g:CG O0 N O' N' F A (e.Xz.take i)
 an:N<=a
 bn:N<=b
 ab:a≠b
 ca:c≠a
 cb:c≠b
 cn:N<=c
theorem YI.pay {e:Envt} {P0:AV} {O':List (Nat×AO)} {N':Nat} (hp:P0= .slice 1 (e.payload.map c8)\/∃tk,P0= .app 1 (e.payload.map c8) tk):dF ⟨O',N'⟩ P0=some (e.payload.map c8)/\frz ⟨O',N'⟩ P0 (e.payload.map c8)=some (e.payload.map c8):=by
 rcases hp with rfl | ⟨tk,rfl⟩<;>exact ⟨rfl,rfl⟩
theorem Us {O0:List (Nat×AO)} {N:Nat} {e:Envt} (s:EvS e) {V0 F0 M0 P0:AV} (ae:AE O0 N V0 F0 M0 P0 e) {c a b:Nat} {E:Env} {O':List (Nat×AO)} {N':Nat} {V F:AV} {A:List AV} (h:YI O0 N e [V0,F0,M0,P0] c a b e.Xz.length E O' N' V F A):
  YCl N O0 e (go Φ (finC iV.results) [.c bQ] .normal ⟨E,⟨O',N'⟩⟩):=by
 obtain ⟨e1,e2,e3,e4,lc,la,lb,v,g,an,bn,ab,ca,cb,cn⟩:=h;obtain ⟨f,r,kp,hT,nr,hN⟩:=g;rw [fF] at r;have ba:¬b=a:=fun e=>ab e.symm
 rw [z4] at la;have t0:=hT N' (Qb _);have t1:=hT (N'+1) (by omega);have bN:=hT.lt lb;have aN:=hT.lt la;have cN:=hT.lt lc;have nc:(¬c=N'/\¬N'=c)/\¬c=N'+1/\¬N'+1=c:=by omega
 have ca':¬c=a/\¬a=c:=⟨ca,fun e=>ca e.symm⟩;have cb':¬c=b/\¬b=c:=⟨cb,fun e=>cb e.symm⟩;have nb:(¬b=N'/\¬N'=b/\¬a=N'/\¬N'=a)/\¬b=N'+1/\¬N'+1=b/\¬a=N'+1/\¬N'+1=a:=by omega
 have ab':¬a=b:=ab;have hm:∀n,dF ⟨O',n⟩ M0=some (e.metaF.map c32):=fun n=>(ae.m O' n fun j y hj hy=>by rw [kp j hj (by simp),hy]).1
 have hp:=fun (O:List (Nat×AO)) n=>YI.pay (O':=O) (N':=n) ae.p
 have al:jD 1 (e.metaF.map c32)=true:=vU 1 c32 e.metaF fun x=>by simp
 have al8:jD 1 (e.payload.map c8)=true:=vU 1 c8 e.payload fun x=>by simp
 have b1:e.metaF.length*4<=70368744177664:=by have:=s.m;omega
 have b2:e.payload.length<=70368744177664:=by have:=s.p;omega
 have fin:∀{H:List (Nat×AO)} {M:AV} {n tk:Nat},(∀j es,look j O'=some (.row 1 es)->look j H=some (.row 1 es))->NRw H N M (e.metaF.map c32)->(∀(k id n n':Nat),A[k]? =some (.row id 1 0 n)->M≠ .row id 1 0 n')->Kp (fun _=>False) N O' H->Tail H n->N'<=n->NR H->
   YCl N O0 e (some (.val (.agg [V,F,M,.app 1 (e.payload.map c8) tk]),⟨H,n⟩)):=fun {H M n tk} h1 h2 h3 h4 h5 h6 h7=>
  ⟨H,n,V,F,M,A,tk,rfl,⟨v.fr fun j _ h=>h1 _ _ h,h2,f.fr fun j _ h=>h1 _ _ h,r.fr fun j l _ h=>h1 _ _ h,h3⟩,fun j hj hx=>(h4 j hj hx).trans (kp j hj hx),h5,by omega,h7⟩
 have nea:∀{j:Nat} {es:List (List AV)},look j O'=some (.row 1 es)->j≠a/\j≠b:=fun {j es} h=>⟨aW h la (by simp),aW h lb (by simp)⟩
 by_cases z:e.metaF=[]
 ·simp [iV,bQ,e1,e2,e3,lc,la,lb,nc,ca',cb',hm,hp,z,al8,b2,aA,aC,t0,t1,nb,ab',ba,-dF,-frz];refine fin ?_ ?_ ?_ ?_ ?_ ?_ ?_
  ·intro j es h;obtain ⟨ha,hb⟩:=nea h;rw [aA,QA ha,aA,QA hb,aC,aA,QA hb,h];rfl
  ·exact .inl ⟨by simp [z],rfl⟩
  ·intro k id n n' _ h;cases h
  ·exact ((Kp.refl.setl (.inl bn)).app hN|>.setl (.inl bn)).setl (.inl an)
  ·exact bB (bB ((bB hT).app1 (Qb _)))
  ·omega
  ·exact (((nr.setl (by simp)).app (.one (by simp))).setl (by simp)).setl (by simp)
 ·simp [iV,bQ,e1,e2,e3,lc,la,lb,nc,ca',cb',hm,hp,z,al,al8,b1,b2,aA,aC,t0,t1,nb,ab',ba,-dF,-frz];have t0':=hT N' (Qb _);refine fin ?_ ?_ ?_ ?_ ?_ ?_ ?_
  ·intro j es h;obtain ⟨ha,hb⟩:=nea h;rw [aA,QA ha,aA,QA hb,aC,aA,QA hb,aC,h];rfl
  ·refine .inr ⟨N',by simp,?_,hN,by simpa using z⟩;rw [aA,QA nb.1.2.2.2,aA,QA nb.1.2.1,aC,aA,QA nb.1.2.1,aC,t0'];simp
  ·intro k id n n' hk h;cases h;have:=r.lt hT hk;omega
  ·exact (((Kp.refl.app hN).setl (.inl bn)).app (by omega)|>.setl (.inl bn)).setl (.inl an)
  ·exact bB (bB ((bB (hT.app1 (Qb _))).app1 (Qb _)))
  ·omega
  ·exact ((((nr.app (.one (by simp))).setl (by simp)).app (.one (by simp))).setl (by simp)).setl (by simp)
theorem VK (H:AH) (id z off len:Nat):dF H (.row id z off len)=match H.get id with
  | some (.row z' es)=>if z'=z/\off+len<=es.length then some ((es.drop off).take len) else none
  | _=>none:=rfl
theorem VP (H:AH) (z:Nat) (es:List (List AV)):dF H (.slice z es)=some es:=rfl
theorem VO (H:AH) (z:Nat) (es:List (List AV)):dF H (.Xt z es)=some es:=rfl
theorem NRw.fm {O:List (Nat×AO)} {B:Nat} {X:AV} {es:List (List AV)} (h:NRw O B X es):X= .Xt 1 []\/∃id n,X= .row id 1 0 n:=by
 rcases h with ⟨_,h⟩ | ⟨id,h,_⟩
 ·exact .inl h
 ·exact .inr ⟨_,_,h⟩
theorem xj {V F:AV} (hV:V= .Xt 1 []\/∃id n,V= .row id 1 0 n) (hF:F= .Xt 1 []\/∃id n,F= .row id 1 0 n):aoEq (some (AO.row 4 [[V,F,.Xt 1 [],.Xt 1 []]])) (some (AO.row 4 [[V,F,.Xt 1 [],.Xt 1 []]]))=true:=by
 rcases hV with rfl | ⟨id,n,rfl⟩<;>rcases hF with rfl | ⟨id2,n2,rfl⟩<;>simp [aoEq,eqL,avEq,aI]
theorem Ng {O0:List (Nat×AO)} {N:Nat} {e:Envt} (s:EvS e) {V0 F0 M0 P0:AV} (ae:AE O0 N V0 F0 M0 P0 e) {c a b:Nat} {E:Env} {O':List (Nat×AO)} {N':Nat} {V F:AV} {A:List AV} (h:YI O0 N e [V0,F0,M0,P0] c a b 0 E O' N' V F A):
  YCl N O0 e (go Φ (finC iV.results) [.c (.loop aK),.b 0,.c bQ] .normal ⟨E,⟨O',N'⟩⟩):=by
 refine cC e.Xz.length (fun i E h=>∃O' N' V F A,h=⟨O',N'⟩/\YI O0 N e [V0,F0,M0,P0] c a b i E O' N' V F A) _ ?_ ?_ 0 _ _ (Qc _) ⟨_,_,_,_,_,rfl,h⟩
 ·rintro i E _ K hi hK ⟨O',N',V,F,A,rfl,h⟩ ih;have hw:IntKind.wrap .i64 ((i:Int)+1)=((i+1:Nat):Int):=aQ (by omega) (by have:=s.f;omega);have h0:=h;obtain ⟨e1,e2,e3,e4,lc,la,lb,v,g,an,bn,ab,ca,cb,cn⟩:=h;have g0:=g;obtain ⟨f,r,kp,hT,nr,hN⟩:=g;have t:∀k,look (N'+k) O'=none:=fun k=>hT _ (by omega)
  have t0:=hT N' (Qb _);have bN:=hT.lt lb;have aN:=hT.lt la;have cN:=hT.lt lc;have cq:∀k,(c == N'+k)=false:=fun k=>by simp;omega
  have nck:∀k,¬c=N'+k:=fun k=>by omega
  have nkc:∀k,¬N'+k=c:=fun k=>by omega
  have ca':¬c=a/\¬a=c:=⟨ca,fun e=>ca e.symm⟩;have cb':¬c=b/\¬b=c:=⟨cb,fun e=>cb e.symm⟩;have bq:∀k,(b == N'+k)=false:=fun k=>by simp;omega
  have nbk:∀k,¬b=N'+k:=fun k=>by omega
  have nkb:∀k,¬N'+k=b:=fun k=>by omega
  have hao:=xj v.fm f.fm;have haF:∀id,F= .row id 1 0 A.length->aoEq (some (AO.row 4 [[V,.row id 1 0 A.length,.Xt 1 [],.Xt 1 []]])) (some (AO.row 4 [[V,.row id 1 0 A.length,.Xt 1 [],.Xt 1 []]]))=true:=fun id _=>xj v.fm (.inr ⟨_,_,rfl⟩)
  generalize hx:e.Xz[i]=x;have hxl:x.length<2^40:=by rw [<- hx];exact s.g _ (Qd hi)
  have al:jD 1 (x.map c32)=true:=vU 1 c32 x fun x=>by simp
  have bx:x.length*4<=70368744177664:=by omega
  have bA:(A.length+1)*24<=70368744177664:=by have:=r.len;have:=s.f;simp at*;omega
  have fin:∀{E2:Env} {O1 L2:List (Nat×AO)} {X:AV} {Y:List AV},look 1 E2=look 1 E->look 2 E2=look 2 E->look 3 E2=look 3 E->look 4 E2=some (a7 (i+1:Nat))->Y=[V,.row (N'+28) 1 0 (A.length+1),.Xt 1 [],.Xt 1 []]->
    (∀j y,look j O'=some y->(∀n,F≠ .row j 1 0 n)->look j O1=some y)->(∀j,j<N->look j O1=look j O')->Tail O1 N'->NR O1->
    ((x=[]/\X= .Xt 1 []/\L2=[(N'+27,.row 1 [[X]]),(N'+28,.row 1 ((A++[X]).map fun x=>[x]))])\/(x≠[]/\X= .row (N'+26) 1 0 x.length/\L2=[(N'+26,.row 1 (x.map c32)),(N'+27,.row 1 [[X]]),(N'+28,.row 1 ((A++[X]).map fun x=>[x]))]))->
    YCl N O0 e (go Φ (finC iV.results) K .normal ⟨E2,⟨setl b (.row 4 [Y]) O1++L2,N'+29⟩⟩):=fun {E2 O1 L2 X Y} h1 h2 h3 h4 hY hk hkN hT1 hn1 hX=>by
   have fb:∀n,F≠ .row b 1 0 n:=fun n hF=>by
    rcases f with ⟨_,hF2⟩ | ⟨id,hF2,lF,_⟩
    ·rw [hF2] at hF;cases hF
    ·rw [hF2] at hF;cases hF;rw [lF] at lb;cases lb
   have fc:∀n,F≠ .row c 1 0 n:=fun n hF=>by
    rcases f with ⟨_,hF2⟩ | ⟨id,hF2,lF,_⟩
    ·rw [hF2] at hF;cases hF
    ·rw [hF2] at hF;cases hF;rw [lF] at lc;cases lc
   have fa:∀n,F≠ .row a 1 0 n:=fun n hF=>by
    rcases f with ⟨_,hF2⟩ | ⟨id,hF2,lF,_⟩
    ·rw [hF2] at hF;cases hF
    ·rw [hF2] at hF;cases hF;rw [lF] at la;cases la
   obtain ⟨cg,kp2⟩:=g0.next (x:=x) (K:=29) (O1:=setl b (.row 4 [Y]) O1) (.inl (by decide)) (by decide) (by decide) (fun j es hj hF=>by rw [aA,QA (aW hj lb (by simp)),hk j _ hj hF]) (fun j hj=>by rw [aA,QA (by omega),hkN j hj]) (bB hT1) (hn1.setl (by simp)) hX;refine ih _ _ ⟨_,_,V,.row (N'+28) 1 0 (A.length+1),A++[X],rfl,h1.trans e1,h2.trans e2,h3.trans e3,h4,?_,?_,?_,?_,?_,an,bn,ab,ca,cb,cn⟩
   ·rw [aC,aA,QA cb,hk c _ lc fc];rfl
   ·rw [aC,aA,QA ab,hk a _ la fa];rfl
   ·rw [aC,aA,a9 rfl,hk b _ lb fb,hY];rfl
   ·rcases v with v | ⟨id,h1,h2,h3,h4⟩
    ·exact .inl v
    ·exact .inr ⟨id,h1,kp2 _ (fun x hx=>by obtain ⟨y,_,rfl⟩:=iU.1 hx;exact .inl ⟨_,rfl⟩) id h2 h4,h3,h4⟩
   ·rw [Qh hi,hx];exact cg
  have src:∀{y:AV},SU O0 N y (x.map c32)->∀L n,dF ⟨O'++L,n⟩ y=some (x.map c32):=fun {y} h L n=>(h _ n fun j z hj hz=>by rw [aC,kp j hj (by simp),hz];rfl).1
  rcases ae.f with rfl | ⟨fd,A0,rfl,hfd,lf,hA0,hsu⟩
  ·rcases f with ⟨hA,rfl⟩ | ⟨id,rfl,lF,hid,hne⟩
   ·have hA':A=[]:=by simpa using hA
    subst hA';by_cases zx:x=[]
    ·have hx':=hx;rw [zx] at hx';simp [aK,e1,e3,e4,lc,cq,nck,nkc,cb',hi,hx',cS,hw,t0,t,cZ,lb,aC,aA,nG,nr.eq,nr.sw,eY,nbk,nkb,bq,uU lb,hao];exact fin (by simp) (by simp) (by simp) (by simp) rfl (fun j y h _=>h) (fun j _=>rfl) hT nr (.inl ⟨zx,rfl,rfl⟩)
    ·simp [aK,e1,e3,e4,lc,cq,nck,nkc,cb',hi,hx,cS,hw,t0,t,cZ,lb,aC,aA,nG,nr.eq,nr.sw,eY,nbk,nkb,bq,uU lb,hao,al,bx,zx];exact fin (by simp) (by simp) (by simp) (by simp) rfl (fun j y h _=>h) (fun j _=>rfl) hT nr (.inr ⟨zx,rfl,rfl⟩)
   ·have ib:¬id=b/\¬b=id:=by
     have:=aW lF lb (by simp);exact ⟨this,fun e=>this e.symm⟩
    have fi:=fun k=>eR (n:=N'+k) hT lF (by omega)
    have iq:∀k,(id == N'+k)=false:=fun k=>by have:=fi k;simp;omega
    have lb1:look b (dropl id O')=_:=(jA ib.2 O').trans lb;have hkd:∀j y,look j O'=some y->(∀n,AV.row id 1 0 (A.map fun x=>[x]).length≠ .row j 1 0 n)->look j (dropl id O')=some y:=fun j y hj hF=>by
     have:j≠id:=fun e=>hF _ (by rw [e])
     rw [jA this,hj]
    by_cases zx:x=[]
    ·have hx':=hx;rw [zx] at hx';simp [aK,e1,e3,e4,lc,cq,nck,nkc,cb',hi,hx',cS,hw,t0,t,cZ,lb,lF,aC,aA,jA,nG,nr.eq,eY,nbk,nkb,bq,ib,fi,iq,al,bx,bA,D8 lF,uU lb1,nr.dropl.sw,haF id (by simp)];refine fin ?_ ?_ ?_ ?_ rfl hkd (fun j hj=>by rw [jA (by omega)]) (JF hT) nr.dropl (.inl ⟨zx,rfl,?_⟩)<;>simp
    ·simp [aK,e1,e3,e4,lc,cq,nck,nkc,cb',hi,hx,cS,hw,t0,t,cZ,lb,lF,aC,aA,jA,nG,nr.eq,eY,nbk,nkb,bq,ib,fi,iq,al,bx,bA,D8 lF,uU lb1,nr.dropl.sw,haF id (by simp),zx];refine fin ?_ ?_ ?_ ?_ rfl hkd (fun j hj=>by rw [jA (by omega)]) (JF hT) nr.dropl (.inr ⟨zx,rfl,?_⟩)<;>simp
  ·have hiA:i<A0.length:=by omega
   have hlf:look fd O'=some (.row 1 (A0.map fun x=>[x])):=by rw [kp fd hfd (by simp),lf]
   have hsr:=src (hsu i A0[i] x (Qa hiA) (by rw [Qa hi,hx]));have hsr0:∀n,dF ⟨O',n⟩ A0[i]=some (x.map c32):=fun n=>by have:=hsr [] n;rwa [KC] at this
   have fdN:∀k,¬fd=N'+k:=fun k=>by omega
   have fdN':∀k,¬N'+k=fd:=fun k=>by omega
   have fdb:¬fd=b/\¬b=fd:=by omega
   rcases f with ⟨hA,rfl⟩ | ⟨id,rfl,lF,hid,hne⟩
   ·have hA':A=[]:=by simpa using hA
    subst hA';by_cases zx:x=[]
    ·simp [aK,e1,e3,e4,lc,cq,nck,nkc,cb',hi,hiA,hlf,hsr,hsr0,hA0,VK,VP,VO,fdN',fdb,zx,hw,t0,t,cZ,lb,aC,aA,nG,nr.eq,nr.sw,eY,nbk,nkb,bq,uU lb,hao,fdN,al,bx,-dF,-frz];exact fin (by simp) (by simp) (by simp) (by simp) rfl (fun j y h _=>h) (fun j _=>rfl) hT nr (.inl ⟨zx,rfl,rfl⟩)
    ·cases hr:CR A0[i]<;>simp [aK,e1,e3,e4,lc,cq,nck,nkc,cb',hi,hiA,hlf,hsr,hsr0,hA0,VK,VP,VO,fdN',fdb,zx,hw,t0,t,cZ,lb,aC,aA,nG,nr.eq,nr.sw,eY,nbk,nkb,bq,uU lb,hao,fdN,al,bx,hr,-CR,-dF,-frz]<;>
     exact fin (by simp) (by simp) (by simp) (by simp) rfl (fun j y h _=>h) (fun j _=>rfl) hT nr (.inr ⟨zx,rfl,rfl⟩)
   ·have ib:¬id=b/\¬b=id:=by
     have:=aW lF lb (by simp);exact ⟨this,fun e=>this e.symm⟩
    have fid:¬fd=id/\¬id=fd:=by omega
    have fi:=fun k=>eR (n:=N'+k) hT lF (by omega)
    have iq:∀k,(id == N'+k)=false:=fun k=>by have:=fi k;simp;omega
    have lb1:look b (dropl id O')=_:=(jA ib.2 O').trans lb;have hkd:∀j y,look j O'=some y->(∀n,AV.row id 1 0 (A.map fun x=>[x]).length≠ .row j 1 0 n)->look j (dropl id O')=some y:=fun j y hj hF=>by
     have:j≠id:=fun e=>hF _ (by rw [e])
     rw [jA this,hj]
    by_cases zx:x=[]
    ·simp [aK,e1,e3,e4,lc,cq,nck,nkc,cb',hi,hiA,hlf,hsr,hsr0,hA0,VK,VP,VO,fdN',fdb,fid,zx,hw,t0,t,cZ,lb,lF,aC,aA,jA,nG,nr.eq,eY,nbk,nkb,bq,ib,fi,iq,al,bx,bA,D8 lF,uU lb1,nr.dropl.sw,haF id (by simp),fdN,-dF,-frz];refine fin ?_ ?_ ?_ ?_ rfl hkd (fun j hj=>by rw [jA (by omega)]) (JF hT) nr.dropl (.inl ⟨zx,rfl,?_⟩)<;>simp
    ·cases hr:CR A0[i]<;>simp [aK,e1,e3,e4,lc,cq,nck,nkc,cb',hi,hiA,hlf,hsr,hsr0,hA0,VK,VP,VO,fdN',fdb,fid,zx,hw,t0,t,cZ,lb,lF,aC,aA,jA,nG,nr.eq,eY,nbk,nkb,bq,ib,fi,iq,al,bx,bA,D8 lF,uU lb1,nr.dropl.sw,haF id (by simp),fdN,hr,-CR,-dF,-frz]<;>
     (refine fin ?_ ?_ ?_ ?_ rfl hkd (fun j hj=>by rw [jA (by omega)]) (JF hT) nr.dropl (.inr ⟨zx,rfl,?_⟩)<;>simp)
 ·rintro E _ K hK ⟨O',N',V,F,A,rfl,h⟩;have h0:=h;obtain ⟨e1,e2,e3,e4,lc,la,lb,v,g,an,bn,ab,ca,cb,cn⟩:=h;have fin:∀{E2:Env},look 1 E2=look 1 E->look 2 E2=look 2 E->look 3 E2=look 3 E->look 4 E2=look 4 E->YCl N O0 e (go Φ (finC iV.results) [.c bQ] .normal ⟨E2,⟨O',N'⟩⟩):=fun {E2} h1 h2 h3 h4=>
   Us s ae ⟨h1.trans e1,h2.trans e2,h3.trans e3,h4.trans e4,lc,la,lb,v,g,an,bn,ab,ca,cb,cn⟩
  rcases ae.f with rfl | ⟨fd,A0,rfl,hfd,lf,hA0,hsu⟩
  ·simp [aK,e1,e4,lc,hK];exact fin (by simp) (by simp) (by simp) (by simp)
  ·simp [aK,e1,e4,lc,hK,hA0];exact fin (by simp) (by simp) (by simp) (by simp)
theorem UI {O:List (Nat×AO)} {N:Nat} (hT:Tail O N) (hN:NR O) {e:Envt} (s:EvS e) {V0 F0 M0 P0:AV} (ae:AE O N V0 F0 M0 P0 e):YCl N O e (aG Φ 152 [.agg [V0,F0,M0,P0]] ⟨O,N⟩):=by
 rw [eQ rfl rfl];have t:∀k,look (N+k) O=none:=fun k=>hT _ (by omega)
 have t0:=hT N (Qb _);have al:jD 1 (e.valid.map cB)=true:=vU 1 cB e.valid fun x=>by simp
 have b1:e.valid.length<=70368744177664:=by have:=s.v;omega
 have hv:∀L n,dF ⟨O++L,n⟩ V0=some (e.valid.map cB):=fun L n=>(ae.v _ n fun j z _ hz=>by rw [aC,hz];rfl).1
 have ne1:∀k j,j<N->N+k≠j:=fun k j h=>by omega
 have fin:∀{E2:Env} {V:AV} {L:List (Nat×AO)} {n:Nat},look 1 E2=some (.ptr N 4 0 0)->look 2 E2=some (.ptr (N+1) 4 0 0)->look 3 E2=some (.ptr (N+2) 4 0 0)->look 4 E2=some (a7 (0:Nat))->look N L=some (.row 4 [[V0,F0,M0,P0]])->
   look (N+1) L=some (.row 4 [z4])->look (N+2) L=some (.row 4 [[V,.Xt 1 [],.Xt 1 [],.Xt 1 []]])->NRw L N V (e.valid.map cB)->(∀j,j<N->look j L=none)->Tail L n->NR L->N<=n->
   YCl N O e (go Φ (finC iV.results) [.c (.loop aK),.b 0,.c bQ] .normal ⟨E2,⟨O++L,n⟩⟩):=fun {E2 V L n} h1 h2 h3 h4 l0 l1 l2 hv hlt hTL hNL hn=>
  have hw:∀j y,N<=j->look j L=some y->look j (O++L)=some y:=fun j y hj hl=>by rw [aC,hT j hj,hl];rfl
  Ng s ae (a:=N+1) (b:=N+2) (c:=N) (A:=[]) ⟨h1,h2,h3,h4,hw _ _ (by omega) l0,hw _ _ (by omega) l1,hw _ _ (by omega) l2,hv.fr fun j h1 h2=>hw _ _ h1 h2,⟨.inl ⟨rfl,rfl⟩,by simpa using RL.nil,fun j hj _=>by rw [aC,hlt j hj];simp,Tail_append_iff.2 ⟨hT.mono hn,hTL⟩,hN.app hNL,hn⟩,by omega,by omega,by omega,by omega,by omega,by omega⟩
 by_cases zv:e.valid=[]
 ·simp [iV,t0,t,cZ,hv,zv,aC,aA,-dF,-frz];exact fin (V:= .Xt 1 []) (by simp) (by simp) (by simp) (by simp) (by simp) (by simp [z4]) (by simp) (.inl ⟨by simp [zv],rfl⟩) (fun j hj=>by
   repeat first | exact N6 _ | refine (j9 _ _ _ _ (ne1 0 _ hj)).trans ?_ | refine (j9 _ _ _ _ (ne1 _ _ hj)).trans ?_) (Tail_cons_iff.2 ⟨by omega,Tail_cons_iff.2 ⟨by omega,Tail_cons_iff.2 ⟨by omega,Tail.nil _⟩⟩⟩) (bO (by simp) (bO (by simp) (.one (by simp)))) (by omega)
 ·simp [iV,t0,t,cZ,hv,zv,al,b1,aC,aA,-dF,-frz];exact fin (V:= .row (N+3) 1 0 e.valid.length) (by simp) (by simp) (by simp) (by simp) (by simp) (by simp [z4]) (by simp) (.inr ⟨N+3,by simp,by simp,by omega,by simpa using zv⟩) (fun j hj=>by
   repeat first | exact N6 _ | refine (j9 _ _ _ _ (ne1 0 _ hj)).trans ?_ | refine (j9 _ _ _ _ (ne1 _ _ hj)).trans ?_) (Tail_cons_iff.2 ⟨by omega,Tail_cons_iff.2 ⟨by omega,Tail_cons_iff.2 ⟨by omega,Tail_cons_iff.2 ⟨by omega,Tail.nil _⟩⟩⟩⟩) (bO (by simp) (bO (by simp) (bO (by simp) (.one (by simp))))) (by omega)
theorem wv (p:Prg) (rs:List (List Int)) (r i:Int) (hi:ok32 0 i):a8 Φ 347 [.agg (Prg.c p),.slice 1 (rs.map (cS 1 c32)),a7 r,.int .u32 i]=some (.val (.bool (hasR p rs r i))):=by
 rw [aB rfl rfl];have hw:IntKind.wrap .i64 i=i:=aQ (by have:=hi.1;omega) (by have:=hi.2;omega);unfold hasR;by_cases h0:r<0
 ·have h0':¬0<=r:=by omega
  simp [sZ,Prg.e,h0',cY h0]
 have h0':0<=r:=by omega
 by_cases h1:(p.Xl.length:Int)<=r
 ·have h1':¬r<p.Xl.length:=by omega
  simp [sZ,Prg.e,h0',h1',cW h1]
 obtain ⟨m,rfl⟩:=f9 h0';have hm:m<p.Xl.length:=by omega
 by_cases h2:(rs.length:Int)<=(m:Int)
 ·have hm3:rs.length<=m:=by omega
  have hm4:¬m<rs.length:=by omega
  simp [sZ,Prg.e,hm,hm3,hm4]
 have hm3:m<rs.length:=by omega
 by_cases z:i<p.Xl[m].size
 ·simp [sZ,Prg.e,Xg.e,hm,hm3,hw,z,cS]
 ·simp [sZ,Prg.e,Xg.e,hm,hm3,hw,z,cS]
theorem Kl {p:Prg} {rs:List (List Int)} {r i:Int} (q:hasR p rs r i=false):rGet p rs r i=0:=by
 unfold rGet hasR at*;split
 ·rename_i g l hg hl;rw [hg,hl] at q;simp only [TF,decide_eq_false_iff_not] at q;split
  ·rw [cW (by omega)];rfl
  ·rfl
 ·rfl
theorem Km {p:Prg} {rs:List (List Int)} {r i:Int} (v:Int) (q:hasR p rs r i=false):rSet p rs r i v=rs:=by
 unfold rSet hasR at*;split
 ·rename_i g l hg hl;rw [hg,hl] at q;simp only [TF,decide_eq_false_iff_not] at q;split
  ·rename_i z;obtain ⟨m,rfl,hm,rfl⟩:=iX hl;have:rs[m].length<=i.toNat:=by omega
   rw [List.set_eq_of_length_le this];simp
  ·rfl
 ·rfl
theorem Ic (p:Prg) (rs:List (List Int)) (r i:Int) (hi:ok32 0 i):a8 Φ 261 [.agg (Prg.c p),.slice 1 (rs.map (cS 1 c32)),a7 r,.int .u32 i]=some (.val (.int .u32 (rGet p rs r i))):=by
 rw [aB rfl rfl];have hh:=wv p rs r i hi;simp only [Prg.e] at hh;cases q:hasR p rs r i with
 | false=>
  rw [q] at hh;simp [BK,Prg.e,hh,Kl q]
 | true=>
  obtain ⟨m,k,h1,h2,h3,rfl,rfl,h4⟩:=UL hi.1 q;rw [q] at hh;have:rGet p rs m k=rs[m][k]:=by simp [rGet,h1,h2,h3,h4]
  simp [BK,Prg.e,hh,this,h2,h3,cS,c32]
theorem Pj (p:Prg) (rs:List (List Int)) (r i v:Int) (hi:ok32 0 i) (hv:ok32 0 v) {E:Env} {O:List (Nat×AO)} {N:Nat} {F:AV} {A:List AV} (g:CG [] 0 O N F A rs) (e1:look 1 E=some (.slice 1 (rs.map (cS 1 c32)))) (e2:look 2 E=some (a7 r)) (e3:look 3 E=some (.int .u32 i)) (e4:look 4 E=some (.int .u32 v)) (e5:look 5 E=some (.iptr 9 [p.c] 0 0)) (e11:look 11 E=some F):
  go Φ (finP [.tmp 10]) [.c eB] .normal ⟨E,⟨O,N⟩⟩=some (.val (.slice 1 ((rSet p rs r i v).map (cS 1 c32)))):=by
 have hh:=wv p rs r i hi;obtain ⟨f,ra,kp,hT,nr,hN⟩:=g;have fin:∀(O:List (Nat×AO)) (n:Nat) (rs':List (List Int)),NRw O 0 F (A.map fun x=>[x])->RL O 0 A rs'->retP ⟨O,n⟩ (some F)=some (.val (.slice 1 (rs'.map (cS 1 c32)))):=fun O n rs' h1 h2=>by
  rw [MU,show aI=39+1 from rfl,h1.snp (h2.snp 37)]
 simp only [Prg.e] at hh;generalize hR:some (Rt.val (.slice 1 ((rSet p rs r i v).map (cS 1 c32))))=R;rw [Prg.e] at e5;cases q:hasR p rs r i with
 | false=>
  rw [q] at hh;simp [eB,e1,e2,e3,e5,e11,hh,-retP];rw [<- hR,Km v q];exact fin _ _ _ f ra
 | true=>
  obtain ⟨m,k,h1,h2,h3,rfl,rfl,h4⟩:=UL hi.1 q;rw [q] at hh;have hwd:=RA p.Xl[m];simp only [Xg.e] at hwd;cases z:wBad p.Xl[m].Yc with
  | true=>
   have e:rSet p rs m k v=rs:=by simp [rSet,h1,h2,z]
   have hw0:wd p.Xl[m].Yc=0:=by simp [wd,z]
   rw [hw0] at hwd;simp [eB,e1,e2,e3,e5,e11,hh,h1,Xg.e,hwd,-retP];rw [<- hR,e];exact fin _ _ _ f ra
  | false=>
   have eS:rSet p rs m k v=rs.set m (rs[m].set k (v % 2^p.Xl[m].Yc.toNat)):=by simp [rSet,h1,h2,z,h4]
   have hw:=CM z;obtain ⟨W,hW⟩:=f9 (show 0<=p.Xl[m].Yc by omega);have hw0:wd p.Xl[m].Yc=W:=by
    unfold wd;rw [z,hW];simp
   have hW0:¬W=0:=by omega
   rw [hw0] at hwd;rw [hW,uW] at eS;rw [hW] at hw;have hmA:m<A.length:=by rw [ra.len];exact h2
   rcases ra.row m _ _ (Qa hmA) (Qa h2) with ⟨zl,_⟩ | ⟨id,hx,hlk,hB⟩
   ·rw [zl] at h3;simp at h3
   rcases f with ⟨hA,_⟩ | ⟨fd,rfl,lF,hfd,hne⟩
   ·simp at hA;rw [hA] at hmA;simp at hmA
   have hp:=CW (show W<=32 by omega);have hm0:=JL v W;have v1:=hv.1;have v2:=hv.2;have hc:IntKind.wrap .u64 v=v:=vW;have ht:Int.tmod v (2^W)=v % 2^W:=AJ v1;have hz:¬((2:Int)^W=0):=by have:=yR W;omega
   have hc2:IntKind.wrap .u32 (v % 2^W)=v % 2^W:=sQ hm0.1 (by omega);have hc3:IntKind.wrap .u64 (v % 2^W)=v % 2^W:=vW hm0.1 (by omega);have hxA:A[m]? =some (.row id 1 0 rs[m].length):=by rw [Qa hmA,hx]
   have hset:=ra.set hxA (rs[m].set k (v % 2^W)) (by simp);have hst:(rs[m].map c32).set k [AV.int .u32 (v % 2^W)]=(rs[m].set k (v % 2^W)).map c32:=by rw [uX];simp [c32]
   have ff:NRw (setl id (.row 1 ((rs[m].set k (v % 2^W)).map c32)) O) 0 (.row fd 1 0 (A.map fun x=>[x]).length) (A.map fun x=>[x]):=by
    refine .inr ⟨fd,rfl,?_,hfd,hne⟩;rw [aA,QA,lF];intro h;subst h;rw [lF] at hlk;injection hlk with hlk
    injection hlk with _ hlk
    have:=ra.head (fun x hx=>by obtain ⟨y,_,rfl⟩:=iU.1 hx;exact .inr ⟨_,_,rfl⟩) hlk;simp at this;rw [this] at h3;simp at h3
   generalize v % 2^W=u at*;simp [eB,e1,e2,e3,e5,e11,hh,h1,Xg.e,hwd,hW0,-retP];refine (dC W (fun j e=>look 2 e=some (a7 m)/\look 3 e=some (.int .u32 k)/\look 4 e=some (.int .u32 v)/\look 5 e=some (.iptr 9 [p.c] 0 0)/\look 11 e=some (.row fd 1 0 (A.map fun x=>[x]).length)/\look 13 e=some (.int .u64 (2^j))/\look 14 e=some (a7 j)) (fun _=>R) ?_ ?_ 0 _ (Qc _) ?_).trans rfl
   ·rintro j e L hj hL ⟨g2,g3,g4,g5,g11,g13,g14⟩ ih;have hwr:=aF j (by omega);have hp2:=VF (i:=j) (by omega);rw [Prg.e] at g5;simp [l7,g2,g5,g13,g14,h1,Xg.e,hW,hj,hwr,hp2];exact ih _ ⟨by simp [g2],by simp [g3],by simp [g4],by simp [g5,Prg.e],by simp [g11],by simp,by simp⟩
   ·rintro e L hL ⟨g2,g3,g4,g5,g11,g13,g14⟩;rw [Prg.e] at g5;simp [l7,qY,g2,g3,g4,g5,g11,g13,g14,h1,Xg.e,hW,hL,lF,hmA,hx,hlk,h3,hc,ht,hz,hc2,hc3,aA,c32,-retP];rw [hst,<- hR,eS];have:=fin _ N _ ff hset;simpa using this
   ·simp [e2,e3,e4,e5,e11,Prg.e]
def WInv (p:Prg) (rs:List (List Int)) (r i v:Int) (j:Nat) (E:Env) (h:AH):Prop:=
 ∃O' N' F A,h=⟨O',N'⟩/\CG [] 0 O' N' F A (rs.take j)/\look 1 E=some (.slice 1 (rs.map (cS 1 c32)))/\look 2 E=some (a7 r)/\look 3 E=some (.int .u32 i)/\look 4 E=some (.int .u32 v)/\look 5 E=some (.iptr 9 [p.c] 0 0)/\look 11 E=some F/\look 12 E=some (a7 j)
theorem Uw {p:Prg} {rs:List (List Int)} (hL:rs.length<2^40) (hl:∀l∈rs,l.length<2^40) {r i v:Int} {R:Option Rt} {j:Nat} {E:Env} {K:List Fr} (hj:j<rs.length) {O':List (Nat×AO)} {N':Nat} {F:AV} {A:List AV} (hA:A.map (fun x=>[x])=[]) (hF:F= .Xt 1 []) (g:CG [] 0 O' N' F A (rs.take j)) (e1:look 1 E=some (.slice 1 (rs.map (cS 1 c32)))) (e2:look 2 E=some (a7 r)) (e3:look 3 E=some (.int .u32 i)) (e4:look 4 E=some (.int .u32 v)) (e5:look 5 E=some (.iptr 9 [p.c] 0 0)) (e11:look 11 E=some F) (e12:look 12 E=some (a7 j))
  (ih:∀e' h',WInv p rs r i v (j+1) e' h'->go Φ (finP nS.results) K .normal ⟨e',h'⟩=R):go Φ (finP nS.results) (.c bJ::K) .normal ⟨E,⟨O',N'⟩⟩=R:=by
 have hw:=aF j (by omega);have g0:=g;obtain ⟨f,ra,kp,hT,nr,hN⟩:=g;have t:∀k,look (N'+k) O'=none:=fun k=>hT _ (by omega)
 have t0:=hT N' (Qb _);generalize hx:rs[j]=x;have hxl:x.length<2^40:=by rw [<- hx];exact hl _ (Qd hj)
 have al:jD 1 (x.map c32)=true:=vU 1 c32 x fun x=>by simp
 have bx:x.length*4<=70368744177664:=by omega
 have bA:(A.length+1)*24<=70368744177664:=by have:=ra.len;simp at*;omega
 have nk:∀k,¬N'=N'+(k+1)/\¬N'+(k+1)=N':=fun k=>by omega
 have fin:∀{E2:Env} {O1 L2:List (Nat×AO)} {X:AV} {k1 k2 k3 M:Nat},look 1 E2=look 1 E->look 2 E2=look 2 E->look 3 E2=look 3 E->look 4 E2=look 4 E->look 5 E2=look 5 E->look 11 E2=some (.row (N'+k3) 1 0 (A.length+1))->look 12 E2=some (a7 (j+1:Nat))->
   (∀j y,look j O'=some y->(∀n,F≠ .row j 1 0 n)->look j O1=some y)->Tail O1 N'->NR O1->(k1<k2\/x=[])->k2<k3->k3<M->
   ((x=[]/\X= .Xt 1 []/\L2=[(N'+k2,.row 1 [[X]]),(N'+k3,.row 1 ((A++[X]).map fun x=>[x]))])\/(x≠[]/\X= .row (N'+k1) 1 0 x.length/\L2=[(N'+k1,.row 1 (x.map c32)),(N'+k2,.row 1 [[X]]),(N'+k3,.row 1 ((A++[X]).map fun x=>[x]))]))->
   go Φ (finP nS.results) K .normal ⟨E2,⟨O1++L2,N'+M⟩⟩=R:=fun {E2 O1 L2 X k1 k2 k3 M} h1 h2 h3 h4 h5 h11 h12 hk hT1 hn1 hk1 hk2 hk3 hX=>by
  obtain ⟨cg,_⟩:=g0.next (x:=x) (K:=M) (O1:=O1) hk1 hk2 hk3 (fun j es hj hF=>hk j _ hj hF) (fun j hj=>by omega) hT1 hn1 hX;refine ih _ _ ⟨_,_,_,A++[X],rfl,?_,h1.trans e1,h2.trans e2,h3.trans e3,h4.trans e4,h5.trans e5,h11,h12⟩;rw [Qh hj,hx];exact cg
 subst hF;have hA':A=[]:=by simpa using hA
 subst hA';by_cases zx:x=[]
 ·have hx':=hx;rw [zx] at hx';simp [bJ,e1,e11,e12,hj,hx',cS,hw,t0,t,cZ,aC,nk];exact fin (k1:=0) (k2:=0) (k3:=1) (M:=2) (by simp) (by simp) (by simp) (by simp) (by simp) (by simp) (by simp) (fun j y h _=>h) hT nr (.inr zx) (by decide) (by decide) (.inl ⟨zx,rfl,rfl⟩)
 ·simp [bJ,e1,e11,e12,hj,hx,cS,hw,t0,t,cZ,aC,nk,al,bx,zx];exact fin (k1:=0) (k2:=1) (k3:=2) (M:=3) (by simp) (by simp) (by simp) (by simp) (by simp) (by simp) (by simp) (fun j y h _=>h) hT nr (.inl (by decide)) (by decide) (by decide) (.inr ⟨zx,rfl,rfl⟩)
theorem Ux {p:Prg} {rs:List (List Int)} (hL:rs.length<2^40) (hl:∀l∈rs,l.length<2^40) {r i v:Int} {R:Option Rt} {j:Nat} {E:Env} {K:List Fr} (hj:j<rs.length) {O':List (Nat×AO)} {N':Nat} {F:AV} {A:List AV} {id:Nat} (hF:F= .row id 1 0 (A.map fun x=>[x]).length) (lF:look id O'=some (.row 1 (A.map fun x=>[x]))) (g:CG [] 0 O' N' F A (rs.take j)) (e1:look 1 E=some (.slice 1 (rs.map (cS 1 c32)))) (e2:look 2 E=some (a7 r)) (e3:look 3 E=some (.int .u32 i)) (e4:look 4 E=some (.int .u32 v)) (e5:look 5 E=some (.iptr 9 [p.c] 0 0)) (e11:look 11 E=some F) (e12:look 12 E=some (a7 j))
  (ih:∀e' h',WInv p rs r i v (j+1) e' h'->go Φ (finP nS.results) K .normal ⟨e',h'⟩=R):go Φ (finP nS.results) (.c bJ::K) .normal ⟨E,⟨O',N'⟩⟩=R:=by
 have hw:=aF j (by omega);have g0:=g;obtain ⟨f,ra,kp,hT,nr,hN⟩:=g;have t:∀k,look (N'+k) O'=none:=fun k=>hT _ (by omega)
 have t0:=hT N' (Qb _);generalize hx:rs[j]=x;have hxl:x.length<2^40:=by rw [<- hx];exact hl _ (Qd hj)
 have al:jD 1 (x.map c32)=true:=vU 1 c32 x fun x=>by simp
 have bx:x.length*4<=70368744177664:=by omega
 have bA:(A.length+1)*24<=70368744177664:=by have:=ra.len;simp at*;omega
 have nk:∀k,¬N'=N'+(k+1)/\¬N'+(k+1)=N':=fun k=>by omega
 have fin:∀{E2:Env} {O1 L2:List (Nat×AO)} {X:AV} {k1 k2 k3 M:Nat},look 1 E2=look 1 E->look 2 E2=look 2 E->look 3 E2=look 3 E->look 4 E2=look 4 E->look 5 E2=look 5 E->look 11 E2=some (.row (N'+k3) 1 0 (A.length+1))->look 12 E2=some (a7 (j+1:Nat))->
   (∀j y,look j O'=some y->(∀n,F≠ .row j 1 0 n)->look j O1=some y)->Tail O1 N'->NR O1->(k1<k2\/x=[])->k2<k3->k3<M->
   ((x=[]/\X= .Xt 1 []/\L2=[(N'+k2,.row 1 [[X]]),(N'+k3,.row 1 ((A++[X]).map fun x=>[x]))])\/(x≠[]/\X= .row (N'+k1) 1 0 x.length/\L2=[(N'+k1,.row 1 (x.map c32)),(N'+k2,.row 1 [[X]]),(N'+k3,.row 1 ((A++[X]).map fun x=>[x]))]))->
   go Φ (finP nS.results) K .normal ⟨E2,⟨O1++L2,N'+M⟩⟩=R:=fun {E2 O1 L2 X k1 k2 k3 M} h1 h2 h3 h4 h5 h11 h12 hk hT1 hn1 hk1 hk2 hk3 hX=>by
  obtain ⟨cg,_⟩:=g0.next (x:=x) (K:=M) (O1:=O1) hk1 hk2 hk3 (fun j es hj hF=>hk j _ hj hF) (fun j hj=>by omega) hT1 hn1 hX;refine ih _ _ ⟨_,_,_,A++[X],rfl,?_,h1.trans e1,h2.trans e2,h3.trans e3,h4.trans e4,h5.trans e5,h11,h12⟩;rw [Qh hj,hx];exact cg
 subst hF;have fi:=fun k=>eR (n:=N'+k) hT lF (by omega)
 have fi0:=eR (n:=N') hT lF (by omega);have hkd:∀j y,look j O'=some y->(∀n,AV.row id 1 0 (A.map fun x=>[x]).length≠ .row j 1 0 n)->look j (dropl id O')=some y:=fun j y hj hF=>by
  have:j≠id:=fun e=>hF _ (by rw [e])
  rw [jA this,hj]
 by_cases zx:x=[]
 ·have hx':=hx;rw [zx] at hx';simp [bJ,e1,e11,e12,hj,hx',cS,hw,t0,t,cZ,lF,aC,jA,nk,bA,fi,fi0,D8 lF];rw [show List.map (fun x=>[x]) A++[[AV.Xt 1 []]]=(A++[AV.Xt 1 []]).map (fun x=>[x]) by simp];exact fin (k1:=0) (k2:=0) (k3:=1) (M:=2) (by simp) (by simp) (by simp) (by simp) (by simp) (by simp) (by simp) hkd (JF hT) nr.dropl (.inr zx) (by decide) (by decide) (.inl ⟨zx,rfl,rfl⟩)
 ·simp [bJ,e1,e11,e12,hj,hx,cS,hw,t0,t,cZ,lF,aC,jA,nk,al,bx,bA,fi,fi0,D8 lF,zx];rw [show List.map (fun x=>[x]) A++[[AV.row N' 1 0 x.length]]=(A++[AV.row N' 1 0 x.length]).map (fun x=>[x]) by simp];exact fin (k1:=0) (k2:=1) (k3:=2) (M:=3) (by simp) (by simp) (by simp) (by simp) (by simp) (by simp) (by simp) hkd (JF hT) nr.dropl (.inl (by decide)) (by decide) (by decide) (.inr ⟨zx,rfl,rfl⟩)
theorem Cv (p:Prg) (rs:List (List Int)) (hL:rs.length<2^40) (hl:∀l∈rs,l.length<2^40) (r i v:Int) (hi:ok32 0 i) (hv:ok32 0 v):a8 Φ 262 [.agg (Prg.c p),.slice 1 (rs.map (cS 1 c32)),a7 r,.int .u32 i,.int .u32 v]=some (.val (.slice 1 ((rSet p rs r i v).map (cS 1 c32)))):=by
 rw [aB rfl rfl];have he:=fun (E:Env) O N F A=>Pj p rs r i v hi hv (E:=E) (O:=O) (N:=N) (F:=F) (A:=A)
 generalize some (Rt.val (.slice 1 ((rSet p rs r i v).map (cS 1 c32))))=R at he ⊢;simp [nS,Prg.e];refine cC rs.length (WInv p rs r i v) (fun r=>r=R) ?_ ?_ 0 _ _ (Qc _) ?_
 ·rintro j E _ K hj hK ⟨O',N',F,A,rfl,g,e1,e2,e3,e4,e5,e11,e12⟩ ih;rcases g.f with ⟨hA,hF⟩ | ⟨id,hF,lF,hid,hne⟩
  ·exact Uw hL hl hj hA hF g e1 e2 e3 e4 e5 e11 e12 ih
  ·exact Ux hL hl hj hF lF g e1 e2 e3 e4 e5 e11 e12 ih
 ·rintro E _ K hK ⟨O',N',F,A,rfl,g,e1,e2,e3,e4,e5,e11,e12⟩;rw [fF] at g;simp [bJ,e1,e12,hK];exact he _ O' N' F A g (by simp [e1]) (by simp [e2]) (by simp [e3]) (by simp [e4]) (by simp [e5]) (by simp [e11])
 ·exact ⟨_,_,_,[],rfl,⟨.inl ⟨rfl,rfl⟩,by simpa using RL.nil,Kp.refl,Tail.nil _,DE,Qb _⟩,by simp,by simp,by simp,by simp,by simp [Prg.e],by simp,by simp⟩
theorem EM.setV {O:List (Nat×AO)} {B:Nat} {V F M:AV} {A:List AV} {e:Envt} (h:EM O B V F M A e) {id n:Nat} (hV:V= .row id 1 0 n) (l':List Bool) (hl:l'.length=e.valid.length):
  EM (setl id (.row 1 (l'.map cB)) O) B V F M A { e with valid:=l' }:=by
 obtain ⟨v,m,f,r,mne⟩:=h;rcases v with ⟨_,h2⟩ | ⟨id',h1,lV,hB,hne⟩
 ·rw [hV] at h2;cases h2
 rw [hV] at h1;cases h1;subst hV;have hne':e.valid≠[]:=fun z=>hne (by simp [z])
 refine ⟨?_,?_,?_,r.fr fun j l _ hj=>EF lV hj fun z=>hne' (ST (by simp [cB,c32]) z.symm),mne⟩
 ·exact .inr ⟨id,by simp [hl],by rw [aA,a9 rfl,lV];rfl,hB,fun z=>hne' (by simp at z;subst z;exact Qg hl.symm)⟩
 ·exact m.fr fun j _ hj=>EF lV hj fun z=>hne' (ST (by simp [cB,c32]) z.symm)
 ·exact f.fr fun j _ hj=>EF lV hj fun z=>hne (r.head (fun x hx=>by obtain ⟨y,_,rfl⟩:=iU.1 hx;exact .inl ⟨_,rfl⟩) z.symm)
def swX (p:Prg) (e:Envt) (h:Int) (b keep:Bool):Envt:=if (at? p.Xo h).isSome=false\/(at? e.valid h).isSome=false\/(keep=true/\at? e.valid h=some b) then e else eSw e h.toNat b
theorem sw_ok (p:Prg) (e:Envt) (s:EvS e) (hm:e.metaF≠[]) (hs:e.Xz.length=e.valid.length) (h:Int) (b keep:Bool):
  a8 Φ 385 [.agg p.c,.agg e.c,a7 h,.bool b,.bool keep]=some (.val (.agg (swX p e h b keep).c)):=by
 rw [aB rfl rfl];have T1:Tail [(0,AO.row 4 [z4])] 1:=Tail_cons_iff.2 ⟨by omega,Tail.nil _⟩;obtain ⟨O1,N1,V,F,M,A,hr,em,kp,T,hN1,nr⟩:=dq T1 (.one (by simp)) e s;have l0:look 0 O1=some (.row 4 [z4]):=by rw [kp 0 (by omega) (by simp)];rfl
 have t0:=T N1 (Qb _);rcases em.m with ⟨z,_⟩ | ⟨im,rfl,lM,him,_⟩
 ·simp at z;exact absurd z hm
 generalize hMl:(e.metaF.map c32).length=lm at*;have n0:¬0=N1/\¬N1=0:=by omega
 rw [Envt.ce] at hr;simp only [z4,clR] at hr l0;have em2:=em.app [(N1,.row 4 [[V,F,.row im 1 0 lm,.slice 1 (e.payload.map c8)]])];have lN1:look N1 (O1++[(N1,.row 4 [[V,F,.row im 1 0 lm,.slice 1 (e.payload.map c8)]])])=some (.row 4 [[V,F,.row im 1 0 lm,.slice 1 (e.payload.map c8)]]):=by rw [aC,t0];simp
 have l02:look 0 (O1++[(N1,.row 4 [[V,F,.row im 1 0 lm,.slice 1 (e.payload.map c8)]])])=some (.row 4 [[.Xt 1 [],.Xt 1 [],.Xt 1 [],.Xt 1 []]]):=bL l0;generalize hO2:O1++[(N1,.row 4 [[V,F,.row im 1 0 lm,.slice 1 (e.payload.map c8)]])]=O2 at*;have fin:∀(O:List (Nat×AO)) n (e':Envt),EM O 1 V F (.row im 1 0 lm) A e'->e'.payload=e.payload->look 0 O=some (.row 4 [[.Xt 1 [],.Xt 1 [],.Xt 1 [],.Xt 1 []]])->retP ⟨setl 0 (.row 4 [[V,F,.row im 1 0 lm,.slice 1 (e.payload.map c8)]]) O,n⟩ (some (.agg [V,F,.row im 1 0 lm,.slice 1 (e.payload.map c8)]))=some (.val (.agg e'.c)):=fun O n e' h hp hl=>by
  have h2:EM (setl 0 (.row 4 [[V,F,.row im 1 0 lm,.slice 1 (e.payload.map c8)]]) O) 1 V F (.row im 1 0 lm) A e':=by
   have key:∀(es:List (List AV)) (j:Nat),1<=j->look j O=some (.row 1 es)->look j (setl 0 (.row 4 [[V,F,.row im 1 0 lm,.slice 1 (e.payload.map c8)]]) O)=some (.row 1 es):=fun es j hj h=>by rw [aA,QA (by omega),h]
   exact ⟨h.v.fr fun j h1 h2=>key _ j h1 h2,h.m.fr fun j h1 h2=>key _ j h1 h2,h.f.fr fun j h1 h2=>key _ j h1 h2,h.r.fr fun j l h1 h2=>key _ j h1 h2,h.mne⟩
  have:=h2.snp (N:=n);rw [hp] at this;rw [MU,show aI=39+1 from rfl,SH,this];rfl
 have sV:∀n,snap 40 ⟨O2,n⟩ V=some (.slice 1 (e.valid.map cB)):=fun n=>em2.v.sB
 generalize hR:some (Rt.val (AV.agg (swX p e h b keep).c))=R;have hH:=Px (p.Xo.map Xi.c) h;have hB:=Pw (e.valid.map cB) h;rw [tH,<- LA] at hH hB;cases q1:(at? p.Xo h).isSome with
 | false=>
  have e1:swX p e h b keep=e:=by simp [swX,q1]
  rw [e1] at hR;rw [q1] at hH;simp [nU,Prg.e,Envt.ce,hr,t0,n0,aC,aA,uK,hH,hO2,lN1,l02,-retP];rw [<- hR];exact fin O2 _ e em2 rfl l02
 | true=>
 rw [q1] at hH;cases q2:(at? e.valid h).isSome with
 | false=>
  have e1:swX p e h b keep=e:=by simp [swX,q2]
  rw [e1] at hR;rw [q2] at hB;simp [nU,Prg.e,Envt.ce,hr,t0,n0,aC,aA,uK,hH,hB,hO2,lN1,l02,sV,-retP];rw [<- hR];exact fin O2 _ e em2 rfl l02
 | true=>
 rw [q2] at hB;obtain ⟨x,hx⟩:=zX.1 q2;obtain ⟨k,rfl,hk,hxk⟩:=iX hx;rcases em2.v with ⟨z,_⟩ | ⟨iv,rfl,lV,hiv,_⟩
 ·have:e.valid=[]:=by simpa using z
  rw [this] at hk;simp at hk
 have hkl:k<(e.valid.map cB).length:=by simpa using hk
 have sV':=sV;have lV':=lV;have hmp:=fun n=>tA (g:=cB) (n:=39) (H:=⟨O2,n⟩) (fun x=>by simp [cB]) e.valid
 have i0:¬iv=0/\¬0=iv:=by omega
 have i1:¬iv=N1/\¬N1=iv:=by have:=aW lV lN1 (by simp);exact ⟨this,fun e=>this e.symm⟩
 generalize hlv:(e.valid.map cB).length=lv at*;have hlv':e.valid.length=lv:=by rw [<- hlv];simp
 have htl:(e.valid.map cB).take lv=e.valid.map cB:=Qo (by simp [hlv']);have hcB:(e.valid.map cB)[k]? =some [.bool x]:=by rw [List.getElem?_map,Qa hk,hxk];rfl
 by_cases zk:keep=true/\x=b
 ·have e1:swX p e k b keep=e:=by
   unfold swX;rw [a9 (.inr (.inr ⟨zk.1,by rw [hx,zk.2]⟩))]
  rw [e1] at hR;obtain ⟨rfl,rfl⟩:=zk;simp [nU,Prg.e,Envt.ce,hr,t0,n0,aC,aA,uK,hH,hB,hO2,lN1,l02,lV,htl,hmp,hlv,hlv',hk,hkl,hxk,cB,-retP];rw [<- hR];exact fin O2 _ e em2 rfl l02
 have e1:swX p e k b keep=eSw e k b:=by
  unfold swX;rw [QA]
  ·rfl
  ·rintro (q | q | ⟨q,q3⟩)
   ·rw [q1] at q;cases q
   ·rw [q2] at q;cases q
   ·rw [hx] at q3;exact zk ⟨q,Option.some.inj q3⟩
 rw [e1] at hR;have hkA:k<A.length:=by rw [em2.r.len,hs];exact hk
 have hkF:k<e.Xz.length:=by rw [hs];exact hk
 have hAk:A[k]? =some A[k]:=Qa hkA;rcases em2.f with ⟨hA,_⟩ | ⟨fd,rfl,lF,hfd,_⟩
 ·simp at hA;rw [hA] at hkA;simp at hkA
 have hlA:=em2.r.len;have hlF:(A.map fun x=>[x]).length=lv:=by rw [tH,hlA,hs,hlv']
 rw [hlF] at hr hO2 lN1 em2 fin;have em3:=em2.setV rfl (e.valid.set k b) (by simp);have hst:(e.valid.map cB).set k [AV.bool b]=(e.valid.set k b).map cB:=by rw [uX];simp [cB]
 rw [<- hst] at em3;have f1:¬fd=iv/\¬iv=fd:=by
  have:fd≠iv:=aW lF lV fun z=>by
   injection z with _ z
   have:=em2.r.head (fun x hx=>by obtain ⟨y,_,rfl⟩:=iU.1 hx;exact .inl ⟨_,rfl⟩) z;simp at this;rw [this] at hk;simp at hk
  exact ⟨this,fun e=>this e.symm⟩
 have hk3:¬lv<=k:=by omega
 have hkx:keep=false\/(keep=true/\decide (x=b)=false):=by
  cases keep
  ·exact .inl rfl
  ·exact .inr ⟨rfl,by simp;exact fun q=>zk ⟨rfl,q⟩⟩
 rcases em2.r.row k _ _ hAk (Qa hkF) with ⟨zl,hAf⟩ | ⟨id,hAr,lA,hid⟩
 ·have e2:eSw e k b={ e with valid:=e.valid.set k b }:=by
   unfold eSw;have:e.Xz.set k ((e.Xz.getD k []).map fun _=>0)=e.Xz:=by
    rw [vZ,Qa hkF,nO];have h2:(e.Xz[k].map fun _=>(0:Int))=e.Xz[k]:=by rw [zl];rfl
    rw [h2];exact List.set_getElem_self hkF
   rw [this]
  rw [e2] at hR;have key:retP ⟨setl 0 (.row 4 [[.row iv 1 0 lv,.row fd 1 0 lv,.row im 1 0 lm,.slice 1 (e.payload.map c8)]]) (setl iv (.row 1 ((e.valid.map cB).set k [.bool b])) O2),N1+1⟩ (some (.agg [.row iv 1 0 lv,.row fd 1 0 lv,.row im 1 0 lm,.slice 1 (e.payload.map c8)]))=R:=by
   rw [<- hR];exact fin _ _ _ em3 rfl (by rw [aA,QA i0.2,l02])
  rcases hkx with rfl | ⟨rfl,hxb⟩
  ·simp [nU,Prg.e,Envt.ce,hr,t0,n0,aC,aA,uK,hH,hB,hO2,lN1,l02,lV,htl,hmp,hlv,hlv',hk,hkl,hk3,hxk,cB,i0,i1,f1,A1,cP,hlA,hs,lF,hkA,hAf,-retP];exact key
  ·simp [nU,Prg.e,Envt.ce,hr,t0,n0,aC,aA,uK,hH,hB,hO2,lN1,l02,lV,htl,hmp,hlv,hlv',hk,hkl,hk3,hxk,hxb,cB,i0,i1,f1,A1,cP,hlA,hs,lF,hkA,hAf,-retP];exact key
 ·have hAr2:A[k]? =some (.row id 1 0 e.Xz[k].length):=by rw [hAk,hAr]
  have em4:=em3.setA hAr2 (e.Xz[k].map fun _=>0) (by simp);have e2:eSw e k b={ e with valid:=e.valid.set k b,Xz:=e.Xz.set k (e.Xz[k].map fun _=>0) }:=by
   unfold eSw;rw [vZ,Qa hkF,nO]
  rw [e2] at hR;have hrep:List.replicate e.Xz[k].length [AV.int .u32 0]=(e.Xz[k].map fun _=>(0:Int)).map c32:=by
   rw [E1,<- MB];rfl
  have j1:¬id=iv/\¬iv=id:=by
   have:id≠iv:=aW lA lV fun z=>by
    injection z with _ z
    have:=ST (by simp [cB,c32]) z;rw [this] at hk;simp at hk
   exact ⟨this,fun e=>this e.symm⟩
  have j0:¬id=0/\¬0=id:=by omega
  have j2:¬id=N1/\¬N1=id:=by have:=aW lA lN1 (by simp);exact ⟨this,fun e=>this e.symm⟩
  have htk:(e.Xz[k].map c32).take e.Xz[k].length=e.Xz[k].map c32:=Qo (by simp);have hdk:(e.Xz[k].map c32).drop e.Xz[k].length=[]:=OC (by simp);have key:retP ⟨setl 0 (.row 4 [[.row iv 1 0 lv,.row fd 1 0 lv,.row im 1 0 lm,.slice 1 (e.payload.map c8)]]) (setl id (.row 1 (List.replicate e.Xz[k].length [AV.int .u32 0])) (setl iv (.row 1 ((e.valid.map cB).set k [.bool b])) O2)),N1+1⟩ (some (.agg [.row iv 1 0 lv,.row fd 1 0 lv,.row im 1 0 lm,.slice 1 (e.payload.map c8)]))=R:=by
   rw [<- hR,hrep];exact fin _ _ _ em4 rfl (by rw [aA,QA j0.2,aA,QA i0.2,l02])
  rcases hkx with rfl | ⟨rfl,hxb⟩
  ·simp [nU,Prg.e,Envt.ce,hr,t0,n0,aC,aA,uK,hH,hB,hO2,lN1,l02,lV,htl,hmp,hlv,hlv',hk,hkl,hk3,hxk,cB,i0,i1,f1,A1,cP,hlA,hs,lF,hkA,hAr,lA,j0,j1,j2,hdk,-retP];exact key
  ·simp [nU,Prg.e,Envt.ce,hr,t0,n0,aC,aA,uK,hH,hB,hO2,lN1,l02,lV,htl,hmp,hlv,hlv',hk,hkl,hk3,hxk,hxb,cB,i0,i1,f1,A1,cP,hlA,hs,lF,hkA,hAr,lA,j0,j1,j2,hdk,-retP];exact key
theorem Nv (p:Prg) (e:Envt) (h:Int):swX p e h true true=eAdd p e h:=by
 unfold swX eAdd;cases q1:(at? p.Xo h).isSome<;>cases q2:at? e.valid h with
 | none=>simp
 | some x=>cases x<;>simp
theorem Nw (p:Prg) (e:Envt) (h:Int):swX p e h false false=eRem p e h:=by
 unfold swX eRem;cases q1:(at? p.Xo h).isSome<;>cases q2:(at? e.valid h).isSome<;>simp
theorem Pn (p:Prg) (e:Envt) (s:EvS e) (hm:e.metaF≠[]) (hs:e.Xz.length=e.valid.length) (h:Int):a8 Φ 353 [.agg p.c,.agg e.c,a7 h]=some (.val (.agg (eAdd p e h).c)):=by
 rw [aB rfl rfl,<- Nv];have k:=sw_ok p e s hm hs h true true;generalize swX p e h true true=e2 at*;rw [Envt.ce] at k;rw [Envt.ce] at k;simp only [Prg.e] at k;simp [IA,Prg.e,Envt.ce,k]
theorem Tu (p:Prg) (e:Envt) (s:EvS e) (hm:e.metaF≠[]) (hs:e.Xz.length=e.valid.length) (h:Int):a8 Φ 354 [.agg p.c,.agg e.c,a7 h]=some (.val (.agg (eRem p e h).c)):=by
 rw [aB rfl rfl,<- Nw];have k:=sw_ok p e s hm hs h false false;generalize swX p e h false false=e2 at*;rw [Envt.ce] at k;rw [Envt.ce] at k;simp only [Prg.e] at k;simp [IB,Prg.e,Envt.ce,k]
end Go.Av
