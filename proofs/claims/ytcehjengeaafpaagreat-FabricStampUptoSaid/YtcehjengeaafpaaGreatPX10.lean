/-
 A field of a packet is set: the program's answer.
-/
import Derived.Test.YtcehjengeaafpaaGreatFS4
set_option linter.all false
namespace Go.Av
set_option maxRecDepth 6000
theorem GN {α I:Type} {f:α->List AV} {g:I->List AV} (hfg:∀a b,f a≠g b) {l:List α} {m:List I} (h:l.map f=m.map g):m=[]:=by
 cases m with
 | nil=>rfl
 | cons b m=>
  cases l with
  | nil=>simp at h
  | cons a l=>simp at h;exact absurd h.1 (hfg a b)
theorem BF {O:List (Nat×AO)} {id j:Nat} {es es':List (List AV)} {y:AO} (hl:look id O=some (.row 1 es)) (hj:look j O=some (.row 1 es')) (hne:es≠es'):look j (setl id y O)=some (.row 1 es'):=by
 rw [a7,QA (fun e=>by subst e;rw [hl] at hj;cases hj;exact hne rfl),hj]
theorem EM.setM {O:List (Nat×AO)} {B:Nat} {V F M:AV} {A:List AV} {e:Envt} (h:EM O B V F M A e) {id n:Nat} (hM:M= .row id 1 0 n) (l':List Int) (hl:l'.length=e.metaF.length):
  EM (setl id (.row 1 (l'.map c32)) O) B V F M A { e with metaF:=l' }:=by
 obtain ⟨v,m,f,r,mne⟩:=h;rcases m with ⟨_,h2⟩ | ⟨id',h1,lM,hB,hne⟩
 ·rw [hM] at h2;cases h2
 rw [hM] at h1;cases h1;subst hM;have hne':e.metaF≠[]:=fun z=>hne (by simp [z])
 refine ⟨?_,?_,?_,?_,mne⟩
 ·rcases v with v | ⟨iv,h1,h2,h3,h4⟩
  ·exact .inl v
  ·exact .inr ⟨iv,h1,BF lM h2 fun z=>hne' (GN (by simp [cB,c32]) z.symm),h3,h4⟩
 ·exact .inr ⟨id,by simp [hl],by rw [a7,a8 rfl,lM];rfl,hB,fun z=>hne' (by simp at z;subst z;exact Qg hl.symm)⟩
 ·rcases f with f | ⟨iv,h1,h2,h3,h4⟩
  ·exact .inl f
  ·exact .inr ⟨iv,h1,BF lM h2 fun z=>hne (r.head (fun x hx=>by obtain ⟨y,_,rfl⟩:=iN.1 hx;exact .inr ⟨_,_,rfl⟩) z.symm),h3,h4⟩
 ·refine ⟨r.len,fun k x l hx hl2=>?_,r.inj⟩;rcases r.row k x l hx hl2 with h | ⟨i2,g1,g2,g3⟩
  ·exact .inl h
  ·refine .inr ⟨i2,g1,?_,g3⟩;rw [a7,QA (fun z=>by subst z;subst g1;exact mne k i2 _ _ hx rfl),g2]
theorem EM.setA {O:List (Nat×AO)} {B:Nat} {V F M:AV} {A:List AV} {e:Envt} (h:EM O B V F M A e) {k id n:Nat} (hA:A[k]? =some (.row id 1 0 n)) (l':List Int) (hl:l'.length=n):
  EM (setl id (.row 1 (l'.map c32)) O) B V F M A { e with Xz:=e.Xz.set k l' }:=by
 obtain ⟨v,m,f,r,mne⟩:=h;have hk:k<A.length:=(Qm.1 hA).1;have hk2:k<e.Xz.length:=by rw [<- r.len];exact hk
 rcases r.row k _ _ hA (Qa hk2) with ⟨_,h2⟩ | ⟨id',h1,lA,hB⟩
 ·cases h2
 cases h1;refine ⟨?_,?_,?_,r.set hA l' hl,mne⟩
 ·rcases v with v | ⟨iv,h1,h2,h3,h4⟩
  ·exact .inl v
  ·refine .inr ⟨iv,h1,BF lA h2 fun z=>h4 ?_,h3,h4⟩;rw [GN (by simp [cB,c32]) z];rfl
 ·rcases m with m | ⟨iv,h1,h2,h3,h4⟩
  ·exact .inl m
  ·refine .inr ⟨iv,h1,?_,h3,h4⟩;rw [a7,QA (fun z=>by subst z;exact mne k iv _ _ hA h1),h2]
 ·rcases f with f | ⟨iv,h1,h2,h3,h4⟩
  ·exact .inl f
  ·refine .inr ⟨iv,h1,BF lA h2 fun z=>h4 ?_,h3,h4⟩;rw [<- z];exact r.head (fun x hx=>by obtain ⟨y,_,rfl⟩:=iN.1 hx;exact .inr ⟨_,_,rfl⟩) z.symm
theorem EM.snp {O:List (Nat×AO)} {B N:Nat} {V F M:AV} {A:List AV} {e:Envt} (h:EM O B V F M A e):mapO (snap 39 ⟨O,N⟩) [V,F,M,.slice 1 (e.payload.map c8)]=some e.c:=by
 have h1:=h.v.snp (N:=N) (n:=38) (mL (g:=cB) (fun x=>by simp [cB]) e.valid);have h2:=h.m.snp (N:=N) (n:=38) (mL (g:=c32) (fun x=>by simp [c32]) e.metaF);have h3:=h.f.snp (N:=N) (n:=38) (h.r.snp 36);simp only [mapO,h1,h2,h3,Envt.ce];simp
theorem qP {Φ:FuncId->Option AFun} {I:Type} {fin:Option (Ex×St)->Option I} {t:Nat} {ks:List Nat} {K:List Fr} {e:Env} {H:AH} {id z i off:Nat} {o:Option (List (List AV))}:frzB Φ fin t ks K e H id z i off true o=go Φ fin (.f ks::K) .normal ⟨e,H⟩:=by cases o<;>rfl
theorem Ev (p:Prg) (e:Envt) (s:EvS e) (hm:e.metaF≠[]) (h f v:Int) (hv:ok32 0 v):
  a9 Φ 103 [.agg p.c,.agg e.c,.agg [.int .i64 h,.int .i64 f],.int .u32 v]=some (.val (.agg (eSet p e h f v).c)):=by
 rw [aC rfl rfl];have hw:=DI p h f;have T1:Tail [(0,AO.row 4 [z4])] 1:=Tail_cons_iff.2 ⟨by omega,Tail.nil _⟩;obtain ⟨O1,N1,V,F,M,A,hr,em,kp,T,hN1,nr⟩:=Bo T1 (.one (by simp)) e s;have l0:look 0 O1=some (.row 4 [z4]):=by rw [kp 0 (by omega) (by simp)];rfl
 have t0:=T N1 (Qb _);rcases em.m with ⟨z,_⟩ | ⟨im,rfl,lM,him,_⟩
 ·simp at z;exact absurd z hm
 generalize hMl:(e.metaF.map c32).length=lm at*;have n0:¬0=N1/\¬N1=0:=by omega
 obtain ⟨X,L,N2,hr2,T2,nr2,hN2,hX⟩:=NX (T.app1 (o:= .row 4 [[V,F,.row im 1 0 lm,.slice 1 (e.payload.map c8)]]) (Qb _)) (nr.app (.one (by simp))) (em.app _) h f (.slice 1 (e.payload.map c8));have em2:=(em.app [(N1,.row 4 [[V,F,.row im 1 0 lm,.slice 1 (e.payload.map c8)]])]).app L;have lN1:look N1 (O1++[(N1,.row 4 [[V,F,.row im 1 0 lm,.slice 1 (e.payload.map c8)]])]++L)=some (.row 4 [[V,F,.row im 1 0 lm,.slice 1 (e.payload.map c8)]]):=aW (by rw [aA,t0];simp);have l02:look 0 (O1++[(N1,.row 4 [[V,F,.row im 1 0 lm,.slice 1 (e.payload.map c8)]])]++L)=some (.row 4 [z4]):=aW (aW l0);generalize hO2:O1++[(N1,.row 4 [[V,F,.row im 1 0 lm,.slice 1 (e.payload.map c8)]])]++L=O2 at*;rw [Envt.ce] at hr;simp only [Prg.e] at hw;have w0:=JP p h f;simp only [z4,clR] at hr l02;have sn:∀(O:List (Nat×AO)) n (e':Envt),EM O 1 V F (.row im 1 0 lm) A e'->e'.payload=e.payload->mapO (snap 39 ⟨O,n⟩) [V,F,.row im 1 0 lm,.slice 1 (e.payload.map c8)]=some e'.c:=fun O n e' h hp=>by
  rw [<- hp];exact h.snp
 have fin:∀(O:List (Nat×AO)) n (e':Envt),EM O 1 V F (.row im 1 0 lm) A e'->e'.payload=e.payload->look 0 O=some (.row 4 [[.Xt 1 [],.Xt 1 [],.Xt 1 [],.Xt 1 []]])->retP ⟨setl 0 (.row 4 [[V,F,.row im 1 0 lm,.slice 1 (e.payload.map c8)]]) O,n⟩ (some (.agg [V,F,.row im 1 0 lm,.slice 1 (e.payload.map c8)]))=some (.val (.agg e'.c)):=fun O n e' h hp hl=>by
  have h2:EM (setl 0 (.row 4 [[V,F,.row im 1 0 lm,.slice 1 (e.payload.map c8)]]) O) 1 V F (.row im 1 0 lm) A e':=by
   have key:∀(es:List (List AV)) (j:Nat),1<=j->look j O=some (.row 1 es)->look j (setl 0 (.row 4 [[V,F,.row im 1 0 lm,.slice 1 (e.payload.map c8)]]) O)=some (.row 1 es):=fun es j hj h=>by rw [a7,QA (by omega),h]
   exact ⟨h.v.fr fun j h1 h2=>key _ j h1 h2,h.m.fr fun j h1 h2=>key _ j h1 h2,h.f.fr fun j h1 h2=>key _ j h1 h2,h.r.fr fun j l h1 h2=>key _ j h1 h2,h.mne⟩
  rw [Jf,show aE=39+1 from rfl,Bz,sn _ _ e' h2 hp];rfl
 generalize hR:some (Rt.val (AV.agg (eSet p e h f v).c))=R;cases q:eHas e h f with
 | false=>
  rw [q] at hr2;have e1:eSet p e h f v=e:=by simp [eSet,q]
  rw [e1] at hR;simp [nK,Prg.e,Envt.ce,hr,t0,n0,aA,a7,qP,hw,hr2,lN1,l02,-retP];rw [<- hR];exact fin O2 N2 e em2 rfl l02
 | true=>
  rw [q] at hr2;by_cases zw:wid p h f=0
  ·have e1:eSet p e h f v=e:=by simp [eSet,zw]
   rw [e1] at hR;rw [zw] at hw;simp [nK,Prg.e,Envt.ce,hr,t0,n0,aA,a7,qP,hw,hr2,lN1,l02,-retP];rw [<- hR];exact fin O2 N2 e em2 rfl l02
  have zw':0<wid p h f:=by omega
  have hi:=oK hv (show 1<=wid p h f by omega) w0.2;have hmk:=jI (wid p h f);have e1:eSet p e h f v=ePut h f (v % 2^(wid p h f).toNat) e:=by simp [eSet,zw,q]
  rw [e1] at hR;generalize v % 2^(wid p h f).toNat=u at*;rcases hX q with ⟨rfl,rfl⟩ | ⟨k,rfl,hAk⟩
  ·simp only [eHas,if_true] at q;obtain ⟨x,hx⟩:=tG.1 q;obtain ⟨j,rfl,hj,_⟩:=lS hx;have lM2:look im O2=some (.row 1 (e.metaF.map c32)):=by rw [<- hO2];exact aW (aW lM)
   have hjl:j<lm:=by rw [<- hMl];simpa using hj
   have e2:ePut (-1) j u e={ e with metaF:=e.metaF.set j u }:=by simp [ePut]
   have em3:=em2.setM rfl (e.metaF.set j u) (by simp);have i1:¬im=N1/\¬N1=im:=by have:=aF lM2 lN1 (by simp);exact ⟨this,fun e=>this e.symm⟩
   have i0:¬im=0/\¬0=im:=by omega
   have hst:(e.metaF.map c32).set j [AV.int .u32 u]=(e.metaF.set j u).map c32:=by rw [qZ];simp [c32]
   simp [nK,Prg.e,Envt.ce,hr,t0,n0,aA,a7,qP,hw,hr2,lN1,l02,zw',hmk,hi,hjl,lM2,hj,i1,i0,c32,-retP];rw [hst,<- hR,e2];exact fin _ N2 _ em3 rfl (by rw [a7,QA i0.2,l02])
  ·have hm1:¬((k:Int)= -1):=by omega
   simp only [eHas,QA hm1,bE] at q;obtain ⟨x,hx⟩:=tG.1 q.2;obtain ⟨l,hx1,hx2⟩:=Qt.1 hx;rw [mM] at hx1;obtain ⟨j,rfl,hj,_⟩:=lS hx2;have hk:k<e.Xz.length:=(Qm.1 hx1).1;rcases em2.r.row k X l hAk hx1 with ⟨z,_⟩ | ⟨id,rfl,lA,hid⟩
   ·rw [z] at hj;simp at hj
   have e2:ePut k j u e={ e with Xz:=e.Xz.set k (l.set j u) }:=by simp [ePut,hm1,tE,hx1]
   have em3:=em2.setA hAk (l.set j u) (by simp);have i1:¬id=N1/\¬N1=id:=by have:=aF lA lN1 (by simp);exact ⟨this,fun e=>this e.symm⟩
   have i0:¬id=0/\¬0=id:=by omega
   have hst:(l.map c32).set j [AV.int .u32 u]=(l.set j u).map c32:=by rw [qZ];simp [c32]
   simp [nK,Prg.e,Envt.ce,hr,t0,n0,aA,a7,qP,hw,hr2,lN1,l02,zw',hmk,hi,lA,hj,i1,i0,c32,-retP];rw [hst,<- hR,e2];exact fin _ N2 _ em3 rfl (by rw [a7,QA i0.2,l02])
theorem EM.setV {O:List (Nat×AO)} {B:Nat} {V F M:AV} {A:List AV} {e:Envt} (h:EM O B V F M A e) {id n:Nat} (hV:V= .row id 1 0 n) (l':List Bool) (hl:l'.length=e.valid.length):
  EM (setl id (.row 1 (l'.map cB)) O) B V F M A { e with valid:=l' }:=by
 obtain ⟨v,m,f,r,mne⟩:=h;rcases v with ⟨_,h2⟩ | ⟨id',h1,lV,hB,hne⟩
 ·rw [hV] at h2;cases h2
 rw [hV] at h1;cases h1;subst hV;have hne':e.valid≠[]:=fun z=>hne (by simp [z])
 refine ⟨?_,?_,?_,r.fr fun j l _ hj=>BF lV hj fun z=>hne' (GN (by simp [cB,c32]) z.symm),mne⟩
 ·exact .inr ⟨id,by simp [hl],by rw [a7,a8 rfl,lV];rfl,hB,fun z=>hne' (by simp at z;subst z;exact Qg hl.symm)⟩
 ·exact m.fr fun j _ hj=>BF lV hj fun z=>hne' (GN (by simp [cB,c32]) z.symm)
 ·exact f.fr fun j _ hj=>BF lV hj fun z=>hne (r.head (fun x hx=>by obtain ⟨y,_,rfl⟩:=iN.1 hx;exact .inl ⟨_,rfl⟩) z.symm)
def swX (p:Prg) (e:Envt) (h:Int) (b keep:Bool):Envt:=if (at? p.Xo h).isSome=false\/(at? e.valid h).isSome=false\/(keep=true/\at? e.valid h=some b) then e else eSw e h.toNat b
theorem sw_ok (p:Prg) (e:Envt) (s:EvS e) (hm:e.metaF≠[]) (hs:e.Xz.length=e.valid.length) (h:Int) (b keep:Bool):
  a9 Φ 385 [.agg p.c,.agg e.c,.int .i64 h,.bool b,.bool keep]=some (.val (.agg (swX p e h b keep).c)):=by
 rw [aC rfl rfl];have T1:Tail [(0,AO.row 4 [z4])] 1:=Tail_cons_iff.2 ⟨by omega,Tail.nil _⟩;obtain ⟨O1,N1,V,F,M,A,hr,em,kp,T,hN1,nr⟩:=Bo T1 (.one (by simp)) e s;have l0:look 0 O1=some (.row 4 [z4]):=by rw [kp 0 (by omega) (by simp)];rfl
 have t0:=T N1 (Qb _);rcases em.m with ⟨z,_⟩ | ⟨im,rfl,lM,him,_⟩
 ·simp at z;exact absurd z hm
 generalize hMl:(e.metaF.map c32).length=lm at*;have n0:¬0=N1/\¬N1=0:=by omega
 rw [Envt.ce] at hr;simp only [z4,clR] at hr l0;have em2:=em.app [(N1,.row 4 [[V,F,.row im 1 0 lm,.slice 1 (e.payload.map c8)]])];have lN1:look N1 (O1++[(N1,.row 4 [[V,F,.row im 1 0 lm,.slice 1 (e.payload.map c8)]])])=some (.row 4 [[V,F,.row im 1 0 lm,.slice 1 (e.payload.map c8)]]):=by rw [aA,t0];simp
 have l02:look 0 (O1++[(N1,.row 4 [[V,F,.row im 1 0 lm,.slice 1 (e.payload.map c8)]])])=some (.row 4 [[.Xt 1 [],.Xt 1 [],.Xt 1 [],.Xt 1 []]]):=aW l0;generalize hO2:O1++[(N1,.row 4 [[V,F,.row im 1 0 lm,.slice 1 (e.payload.map c8)]])]=O2 at*;have fin:∀(O:List (Nat×AO)) n (e':Envt),EM O 1 V F (.row im 1 0 lm) A e'->e'.payload=e.payload->look 0 O=some (.row 4 [[.Xt 1 [],.Xt 1 [],.Xt 1 [],.Xt 1 []]])->retP ⟨setl 0 (.row 4 [[V,F,.row im 1 0 lm,.slice 1 (e.payload.map c8)]]) O,n⟩ (some (.agg [V,F,.row im 1 0 lm,.slice 1 (e.payload.map c8)]))=some (.val (.agg e'.c)):=fun O n e' h hp hl=>by
  have h2:EM (setl 0 (.row 4 [[V,F,.row im 1 0 lm,.slice 1 (e.payload.map c8)]]) O) 1 V F (.row im 1 0 lm) A e':=by
   have key:∀(es:List (List AV)) (j:Nat),1<=j->look j O=some (.row 1 es)->look j (setl 0 (.row 4 [[V,F,.row im 1 0 lm,.slice 1 (e.payload.map c8)]]) O)=some (.row 1 es):=fun es j hj h=>by rw [a7,QA (by omega),h]
   exact ⟨h.v.fr fun j h1 h2=>key _ j h1 h2,h.m.fr fun j h1 h2=>key _ j h1 h2,h.f.fr fun j h1 h2=>key _ j h1 h2,h.r.fr fun j l h1 h2=>key _ j h1 h2,h.mne⟩
  have:=h2.snp (N:=n);rw [hp] at this;rw [Jf,show aE=39+1 from rfl,Bz,this];rfl
 have sV:∀n,snap 40 ⟨O2,n⟩ V=some (.slice 1 (e.valid.map cB)):=fun n=>em2.v.sB
 generalize hR:some (Rt.val (AV.agg (swX p e h b keep).c))=R;have hH:=W7 (p.Xo.map Xi.c) h;have hB:=W6 (e.valid.map cB) h;rw [cQ,<- CM] at hH hB;cases q1:(at? p.Xo h).isSome with
 | false=>
  have e1:swX p e h b keep=e:=by simp [swX,q1]
  rw [e1] at hR;rw [q1] at hH;simp [iP,Prg.e,Envt.ce,hr,t0,n0,aA,a7,qP,hH,hO2,lN1,l02,-retP];rw [<- hR];exact fin O2 _ e em2 rfl l02
 | true=>
 rw [q1] at hH;cases q2:(at? e.valid h).isSome with
 | false=>
  have e1:swX p e h b keep=e:=by simp [swX,q2]
  rw [e1] at hR;rw [q2] at hB;simp [iP,Prg.e,Envt.ce,hr,t0,n0,aA,a7,qP,hH,hB,hO2,lN1,l02,sV,-retP];rw [<- hR];exact fin O2 _ e em2 rfl l02
 | true=>
 rw [q2] at hB;obtain ⟨x,hx⟩:=tG.1 q2;obtain ⟨k,rfl,hk,hxk⟩:=lS hx;rcases em2.v with ⟨z,_⟩ | ⟨iv,rfl,lV,hiv,_⟩
 ·have:e.valid=[]:=by simpa using z
  rw [this] at hk;simp at hk
 have hkl:k<(e.valid.map cB).length:=by simpa using hk
 have sV':=sV;have lV':=lV;have hmp:=fun n=>mL (g:=cB) (n:=39) (H:=⟨O2,n⟩) (fun x=>by simp [cB]) e.valid
 have i0:¬iv=0/\¬0=iv:=by omega
 have i1:¬iv=N1/\¬N1=iv:=by have:=aF lV lN1 (by simp);exact ⟨this,fun e=>this e.symm⟩
 generalize hlv:(e.valid.map cB).length=lv at*;have hlv':e.valid.length=lv:=by rw [<- hlv];simp
 have htl:(e.valid.map cB).take lv=e.valid.map cB:=Qo (by simp [hlv']);have hcB:(e.valid.map cB)[k]? =some [.bool x]:=by rw [List.getElem?_map,Qa hk,hxk];rfl
 by_cases zk:keep=true/\x=b
 ·have e1:swX p e k b keep=e:=by
   unfold swX;rw [a8 (.inr (.inr ⟨zk.1,by rw [hx,zk.2]⟩))]
  rw [e1] at hR;obtain ⟨rfl,rfl⟩:=zk;simp [iP,Prg.e,Envt.ce,hr,t0,n0,aA,a7,qP,hH,hB,hO2,lN1,l02,lV,htl,hmp,hlv,hlv',hk,hkl,hxk,cB,-retP];rw [<- hR];exact fin O2 _ e em2 rfl l02
 have e1:swX p e k b keep=eSw e k b:=by
  unfold swX;rw [QA]
  ·rfl
  ·rintro (q | q | ⟨q,q3⟩)
   ·rw [q1] at q;cases q
   ·rw [q2] at q;cases q
   ·rw [hx] at q3;exact zk ⟨q,Option.some.inj q3⟩
 rw [e1] at hR;have hkA:k<A.length:=by rw [em2.r.len,hs];exact hk
 have hkF:k<e.Xz.length:=by rw [hs];exact hk
 have hAk:A[k]? =some A[k]:=Qa hkA;rcases em2.f with ⟨hA,_⟩ | ⟨fd,rfl,lF,hfd,_⟩
 ·simp at hA;rw [hA] at hkA;simp at hkA
 have hlA:=em2.r.len;have hlF:(A.map fun x=>[x]).length=lv:=by rw [cQ,hlA,hs,hlv']
 rw [hlF] at hr hO2 lN1 em2 fin;have em3:=em2.setV rfl (e.valid.set k b) (by simp);have hst:(e.valid.map cB).set k [AV.bool b]=(e.valid.set k b).map cB:=by rw [qZ];simp [cB]
 rw [<- hst] at em3;have f1:¬fd=iv/\¬iv=fd:=by
  have:fd≠iv:=aF lF lV fun z=>by
   injection z with _ z
   have:=em2.r.head (fun x hx=>by obtain ⟨y,_,rfl⟩:=iN.1 hx;exact .inl ⟨_,rfl⟩) z;simp at this;rw [this] at hk;simp at hk
  exact ⟨this,fun e=>this e.symm⟩
 have hk3:¬lv<=k:=by omega
 have hkx:keep=false\/(keep=true/\decide (x=b)=false):=by
  cases keep
  ·exact .inl rfl
  ·exact .inr ⟨rfl,by simp;exact fun q=>zk ⟨rfl,q⟩⟩
 rcases em2.r.row k _ _ hAk (Qa hkF) with ⟨zl,hAf⟩ | ⟨id,hAr,lA,hid⟩
 ·have e2:eSw e k b={ e with valid:=e.valid.set k b }:=by
   unfold eSw;have:e.Xz.set k ((e.Xz.getD k []).map fun _=>0)=e.Xz:=by
    rw [tE,Qa hkF,lY];have h2:(e.Xz[k].map fun _=>(0:Int))=e.Xz[k]:=by rw [zl];rfl
    rw [h2];exact List.set_getElem_self hkF
   rw [this]
  rw [e2] at hR;have key:retP ⟨setl 0 (.row 4 [[.row iv 1 0 lv,.row fd 1 0 lv,.row im 1 0 lm,.slice 1 (e.payload.map c8)]]) (setl iv (.row 1 ((e.valid.map cB).set k [.bool b])) O2),N1+1⟩ (some (.agg [.row iv 1 0 lv,.row fd 1 0 lv,.row im 1 0 lm,.slice 1 (e.payload.map c8)]))=R:=by
   rw [<- hR];exact fin _ _ _ em3 rfl (by rw [a7,QA i0.2,l02])
  rcases hkx with rfl | ⟨rfl,hxb⟩
  ·simp [iP,Prg.e,Envt.ce,hr,t0,n0,aA,a7,qP,hH,hB,hO2,lN1,l02,lV,htl,hmp,hlv,hlv',hk,hkl,hk3,hxk,cB,i0,i1,f1,rD,bO,hlA,hs,lF,hkA,hAf,-retP];exact key
  ·simp [iP,Prg.e,Envt.ce,hr,t0,n0,aA,a7,qP,hH,hB,hO2,lN1,l02,lV,htl,hmp,hlv,hlv',hk,hkl,hk3,hxk,hxb,cB,i0,i1,f1,rD,bO,hlA,hs,lF,hkA,hAf,-retP];exact key
 ·have hAr2:A[k]? =some (.row id 1 0 e.Xz[k].length):=by rw [hAk,hAr]
  have em4:=em3.setA hAr2 (e.Xz[k].map fun _=>0) (by simp);have e2:eSw e k b={ e with valid:=e.valid.set k b,Xz:=e.Xz.set k (e.Xz[k].map fun _=>0) }:=by
   unfold eSw;rw [tE,Qa hkF,lY]
  rw [e2] at hR;have hrep:List.replicate e.Xz[k].length [AV.int .u32 0]=(e.Xz[k].map fun _=>(0:Int)).map c32:=by
   rw [List.map_map,<- List.map_const'];rfl
  have j1:¬id=iv/\¬iv=id:=by
   have:id≠iv:=aF lA lV fun z=>by
    injection z with _ z
    have:=GN (by simp [cB,c32]) z;rw [this] at hk;simp at hk
   exact ⟨this,fun e=>this e.symm⟩
  have j0:¬id=0/\¬0=id:=by omega
  have j2:¬id=N1/\¬N1=id:=by have:=aF lA lN1 (by simp);exact ⟨this,fun e=>this e.symm⟩
  have htk:(e.Xz[k].map c32).take e.Xz[k].length=e.Xz[k].map c32:=Qo (by simp);have hdk:(e.Xz[k].map c32).drop e.Xz[k].length=[]:=List.drop_of_length_le (by simp);have key:retP ⟨setl 0 (.row 4 [[.row iv 1 0 lv,.row fd 1 0 lv,.row im 1 0 lm,.slice 1 (e.payload.map c8)]]) (setl id (.row 1 (List.replicate e.Xz[k].length [AV.int .u32 0])) (setl iv (.row 1 ((e.valid.map cB).set k [.bool b])) O2)),N1+1⟩ (some (.agg [.row iv 1 0 lv,.row fd 1 0 lv,.row im 1 0 lm,.slice 1 (e.payload.map c8)]))=R:=by
   rw [<- hR,hrep];exact fin _ _ _ em4 rfl (by rw [a7,QA j0.2,a7,QA i0.2,l02])
  rcases hkx with rfl | ⟨rfl,hxb⟩
  ·simp [iP,Prg.e,Envt.ce,hr,t0,n0,aA,a7,qP,hH,hB,hO2,lN1,l02,lV,htl,hmp,hlv,hlv',hk,hkl,hk3,hxk,cB,i0,i1,f1,rD,bO,hlA,hs,lF,hkA,hAr,lA,j0,j1,j2,hdk,-retP];exact key
  ·simp [iP,Prg.e,Envt.ce,hr,t0,n0,aA,a7,qP,hH,hB,hO2,lN1,l02,lV,htl,hmp,hlv,hlv',hk,hkl,hk3,hxk,hxb,cB,i0,i1,f1,rD,bO,hlA,hs,lF,hkA,hAr,lA,j0,j1,j2,hdk,-retP];exact key
theorem UJ (p:Prg) (e:Envt) (h:Int):swX p e h true true=eAdd p e h:=by
 unfold swX eAdd;cases q1:(at? p.Xo h).isSome<;>cases q2:at? e.valid h with
 | none=>simp
 | some x=>cases x<;>simp
theorem UK (p:Prg) (e:Envt) (h:Int):swX p e h false false=eRem p e h:=by
 unfold swX eRem;cases q1:(at? p.Xo h).isSome<;>cases q2:(at? e.valid h).isSome<;>simp
theorem W1 (p:Prg) (e:Envt) (s:EvS e) (hm:e.metaF≠[]) (hs:e.Xz.length=e.valid.length) (h:Int):a9 Φ 353 [.agg p.c,.agg e.c,.int .i64 h]=some (.val (.agg (eAdd p e h).c)):=by
 rw [aC rfl rfl,<- UJ];have k:=sw_ok p e s hm hs h true true;generalize swX p e h true true=e2 at*;rw [Envt.ce] at k;rw [Envt.ce] at k;simp only [Prg.e] at k;simp [yF,Prg.e,Envt.ce,k]
theorem XK (p:Prg) (e:Envt) (s:EvS e) (hm:e.metaF≠[]) (hs:e.Xz.length=e.valid.length) (h:Int):a9 Φ 354 [.agg p.c,.agg e.c,.int .i64 h]=some (.val (.agg (eRem p e h).c)):=by
 rw [aC rfl rfl,<- UK];have k:=sw_ok p e s hm hs h false false;generalize swX p e h false false=e2 at*;rw [Envt.ce] at k;rw [Envt.ce] at k;simp only [Prg.e] at k;simp [yG,Prg.e,Envt.ce,k]
structure RV (p:Prg) (rs:List (List Int)):Prop where
 n:rs.length=p.Xl.length
 l:∀(i:Nat) (g:Xg) (x:List Int),p.Xl[i]? =some g->rs[i]? =some x->(x.length:Int)=g.size/\∀v∈x,0<=v/\v<2^g.Yc.toNat
theorem RV.set {p:Prg} {rs:List (List Int)} (h:RV p rs) (r i v:Int):RV p (rSet p rs r i v):=by
 unfold rSet;split
 ·rename_i g x hg hx;split
  ·refine ⟨by simp [h.n],fun j g' x' hg' hx'=>?_⟩;obtain ⟨k,rfl,hk,rfl⟩:=lS hx;simp only [qY,List.getElem?_set] at hx';split at hx'
   ·rename_i q;subst q;simp [hk] at hx';subst hx';rw [mM,hg'] at hg;obtain rfl:=Option.some.inj hg;obtain ⟨h1,h2⟩:=h.l k _ _ hg' (Qa hk);refine ⟨by simpa using h1,fun u hu=>?_⟩;rcases Qq hu with hu | rfl
    ·exact h2 u hu
    ·exact Ni v _
   ·exact h.l j g' x' hg' hx'
  ·exact h
 ·exact h
theorem RV.get {p:Prg} {rs:List (List Int)} (h:RV p rs) (hw:∀g∈p.Xl,g.Yc<=32) (r i:Int):0<=rGet p rs r i/\rGet p rs r i<=4294967295:=by
 unfold rGet;split
 ·rename_i g x hg hx;split
  ·cases q:at? x i with
   | none=>simp
   | some v=>
    obtain ⟨k,rfl,hk,rfl⟩:=lS hx;rw [mM] at hg;obtain ⟨_,h2⟩:=h.l k g _ hg (Qa hk);obtain ⟨j,_,hj,rfl⟩:=lS q;obtain ⟨h3,h4⟩:=h2 _ (Qd hj);have h5:=hw g (Qe hg);have:(2:Int)^g.Yc.toNat<=2^32:=by
     have:=uD (n:=2) (by decide) (show g.Yc.toNat<=32 by omega)
     exact_mod_cast this
    simp only [lY];omega
  ·simp
 ·simp
theorem JB {p:Prg} {ps:List Fld} {args:List Int} {x:Envt×List (List Int)} (s:Xf) (h1:EV p x.1) (h2:RV p x.2):EV p (stmX p ps args x s).1/\RV p (stmX p ps args x s).2:=by
 unfold stmX;split
 ·exact ⟨h1.set _ _ _,h2⟩
 split
 ·exact ⟨h1.add _,h2⟩
 split
 ·exact ⟨h1.rem _,h2⟩
 split
 ·exact ⟨h1.set _ _ _,h2⟩
 ·exact ⟨h1,h2.set _ _ _⟩
theorem Nt {p:Prg} {ps:List Fld} {args:List Int}:∀(l:List Xf) {x:Envt×List (List Int)},EV p x.1->RV p x.2->EV p (l.foldl (stmX p ps args) x).1/\RV p (l.foldl (stmX p ps args) x).2
 | [],x,h1,h2=>⟨h1,h2⟩
 | s::l,x,h1,h2=>Nt l (JB s h1 h2).1 (JB s h1 h2).2
theorem Mn {p:Prg} (c:Xb) {e:Envt} {rs:List (List Int)} (h1:EV p e) (h2:RV p rs):EV p (exeX p c e rs).1/\RV p (exeX p c e rs).2:=by
 unfold exeX;split
 ·exact ⟨h1,h2⟩
 ·exact Nt _ h1 h2
structure SV' (p:Prg) (s:MS):Prop where
 e:EV p s.e
 r:RV p s.rs
theorem SV'.ap {p:Prg} {c:Xe} {t:Int} {s:MS} (h:SV' p s):SV' p (apX p c t s).1:=⟨(Mn _ h.e h.r).1,(Mn _ h.e h.r).2⟩
theorem SV'.nd {p:Prg} {c:Xe} {f:List Xa->MS->MS} (hf:∀l s,SV' p s->SV' p (f l s)) {s:MS} (h:SV' p s) (x:Xa):SV' p (ndX p c f s x):=by
 unfold ndX;split
 ·exact hf _ _ h
 ·exact hf _ _ h.ap
theorem Bq {α I:Type} {P:I->Prop} {f:I->α->I} (hf:∀b a,P b->P (f b a)):∀(l:List α) (b:I),P b->P (l.foldl f b)
 | [],_,h=>h
 | a::l,b,h=>Bq hf l _ (hf b a h)
theorem SV'.ct {p:Prg} {c:Xe}:∀(n:Nat) (l:List Xa) (s:MS),SV' p s->SV' p (ctX p c n l s)
 | 0,_,_,h=>h
 | n+1,l,s,h=>Bq (P:=SV' p) (fun _ x hb=>SV'.nd (SV'.ct n) hb x) l s h
def apl (l:List Xa):List Int:=((pre l).filter appl).map (·.table)
theorem apl_nil:apl []=[]:=rfl
theorem OJ (x:Xa) (l:List Xa):apl (x::l)=apl [x]++apl l:=by
 simp [apl,pre]
theorem R8 (x:Xa):apl [x]=(if appl x then [x.table] else [])++(apl x.thn++apl x.els):=by
 obtain ⟨k,t,c,a,b⟩:=x;simp only [apl,pre,pre1,v8,Xa.table,Xa.thn,Xa.els];cases q:appl (.mk k t c a b)<;>simp [List.filter_cons,q,Xa.table]
def HS (s s':MS) (l:List Int):Prop:=∃hs,s'.hits=s.hits++hs/\(hs.map (·.table)).Sublist l
theorem HS.refl {s:MS} {l:List Int}:HS s s l:=⟨[],by simp,List.nil_sublist _⟩
theorem HS.trans {s s' s'':MS} {l m:List Int} (h:HS s s' l) (h2:HS s' s'' m):HS s s'' (l++m):=by
 obtain ⟨a,e1,k1⟩:=h;obtain ⟨b,e2,k2⟩:=h2;exact ⟨a++b,by rw [e2,e1,tI],by rw [tN];exact k1.append k2⟩
theorem HS.mono {s s':MS} {l m:List Int} (h:HS s s' l) (hm:l.Sublist m):HS s s' m:=by
 obtain ⟨a,e1,k1⟩:=h;exact ⟨a,e1,k1.trans hm⟩
theorem Ad {x:Xa} {l:List Xa} {y:Xa} (hx:x∈l) (hy:y=x\/y∈pre x.thn\/y∈pre x.els):y∈pre l:=by
 induction l with
 | nil=>cases hx
 | cons a l ih=>
  simp only [pre,eI];rcases iW.1 hx with rfl | h
  ·left;obtain ⟨k,t,c,p,q⟩:=x;simp only [pre1,iW,eI];exact hy
  ·exact .inr (ih h)
theorem B5 {p:Prg} {c:Xe}:∀(n:Nat) (l:List Xa) (s:MS),(∀x∈pre l,x.kind=2\/appl x=true)->HS s (ctX p c n l s) (apl l)
 | 0,_,_,_=>HS.refl
 | n+1,l,s,hk=>by
  simp only [ctX]
  induction l generalizing s with
  | nil=>exact HS.refl
  | cons x l ih=>
   rw [E5,OJ];refine HS.trans ?_ (ih _ fun y hy=>hk y (by simp only [pre,eI];exact .inr hy));have kt:=fun s=>B5 (p:=p) (c:=c) n x.thn s fun y hy=>hk y (Ad (by simp) (.inr (.inl hy)))
   have ke:=fun s=>B5 (p:=p) (c:=c) n x.els s fun y hy=>hk y (Ad (by simp) (.inr (.inr hy)))
   rw [R8];have both:∀(b:Prop) [Decidable b] (s:MS),HS s (ctX p c n (if b then x.thn else x.els) s) (apl x.thn++apl x.els):=fun b _ s=>by
    split
    ·exact (kt s).mono (List.sublist_append_left _ _)
    ·exact (ke s).mono (List.sublist_append_right _ _)
   unfold ndX;split
   ·exact (both _ _).mono (List.sublist_append_right _ _)
   ·rename_i h2;have ha:appl x=true:=(hk x (Ad (by simp) (.inl rfl))).resolve_left h2;rw [a8 ha];exact HS.trans ⟨[_],rfl,List.Sublist.refl _⟩ (both _ _)
structure PWd (p:Prg):Prop where
 hl:p.Xo.length<2^40
 hf:∀h∈p.Xo,h.Xz.length<2^40
 ml:p.Xn.length<2^40
 m0:0<p.Xn.length
 rl:p.Xl.length<2^40
 rz:∀g∈p.Xl,g.size<2^40
 rw':∀g∈p.Xl,g.Yc<=32
structure XV (p:Prg) (e:Envt) (rs:List (List Int)):Prop where
 ev:EV p e
 rv:RV p rs
 pl:e.payload.length<2^40
theorem XV.evs {p:Prg} (w:PWd p) {e:Envt} {rs:List (List Int)} (x:XV p e rs):EvS e:=by
 refine ⟨by rw [x.ev.v];exact w.hl,by rw [x.ev.f];exact w.hl,fun l hl=>?_,by rw [x.ev.m];exact w.ml,x.pl⟩;obtain ⟨i,hi,rfl⟩:=Qn.1 hl;have h2:i<p.Xo.length:=by rw [<- x.ev.f];exact hi
 rw [x.ev.g i hi h2];exact w.hf _ (Qd h2)
theorem XV.m0 {p:Prg} (w:PWd p) {e:Envt} {rs:List (List Int)} (x:XV p e rs):e.metaF≠[]:=fun h=>by
 have:=x.ev.m;have:=w.m0;rw [h] at*;simp at*;omega
theorem XV.hs {p:Prg} {e:Envt} {rs:List (List Int)} (x:XV p e rs):e.Xz.length=e.valid.length:=by rw [x.ev.f,x.ev.v]
theorem XV.g {p:Prg} {e:Envt} {rs:List (List Int)} (x:XV p e rs) (h f:Int):ok32 0 (eGet e h f):=Lw x.ev (fun h f=>(JP p h f).2) h f
theorem XV.r1 {p:Prg} (w:PWd p) {e:Envt} {rs:List (List Int)} (x:XV p e rs):rs.length<2^40:=by rw [x.rv.n];exact w.rl
theorem XV.r2 {p:Prg} (w:PWd p) {e:Envt} {rs:List (List Int)} (x:XV p e rs):∀l∈rs,l.length<2^40:=fun l hl=>by
 obtain ⟨i,hi,rfl⟩:=Qn.1 hl;have h2:i<p.Xl.length:=by rw [<- x.rv.n];exact hi
 have:=(x.rv.l i _ _ (Qa h2) (Qa hi)).1;have:=w.rz _ (Qd h2);omega
theorem Di (p:Prg) (e:Envt) (h f v:Int):(eSet p e h f v).payload=e.payload:=by
 unfold eSet ePut;split
 ·rfl
 ·split<;>rfl
theorem TK {p:Prg} {ps:List Fld} {args:List Int} (x:Envt×List (List Int)) (s:Xf):(stmX p ps args x s).1.payload=x.1.payload:=by
 unfold stmX;split
 ·exact Di ..
 split
 ·unfold eAdd;split<;>rfl
 split
 ·unfold eRem;split<;>rfl
 split
 ·exact Di ..
 ·rfl
theorem XV.stm {p:Prg} {ps:List Fld} {args:List Int} {x:Envt×List (List Int)} (h:XV p x.1 x.2) (s:Xf):XV p (stmX p ps args x s).1 (stmX p ps args x s).2:=
 ⟨(JB s h.ev h.rv).1,(JB s h.ev h.rv).2,by rw [TK];exact h.pl⟩
theorem XD (e:Envt) (s:EvS e):a9 Φ 171 [.agg e.c]=some (.val (.agg e.c)):=by
 obtain ⟨O',N',V,F,M,A,hr,em,_⟩:=Bo (Tail.nil 0) A1 e s;have:=em.snp (N:=N');unfold a9;rw [show H0=⟨[],0⟩ from rfl,hr];show (match snap 40 ⟨O',N'⟩ (clR V F M e.payload) with | some r'=>some (Rt.val r') | none=>none)=_;unfold clR;rw [show (40:Nat)=39+1 from rfl,Bz,this];rfl
def stC (p:Prg) (ps:List Fld) (args:List Int) (e:Envt) (rs:List (List Int)):List AV:=
 Prg.c p++[.slice 2 (ps.map Fld.c),.slice 1 (args.map c32)]++e.c++[.slice 1 (rs.map (cS 1 c32))]
theorem st_e (p:Prg) (ps:List Fld) (args:List Int) (e:Envt) (rs:List (List Int)):stC p ps args e rs=(nC p [.slice 2 (ps.map Fld.c),.slice 1 (args.map c32),.slice 1 (e.valid.map cB),.slice 1 (e.Xz.map (cS 1 c32)),.slice 1 (e.metaF.map c32),.slice 1 (e.payload.map c8),.slice 1 (rs.map (cS 1 c32))]):=by
  simp [stC,Prg.e,Envt.ce]
theorem JL (p:Prg) (ps:List Fld) (args:List Int) (e:Envt) (rs:List (List Int)) (l:List Xd) (hg:∀h f,ok32 0 (eGet e h f)) (ha:∀v∈args,ok32 0 v):
  a9 Φ 352 [.iptr 16 [stC p ps args e rs] 0 0,.slice 3 (l.map Xd.c)]=some (.val (.int .u32 (evl p ps l e args))):=by
 rw [aC rfl rfl];have h:=EZ p ps e args l hg ha;simp only [scC,Prg.e,mD,pA,Envt.ce] at h;simp [yE,st_e,h]
def StP (p:Prg) (ps:List Fld) (args:List Int) (id N:Nat) (O:List (Nat×AO)) (x:Envt×List (List Int)) (r:Option (Rt×AH)):Prop:=
 ∃O' N',r=some (.val (.tup []),⟨O',N'⟩)/\look id O'=some (.row 16 [stC p ps args x.1 x.2])/\Kp (fun j=>j=id) N O O'/\Tail O' N'/\N<=N'/\NR O'
section
variable {p:Prg} (w:PWd p) (ps:List Fld) {args:List Int} (ha:∀v∈args,ok32 0 v) {e:Envt} {rs:List (List Int)} (x:XV p e rs) (s:Xf) {O:List (Nat×AO)} {N id:Nat} (hT:Tail O N) (hN:NR O) (hm:look id O=some (.row 16 [stC p ps args e rs]))
include w ha x hT hN hm
omit w ha x in
theorem GV (y:Envt×List (List Int)) (o:AO) (ho:o≠ .res):StP p ps args id N O y (some (.val (.tup []),⟨setl id (.row 16 [stC p ps args y.1 y.2]) (O++[(N,o)]),N+1⟩)):=by
 have f0:=aY hT hm (Qb N);refine ⟨_,_,rfl,?_,(Kp.app Kp.refl (Qb _)).setl (.inr rfl),aK (hT.app1 (Qb _)),by omega,(hN.app (.one ho)).setl (by simp)⟩;rw [a7,a8 rfl,aA,hm];rfl
theorem LK:StP p ps args id N O (eSet p e s.dst.header s.dst.field (evl p ps s.value e args),rs) (aD Φ 288 [.ptr id 16 0 0,.agg s.c] ⟨O,N⟩):=by
 rw [cP rfl rfl];have fin:=GV ps (args:=args) hT hN hm (eSet p e s.dst.header s.dst.field (evl p ps s.value e args),rs) (.row 7 [s.c]) (by simp);have t0:=hT N (Qb _);have f0:=aY hT hm (Qb N);have h1:=JL p ps args e rs s.value x.g ha;have h2:=Ev p e (x.evs w) (x.m0 w) s.dst.header s.dst.field (evl p ps s.value e args) (JF ..);generalize hE:eSet p e s.dst.header s.dst.field (evl p ps s.value e args)=E at*;rw [st_e] at h1 hm fin;rw [Envt.ce,Envt.ce] at h2;simp only [Prg.e] at h2;rw [Xf.e] at fin;simp [wR,Xf.e,t0,aA,hm,f0,h1,h2];exact fin
omit ha in
theorem V6:StP p ps args id N O (eAdd p e s.header,rs) (aD Φ 289 [.ptr id 16 0 0,.agg s.c] ⟨O,N⟩):=by
 rw [cP rfl rfl];have fin:=GV ps (args:=args) hT hN hm (eAdd p e s.header,rs) (.row 7 [s.c]) (by simp);have t0:=hT N (Qb _);have f0:=aY hT hm (Qb N);have h2:=W1 p e (x.evs w) (x.m0 w) x.hs s.header;generalize hE:eAdd p e s.header=E at*;rw [st_e] at hm fin;rw [Envt.ce,Envt.ce] at h2;simp only [Prg.e] at h2;rw [Xf.e] at fin;simp [wS,Xf.e,t0,aA,hm,f0,h2];exact fin
omit ha in
theorem VJ:StP p ps args id N O (eRem p e s.header,rs) (aD Φ 290 [.ptr id 16 0 0,.agg s.c] ⟨O,N⟩):=by
 rw [cP rfl rfl];have fin:=GV ps (args:=args) hT hN hm (eRem p e s.header,rs) (.row 7 [s.c]) (by simp);have t0:=hT N (Qb _);have f0:=aY hT hm (Qb N);have h2:=XK p e (x.evs w) (x.m0 w) x.hs s.header;generalize hE:eRem p e s.header=E at*;rw [st_e] at hm fin;rw [Envt.ce,Envt.ce] at h2;simp only [Prg.e] at h2;rw [Xf.e] at fin;simp [wT,Xf.e,t0,aA,hm,f0,h2];exact fin
theorem RN:StP p ps args id N O (eSet p e s.dst.header s.dst.field (rGet p rs s.Ye (evl p ps s.index e args)),rs) (aD Φ 291 [.ptr id 16 0 0,.agg s.c] ⟨O,N⟩):=by
 rw [cP rfl rfl];have fin:=GV ps (args:=args) hT hN hm (eSet p e s.dst.header s.dst.field (rGet p rs s.Ye (evl p ps s.index e args)),rs) (.row 7 [s.c]) (by simp);have t0:=hT N (Qb _);have f0:=aY hT hm (Qb N);have h1:=JL p ps args e rs s.index x.g ha;have h3:=QY p rs s.Ye (evl p ps s.index e args) (JF ..);have hr:=x.rv.get w.rw' s.Ye (evl p ps s.index e args);generalize hv:rGet p rs s.Ye (evl p ps s.index e args)=v at*;have h2:=Ev p e (x.evs w) (x.m0 w) s.dst.header s.dst.field v hr;generalize hE:eSet p e s.dst.header s.dst.field v=E at*;rw [st_e] at h1 hm fin;rw [Envt.ce,Envt.ce] at h2;simp only [Prg.e] at h2 h3;rw [Xf.e] at fin;simp [wU,Xf.e,t0,aA,hm,f0,h1,h2,h3];exact fin
theorem MY:StP p ps args id N O (e,rSet p rs s.Ye (evl p ps s.index e args) (evl p ps s.value e args)) (aD Φ 292 [.ptr id 16 0 0,.agg s.c] ⟨O,N⟩):=by
 rw [cP rfl rfl];have fin:=GV ps (args:=args) hT hN hm (e,rSet p rs s.Ye (evl p ps s.index e args) (evl p ps s.value e args)) (.row 7 [s.c]) (by simp);have t0:=hT N (Qb _);have f0:=aY hT hm (Qb N);have h1:=JL p ps args e rs s.index x.g ha;have h2:=JL p ps args e rs s.value x.g ha;have h3:=NP p rs (x.r1 w) (x.r2 w) s.Ye (evl p ps s.index e args) (evl p ps s.value e args) (JF ..) (JF ..);generalize hE:rSet p rs s.Ye (evl p ps s.index e args) (evl p ps s.value e args)=E at*;rw [st_e] at h1 h2 hm fin;simp only [Prg.e] at h3;rw [Xf.e] at fin;simp [wV,Xf.e,t0,aA,hm,f0,h1,h2,h3];exact fin
end
theorem qS {α:Type} {f:Nat->Option α} {N:Nat} {x:α}:∀{i},fe f N i=some x->∃k,k<N/\f k=some x:=by
 have key:∀n i,n+i=N->feF f n i=some x->∃k,k<N/\f k=some x:=by
  intro n
  induction n with
  | zero=>intro i _ h;cases h
  | succ n ih=>
   intro i hi h;simp only [feF] at h;cases q:f i with
   | some y=>rw [q] at h;cases h;exact ⟨i,by omega,q⟩
   | none=>rw [q] at h;exact ih (i+1) (by omega) h
 intro i h;unfold fe at h;by_cases z:i<=N
 ·exact key (N - i) i (by omega) h
 ·rw [show N - i=0 by omega] at h;cases h
theorem rB {α I:Type} {l:List α} {g:Nat->α->Option I} (h:fe (fun i=>(l[i]?).bind (g i)) l.length 0=none) {i:Nat} (hi:i<l.length):g i l[i]=none:=by
 have:=fe_all.1 h i hi;rw [Qa hi] at this;exact this
theorem tS {α:Type} {c:Prop} [Decidable c] {x:α} (h:(if c then none else some x)=none):c:=by
 by_cases q:c
 ·exact q
 ·rw [QA q] at h;cases h
structure VFields (l:List Fld):Prop where
 w:∀f∈l,1<=f.Yc/\f.Yc<=32
theorem F2 {l:List Fld} {i:Nat} {f:Fld} (h:fldE l i f=0):1<=f.Yc/\f.Yc<=32:=by
 unfold fldE at h;split at h
 ·cases h
 split at h
 ·cases h
 rename_i hb;simp only [wBad,uG,decide_eq_true_eq,not_or] at hb;omega
structure VProg (p:Prg):Prop where
 hl:p.Xo.length<=8
 rl:p.Xl.length<=4
 al:p.Xx.length<=16
 tl:p.Xm.length<=12
 hd:∀h∈p.Xo,hdrE h=0
 ml:p.Xn.length<=12
 mw:∀f∈p.Xn,1<=f.Yc/\f.Yc<=32
 m3:∀i,i<3->p.Xn[i]? =some (B8 i)
 rg:∀r∈p.Xl,regE r=0
 ac:∀i:Nat,i<p.Xx.length->(actE p i).2=0
 tb:∀i:Nat,i<p.Xm.length->(tblE p i).2=0
 pa:(parE p).2.2=0
 ct:(ctlE p).2=0
 dp:(depE p).2=0
theorem D9 {α:Type} {a b:Option α} (h:a.or b=none):a=none/\b=none:=by
 cases a with
 | some x=>cases h
 | none=>exact ⟨rfl,h⟩
theorem DR {a b:Option Dg} (ha:∀d,a=some d->d.1≠0) (hb:∀d,b=some d->d.1≠0):∀d,a.or b=some d->d.1≠0:=fun d h=>by
 cases a with
 | some x=>exact ha d h
 | none=>exact hb d h
theorem U4 {p:Prg}:∀d,limD p=some d->d.1≠0:=fun d h=>by
 unfold limD at h
 repeat (split at h; · cases h;decide)
 cases h
theorem TU {p:Prg}:∀d,hdrD p=some d->d.1≠0:=fun d h=>by
 obtain ⟨k,hk,e⟩:=qS h;rw [Qa hk] at e;simp only [fB] at e;split at e
 ·cases e
 ·cases e;assumption
theorem UU {p:Prg}:∀d,regD p=some d->d.1≠0:=fun d h=>by
 obtain ⟨k,hk,e⟩:=qS h;rw [Qa hk] at e;simp only [fB] at e;split at e
 ·cases e
 ·cases e;assumption
theorem U7 {p:Prg}:∀d,metD p=some d->d.1≠0:=fun d h=>by
 unfold metD at h;split at h
 ·cases h;decide
 split at h
 ·rename_i e;cases h;obtain ⟨k,hk,e⟩:=qS e;rw [Qa hk] at e;simp only [fB] at e;split at e
  ·cases e
  ·cases e;assumption
 ·obtain ⟨k,hk,e⟩:=qS h;split at e
  ·cases e
  ·cases e;simp
theorem OH {p:Prg}:∀d,K1 p=some d->d.1≠0:=fun d h=>by
 obtain ⟨k,hk,e⟩:=qS h;rw [Qa hk] at e;simp only [fB] at e;split at e
 ·cases e;assumption
 split at e
 ·cases e;simp
 ·cases e
theorem UL {p:Prg}:∀d,tblD p=some d->d.1≠0:=fun d h=>by
 obtain ⟨k,hk,e⟩:=qS h;rw [Qa hk] at e;simp only [fB] at e;split at e
 ·cases e;assumption
 split at e
 ·cases e;simp
 ·cases e
theorem SH {p:Prg}:∀d,floD p=some d->d.1≠0:=fun d h=>by
 unfold floD at h;split at h
 ·cases h;assumption
 split at h
 ·cases h;assumption
 split at h
 ·cases h;assumption
 ·cases h
theorem vprog {p:Prg} (h:(prgD p).1=0):VProg p:=by
 have ho:((((((limD p).or (hdrD p)).or (metD p)).or (regD p)).or (K1 p)).or (tblD p)).or (floD p)=none:=by
  unfold prgD at h;cases q:((((((limD p).or (hdrD p)).or (metD p)).or (regD p)).or (K1 p)).or (tblD p)).or (floD p) with
  | none=>rfl
  | some d=>
   rw [q] at h;exact absurd h (DR (DR (DR (DR (DR (DR U4 TU) U7) UU) OH) UL) SH d q)
 obtain ⟨ho,h7⟩:=D9 ho;obtain ⟨ho,h6⟩:=D9 ho;obtain ⟨ho,h5⟩:=D9 ho;obtain ⟨ho,h4⟩:=D9 ho;obtain ⟨ho,h3⟩:=D9 ho;obtain ⟨h1,h2⟩:=D9 ho;have l1:p.Xo.length<=8/\p.Xl.length<=4/\p.Xx.length<=16/\p.Xm.length<=12:=by
  unfold limD at h1
  repeat (split at h1; · cases h1)
  omega
 have f7:(parE p).2.2=0/\(ctlE p).2=0/\(depE p).2=0:=by
  unfold floD at h7
  repeat (split at h7; · cases h7)
  rename_i a b c;exact ⟨Decidable.not_not.1 a,Decidable.not_not.1 b,Decidable.not_not.1 c⟩
 have m3:p.Xn.length<=12/\(∀f∈p.Xn,1<=f.Yc/\f.Yc<=32)/\∀i,i<3->p.Xn[i]? =some (B8 i):=by
  unfold metD at h3;split at h3
  ·cases h3
  rename_i hlen;split at h3
  ·cases h3
  rename_i hn;refine ⟨by omega,fun f hf=>?_,fun i hi=>?_⟩
  ·obtain ⟨i,hi,rfl⟩:=Qn.1 hf;exact F2 (tS (rB hn hi))
  ·exact tS (fe_all.1 h3 i hi)
 refine ⟨l1.1,l1.2.1,l1.2.2.1,l1.2.2.2,fun h hh=>?_,m3.1,m3.2.1,m3.2.2,fun r hr=>?_,fun i hi=>?_,fun i hi=>?_,f7.1,f7.2.1,f7.2.2⟩
 ·obtain ⟨i,hi,rfl⟩:=Qn.1 hh;have:=tS (rB h2 hi);unfold B7 at this;split at this
  ·exact absurd this (by assumption)
  ·rename_i q;exact Decidable.not_not.1 q
 ·obtain ⟨i,hi,rfl⟩:=Qn.1 hr;have:=tS (rB h4 hi);unfold B4 at this;split at this
  ·exact absurd this (by assumption)
  ·rename_i q;exact Decidable.not_not.1 q
 ·have:=rB h5 hi;split at this
  ·cases this
  ·rename_i q;exact Decidable.not_not.1 q
 ·have:=rB h6 hi;split at this
  ·cases this
  ·rename_i q;exact Decidable.not_not.1 q
theorem Cm {f:Nat->Option (Int×Int)} {N:Nat} (hf:∀i x,f i=some x->x.2≠0) (h:((fe f N 0).getD (0,0)).2=0):fe f N 0=none:=by
 cases q:fe f N 0 with
 | none=>rfl
 | some x=>
  rw [q] at h;obtain ⟨k,_,e⟩:=qS q;exact absurd h (hf k x e)
theorem F4 {l:List Fld} (h:C4 l=none):∀f∈l,1<=f.Yc/\f.Yc<=32:=fun f hf=>by
 obtain ⟨i,hi,rfl⟩:=Qn.1 hf;have:=rB h hi;unfold er at this;split at this
 ·rename_i q;exact F2 q
 ·cases this
theorem Ki {l:List Fld} {e:Int} (h:C4 l=some e):e≠0:=by
 obtain ⟨k,hk,q⟩:=qS h;rw [Qa hk] at q;simp only [fB] at q;unfold er at q;split at q
 ·cases q
 ·cases q;assumption
structure VHdr (h:Xi):Prop where
 n:1<=h.Xz.length/\h.Xz.length<=12
 w:∀f∈h.Xz,1<=f.Yc/\f.Yc<=32
 s:wSum h.Xz % 8=0
theorem vhdr {h:Xi} (e:hdrE h=0):VHdr h:=by
 unfold hdrE at e;split at e
 ·cases e
 split at e
 ·cases e
 split at e
 ·cases e
 rename_i a b c;split at e
 ·rename_i q;exact absurd e (Ki q)
 ·rename_i q;split at e
  ·rename_i s;exact ⟨by omega,F4 q,s⟩
  ·cases e
structure VAct (p:Prg) (a:Action):Prop where
 pl:a.params.length<=4
 bl:a.body.length<=12
 pw:∀f∈a.params,1<=f.Yc/\f.Yc<=32
 st:∀s∈a.body,stmE p a.params s=0
theorem vact {p:Prg} {i:Nat} (hi:i<p.Xx.length) (e:(actE p i).2=0):VAct p p.Xx[i]:=by
 unfold actE at e;rw [show at? p.Xx (i:Int)=some p.Xx[i] by simp [hi]] at e;simp only at e;generalize p.Xx[i]=a at*;split at e
 ·exact absurd e (by assumption)
 rename_i hd;simp only [ne_eq,Decidable.not_not] at hd;unfold actD at hd;split at hd
 ·cases hd
 split at hd
 ·cases hd
 rename_i _ hl;have hf:C4 a.params=none:=by
  cases q:C4 a.params with
  | none=>rfl
  | some x=>rw [q] at hd;exact absurd hd (Ki q)
 have hb:=Cm (fun k x h=>by
  cases q:a.body[k]? with
  | none=>rw [q] at h;cases h
  | some s=>
   rw [q] at h;simp only [fB] at h;split at h
   ·cases h
   ·cases h;assumption) e
 refine ⟨by omega,by omega,F4 hf,fun s hs=>?_⟩;obtain ⟨k,hk,rfl⟩:=Qn.1 hs;exact tS (rB hb hk)
structure VTbl (p:Prg) (x:Tbl):Prop where
 kl:x.keys.length<=6
 sz:1<=x.size/\x.size<=256
 kw:∀k∈x.keys,wid p k.field.header k.field.field≠0
 kk:∀k∈x.keys,k.kind=1\/k.kind=2\/k.kind=3
 ac:∀a∈x.Xx,0<=a/\a<p.Xx.length
 df:iL p x.Yb=0
structure VCtl (p:Prg):Prop where
 n:(pre p.Ya).length<=24
 d:nest p.Ya<=6
 e:∀(i:Nat) (h:i<(pre p.Ya).length),DQ p ((pre p.Ya).take i) (pre p.Ya)[i]=0
theorem vctl {p:Prg} (e:(ctlE p).2=0):VCtl p:=by
 unfold ctlE at e;split at e
 ·cases e
 split at e
 ·cases e
 rename_i a b;have hn:=Cm (fun k x h=>by
  cases q:(pre p.Ya)[k]? with
  | none=>rw [q] at h;cases h
  | some s=>
   rw [q] at h;simp only [fB] at h;split at h
   ·cases h
   ·cases h;assumption) e
 exact ⟨by omega,by omega,fun i h=>tS (rB hn h)⟩
theorem VCtl.one {p:Prg} (v:VCtl p) {i j:Nat} {x y:Xa} (hij:i<j) (hx:(pre p.Ya)[i]? =some x) (hy:(pre p.Ya)[j]? =some y) (ax:appl x=true) (ay:appl y=true):x.table≠y.table:=by
 obtain ⟨hj,rfl⟩:=Qm.1 hy;have:=v.e j hj;unfold DQ at this;have hk:(pre p.Ya)[j].kind=1\/(pre p.Ya)[j].kind=3:=by
  unfold appl at ay;simpa using ay
 have h2:¬(pre p.Ya)[j].kind=2:=by omega
 rw [QA h2,a8 hk] at this;split at this
 ·cases this
 split at this
 ·cases this
 rename_i hn;intro ht;refine hn (tL.2 ⟨x,?_,by simp [ax,ht]⟩);rw [KA];obtain ⟨hi,rfl⟩:=Qm.1 hx;exact ⟨i,by omega,rfl⟩
theorem vdep {p:Prg} (e:(depE p).2=0):p.Xr.length<=8/\∀d∈p.Xr,0<=d/\d<p.Xo.length:=by
 unfold depE at e;split at e
 ·cases e
 rename_i a;have hn:=Cm (fun k x h=>by
  cases q:p.Xr[k]? with
  | none=>rw [q] at h;cases h
  | some s=>
   rw [q] at h;simp only [fB] at h;split at h
   ·cases h;simp
   split at h
   ·cases h;simp
   ·cases h) e
 refine ⟨by omega,fun d hd=>?_⟩;obtain ⟨k,hk,rfl⟩:=Qn.1 hd;have:=rB hn hk;split at this
 ·cases this
 ·omega
structure VSt (p:Prg) (s:Nat) (x:Xc):Prop where
 el:x.extract.length<=4
 cl:x.cases.length<=8
 ex:∀h∈x.extract,0<=h/\h<p.Xo.length
 on:x.select=true->wid p x.on.header x.on.field≠0
 cs:∀c∈x.cases,oS p s c.next=true
 df:oS p s x.Yb=true
 cm:∀c∈x.cases,c.value.toNat&&& c.Yd.toNat=c.value.toNat
theorem vst {p:Prg} {s:Nat} {x:Xc} (e:(stE p s x).2=0):VSt p s x:=by
 unfold stE at e;split at e
 ·cases e
 split at e
 ·cases e
 split at e
 ·cases e
 split at e
 ·cases e
 rename_i h1 h2 h3 h4;split at e
 ·rename_i y q;obtain ⟨k,hk,q2⟩:=qS q;rw [Qa hk] at q2;simp only [fB] at q2;split at q2
  ·cases q2
  ·cases q2;exact absurd e (by assumption)
 ·rename_i q;split at e
  ·rename_i hdf;refine ⟨by omega,by omega,fun h hh=>?_,fun hs hz=>h3 ⟨hs,hz⟩,fun c hc=>?_,hdf,fun c hc=>?_⟩
   ·by_cases q1:h<0
    ·exact absurd (tL.2 ⟨h,hh,by simp [q1]⟩) h2
    by_cases q2:(p.Xo.length:Int)<=h
    ·exact absurd (tL.2 ⟨h,hh,by simp [q2]⟩) h2
    ·omega
   ·obtain ⟨k,hk,rfl⟩:=Qn.1 hc;have hz:=tS (rB q hk);unfold qF at hz;split at hz
    ·cases hz
    split at hz
    ·cases hz
    split at hz
    ·assumption
    ·cases hz
   ·obtain ⟨k,hk,rfl⟩:=Qn.1 hc;have hz:=tS (rB q hk);unfold qF at hz;split at hz
    ·cases hz
    split at hz
    ·cases hz
    ·rename_i hz2;exact Decidable.of_not_not hz2
  ·cases e
structure VPar (p:Prg):Prop where
 n:1<=p.Xw.length/\p.Xw.length<=12
 s:∀(i:Nat) (h:i<p.Xw.length),VSt p i p.Xw[i]
theorem vpar {p:Prg} (e:(parE p).2.2=0):VPar p:=by
 unfold parE at e;split at e
 ·cases e
 split at e
 ·cases e
 rename_i h1 h2;refine ⟨by omega,fun i hi=>vst ?_⟩;cases q:(fe (fun s=>(p.Xw[s]?).bind fun x=>if idS x.name=false then some ((s:Int),(-1:Int),(6:Int)) else if dupN Xc.name p.Xw s x then some ((s:Int),-1,7) else if (stE p s x).2=0 then none else some ((s:Int),(stE p s x).1,(stE p s x).2)) p.Xw.length 0) with
 | some y=>
  rw [q] at e;obtain ⟨k,hk,q2⟩:=qS q;rw [Qa hk] at q2;simp only [fB] at q2;split at q2
  ·cases q2;cases e
  split at q2
  ·cases q2;cases e
  split at q2
  ·cases q2
  ·cases q2;exact absurd e (by assumption)
 | none=>
  have:=rB q hi;split at this
  ·cases this
  split at this
  ·cases this
  exact tS this
theorem M9 {p:Prg} {s:Nat} {n:Int} (h:oS p s n=true):n= -1\/n= -2\/∃k:Nat,n=k/\s<k/\k<p.Xw.length:=by
 unfold oS at h;simp only [uG,bE,decide_eq_true_eq] at h;rcases h with (h | h) | h
 ·exact .inl h
 ·exact .inr (.inl h)
 ·exact .inr (.inr ⟨n.toNat,by omega,by omega,by omega⟩)
structure VStm (p:Prg) (ps:List Fld) (s:Xf):Prop where
 k:s.kind=1\/s.kind=2\/s.kind=3\/s.kind=4\/s.kind=5
 a:s.kind=1->∃w,decl p s.dst.header s.dst.field=some w/\valE p ps s.value w=0
 h:s.kind=2\/s.kind=3->0<=s.header/\s.header<p.Xo.length
 r:s.kind=4->∃r w,at? p.Xl s.Ye=some r/\decl p s.dst.header s.dst.field=some w/\(exE p ps s.index).2=0/\w=r.Yc
 w:s.kind=5->∃r,at? p.Xl s.Ye=some r/\(exE p ps s.index).2=0/\valE p ps s.value r.Yc=0
theorem vstm {p:Prg} {ps:List Fld} {s:Xf} (e:stmE p ps s=0):VStm p ps s:=by
 unfold stmE at e;split at e
 ·rename_i k1;refine ⟨.inl k1,fun _=>?_,fun h=>by omega,fun h=>by omega,fun h=>by omega⟩;split at e
  ·cases e
  ·rename_i w q;exact ⟨w,q,e⟩
 split at e
 ·rename_i _ k23;refine ⟨by omega,fun h=>by omega,fun _=>?_,fun h=>by omega,fun h=>by omega⟩;split at e
  ·rename_i q;obtain ⟨x,hx⟩:=tG.1 q;unfold at? at hx;split at hx
   ·cases hx
   ·obtain ⟨hk,_⟩:=Qm.1 hx;omega
  ·cases e
 split at e
 ·rename_i _ _ k4;refine ⟨by omega,fun h=>by omega,fun h=>by omega,fun _=>?_,fun h=>by omega⟩;split at e
  ·rename_i r w q1 q2;split at e
   ·rename_i q3;split at e
    ·rename_i q4;exact ⟨r,w,q1,q2,q3,q4⟩
    ·cases e
   ·exact absurd e (by assumption)
  ·cases e
 split at e
 ·rename_i _ _ _ k5;refine ⟨by omega,fun h=>by omega,fun h=>by omega,fun h=>by omega,fun _=>?_⟩;split at e
  ·rename_i r q1;split at e
   ·rename_i q3;exact ⟨r,q1,q3,e⟩
   ·exact absurd e (by assumption)
  ·cases e
 ·cases e
theorem XV.fold {p:Prg} {ps:List Fld} {args:List Int}:∀(l:List Xf) {x:Envt×List (List Int)},XV p x.1 x.2->XV p (l.foldl (stmX p ps args) x).1 (l.foldl (stmX p ps args) x).2
 | [],_,h=>h
 | s::l,_,h=>XV.fold l (h.stm s)
structure ELoop (p:Prg) (ps:List Fld) (args:List Int) (body:List Xf) (y:Envt×List (List Int)) (i:Nat) (E:Env) (O:List (Nat×AO)) (N:Nat):Prop where
 e8:look 8 E=some (.ptr 0 4 0 0)
 e10:look 10 E=some (.ptr 1 16 0 0)
 e65:look 65 E=some (.slice 7 (body.map Xf.c))
 e66:look 66 E=some (.int .i64 body.length)
 e67:look 67 E=some (.int .i64 i)
 l0:look 0 O=some (.row 4 [z4])
 l1:look 1 O=some (.row 16 [stC p ps args ((body.take i).foldl (stmX p ps args) y).1 ((body.take i).foldl (stmX p ps args) y).2])
 t:Tail O N
 nr:NR O
 n2:2<=N
theorem NY {p:Prg} (w:PWd p) (ps:List Fld) {args:List Int} (ha:∀v∈args,ok32 0 v) (body:List Xf) (hb:body.length<2^40) (hk:∀s∈body,s.kind=1\/s.kind=2\/s.kind=3\/s.kind=4\/s.kind=5)
    {y:Envt×List (List Int)} (x:XV p y.1 y.2) {E:Env} {O:List (Nat×AO)} {N:Nat} (h:ELoop p ps args body y 0 E O N):
    go Φ (finP mE.results) [.c (.loop aV),.b 0,.c fK] .normal ⟨E,⟨O,N⟩⟩=some (.val (.tup [.agg (body.foldl (stmX p ps args) y).1.c,.slice 1 ((body.foldl (stmX p ps args) y).2.map (cS 1 c32))])):=by
  generalize hR:some (Rt.val (.tup [.agg (body.foldl (stmX p ps args) y).1.c,.slice 1 ((body.foldl (stmX p ps args) y).2.map (cS 1 c32))]))=R;refine eQ body.length (fun i E h=>∃O N,h=⟨O,N⟩/\ELoop p ps args body y i E O N) (fun r=>r=R) ?_ ?_ 0 _ _ (Qc _) ⟨_,_,rfl,h⟩
  · rintro i E _ K hi hK ⟨O,N,rfl,h⟩ ih
    have hw:=aH i (by omega);obtain ⟨e8,e10,e65,e66,e67,l0,l1,T,nr,n2⟩:=h;have xi:=XV.fold (ps:=ps) (args:=args) (body.take i) x;have tk:body.take (i+1)=body.take i++[body[i]]:=Qh hi;have hks:=hk _ (Qd hi);have t0:=T N (Qb _);have T1:Tail O (N+1):=T.mono (by omega);generalize hs:body[i]=s at*;have next:∀{E2:Env} {f:Nat} {z:Envt×List (List Int)},StP p ps args 1 (N+1) O z (aD Φ f [.ptr 1 16 0 0,.agg s.c] ⟨O,N+1⟩)->z=stmX p ps args ((body.take i).foldl (stmX p ps args) y) s->
        ∃O2 N2,aD Φ f [.ptr 1 16 0 0,.agg s.c] ⟨O,N+1⟩=some (.val (.tup []),⟨O2,N2⟩)/\∀E2,look 8 E2=look 8 E->look 10 E2=look 10 E->look 65 E2=look 65 E->look 66 E2=look 66 E->look 67 E2=some (.int .i64 (i+1:Nat))->go Φ (finP mE.results) K .normal ⟨E2,⟨O2,N2⟩⟩=R:=fun {E2 f z} ⟨O2,N2,hr,h1,h2,h3,h4,h5⟩ hz=>
      ⟨O2,N2,hr,fun E2 g8 g10 g65 g66 g67=>ih _ _ ⟨O2,N2,rfl,g8.trans e8,g10.trans e10,g65.trans e65,g66.trans e66,g67,by rw [h2 0 (by omega) (by omega),l0],by rw [h1,hz,tk,List.foldl_append];rfl,h3,h5,by omega⟩⟩
    have hxs:body[i]=s:=hs;rcases hks with k | k | k | k | k
    · obtain ⟨O2,N2,hr,fin⟩:=next (E2:=E) (LK w ps ha xi s T1 nr l1) (by simp [stmX,k])
      rw [Xf.e] at hr;rw [k] at hr;simp [aV,Xf.e,e10,e65,e66,e67,hi,hxs,t0,k,hr,hw];exact fin _ (by simp) (by simp) (by simp) (by simp) (by simp)
    · obtain ⟨O2,N2,hr,fin⟩:=next (E2:=E) (V6 w ps xi s T1 nr l1) (by simp [stmX,k])
      rw [Xf.e] at hr;rw [k] at hr;simp [aV,Xf.e,e10,e65,e66,e67,hi,hxs,t0,k,hr,hw];exact fin _ (by simp) (by simp) (by simp) (by simp) (by simp)
    · obtain ⟨O2,N2,hr,fin⟩:=next (E2:=E) (VJ w ps xi s T1 nr l1) (by simp [stmX,k])
      rw [Xf.e] at hr;rw [k] at hr;simp [aV,Xf.e,e10,e65,e66,e67,hi,hxs,t0,k,hr,hw];exact fin _ (by simp) (by simp) (by simp) (by simp) (by simp)
    · obtain ⟨O2,N2,hr,fin⟩:=next (E2:=E) (RN w ps ha xi s T1 nr l1) (by simp [stmX,k])
      rw [Xf.e] at hr;rw [k] at hr;simp [aV,Xf.e,e10,e65,e66,e67,hi,hxs,t0,k,hr,hw];exact fin _ (by simp) (by simp) (by simp) (by simp) (by simp)
    · obtain ⟨O2,N2,hr,fin⟩:=next (E2:=E) (MY w ps ha xi s T1 nr l1) (by simp [stmX,k])
      rw [Xf.e] at hr;rw [k] at hr;simp [aV,Xf.e,e10,e65,e66,e67,hi,hxs,t0,k,hr,hw];exact fin _ (by simp) (by simp) (by simp) (by simp) (by simp)
  · rintro E _ K hK ⟨O,N,rfl,e8,e10,e65,e66,e67,l0,l1,T,nr,n2⟩
    rw [iS] at l1;generalize body.foldl (stmX p ps args) y=z at*;rw [st_e] at l1;rw [z4] at l0;have n0:¬N=0/\¬N=1:=by omega
    rw [<- hR];simp [mE] at hK;simp [mE,aV,fK,Envt.ce,e8,e10,e66,e67,hK,l0,l1,a7,nr.eq,nr.sw]
theorem WN {p:Prg} (f:PrgS p) (w:PWd p) (c:Xb) (hc1:(actE p c.Xy).2=0) (hc2:iL p c=0) (ha:∀v∈c.args,ok32 0 v) (hal:c.args.length<2^40) {e:Envt} {rs:List (List Int)} (x:XV p e rs):
  a9 Φ 179 [.agg p.c,.agg c.c,.agg e.c,.slice 1 (rs.map (cS 1 c32))]=some (.val (.tup [.agg (exeX p c e rs).1.c,.slice 1 ((exeX p c e rs).2.map (cS 1 c32))])):=by
 rw [aC rfl rfl];have h1:=XD e (x.evs w);have h2:=S9 rs (x.r1 w) (x.r2 w);have h3:=S8 p f c.Xy;have h4:=IM p f c hal;rw [hc2] at h4;rw [hc1] at h3;have hA:∃k:Nat,c.Xy=k/\∃hk:k<p.Xx.length,True:=by
  unfold actE at hc1;cases q:at? p.Xx c.Xy with
  | none=>rw [q] at hc1;cases hc1
  | some a=>obtain ⟨k,e,hk,_⟩:=lS q;exact ⟨k,e,hk,trivial⟩
 obtain ⟨k,hk,hkl,_⟩:=hA;obtain ⟨act,args⟩:=c;simp only at hk ha hal;subst hk;have hv:=vact hkl hc1;have hbl:=hv.bl;have hkk:∀s∈p.Xx[k].body,s.kind=1\/s.kind=2\/s.kind=3\/s.kind=4\/s.kind=5:=fun s hs=>(vstm (hv.st s hs)).k
 have hX:exeX p ⟨k,args⟩ e rs=p.Xx[k].body.foldl (stmX p p.Xx[k].params args) (e,rs):=by simp [exeX,hkl]
 rw [hX];have lp:∀(E:Env) (O:List (Nat×AO)) (N:Nat),ELoop p p.Xx[k].params args p.Xx[k].body (e,rs) 0 E O N->_:=fun E O N hh=>NY w p.Xx[k].params ha p.Xx[k].body (by omega) hkk (y:=(e,rs)) x hh
 generalize p.Xx[k].body.foldl (stmX p p.Xx[k].params args) (e,rs)=z at*;have hact:p.Xx[k]=⟨p.Xx[k].name,p.Xx[k].params,p.Xx[k].body⟩:=rfl;simp only [Prg.e,Xb.e] at h3 h4;rw [Envt.ce] at h1;simp [mE,Prg.e,Xb.e,Action.e,Envt.ce,h1,h2,h3,h4,hkl];refine (lp _ _ _ ⟨?_,?_,?_,?_,?_,?_,?_,?_,?_,?_⟩).trans ?_
 ·simp
 ·simp
 ·simp
 ·simp
 ·simp
 ·simp [z4]
 ·simp [st_e]
 ·exact Tail_cons_iff.2 ⟨by omega,Tail_cons_iff.2 ⟨by omega,Tail.nil _⟩⟩
 ·exact bV (by simp) (.one (by simp))
 ·omega
 ·simp [Envt.ce]
theorem ior1 {v x:Int} (hv:0<=v/\v<2147483648) (hx:0<=x/\x<=1):ior .u32 (ishl .u32 v 1) x=2*v+x:=by
 have e1:ishl .u32 v 1=2*v:=by
  unfold ishl;have:(2:Int)^(min (1:Int).toNat (IntKind.bits .u32))=2:=by decide
  rw [this,v7];omega
 rw [e1,De ⟨by omega,by omega⟩ ⟨by omega,by omega⟩];have:=Nat.shiftLeft_add_eq_or_of_lt (b:=x.toNat) (i:=1) (by omega) v.toNat;rw [Nat.shiftLeft_eq] at this;rw [show (2*v).toNat=v.toNat*2^1 by omega,<- this];omega
theorem SO:∀b:Fin 256,∀k:Fin 8,IntKind.wrap .u32 (iand .u8 (ishr .u8 ((b.1:Nat):Int) (7 - ((k.1:Nat):Int))) 1)=((b.1 / 2^(7 - k.1) % 2:Nat):Int):=by decide+kernel
def rdr (d:List Int) (t pos:Nat):AO:= .row 3 [[.app 1 (d.map c8) t,.int .i64 pos,.bool true]]
def bOk (d:List Int):Prop:=∀x∈d,0<=x/\x<256
theorem VN {d:List Int} (hd:bOk d) {q:Nat} (hq:q / 8<d.length):IntKind.wrap .u32 (iand .u8 (ishr .u8 d[q / 8] (7 - ((q % 8:Nat):Int))) 1)=nI d q:=by
 have h:=hd _ (Qd hq);obtain ⟨b,hb⟩:=mP h.1;rw [hb] at h;have:=SO ⟨b,by omega⟩ ⟨q % 8,Nat.mod_lt _ (by decide)⟩;simp only at this;rw [hb,this];unfold nI;rw [tE,Qa hq,lY,hb];rw [<- oG];omega
theorem IC (d p:AV):a9 Φ 349 [.iptr 3 [[d,p,.bool true]] 0 0]=some (.val (.bool true)):=by
 rw [aC rfl rfl];simp [yD]
theorem Mk (d:List Int) (pos:Nat) (hd:d.length<=512) (hp:pos<=8*d.length):a9 Φ 381 [.iptr 3 [[.slice 1 (d.map c8),.int .i64 pos,.bool true]] 0 0]=some (.val (.int .i64 ((8*d.length - pos:Nat):Int))):=by
 rw [aC rfl rfl];have e1:IntKind.wrap .i64 (8*(d.length:Int))=8*(d.length:Int):=cU;have e2:IntKind.wrap .i64 (8*(d.length:Int) - pos)=((8*d.length - pos:Nat):Int):=by rw [cU];omega
 simp [yM,IC,e1,e2]
theorem Hn {t:Nat} {x y:AO}:∀{l:List (Nat×AO)},setl t y (setl t x l)=setl t y l
 | []=>rfl
 | (u,z)::r=>by
  by_cases h:u=t
  ·subst h;simp
  ·simp [h,Hn (l:=r)]
theorem Nq {t:Nat} {x:AO}:∀{l:List (Nat×AO)},look t l=some x->setl t x l=l
 | [],_=>rfl
 | (u,z)::r,h=>by
  by_cases hu:u=t
  ·subst hu;simp at h;subst h;simp
  ·rw [jG _ _ _ _ hu] at h;simp [hu,Nq h]
theorem QN {O:List (Nat×AO)} {N id t q:Nat} {d:List Int} (hn:look id O=some (rdr d t q)) (hd:bOk d) (hl:d.length<=512) {w:Nat} (h1:1<=w) (h2:w<=32) (hw:q+w<=8*d.length):
  aD Φ 383 [.ptr id 3 0 0,.int .i64 w] ⟨O,N⟩=some (.val (.tup [.int .u32 (rdN d q w),.int .i64 0]),⟨setl id (rdr d t (q+w)) O,N⟩):=by
 rw [cP rfl rfl];have hr:=Mk d q hl (by omega);have a1:¬w<1:=by omega
 have a2:¬32<w:=by omega
 have a3:¬8*d.length - q<w:=by omega
 have a1':¬w=0:=by omega
 have hn':=hn;unfold rdr at hn';simp [yO,hn',IC,hr,a1,a1',a2,a3];generalize hR:some (Rt.val (.tup [.int .u32 (rdN d q w),.int .i64 0]),(⟨setl id (rdr d t (q+w)) O,N⟩:AH))=R;refine (zO w (fun k e h=>look 0 e=some (.ptr id 3 0 0)/\look 6 e=some (.int .u32 (rdN d q k))/\look 24 e=some (.int .i64 w)/\look 25 e=some (.int .i64 k)/\h=⟨setl id (rdr d t (q+k)) O,N⟩)
  (fun k=>R) ?_ ?_ 0 _ _ (Qc _) ?_)
 ·rintro k e _ L hk hL ⟨h0,h6,h24,h25,rfl⟩ ih;have hs:look id (setl id (rdr d t (q+k)) O)=some (rdr d t (q+k)):=by rw [a7,a8 rfl,hn];rfl
  have hqk:(q+k) / 8<d.length:=by omega
  have hb:=VN hd hqk;have hf:=Ds d q k;have hp:(2:Int)^k<=2^31:=by
   rw [<- oG,<- oG];exact Int.ofNat_le.2 (uD (by decide) (by omega))
  have hst:=ior1 (v:=rdN d q k) (x:=nI d (q+k)) ⟨hf.1,by have:=hf.2;omega⟩ (Kf d (q+k));have hw1:=aH k (by omega);have hw2:IntKind.wrap .i64 (((q+k:Nat):Int)+1)=((q+(k+1):Nat):Int):=by rw [cU];omega
  have d1:IntKind.wrap .i64 (((q+k:Nat):Int) / 8)=(((q+k) / 8:Nat):Int):=by
   have:((q+k:Nat):Int) / 8=(((q+k) / 8:Nat):Int):=rfl;rw [this,cU]
  have d2:IntKind.wrap .i64 (7 - ((q+k:Nat):Int).tmod 8)=7 - (((q+k) % 8:Nat):Int):=by
   have:((q+k:Nat):Int).tmod 8=(((q+k) % 8:Nat):Int):=rfl;rw [this,cU]
  have d3:(q+k) % 8<=7:=by omega
  have hrd:rdN d q (k+1)=2*rdN d q k+nI d (q+k):=rfl;have hk2:q+(k+1)=q+k+1:=by omega
  rw [hk2] at hw2;generalize hQ:(q+k:Nat)=Q at hs d1 d2 d3 hw2 hqk hb hst hrd hk2 ⊢;generalize hQ8:Q / 8=Q8 at d1 hqk hb;generalize hQ7:Q % 8=Q7 at d2 d3 hb;have d4:(Q7:Int)<=7:=by omega
  have hs':=hs;unfold rdr at hs';simp [gN,rdr,c8,h0,h6,h24,h25,hk,hL,hs',hw1,hw2,d1,d2,d3,d4,hqk,hb,hst,Hn];refine ih _ _ ⟨by simp [h0],by simp [hrd],by simp [h24],by simp,?_⟩;simp [rdr,hk2]
 ·rintro e _ L hL ⟨h0,h6,h24,h25,rfl⟩;rw [<- hR];simp [gN,lG,h0,h6,h24,h25,hL]
 ·simp [rdN,Nq hn]
def rstV (d:List Int) (q N:Nat):AV:=if q % 8=0 then .app 1 ((d.drop (q / 8)).map c8) N else .Xt 1 []
def rstE (q:Nat):Int:=if q % 8=0 then 0 else 10
def rstL (d:List Int) (q N:Nat):List (Nat×AO):=if q % 8=0 then [(N,.tok 1 (d.length - q / 8))] else []
theorem Lb {O:List (Nat×AO)} {N id t q:Nat} {d:List Int} (hT:Tail O N) (hN:NR O) (hn:look id O=some (rdr d t q)) (hl:d.length<=512) (hq:q<=8*d.length):
  aD Φ 269 [.ptr id 3 0 0] ⟨O,N⟩=some (.val (.tup [rstV d q N,.int .i64 (rstE q)]),⟨O++rstL d q N,if q % 8=0 then N+1 else N⟩):=by
 rw [cP rfl rfl];have hn':=hn;unfold rdr at hn';have hT':=hT N (Qb _);have d1:IntKind.wrap .i64 ((q:Int) / 8)=((q / 8:Nat):Int):=by
  have:(q:Int) / 8=((q / 8:Nat):Int):=rfl;rw [this,cU]
 have d2:(q:Int).tmod 8=((q % 8:Nat):Int):=rfl;by_cases z:q % 8=0
 ·have hp:q / 8<=d.length:=by omega
  have z2:((q % 8:Nat):Int)=0:=by omega
  have hb:d.length - q / 8<=70368744177664:=by omega
  rw [z2] at d2;generalize hR:some (Rt.val (.tup [rstV d q N,.int .i64 (rstE q)]),(⟨O++rstL d q N,if q % 8=0 then N+1 else N⟩:AH))=R;generalize hu:q / 8=u at d1 hp hb;have tk:((d.drop u).map c8).take (d.length - u)=(d.drop u).map c8:=Qo (by simp);simp [sC,hn',IC,d1,d2,hp,hT',hb,<- List.map_drop,tk];rw [<- hR];simp [rstV,rstE,rstL,z,hu]
 ·have z2:¬((q:Int).tmod 8=0):=by rw [d2];omega
  have z3:¬8∣q:=fun h=>z (Nat.mod_eq_zero_of_dvd h)
  simp [sC,hn',IC,z2,z,z3,rstV,rstE,rstL]
theorem X3 {O:List (Nat×AO)} {N:Nat} {d:List Int} {q:Nat} (h:Tail O N):Tail (O++rstL d q N) (if q % 8=0 then N+1 else N):=by
 unfold rstL;split
 ·exact Tail_append_iff.2 ⟨h.mono (by omega),Tail_cons_iff.2 ⟨by omega,Tail.nil _⟩⟩
 ·simpa using h
theorem X1 {O:List (Nat×AO)} {N:Nat} {d:List Int} {q:Nat} (h:NR O):NR (O++rstL d q N):=by
 unfold rstL;split
 ·exact h.app (.one (by simp))
 ·simpa using h
theorem UA {O:List (Nat×AO)} {N:Nat} {d:List Int} (hT:Tail O N) (hl:d.length<=512):
  aD Φ 266 [.slice 1 (d.map c8)] ⟨O,N⟩=some (.val (.ptr (N+1) 3 0 0),⟨O++[(N,.tok 1 d.length),(N+1,rdr d N 0)],N+2⟩):=by
 rw [cP rfl rfl];have hT':=hT N (Qb _);have hT2:=hT (N+1) (by omega);have hb:d.length<=70368744177664:=by omega
 have tk:(d.map c8).take d.length=d.map c8:=Qo (by simp);simp [wJ,hT',hT2,hb,rdr,tk]
def wN (l:List Fld):Nat:=(l.map fun f=>f.Yc.toNat).sum
theorem GX:∀{l:List Fld},(∀f∈l,1<=f.Yc/\f.Yc<=32)->wSum l=(wN l:Nat)
 | [],_=>rfl
 | f::r,h=>by
  have ih:=GX (l:=r) fun g hg=>h g (by simp [hg])
  have:=(h f (by simp)).1;simp only [wSum,wN,jL,E6] at ih ⊢;omega
theorem FH (a b:List Fld):wN (a++b)=wN a+wN b:=by simp [wN]
theorem Mh (d:List Int):∀(a b:List Fld) (i:Nat),rdF d i (a++b)=rdF d i a++rdF d (i+wN a) b
 | [],b,i=>by simp [rdF,wN]
 | f::a,b,i=>by
  simp only [mD,rdF,Mh d a b,wN,jL,E6,d7]
theorem wN_le {l:List Fld} (k:Nat):wN (l.take k)<=wN l:=by
 have:=FH (l.take k) (l.drop k);rw [DU] at this;omega
theorem UQ {l:List Fld} {k:Nat} (hk:k<l.length):wN (l.take (k+1))=wN (l.take k)+l[k].Yc.toNat:=by
 rw [Qh hk,FH];simp [wN]
theorem SP {h:Xi} (hn:h.name.length<2^40) (hf:∀f∈h.Xz,f.name.length<2^40) (e:hdrE h=0):a9 Φ 382 [.agg (Xi.c h)]=some (.val (.int .i64 (wN h.Xz:Nat))):=by
 have v:=vhdr e;have hc:=GH h hn hf;have h1:=Bt h (by have:=v.n;omega);have h2:=F8 (h.Xz.map (·.Yc)) (by simp;have:=v.n;omega) (fun x hx=>by obtain ⟨f,hf,rfl⟩:=iN.1 hx;exact v.w f hf);rw [List.map_map] at h2;have h3:(h.Xz.map (·.Yc)).sum=wSum h.Xz:=rfl;rw [h3,GX v.w] at h2;have h4:((fun x=>[AV.int IntKind.i64 x]) ∘ fun x:Fld=>x.Yc)=fun f:Fld=>[AV.int IntKind.i64 f.Yc]:=rfl
 rw [h4] at h2;rw [e] at hc;rw [Xi.c] at hc h1;rw [Xi.c,aC rfl rfl];simp [yN,hc,h1,h2]
def HRP (id t q:Nat) (d:List Int) (l:List Fld) (N:Nat) (O:List (Nat×AO)) (r:Option (Rt×AH)):Prop:=
 ∃O' N' tk,r=some (.val (.tup [.app 1 ((rdF d q l).map c32) tk,.int .i64 0]),⟨O',N'⟩)/\look id O'=some (rdr d t (q+wN l))/\look tk O'=some (.tok 1 l.length)/\N<=tk/\Kp (fun j=>j=id) N O O'/\Tail O' N'/\NR O'/\N<=N'
def HRS (N:Nat) (O:List (Nat×AO)) (r:Option (Rt×AH)):Prop:=
 ∃L N',r=some (.val (.tup [.Xt 1 [],.int .i64 3]),⟨O++L,N'⟩)/\Kp (fun _=>False) N O (O++L)/\Tail (O++L) N'/\NR (O++L)/\N<=N'
structure HRI (id t q tk:Nat) (d:List Int) (l:List Fld) (N:Nat) (O:List (Nat×AO)) (k:Nat) (e:Env) (O':List (Nat×AO)) (N':Nat):Prop where
 e1:look 1 e=some (.ptr id 3 0 0)
 e9:look 9 e=some (.app 1 ((rdF d q (l.take k)).map c32) tk)
 e32:look 32 e=some (.slice 2 (l.map Fld.c))
 e33:look 33 e=some (.int .i64 l.length)
 e34:look 34 e=some (.int .i64 k)
 li:look id O'=some (rdr d t (q+wN (l.take k)))
 lt:look tk O'=some (.tok 1 k)
 hk:Kp (fun j=>j=id) N O O'
 hT:Tail O' N'
 hN:NR O'
 hn:N<=N'
 tn:N<=tk
theorem L6 {id t q tk N:Nat} {d:List Int} {l:List Fld} {O:List (Nat×AO)} (hd:bOk d) (hl:d.length<=512) (hw:∀f∈l,1<=f.Yc/\f.Yc<=32) (hln:l.length<2^40) (hs:q+wN l<=8*d.length) {e:Env} {O':List (Nat×AO)} {N':Nat} (h:HRI id t q tk d l N O 0 e O' N'):
  HRP id t q d l N O (go Φ (finC mG.results) [.c (.loop dY),.b 0,.c dX] .normal ⟨e,⟨O',N'⟩⟩):=by
 refine eQ l.length (fun k e h=>∃O' N',h=⟨O',N'⟩/\HRI id t q tk d l N O k e O' N') _ ?_ ?_ 0 _ _ (Qc _) ⟨_,_,rfl,h⟩
 ·rintro k e _ K hk hK ⟨O',N',rfl,h⟩ ih;obtain ⟨e1,e9,e32,e33,e34,li,lt,kp,hT,hN,hn,tn⟩:=h;have hw1:=aH k (by omega);have hf:=hw l[k] (Qd hk);have st:=UQ hk;have le:=wN_le (l:=l) (k+1);have t0:=hT N' (Qb _);have hrb:=QN (O:=O') (N:=N'+1) (id:=id) (w:=l[k].Yc.toNat) li hd hl (by omega) (by omega) (by omega);have hwd:((l[k].Yc.toNat:Nat):Int)=l[k].Yc:=by omega
  rw [hwd] at hrb;have tid:tk≠id:=aF lt li (by simp [rdr]);have lt2:look tk (setl id (rdr d t (q+wN (l.take k)+l[k].Yc.toNat)) O')=some (.tok 1 k):=by
   rw [a7,QA tid];exact lt
  have rf:rdF d q (l.take (k+1))=rdF d q (l.take k)++[rdN d (q+wN (l.take k)) l[k].Yc.toNat]:=by
   rw [Qh hk,Mh];rfl
  have hln2:(rdF d q (l.take k)).length=k:=by rw [Dr];simp;omega
  have hbd:(k+1)*4<=70368744177664:=by omega
  have fin:∀{E2:Env},(∀j,j=1\/j=32\/j=33->look j E2=look j e)->look 9 E2=some (.app 1 ((rdF d q (l.take k)).map c32++[c32 (rdN d (q+wN (l.take k)) l[k].Yc.toNat)]) tk)->look 34 E2=some (.int .i64 (k+1:Nat))->
    HRP id t q d l N O (go Φ (finC mG.results) K .normal ⟨E2,⟨setl tk (.tok 1 (k+1)) (setl id (rdr d t (q+wN (l.take k)+l[k].Yc.toNat)) O'),N'+1⟩⟩):=fun {E2} hE h9 h34=>by
   refine ih _ _ ⟨_,_,rfl,by rw [hE 1 (by simp),e1],?_,by rw [hE 32 (by simp),e32],by rw [hE 33 (by simp),e33],h34,?_,?_,?_,?_,?_,by omega,tn⟩
   ·rw [h9,rf,tN];rfl
   ·rw [a7,QA tid.symm,a7,a8 rfl,li,st,d7];rfl
   ·rw [a7,a8 rfl,lt2];rfl
   ·exact (kp.setl (.inr rfl)).setl (.inl tn)
   ·exact aK (aK (hT.mono (by omega)))
   ·exact (hN.setl (by simp [rdr])).setl (by simp)
  have hg:(l.map Fld.c)[k]? =some (Fld.c l[k]):=by simp [hk]
  generalize hx:l[k]=x at*;simp only [Fld.c] at*;simp [dY,e1,e9,e32,e33,e34,hk,hK,t0,hw1,hx,Fld.c,hrb,lt2,hln2,hbd];exact fin (by rintro j (rfl | rfl | rfl)<;>simp) (by simp [c32]) (by simp)
 ·rintro e _ K hK ⟨O',N',rfl,h⟩;obtain ⟨e1,e9,e32,e33,e34,li,lt,kp,hT,hN,hn,tn⟩:=h;rw [iS] at e9 li;simp [mG,dY,dX,e1,e9,e32,e33,e34] at hK ⊢;simp [dX,hK,e9];exact ⟨O',N',tk,rfl,li,lt,tn,kp,hT,hN,hn⟩
theorem V5 {N j:Nat} {d:List Int} {q:Nat} (h:j<N):look j (rstL d q N)=none:=by
 unfold rstL;split
 ·rw [jG _ _ _ _ (by omega)];rfl
 ·rfl
theorem PP {O:List (Nat×AO)} {N id t q:Nat} {d:List Int} (hT:Tail O N) (hN:NR O) (hi:look id O=some (rdr d t q)) (hd:bOk d) (hl:d.length<=512) (hq:q<=8*d.length) {h:Xi} (hn:h.name.length<2^40) (hf:∀f∈h.Xz,f.name.length<2^40) (e:hdrE h=0):
  if 8*d.length<q+wN h.Xz then HRS N O (aD Φ 348 [.agg (Xi.c h),.ptr id 3 0 0] ⟨O,N⟩) else HRP id t q d h.Xz N O (aD Φ 348 [.agg (Xi.c h),.ptr id 3 0 0] ⟨O,N⟩):=by
 rw [cP rfl rfl];have v:=vhdr e;have hc:=GH h hn hf;have hb:=SP hn hf e;rw [e] at hc;have t0:=hT N (Qb _);have hi1:look id (O++[(N,.row 2 [Xi.c h])])=some (rdr d t q):=aW hi;have hT1:Tail (O++[(N,.row 2 [Xi.c h])]) (N+1):=Tail_append_iff.2 ⟨hT.mono (by omega),Tail_cons_iff.2 ⟨by omega,Tail.nil _⟩⟩;have hN1:NR (O++[(N,.row 2 [Xi.c h])]):=hN.app (.one (by simp));have hr:=Lb hT1 hN1 hi1 hl hq;have hT2:=X3 (d:=d) (q:=q) hT1;have hN2:=X1 (N:=N+1) (d:=d) (q:=q) hN1;have hi2:look id ((O++[(N,.row 2 [Xi.c h])])++rstL d q (N+1))=some (rdr d t q):=aW hi1;have l0:look N ((O++[(N,.row 2 [Xi.c h])])++rstL d q (N+1))=some (.row 2 [Xi.c h]):=aW (by rw [aA,t0];simp);have hE:∀(x:AV),rstE q≠1:=fun _=>by unfold rstE;split<;>decide
 have hrem:=Mk d q hl hq;generalize hM:(if q % 8=0 then N+1+1 else N+1)=M at hr hT2;have hMN:N+1<=M:=by rw [<- hM];split<;>omega
 generalize hO:(O++[(N,.row 2 [Xi.c h])])++rstL d q (N+1)=O2 at hr hT2 hN2 hi2 l0;have hkp:∀j,j<N->look j O2=look j O:=fun j hj=>by
  rw [<- hO,aA,aA,V5 (by omega),jG _ _ _ _ (by omega)];cases look j O<;>rfl
 have hO2:∃L,O2=O++L:=⟨_,by rw [<- hO,tI]⟩;generalize rstE q=E0 at hr hE;generalize rstV d q (N+1)=V0 at hr;have hE1:¬E0=1:=hE .nilptr;have hi3:=hi2;unfold rdr at hi3;have tM:=hT2 M (Qb _);rw [Xi.c] at hc hb hr l0;have cmp:((8*d.length - q:Nat):Int)<(wN h.Xz:Int)↔8*d.length<q+wN h.Xz:=by omega
 by_cases z:8*d.length<q+wN h.Xz
 ·rw [a8 z];have z1:8*d.length - q<wN h.Xz:=by omega
  simp [mG,Xi.c,t0,hc,hb,hr,hE1,hi3,hrem,l0,z1];obtain ⟨L,rfl⟩:=hO2;exact ⟨L,M,rfl,fun j hj _=>hkp j hj,hT2,hN2,by omega⟩
 ·rw [QA z];have z1:¬8*d.length - q<wN h.Xz:=by omega
  simp [mG,Xi.c,t0,hc,hb,hr,hE1,hi3,hrem,l0,aA,z1,tM];refine L6 (tk:=M) (l:=h.Xz) (q:=q) hd hl v.w (by have:=v.n;omega) (Nat.le_of_not_lt z) ?_;refine ⟨by simp,by simp [rdF],by simp,by simp,by simp,by simpa [wN] using aW hi2,by rw [aA,tM];simp,?_,Tail_append_iff.2 ⟨hT2.mono (by omega),Tail_cons_iff.2 ⟨by omega,Tail.nil _⟩⟩,hN2.app (.one (by simp)),by omega,by omega⟩;intro j hj hx;rw [aA,hkp j hj,jG _ _ _ _ (by omega)];cases look j O<;>rfl
def RE (O:List (Nat×AO)) (B iv jf:Nat) (a:AV) (l:List Int):Prop:=
 (l=[]/\a= .Xt 1 [])\/(∃id,a= .row id 1 0 l.length/\look id O=some (.row 1 (l.map c32))/\B<=id/\id≠iv/\id≠jf)\/∃tk,a= .app 1 (l.map c32) tk
structure PE (O:List (Nat×AO)) (B iv jf im:Nat) (A:List AV) (e:Envt):Prop where
 lv:look iv O=some (.row 1 (e.valid.map cB))
 lf:look jf O=some (.row 1 (A.map fun x=>[x]))
 lm:look im O=some (.row 1 (e.metaF.map c32))
 d:iv≠jf/\im≠iv/\im≠jf
 b:B<=iv/\B<=jf/\B<=im
 len:A.length=e.Xz.length
 r:∀(k:Nat) (a:AV) (l:List Int),A[k]? =some a->e.Xz[k]? =some l->RE O B iv jf a l
theorem RE.fr {O O':List (Nat×AO)} {B iv jf:Nat} {a:AV} {l:List Int} (h:RE O B iv jf a l) (hf:∀j es,B<=j->j≠iv->j≠jf->look j O=some (.row 1 es)->look j O'=some (.row 1 es)):RE O' B iv jf a l:=by
 rcases h with h | ⟨id,h1,h2,h3,h4,h5⟩ | h
 ·exact .inl h
 ·exact .inr (.inl ⟨id,h1,hf id _ h3 h4 h5 h2,h3,h4,h5⟩)
 ·exact .inr (.inr h)
theorem PE.fr {O O':List (Nat×AO)} {B iv jf im:Nat} {A:List AV} {e:Envt} (h:PE O B iv jf im A e) (hf:∀j es,B<=j->look j O=some (.row 1 es)->look j O'=some (.row 1 es)):PE O' B iv jf im A e:=
 ⟨hf _ _ h.b.1 h.lv,hf _ _ h.b.2.1 h.lf,hf _ _ h.b.2.2 h.lm,h.d,h.b,h.len,fun k a l h1 h2=>(h.r k a l h1 h2).fr fun j es h3 _ _ h4=>hf j es h3 h4⟩
theorem PE.app {O:List (Nat×AO)} {B iv jf im:Nat} {A:List AV} {e:Envt} (h:PE O B iv jf im A e) (L:List (Nat×AO)):PE (O++L) B iv jf im A e:=h.fr fun _ _ _ h=>aW h
theorem PE.setV {O:List (Nat×AO)} {B iv jf im:Nat} {A:List AV} {e:Envt} (h:PE O B iv jf im A e) (v:List Bool):PE (setl iv (.row 1 (v.map cB)) O) B iv jf im A { e with valid:=v }:=by
 refine ⟨by rw [a7,a8 rfl,h.lv];rfl,by rw [a7,QA h.d.1.symm,h.lf],by rw [a7,QA h.d.2.1,h.lm],h.d,h.b,h.len,fun k a l h1 h2=>(h.r k a l h1 h2).fr fun j es _ h3 _ h4=>?_⟩;rw [a7,QA h3,h4]
theorem PE.setF {O:List (Nat×AO)} {B iv jf im:Nat} {A:List AV} {e:Envt} (h:PE O B iv jf im A e) {k:Nat} (hk:k<A.length) {a:AV} {l:List Int} (ha:RE O B iv jf a l):PE (setl jf (.row 1 ((A.set k a).map fun x=>[x])) O) B iv jf im (A.set k a) { e with Xz:=e.Xz.set k l }:=by
 have fr:∀j es,B<=j->j≠iv->j≠jf->look j O=some (.row 1 es)->look j (setl jf (.row 1 ((A.set k a).map fun x=>[x])) O)=some (.row 1 es):=fun j es _ _ h3 h4=>by rw [a7,QA h3,h4]
 refine ⟨by rw [a7,QA h.d.1,h.lv],by rw [a7,a8 rfl,h.lf];rfl,by rw [a7,QA h.d.2.2,h.lm],h.d,h.b,by simp [h.len],fun i x y h1 h2=>?_⟩;simp only [List.getElem?_set] at h1 h2;by_cases q:k=i
 ·subst q;rw [a8 rfl,a8 hk] at h1;rw [a8 rfl,a8 (by rw [<- h.len];exact hk)] at h2;cases h1;cases h2;exact ha.fr fr
 ·rw [QA q] at h1 h2;exact (h.r i x y h1 h2).fr fr
theorem RE.snp {O:List (Nat×AO)} {B iv jf N:Nat} {a:AV} {l:List Int} (h:RE O B iv jf a l) (n:Nat):snap (n+2) ⟨O,N⟩ a=some (.slice 1 (l.map c32)):=by
 have hm:=mL (g:=c32) (n:=n+1) (H:=⟨O,N⟩) (fun x=>by simp [c32]) l;rcases h with ⟨rfl,rfl⟩ | ⟨id,rfl,h2,_⟩ | ⟨tk,rfl⟩
 ·simp
 ·simp [h2,hm]
 ·simp
theorem PE.snpF {O:List (Nat×AO)} {B iv jf im N:Nat} {A:List AV} {e:Envt} (h:PE O B iv jf im A e) (n:Nat):mapO (mapO (snap (n+2) ⟨O,N⟩)) (A.map fun x=>[x])=some (e.Xz.map (cS 1 c32)):=by
 have aux:∀(A:List AV) (L:List (List Int)),A.length=L.length->(∀(k:Nat) (a:AV) (l:List Int),A[k]? =some a->L[k]? =some l->RE O B iv jf a l)->mapO (mapO (snap (n+2) ⟨O,N⟩)) (A.map fun x=>[x])=some (L.map (cS 1 c32)):=by
  intro A
  induction A with
  | nil=>intro L hl _;cases L with | nil=>rfl | cons _ _=>simp at hl
  | cons a A ih=>
   intro L hl h;cases L with
   | nil=>simp at hl
   | cons l L=>
    have h1:=(h 0 a l rfl rfl).snp (N:=N) n;have h2:=ih L (by simpa using hl) fun k a l h3 h4=>h (k+1) a l h3 h4
    simp only [jL,mapO,h1,h2,cS]
 exact aux A e.Xz h.len h.r
theorem PE.snp {O:List (Nat×AO)} {B iv jf im N:Nat} {A:List AV} {e:Envt} (h:PE O B iv jf im A e) (m:Nat):mapO (snap (m+3) ⟨O,N⟩) [.row iv 1 0 e.valid.length,.row jf 1 0 e.Xz.length,.row im 1 0 e.metaF.length]=some [.slice 1 (e.valid.map cB),.slice 1 (e.Xz.map (cS 1 c32)),.slice 1 (e.metaF.map c32)]:=by
 have h1:=mL (g:=cB) (n:=m+2) (H:=⟨O,N⟩) (fun x=>by simp [cB]) e.valid;have h2:=mL (g:=c32) (n:=m+2) (H:=⟨O,N⟩) (fun x=>by simp [c32]) e.metaF;have h3:=h.snpF (N:=N) m;have h4:(A.map fun x=>[x]).take e.Xz.length=A.map fun x=>[x]:=Qo (by simp [h.len])
 have h5:(e.valid.map cB).take e.valid.length=e.valid.map cB:=Qo (by simp);have h6:(e.metaF.map c32).take e.metaF.length=e.metaF.map c32:=Qo (by simp);have h7:e.Xz.length<=A.length:=by rw [h.len];exact Qb _
 simp [mapO,h.lv,h.lf,h.lm,h1,h2,h3,h4,h5,h6,h7]
def NewP (p:Prg) (N:Nat) (O:List (Nat×AO)) (r:Option (Rt×AH)):Prop:=
 ∃O' N' iv jf im A,r=some (.val (.agg [.row iv 1 0 p.Xo.length,.row jf 1 0 p.Xo.length,.row im 1 0 p.Xn.length,.Xt 1 []]),⟨O',N'⟩)/\PE O' N iv jf im A (eNew p)/\Kp (fun _=>False) N O O'/\Tail O' N'/\NR O'/\N<=N'
def qV (p:Prg) (i:Nat):Envt:=⟨p.Xo.map fun _=>false,(p.Xo.take i).map (fun h=>h.Xz.map fun _=>0)++(p.Xo.drop i).map (fun _=>[]),p.Xn.map fun _=>0,[]⟩
theorem MD (p:Prg):qV p p.Xo.length=eNew p:=by simp [qV,eNew]
theorem KQ (p:Prg) {i:Nat} (hi:i<p.Xo.length):{ qV p i with Xz:=(qV p i).Xz.set i (p.Xo[i].Xz.map fun _=>0) }=qV p (i+1):=by
 have h1:(p.Xo.take i).length=i:=by simp;omega
 simp only [qV,Envt.mk.injEq,true_and,and_true];rw [Qi hi,Qh hi,jL,List.set_append_right _ _ (by rw [cQ,h1];exact Qb _),cQ,h1,Nat.sub_self,List.set_cons_zero,tN,tI];rfl
structure NI (p:Prg) (N:Nat) (O:List (Nat×AO)) (a b c iv jf im i:Nat) (E:Env) (O':List (Nat×AO)) (N':Nat) (A:List AV):Prop where
 e1:look 1 E=some (.ptr a 9 0 0)
 e2:look 2 E=some (.ptr b 4 0 0)
 e3:look 3 E=some (.ptr c 4 0 0)
 e20:look 20 E=some (.int .i64 p.Xo.length)
 e21:look 21 E=some (.int .i64 i)
 la:look a O'=some (.row 9 [p.c])
 lb:look b O'=some (.row 4 [z4])
 lc:look c O'=some (.row 4 [[.row iv 1 0 p.Xo.length,.row jf 1 0 p.Xo.length,.row im 1 0 p.Xn.length,.Xt 1 []]])
 pe:PE O' N iv jf im A (qV p i)
 kp:Kp (fun _=>False) N O O'
 hT:Tail O' N'
 hN:NR O'
 hn:N<=N'
 bn:N<=b
theorem ME {p:Prg} (w:PWd p) {N:Nat} {O:List (Nat×AO)} {a b c iv jf im:Nat} {E:Env} {O':List (Nat×AO)} {N':Nat} {A:List AV} (h:NI p N O a b c iv jf im 0 E O' N' A):
  NewP p N O (go Φ (finC pI.results) [.c (.loop dQ),.b 0,.c dP] .normal ⟨E,⟨O',N'⟩⟩):=by
 refine eQ p.Xo.length (fun i E h=>∃O' N' A,h=⟨O',N'⟩/\NI p N O a b c iv jf im i E O' N' A) _ ?_ ?_ 0 _ _ (Qc _) ⟨_,_,_,rfl,h⟩
 ·rintro i E _ K hi hK ⟨O',N',A,rfl,h⟩ ih;obtain ⟨e1,e2,e3,e20,e21,la,lb,lc,pe,kp,hT,hN,hn,bn⟩:=h;have hw:IntKind.wrap .i64 ((i:Int)+1)=((i+1:Nat):Int):=cU (by omega) (by have:=w.hl;omega);have t:∀k,look (N'+k) O'=none:=fun k=>hT _ (by omega)
  have t0:=hT N' (Qb _);generalize hx:p.Xo[i]=x;have hf:x.Xz.length<2^40:=by rw [<- hx];exact w.hf _ (Qd hi)
  have b1:(x.Xz.length:Int)*4<=140737488355328/\(x.Xz.length:Int)<4611686018427387904:=by omega
  have lf:=pe.lf;have fj:=fun k=>aY (n:=N'+k) hT lf (by omega)
  have fa:=fun k=>aY (n:=N'+k) hT la (by omega)
  have fc:=fun k=>aY (n:=N'+k) hT lc (by omega)
  have jq:∀k,(jf == N'+k)=false/\(N'+k == jf)=false:=fun k=>by have:=fj k;simp;omega
  have aq:∀k,(a == N'+k)=false/\(N'+k == a)=false:=fun k=>by have:=fa k;simp;omega
  have cq:∀k,(c == N'+k)=false/\(N'+k == c)=false:=fun k=>by have:=fc k;simp;omega
  have hA:A.length=p.Xo.length:=by rw [pe.len];simp [qV];omega
  have hrep:List.replicate x.Xz.length [AV.int .u32 0]=(x.Xz.map fun _=>(0:Int)).map c32:=by
   rw [List.map_map];exact (List.map_const' ..).symm
  rw [Prg.c] at la;simp [dQ,Xi.c,e1,e2,e3,e20,e21,hi,hx,hw,t0,t,d7,la,lc,lf,aA,a7,oE,hN.eq,eZ,b1,fj,fa,fc,jq,aq,cq,hA,uT lf,hN.sw];have hk:i<A.length:=by rw [hA];exact hi
  have lo:∀j y,look j O'=some y->j≠jf->look j (setl jf (.row 1 ((A.set i (.row (N'+34) 1 0 x.Xz.length)).map fun x=>[x])) O'++[(N'+34,.row 1 ((x.Xz.map fun _=>(0:Int)).map c32))])=some y:=fun j y h1 h2=>by
   rw [aA,a7,QA h2,h1];rfl
  have lv:=pe.lv;have fv:=aY (n:=N'+34) hT lv (by omega);have pe2:=(pe.app [(N'+34,.row 1 ((x.Xz.map fun _=>(0:Int)).map c32))]).setF hk (a:= .row (N'+34) 1 0 x.Xz.length) (l:=x.Xz.map fun _=>0) (.inr (.inl ⟨N'+34,by simp,by rw [aA,t];simp,by omega,fv.2,(fj 34).2⟩));have ne3:∀k j,j<N->N'+k≠j:=fun k j h=>by omega
  have lt3:N'+34<N'+35:=by omega
  subst hx;rw [KQ p hi,uT lf] at pe2;refine ih _ _ ⟨_,_,A.set i (.row (N'+34) 1 0 p.Xo[i].Xz.length),rfl,by simp [e1],by simp [e2],by simp [e3],by simp [e20],by simp,?_,?_,?_,?_,?_,?_,?_,by omega,bn⟩
  rotate_left 3
  ·rw [hrep,<- qZ];exact pe2
  ·intro j hj _;rw [aA,a7,QA (by have:=pe.b;omega),kp j hj (by simp),jG _ _ _ _ (ne3 _ _ hj)];cases look j O<;>rfl
  ·exact Tail_append_iff.2 ⟨aK (hT.mono (by omega)),Tail_cons_iff.2 ⟨lt3,Tail.nil _⟩⟩
  ·exact (hN.setl (by simp)).app (.one (by simp))
  all_goals
   rw [hrep,<- qZ]
  ·exact lo _ _ la (aF la lf (by simp))
  ·exact lo _ _ lb (aF lb lf (by simp))
  ·exact lo _ _ lc (aF lc lf (by simp))
 ·rintro E _ K hK ⟨O',N',A,rfl,h⟩;obtain ⟨e1,e2,e3,e20,e21,la,lb,lc,pe,kp,hT,hN,hn,bn⟩:=h;rw [MD] at pe;have cb:¬c=b/\¬b=c:=by
   have:=aF lc lb (by simp [z4]);exact ⟨this,fun e=>this e.symm⟩
  rw [z4] at lb;simp [pI,dQ,dP,e1,e2,e3,e20,e21,lb,lc,a7] at hK ⊢;simp [dP,hK,e2,e3,lb,lc,a7];refine ⟨_,_,iv,jf,im,A,rfl,pe.fr fun j es _ hj=>?_,kp.setl (.inl bn),aK hT,hN.setl (by simp),hn⟩;rw [a7,QA (aF hj lb (by simp)),hj]
theorem TF {O:List (Nat×AO)} {N:Nat} (hT:Tail O N) (hN:NR O) {p:Prg} (w:PWd p):NewP p N O (aD Φ 264 [.agg p.c] ⟨O,N⟩):=by
 rw [cP rfl rfl];have t:∀k,look (N+k) O=none:=fun k=>hT _ (by omega)
 have t0:=hT N (Qb _);have b1:p.Xo.length<=140737488355328:=by have:=w.hl;omega
 have b2:(p.Xo.length:Int)*24<=140737488355328/\(p.Xo.length:Int)<4611686018427387904:=by have:=w.hl;omega
 have b3:(p.Xn.length:Int)*4<=140737488355328/\(p.Xn.length:Int)<4611686018427387904:=by have:=w.ml;omega
 have bq:∀k,0<k->(N == N+k)=false/\(N+k == N)=false:=fun k hk=>by simp;omega
 simp [pI,Prg.c,t0,t,d7,aA,a7,oE,hN.eq,eZ,b1,b2,b3,bq,qP];have lt1:∀{u j:Nat} {y:AO} {r:List (Nat×AO)},j<u->look j r=none->look j ((u,y)::r)=none:=fun {u j y r} h1 h2=>by rw [jG _ _ _ _ (by omega),h2]
 refine ME w (a:=N) (b:=N+1) (c:=N+5) (iv:=N+10) (jf:=N+14) (im:=N+18) (A:=p.Xo.map fun _=> .Xt 1 []) ⟨by simp,by simp,by simp,by simp,by simp,?_,?_,?_,?_,?_,?_,?_,by omega,by omega⟩
 ·simp [aA,t0,Prg.c]
 ·simp [aA,t,z4]
 ·simp [aA,t]
 ·have r1:∀{α:Type} (l:List α) (x:List AV),List.replicate l.length x=l.map fun _=>x:=fun l x=>(List.map_const' ..).symm
  refine ⟨?_,?_,?_,by omega,by omega,by simp [qV],?_⟩
  ·simp [aA,t,qV,r1,cB]
  ·simp [aA,t,qV,r1]
  ·simp [aA,t,qV,r1,c32]
  ·intro k a l h1 h2;refine .inl ?_;simp only [qV,List.take_zero,oJ,pA,List.drop_zero,List.getElem?_map] at h1 h2;obtain ⟨_,_,rfl⟩:=Qs.1 h1;obtain ⟨_,_,rfl⟩:=Qs.1 h2;exact ⟨rfl,rfl⟩
 ·intro j hj _;rw [aA];have ne1:∀k,N+k≠j:=fun k=>by omega
  rw [show ∀(x:AO) r,look j ((N,x)::r)=look j r from fun x r=>jG _ _ _ _ (ne1 0)]
  repeat rw [jG _ _ _ _ (ne1 _)]
  cases look j O<;>rfl
 ·have lt6:∀k,k<19->N+k<N+19:=fun k h=>by omega
  simp only [Tail_append_iff,Tail_cons_iff];exact ⟨hT.mono (by omega),lt6 0 (by decide),lt6 _ (by decide),lt6 _ (by decide),lt6 _ (by decide),lt6 _ (by decide),lt6 _ (by decide),Tail.nil _⟩
 ·exact hN.app (bV (by simp) (bV (by simp) (bV (by simp) (bV (by simp) (bV (by simp) (.one (by simp)))))))
def Fx (id iv jf:Nat) (j:Nat):Prop:=j=id\/j=iv\/j=jf
def ExtP (id t:Nat) (d:List Int) (B iv jf im N:Nat) (O:List (Nat×AO)) (y:Option (Envt×Nat)) (r:Option (Rt×AH)):Prop:=
 ∃O' N',Kp (Fx id iv jf) N O O'/\Tail O' N'/\NR O'/\N<=N'/\match y with
 | none=>r=some (.val (.int .i64 3),⟨O',N'⟩)
 | some x=>r=some (.val (.int .i64 0),⟨O',N'⟩)/\∃A,PE O' B iv jf im A x.1/\look id O'=some (rdr d t x.2)/\x.2<=8*d.length
structure XI (p:Prg) (s:Xc) (id t:Nat) (d:List Int) (B iv jf im:Nat) (P:AV) (N:Nat) (O:List (Nat×AO)) (a b c:Nat) (y:Option (Envt×Nat)) (i:Nat) (E:Env) (O':List (Nat×AO)) (N':Nat) (A:List AV) (x:Envt×Nat):Prop where
 e3:look 3 E=some (.ptr id 3 0 0)
 e4:look 4 E=some (.ptr a 9 0 0)
 e5:look 5 E=some (.ptr b 7 0 0)
 e6:look 6 E=some (.ptr c 4 0 0)
 e14:look 14 E=some (.slice 1 (s.extract.map cI))
 e15:look 15 E=some (.int .i64 s.extract.length)
 e16:look 16 E=some (.int .i64 i)
 la:look a O'=some (.row 9 [p.c])
 lc:look c O'=some (.row 4 [[.row iv 1 0 p.Xo.length,.row jf 1 0 p.Xo.length,.row im 1 0 p.Xn.length,P]])
 li:look id O'=some (rdr d t x.2)
 q:x.2<=8*d.length
 pe:PE O' B iv jf im A x.1
 v:x.1.valid.length=p.Xo.length
 f:x.1.Xz.length=p.Xo.length
 hy:y=exHs p d (s.extract.drop i) x
 kp:Kp (Fx id iv jf) N O O'
 hT:Tail O' N'
 hN:NR O'
 hn:N<=N'
theorem PB {p:Prg} (fs:PrgS p) (hd:∀h∈p.Xo,hdrE h=0) {s:Xc} (hs:∀h∈s.extract,0<=h/\h<p.Xo.length) (hsl:s.extract.length<2^40) {id t:Nat} {d:List Int} (hb:bOk d) (hl:d.length<=512) {B iv jf im:Nat} {P:AV} {N:Nat} {O:List (Nat×AO)} {a b c:Nat} {y:Option (Envt×Nat)} {E:Env} {O':List (Nat×AO)} {N':Nat} {A:List AV} {x:Envt×Nat}
  (h:XI p s id t d B iv jf im P N O a b c y 0 E O' N' A x):ExtP id t d B iv jf im N O y (go Φ (finC pJ.results) [.c (.loop cE),.b 0,.c dR] .normal ⟨E,⟨O',N'⟩⟩):=by
 refine eQ s.extract.length (fun i E h=>∃O' N' A x,h=⟨O',N'⟩/\XI p s id t d B iv jf im P N O a b c y i E O' N' A x) _ ?_ ?_ 0 _ _ (Qc _) ⟨_,_,_,_,rfl,h⟩
 ·rintro i E _ K hi hK ⟨O',N',A,x,rfl,h⟩ ih;obtain ⟨e3,e4,e5,e6,e14,e15,e16,la,lc,li,q,pe,v,f,hy,kp,hT,hN,hn⟩:=h;have hw:=aH i (by omega);obtain ⟨h0,h1⟩:=hs _ (Qd hi);rw [Qi hi,exHs] at hy;generalize hx:s.extract[i]=z at*;obtain ⟨m,rfl⟩:=mP h0;have hm:m<p.Xo.length:=by omega
  have hg:p.Xo[m]∈p.Xo:=Qd hm;have vh:=vhdr (hd _ hg);have wn:(wSum p.Xo[m].Xz).toNat=wN p.Xo[m].Xz:=by rw [GX vh.w];rfl
  rw [exH,mM,Qa hm] at hy;simp only [wn] at hy;have rd:=PP hT hN li hb hl q (fs.hn _ hg) (fs.hf _ hg) (hd _ hg);generalize hgx:p.Xo[m]=g at*;rw [Prg.c] at la;by_cases z:8*d.length<x.2+wN g.Xz
  ·rw [a8 z] at rd hy;obtain ⟨L,N1,hr,kp1,T1,R1,n1⟩:=rd;rw [hy];rw [Xi.c] at hr;simp [cE,Xi.c,cI,e3,e4,e5,e6,e14,e15,e16,hi,hx,hm,hgx,hw,la,lc,hr];exact ⟨_,_,fun j hj hf=>(kp1 j (by omega) (by simp)).trans (kp j hj hf),T1,R1,by omega,rfl⟩
  ·rw [QA z] at rd hy;obtain ⟨O1,N1,tk,hr,li1,lt1,tn,kp1,T1,R1,n1⟩:=rd;rw [fB] at hy;have hfr:∀j es,B<=j->look j O'=some (.row 1 es)->look j O1=some (.row 1 es):=fun j es _ hj=>by
    rw [kp1 j (hT.lt hj) (aF hj li (by simp [rdr])),hj]
   have pe1:=pe.fr hfr;have la1:look a O1=_:=(kp1 a (hT.lt la) (aF la li (by simp [rdr]))).trans la;have lc1:look c O1=_:=(kp1 c (hT.lt lc) (aF lc li (by simp [rdr]))).trans lc;rw [Xi.c] at hr;have lv:=pe1.lv;have lf:=pe1.lf;have cv:¬c=iv/\¬iv=c:=by
    have:=aF lc1 lv (by simp);exact ⟨this,fun e=>this e.symm⟩
   have cf:¬c=jf/\¬jf=c:=by
    have:=aF lc1 lf (by simp);exact ⟨this,fun e=>this e.symm⟩
   have hcb:∀b:Bool,(cB b).tail=[]:=fun b=>rfl
   have sw2:∀x y,bW (setl jf (.row 1 x) (setl iv (.row 1 y) O1))=setl jf (.row 1 x) (setl iv (.row 1 y) O1):=fun x y=>NR.setl (by simp) (NR.setl (by simp) R1)
   have cvb:(c == iv)=false:=by simp [cv]
   have d1:=pe.d.1;have d2:=pe.d.1.symm;have hA:A.length=p.Xo.length:=by rw [pe.len,f]
   simp [cE,Xi.c,cI,e3,e4,e5,e6,e14,e15,e16,hi,hx,hm,hgx,hw,la,lc,la1,lc1,hr,lv,lf,a7,cv,cf,d1,d2,hA,v,eZ,R1.eq,cvb,hcb,sw2];have pe2:=(pe1.setV (x.1.valid.set m true)).setF (k:=m) (a:= .app 1 ((rdF d x.2 g.Xz).map c32) tk) (l:=rdF d x.2 g.Xz) (by rw [hA];exact hm) (.inr (.inr ⟨tk,rfl⟩));have hne:∀{j:Nat} {z:Nat} {es:List (List AV)},z≠1->look j O1=some (.row z es)->look j (setl jf (.row 1 ((A.set m (.app 1 ((rdF d x.2 g.Xz).map c32) tk)).map fun x=>[x])) (setl iv (.row 1 ((x.1.valid.set m true).map cB)) O1))=some (.row z es):=fun {j z es} hz hj=>by
    rw [a7,QA (aF hj lf (by simp [hz])),a7,QA (aF hj lv (by simp [hz])),hj]
   have es1:(x.1.valid.map cB).set m [AV.bool true]=(x.1.valid.set m true).map cB:=by rw [qZ];rfl
   have es2:(A.map fun x=>[x]).set m [AV.app 1 ((rdF d x.2 g.Xz).map c32) tk]=(A.set m (AV.app 1 ((rdF d x.2 g.Xz).map c32) tk)).map fun x=>[x]:=by rw [qZ]
   refine ih _ _ ⟨_,_,A.set m (.app 1 ((rdF d x.2 g.Xz).map c32) tk),_,rfl,by simp [e3],by simp [e4],by simp [e5],by simp [e6],by simp [e14],by simp [e15],by simp,?_,?_,?_,?_,?_,?_,?_,hy,?_,?_,?_,by omega⟩
   all_goals try rw [es1,es2]
   ·exact hne (by decide) la1
   ·exact hne (by decide) lc1
   ·exact hne (by decide) li1
   ·simp only;omega
   ·exact pe2
   ·simp [v]
   ·simp [f]
   ·intro j hj hf;have h3:¬j=jf/\¬j=iv/\¬j=id:=⟨fun e=>hf (.inr (.inr e)),fun e=>hf (.inr (.inl e)),fun e=>hf (.inl e)⟩;rw [a7,QA h3.1,a7,QA h3.2.1,kp1 j (by omega) h3.2.2,kp j hj hf]
   ·exact aK (aK (T1.mono (by omega)))
   ·exact NR.setl (by simp) (NR.setl (by simp) R1)
 ·rintro E _ K hK ⟨O',N',A,x,rfl,h⟩;obtain ⟨e3,e4,e5,e6,e14,e15,e16,la,lc,li,q,pe,v,f,hy,kp,hT,hN,hn⟩:=h;rw [rK,exHs] at hy;simp [pJ,cE,dR,e15,e16] at hK ⊢;simp [dR,hK];subst hy;exact ⟨O',N',kp,hT,hN,hn,rfl,A,pe,li,q⟩
theorem WO {p:Prg} (fs:PrgS p) (hd:∀h∈p.Xo,hdrE h=0) {s:Xc} (hs:∀h∈s.extract,0<=h/\h<p.Xo.length) (hsl:s.extract.length<2^40) {id t:Nat} {d:List Int} (hb:bOk d) (hl:d.length<=512) {B iv jf im:Nat} {P:AV} {N:Nat} {O:List (Nat×AO)} {A:List AV} {x:Envt×Nat}
  (hT:Tail O N) (hN:NR O) (li:look id O=some (rdr d t x.2)) (q:x.2<=8*d.length) (pe:PE O B iv jf im A x.1) (v:x.1.valid.length=p.Xo.length) (f:x.1.Xz.length=p.Xo.length):
  ExtP id t d B iv jf im N O (exHs p d s.extract x) (aD Φ 267 [.agg p.c,.agg s.c,.agg [.row iv 1 0 p.Xo.length,.row jf 1 0 p.Xo.length,.row im 1 0 p.Xn.length,P],.ptr id 3 0 0] ⟨O,N⟩):=by
 rw [cP rfl rfl];have tt:∀k,look (N+k) O=none:=fun k=>hT _ (by omega)
 have t0:=hT N (Qb _);have lt3:∀k,k<3->N+k<N+3:=fun k h=>by omega
 simp [pJ,Xc.c,t0,tt,d7,aA];refine PB fs hd (s:=s) (P:=P) (a:=N) (b:=N+1) (c:=N+2) hs hsl hb hl (A:=A) (x:=x) ⟨by simp,by simp,by simp,by simp,by simp,by simp,by simp,?_,?_,aW li,q,pe.app _,v,f,rfl,?_,?_,?_,by omega⟩
 ·simp [aA,t0]
 ·simp [aA,tt]
 ·intro j hj _;have ne1:∀k,N+k≠j:=fun k=>by omega
  rw [aA,show ∀(x:AO) r,look j ((N,x)::r)=look j r from fun x r=>jG _ _ _ _ (ne1 0),jG _ _ _ _ (ne1 _),jG _ _ _ _ (ne1 _)];cases look j O<;>rfl
 ·simp only [Tail_append_iff,Tail_cons_iff];exact ⟨hT.mono (by omega),lt3 0 (by decide),lt3 1 (by decide),lt3 2 (by decide),Tail.nil _⟩
 ·exact hN.app (bV (by simp) (bV (by simp) (.one (by simp))))
theorem S5 {v c m:Nat} (h:c&&& m=c):(v^^^c)&&& m=0↔v&&& m=c:=by
 rw [Nat.and_xor_distrib_right,h];constructor
 ·intro e;have:((v&&& m)^^^c)^^^c=0^^^c:=by rw [e]
  rwa [Nat.xor_assoc,Nat.xor_self,Nat.xor_zero,Nat.zero_xor] at this
 ·intro e;rw [e,Nat.xor_self]
theorem V7 {v c m:Int} (hv:ok32 0 v) (hc:ok32 0 c) (hm:ok32 0 m) (h:c.toNat&&& m.toNat=c.toNat):iand .u32 (ixor .u32 v c) m=0↔iand .u32 v m=c:=by
 have hx:ok32 0 (ixor .u32 v c):=by
  have:=Cq (k:=32) (by decide) (a:=v) (b:=c) ⟨hv.1,by have:=hv.2;omega⟩ ⟨hc.1,by have:=hc.2;omega⟩;exact mB this (by decide)
 rw [G7 hx hm,G7 hv hm,Cr hv hc];have:=S5 (v:=v.toNat) h;have h0:=hc.1;simp only [qY];omega
def nxF (s:Xc) (v:Int) (l:List Xj):Int:=((l.find? fun c=>decide (iand .u32 v c.Yd=c.value)).map (·.next)).getD s.Yb
structure NxI (s:Xc) (v R:Int) (i:Nat) (E:Env) (h:AH):Prop where
 e2:look 2 E=some (.iptr 7 [s.c] 0 0)
 e5:look 5 E=some (.int .u32 v)
 e15:look 15 E=some (.slice 3 (s.cases.map Xj.c))
 e16:look 16 E=some (.int .i64 s.cases.length)
 e17:look 17 E=some (.int .i64 i)
 r:R=nxF s v (s.cases.drop i)
 h:h.objs=[]
theorem UB {s:Xc} {e:Envt} (hv:ok32 0 (eGet e s.on.header s.on.field)) (hl:s.cases.length<2^40) (hc:∀c∈s.cases,ok32 0 c.value/\ok32 0 c.Yd) (hm:∀c∈s.cases,c.value.toNat&&& c.Yd.toNat=c.value.toNat):
  a9 Φ 268 [.agg s.c,.agg e.c]=some (.val (.int .i64 (nxS s e))):=by
 rw [aC rfl rfl];have hg:=JH e s.on.header s.on.field;rw [Envt.ce] at hg;unfold nxS;generalize eGet e s.on.header s.on.field=v at hg hv;cases q:s.select with
 | false=>simp [s9,g6,Xc.c,Envt.ce,q]
 | true=>
  rw [a8 rfl];simp [s9,Xc.c,Envt.ce,q,hg];refine eQ s.cases.length (fun i E h=>NxI s v (nxF s v s.cases) i E h) (fun (r:Option Rt)=>r=some (.val (.int .i64 (nxF s v s.cases)))) ?_ ?_ 0 _ _ (Qc _) ?_
  rotate_left 2
  ·exact ⟨by simp [Xc.c,q],by simp,by simp,by simp,by simp,rfl,rfl⟩
  ·rintro i E ⟨objs,n⟩ K hi hK h ih;obtain ⟨e2,e5,e15,e16,e17,r,h⟩:=h;cases h;have hw:=aH i (by omega);have hci:=hc _ (Qd hi);have hmi:=hm _ (Qd hi);rw [Qi hi] at r;generalize hx:s.cases[i]=x at*;have hs:=V7 hv hci.1 hci.2 hmi;rw [Xc.c] at e2;by_cases z:iand .u32 v x.Yd=x.value
   ·have z1:=hs.2 z;have:nxF s v s.cases=x.next:=by rw [r];simp [nxF,z]
    simp [dS,Xj.c,e2,e5,e15,e16,e17,hi,hx,hw,z1,this]
   ·have z1:¬iand .u32 (ixor .u32 v x.value) x.Yd=0:=fun h=>z (hs.1 h)
    have:nxF s v s.cases=nxF s v (s.cases.drop (i+1)):=by rw [r];simp [nxF,z]
    simp [dS,Xj.c,e2,e5,e15,e16,e17,hi,hx,hw,z1];refine ih _ _ ?_;exact ⟨by simp [e2,Xc.c],by simp [e5],by simp [e15],by simp [e16],by simp,this,rfl⟩
  ·rintro E ⟨objs,n⟩ K hK h;obtain ⟨e2,e5,e15,e16,e17,r,h⟩:=h;cases h;rw [rK] at r;rw [Xc.c] at e2;simp [dS,e16,e17] at hK ⊢;simp [g6,hK,e2,r];rfl
theorem NF {p:Prg} (fs:PrgS p) (hd:∀h∈p.Xo,hdrE h=0) (hp:(parE p).2.2=0) (d:List Int):
  a9 Φ 265 [.agg p.c,.slice 1 (d.map c8)]=some (.val (.int .i64 (if 512<d.length then 4 else 0))):=by
 rw [aC rfl rfl];have hc:=TJ p fs;rw [Prg.c] at hc;simp [wI,Prg.c,hc,tup3,hp];refine eQ p.Xo.length (fun i E h=>look 19 E=some (.slice 2 (p.Xo.map Xi.c))/\look 20 E=some (.int .i64 p.Xo.length)/\look 21 E=some (.int .i64 i)/\look 1 E=some (.slice 1 (d.map c8))/\h.objs=[]) (fun (r:Option Rt)=>r=some (.val (.int .i64 (if 512<d.length then 4 else 0)))) ?_ ?_ 0 _ _ (Qc _) ?_
 rotate_left 2
 ·exact ⟨by simp,by simp,by simp,by simp,rfl⟩
 ·rintro i E ⟨objs,n⟩ K hi hK ⟨e19,e20,e21,e1,h⟩ ih;cases h;have hw:IntKind.wrap .i64 ((i:Int)+1)=((i+1:Nat):Int):=cU (by omega) (by have:=fs.h;omega);have hg:=Qd hi;generalize hx:p.Xo[i]=g at*;have hh:=GH g (fs.hn _ hg) (fs.hf _ hg);rw [hd _ hg,Xi.c] at hh;simp [fZ,Xi.c,e19,e20,e21,hi,hx,hw,hh];refine ih _ _ ?_;exact ⟨by simp [e19],by simp [e20],by simp,by simp [e1],rfl⟩
 ·rintro E ⟨objs,n⟩ K hK ⟨e19,e20,e21,e1,h⟩;cases h;simp [fZ,e20,e21] at hK ⊢;by_cases z:512<d.length<;>simp [kS,hK,e1,z]
end Go.Av
