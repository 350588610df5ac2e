/-
 Fields are set, headers added and removed: the reference's answers.
-/
import Derived.Test.YtcehjengeaafpaaGreatPX9
set_option linter.all false
namespace Go.Av
set_option maxRecDepth 6000
theorem AE.imm (O:List (Nat×AO)) (N:Nat) (e:Envt):AE O N (.slice 1 (e.valid.map cB)) (.slice 1 (e.Xz.map (cS 1 c32))) (.slice 1 (e.metaF.map c32)) (.slice 1 (e.payload.map c8)) e:=⟨SU.sl _ _ _,SU.sl _ _ _,.inl rfl,.inl rfl⟩
theorem EM.snpA {O:List (Nat×AO)} {B N:Nat} {V F M:AV} {A:List AV} {e:Envt} (h:EM O B V F M A e) (tk:Nat):mapO (snap 39 ⟨O,N⟩) [V,F,M,.app 1 (e.payload.map c8) tk]=some e.c:=by
 have h1:=h.v.snp (N:=N) (n:=38) (tA (g:=cB) (fun x=>by simp [cB]) e.valid);have h2:=h.m.snp (N:=N) (n:=38) (tA (g:=c32) (fun x=>by simp [c32]) e.metaF);have h3:=h.f.snp (N:=N) (n:=38) (h.r.snp 36);simp only [mapO,h1,h2,h3,Envt.ce];simp
theorem yret {O:List (Nat×AO)} {N:Nat} {V F M:AV} {A:List AV} {e:Envt} {tk:Nat} {x:List (List AV)} (h:EM O 1 V F M A e):retP ⟨setl 0 (.row 4 x) O,N⟩ (some (.agg [V,F,M,.app 1 (e.payload.map c8) tk]))=some (.val (.agg e.c)):=by
 have h2:EM (setl 0 (.row 4 x) O) 1 V F M A e:=by
  have key:∀(es:List (List AV)) (j:Nat),1<=j->look j O=some (.row 1 es)->look j (setl 0 (.row 4 x) O)=some (.row 1 es):=fun es j hj h=>by rw [aA,QA (by omega),h]
  exact ⟨h.v.fr fun j h1 h2=>key _ j h1 h2,h.m.fr fun j h1 h2=>key _ j h1 h2,h.f.fr fun j h1 h2=>key _ j h1 h2,h.r.fr fun j l h1 h2=>key _ j h1 h2,h.mne⟩
 rw [MU,show aI=39+1 from rfl,SH,h2.snpA tk];rfl
theorem RC (e:Envt) (s:EvS e):a8 Φ 152 [.agg e.c]=some (.val (.agg e.c)):=by
 obtain ⟨O',N',V,F,M,A,tk,hr,em,_⟩:=UI (Tail.nil 0) DE s (AE.imm [] 0 e);have:=em.snpA (N:=N') tk;unfold a8;rw [show H0=⟨[],0⟩ from rfl,Envt.ce,hr];show (match snap 40 ⟨O',N'⟩ (.agg [V,F,M,.app 1 (e.payload.map c8) tk]) with | some r'=>some (Rt.val r') | none=>none)=_;rw [show (40:Nat)=39+1 from rfl,SH,this];rfl
theorem ku (p:Prg) (e:Envt) (s:EvS e) (hm0:e.metaF≠[]) (h f v:Int) (hv:ok32 0 v):
  a8 Φ 90 [.agg p.c,.agg e.c,.agg [a7 h,a7 f],.int .u32 v]=some (.val (.agg (eSet p e h f v).c)):=by
 rw [aB rfl rfl];have hw:=SA p h f;have q1:=OV e h f;have q2:=QE e h;have T1:Tail [(0,AO.row 4 [z4])] 1:=Tail_cons_iff.2 ⟨by omega,Tail.nil _⟩;obtain ⟨O1,N1,V,F,M,A,tk,hr,em,kp,T,hN1,nr⟩:=UI T1 (.one (by simp)) s (AE.imm _ 1 e);obtain ⟨im,rfl,lM,him⟩:∃im,M= .row im 1 0 e.metaF.length/\look im O1=some (.row 1 (e.metaF.map c32))/\1<=im:=by
  rcases em.m with ⟨z,_⟩ | ⟨im,h,l,hi,_⟩
  ·exact absurd (by simpa using z) hm0
  ·exact ⟨im,by simpa using h,l,hi⟩
 have l0:look 0 O1=some (.row 4 [z4]):=by rw [kp 0 (by omega) (by simp)];rfl
 have t0:=T N1 (Qb _);have n0:¬0=N1/\¬N1=0:=by omega
 have em2:=em.app [(N1,.row 4 [[V,F,.row im 1 0 e.metaF.length,.app 1 (e.payload.map c8) tk]])];have lN1:look N1 (O1++[(N1,.row 4 [[V,F,.row im 1 0 e.metaF.length,.app 1 (e.payload.map c8) tk]])])=some (.row 4 [[V,F,.row im 1 0 e.metaF.length,.app 1 (e.payload.map c8) tk]]):=by rw [aC,t0];simp
 have l02:look 0 (O1++[(N1,.row 4 [[V,F,.row im 1 0 e.metaF.length,.app 1 (e.payload.map c8) tk]])])=some (.row 4 [z4]):=bL l0;rw [Envt.ce] at q1 q2;simp only [Prg.e] at hw;have w0:=DL p h f;simp only [z4] at hr l02;generalize hR:some (Rt.val (AV.agg (eSet p e h f v).c))=R;have bad:(wid p h f=0\/eHas e h f=false)->R=some (.val (.agg e.c)):=fun hb=>by rw [<- hR];simp [eSet,hb]
 generalize hO2:O1++[(N1,AO.row 4 [[V,F,.row im 1 0 e.metaF.length,.app 1 (e.payload.map c8) tk]])]=O2 at*;by_cases zw:wid p h f=0
 ·rw [zw] at hw;simp [zG,Prg.e,Envt.ce,hr,t0,n0,aA,uK,hw,q1,hO2,lN1,l02,-retP];rw [bad (.inl zw)];exact yret em2
 obtain ⟨W,hW⟩:=f9 w0.1;have hW0:¬W=0:=by omega
 have hmd:=Nn v hv W (by omega);rw [hW] at hw;cases qe:(if h= -1 then (at? e.metaF f).isSome else ((at? e.Xz h).bind fun l=>at? l f).isSome) with
 | false=>
  rw [qe] at q1;have hno:eHas e h f=false:=by
   unfold eHas;split at qe
   ·rename_i hm;rw [a9 hm];exact qe
   ·rename_i hm;rw [QA hm,qe,Bool.and_false]
  simp [zG,Prg.e,Envt.ce,hr,t0,n0,aA,uK,hw,hW0,q1,hO2,lN1,l02,-retP];rw [bad (.inr hno)];exact yret em2
 | true=>
  rw [qe] at q1;by_cases hm:h= -1
  ·subst hm;rw [a9 rfl] at qe;obtain ⟨x,hx⟩:=zX.1 qe;obtain ⟨j,rfl,hj,_⟩:=iX hx;have e1:eSet p e (-1) j v={ e with metaF:=e.metaF.set j (v % 2^W) }:=by
    have:eHas e (-1) j=true:=by simp [eHas,hj]
    unfold eSet;rw [QA (by rw [this];simp [zw]),hW];simp [ePut]
   rw [e1] at hR;have lM:look im O2=some (.row 1 (e.metaF.map c32)):=by rw [<- hO2];exact bL lM
   have em3:=em2.setM rfl (e.metaF.set j (v % 2^W)) (by simp);have i1:¬im=N1/\¬N1=im:=by have:=aW lM lN1 (by simp);exact ⟨this,fun e=>this e.symm⟩
   have i0:¬im=0/\¬0=im:=by omega
   have hst:(e.metaF.map c32).set j [AV.int .u32 (v % 2^W)]=(e.metaF.set j (v % 2^W)).map c32:=by rw [uX];simp [c32]
   simp [zG,Prg.e,Envt.ce,hr,t0,n0,aA,uK,hw,hW0,q1,hmd,hO2,lN1,l02,lM,hj,i1,i0,c32,-retP];rw [hst,<- hR];exact yret em3
  ·rw [QA hm] at qe;cases qv:(at? e.valid h).getD false with
   | false=>
    rw [qv] at q2;have hno:eHas e h f=false:=by simp [eHas,hm,qv]
    simp [zG,Prg.e,Envt.ce,hr,t0,n0,aA,uK,hw,hW0,q1,q2,hm,hO2,lN1,l02,-retP];rw [bad (.inr hno)];exact yret em2
   | true=>
    rw [qv] at q2;obtain ⟨x,hx⟩:=zX.1 qe;obtain ⟨l,hx1,hx2⟩:=Qt.1 hx;obtain ⟨k,rfl,hk,rfl⟩:=iX hx1;obtain ⟨j,rfl,hj,_⟩:=iX hx2;have e1:eSet p e k j v={ e with Xz:=e.Xz.set k (e.Xz[k].set j (v % 2^W)) }:=by
     have:eHas e k j=true:=by
      unfold eHas;rw [QA hm,qv,hx];rfl
     unfold eSet;rw [QA (by rw [this];simp [zw]),hW];simp [ePut,hm,vZ,hk]
    rw [e1] at hR;have hkA:k<A.length:=by rw [em2.r.len];exact hk
    have hAk:A[k]? =some A[k]:=Qa hkA;rcases em2.f with ⟨hA,_⟩ | ⟨fd,rfl,lF,hfd,_⟩
    ·simp at hA;rw [hA] at hkA;simp at hkA
    rcases em2.r.row k _ _ hAk (Qa hk) with ⟨z,_⟩ | ⟨id,hAr,lA,hid⟩
    ·rw [z] at hj;simp at hj
    have em3:=em2.setA (by rw [hAk,hAr]) (e.Xz[k].set j (v % 2^W)) (by simp);have i1:¬id=N1/\¬N1=id:=by have:=aW lA lN1 (by simp);exact ⟨this,fun e=>this e.symm⟩
    have i0:¬id=0/\¬0=id:=by omega
    have f1:¬fd=N1/\¬N1=fd:=by have:=aW lF lN1 (by simp);exact ⟨this,fun e=>this e.symm⟩
    have hst:(e.Xz[k].map c32).set j [AV.int .u32 (v % 2^W)]=(e.Xz[k].set j (v % 2^W)).map c32:=by rw [uX];simp [c32]
    simp only [tH] at*;simp [zG,Prg.e,Envt.ce,hr,t0,n0,aA,uK,hw,hW0,q1,q2,hm,hmd,hO2,lN1,l02,lF,hkA,hAr,lA,hj,i1,i0,f1,c32,-retP];rw [hst,<- hR];exact yret em3
theorem EM.newA {O:List (Nat×AO)} {B:Nat} {V F M:AV} {A:List AV} {e:Envt} (h:EM O B V F M A e) {fd n:Nat} (hF:F= .row fd 1 0 n) {k:Nat} (hk:k<A.length) {nid N:Nat} (hT:Tail O N) (hn:N<=nid) (hB:B<=nid) (l':List Int):
  EM (setl fd (.row 1 ((A.set k (.row nid 1 0 l'.length)).map fun x=>[x])) O++[(nid,.row 1 (l'.map c32))]) B V F M (A.set k (.row nid 1 0 l'.length)) { e with Xz:=e.Xz.set k l' }:=by
 obtain ⟨v,m,f,r,mne⟩:=h;rcases f with ⟨hA,_⟩ | ⟨fd',h1,lF,hfB,hne⟩
 ·simp at hA;rw [hA] at hk;simp at hk
 rw [hF] at h1;cases h1;subst hF;have pres:∀(j:Nat) (es:List (List AV)),(∀x∈es,(∃b,x=[.bool b])\/∃k n,x=[.int k n])->look j O=some (.row 1 es)->look j (setl fd (.row 1 ((A.set k (.row nid 1 0 l'.length)).map fun x=>[x])) O++[(nid,.row 1 (l'.map c32))])=some (.row 1 es):=fun j es he hj=>by
  rw [aC,EF lF hj fun z=>hne (by have:=r.head he z;rw [z,this])];rfl
 have hi:∀l:List Int,∀x∈l.map c32,(∃b,x=[AV.bool b])\/∃k n,x=[AV.int k n]:=fun l x hx=>by obtain ⟨y,_,rfl⟩:=iU.1 hx;exact .inr ⟨_,_,rfl⟩
 have fN:=hT.lt lF;have old:∀{j id n:Nat},A[j]? =some (.row id 1 0 n)->id<N:=fun {j id n} hj=>r.lt hT hj
 refine ⟨v.fr fun j _ hj=>pres j _ (fun x hx=>by obtain ⟨y,_,rfl⟩:=iU.1 hx;exact .inl ⟨_,rfl⟩) hj,m.fr fun j _ hj=>pres j _ (hi _) hj,.inr ⟨fd,by simp,?_,hfB,by simpa using hne⟩,⟨by simp [r.len],fun j x l hj hl=>?_,fun j j' id m m' hj hj'=>?_⟩,fun j id m m' hj=>?_⟩
 ·rw [aC,aA,a9 rfl,lF];rfl
 ·rw [List.getElem?_set] at hj hl;rw [a9 hk] at hj;rw [r.len] at hk;rw [a9 hk] at hl;split at hj
  ·rename_i q;rw [a9 q] at hl;cases hj;cases hl;refine .inr ⟨nid,rfl,?_,hB⟩;rw [aC,aA,QA (by omega),hT nid hn];simp
  ·rename_i q;rw [QA q] at hl;rcases r.row j x l hj hl with h | ⟨id,g1,g2,g3⟩
   ·exact .inl h
   ·exact .inr ⟨id,g1,pres id _ (hi l) g2,g3⟩
 ·rw [List.getElem?_set,a9 hk] at hj hj';split at hj<;>split at hj'
  ·omega
  ·cases hj;have:=old hj';omega
  ·cases hj';have:=old hj;omega
  ·exact r.inj j j' id m m' hj hj'
 ·rw [List.getElem?_set,a9 hk] at hj;split at hj
  ·cases hj;intro hM;rcases ‹NRw O B M _› with ⟨_,hM2⟩ | ⟨im,hM2,lM,_⟩
   ·rw [hM2] at hM;cases hM
   ·rw [hM2] at hM;cases hM;have:=hT.lt lM;omega
  ·exact mne j id m m' hj
theorem QH (e:Envt) (s:EvS e) (hm0:e.metaF≠[]) (hs:e.Xz.length=e.valid.length) (k:Nat) (hk:k<e.valid.length) (b:Bool):
  a8 Φ 346 [.agg e.c,a7 k,.bool b]=some (.val (.agg (eSw e k b).c)):=by
 rw [aB rfl rfl];have T1:Tail [(0,AO.row 4 [z4])] 1:=Tail_cons_iff.2 ⟨by omega,Tail.nil _⟩;obtain ⟨O1,N1,V,F,M,A,tk,hr,em,kp,T,hN1,nr⟩:=UI T1 (.one (by simp)) s (AE.imm _ 1 e);obtain ⟨im,rfl,lM,him⟩:∃im,M= .row im 1 0 e.metaF.length/\look im O1=some (.row 1 (e.metaF.map c32))/\1<=im:=by
  rcases em.m with ⟨z,_⟩ | ⟨im,h,l,hi,_⟩
  ·exact absurd (by simpa using z) hm0
  ·exact ⟨im,by simpa using h,l,hi⟩
 have l0:look 0 O1=some (.row 4 [z4]):=by rw [kp 0 (by omega) (by simp)];rfl
 have t0:=T N1 (Qb _);have tt:∀k,look (N1+k) O1=none:=fun k=>T _ (by omega)
 have n0:¬0=N1/\¬N1=0:=by omega
 have em2:=em.app [(N1,.row 4 [[V,F,.row im 1 0 e.metaF.length,.app 1 (e.payload.map c8) tk]])];have lN1:look N1 (O1++[(N1,.row 4 [[V,F,.row im 1 0 e.metaF.length,.app 1 (e.payload.map c8) tk]])])=some (.row 4 [[V,F,.row im 1 0 e.metaF.length,.app 1 (e.payload.map c8) tk]]):=by rw [aC,t0];simp
 have l02:look 0 (O1++[(N1,.row 4 [[V,F,.row im 1 0 e.metaF.length,.app 1 (e.payload.map c8) tk]])])=some (.row 4 [z4]):=bL l0;have T2:Tail (O1++[(N1,AO.row 4 [[V,F,.row im 1 0 e.metaF.length,.app 1 (e.payload.map c8) tk]])]) (N1+1):=T.app1 (Qb _);have nr2:NR (O1++[(N1,AO.row 4 [[V,F,.row im 1 0 e.metaF.length,.app 1 (e.payload.map c8) tk]])]):=nr.app (.one (by simp));simp only [z4] at hr l02;rw [Envt.ce];generalize hO2:O1++[(N1,AO.row 4 [[V,F,.row im 1 0 e.metaF.length,.app 1 (e.payload.map c8) tk]])]=O2 at*;have hkA:k<A.length:=by rw [em2.r.len,hs];exact hk
 have hkF:k<e.Xz.length:=by rw [hs];exact hk
 have hAk:A[k]? =some A[k]:=Qa hkA;rcases em2.v with ⟨z,_⟩ | ⟨iv,rfl,lV,hiv,_⟩
 ·have:e.valid=[]:=by simpa using z
  rw [this] at hk;simp at hk
 rcases em2.f with ⟨hA,_⟩ | ⟨fd,rfl,lF,hfd,_⟩
 ·simp at hA;rw [hA] at hkA;simp at hkA
 have em3:=em2.setV rfl (e.valid.set k b) (by simp);have hst:(e.valid.map cB).set k [AV.bool b]=(e.valid.set k b).map cB:=by rw [uX];simp [cB]
 rw [<- hst] at em3;generalize hR:some (Rt.val (AV.agg (eSw e k b).c))=R;have i0:¬iv=0/\¬0=iv:=by omega
 have i1:¬iv=N1/\¬N1=iv:=by have:=aW lV lN1 (by simp);exact ⟨this,fun e=>this e.symm⟩
 have f1:¬fd=N1/\¬N1=fd:=by have:=aW lF lN1 (by simp);exact ⟨this,fun e=>this e.symm⟩
 simp only [tH] at*;have fv:¬fd=iv/\¬iv=fd:=by
  have:fd≠iv:=aW lF lV fun z=>by
   injection z with _ z
   have:=em2.r.head (fun x hx=>by obtain ⟨y,_,rfl⟩:=iU.1 hx;exact .inl ⟨_,rfl⟩) z;simp at this;rw [this] at hk;simp at hk
  exact ⟨this,fun e=>this e.symm⟩
 have hlen:lenOf A[k]=some e.Xz[k].length:=by
  rcases em2.r.row k _ _ hAk (Qa hkF) with ⟨z,h⟩ | ⟨id,h,_⟩<;>rw [h]
  ·rw [z];rfl
  ·rfl
 have hlb:=s.g _ (Qd hkF);have b1:(e.Xz[k].length:Int)<4611686018427387904:=by omega
 have b2:(e.Xz[k].length:Int)*4<=140737488355328:=by omega
 have fN:=T2.lt lF;have iN:=T2.lt lV;have tk2:∀j,look (N1+1+j) O2=none:=fun j=>T2 _ (by omega)
 have nn:(¬N1+1+29=fd/\¬fd=N1+1+29)/\(¬N1+1+29=iv/\¬iv=N1+1+29)/\¬N1+1+29=N1/\¬N1=N1+1+29/\¬N1+1+29=0/\¬0=N1+1+29:=by omega
 have nq:(N1 == N1+1+29)=false:=by simp;omega
 have hsw:∀a b c,eT (setl fd (.row 1 a) (setl iv (.row 1 b) O2++[(N1+1+29,.row 1 c)]))=setl fd (.row 1 a) (setl iv (.row 1 b) O2++[(N1+1+29,.row 1 c)]):=fun a b c=>((nr2.setl (by simp)).app (.one (by simp))).setl (by simp)
 have f0:¬fd=0/\¬0=fd:=by omega
 simp [I7,hr,t0,n0,aC,aA,nG,nr2.eq,nr2.sw,eY,uK,hO2,lN1,l02,lV,lF,hk,hkA,i0,i1,f1,fv,hlen,b1,b2,tk2,nn,nq,hsw,f0,cB,-retP,-lenOf];have e2:eSw e k b={ e with valid:=e.valid.set k b,Xz:=e.Xz.set k (e.Xz[k].map fun _=>0) }:=by
  unfold eSw;rw [vZ,Qa hkF,nO]
 have hrep:List.replicate e.Xz[k].length [AV.int .u32 0]=(e.Xz[k].map fun _=>(0:Int)).map c32:=by
  rw [E1,<- MB];rfl
 have em4:=em3.newA rfl hkA (bB T2) (show N1+1<=N1+1+29 by omega) (by omega) (e.Xz[k].map fun _=>0);rw [<- hrep,tH,uX] at em4;have lF':look fd (setl iv (.row 1 ((e.valid.map cB).set k [AV.bool b])) O2)=some (.row 1 (A.map fun x=>[x])):=by rw [aA,QA fv.1,lF]
 rw [<- hR,e2,uU lF'];have:=yret (N:=N1+1+29+1) (tk:=tk) (x:=[[.row iv 1 0 e.valid.length,.row fd 1 0 A.length,.row im 1 0 e.metaF.length,.app 1 (e.payload.map c8) tk]]) em4;simpa using this
theorem Hy (p:Prg) (e:Envt) (s:EvS e) (hm0:e.metaF≠[]) (hs:e.Xz.length=e.valid.length) (h:Int):
  a8 Φ 259 [.agg p.c,.agg e.c,a7 h]=some (.val (.agg (eAdd p e h).c)):=by
 rw [aB rfl rfl];have hc:=RC e s;rw [Envt.ce] at hc;by_cases h0:h<0
 ·have e1:eAdd p e h=e:=by simp [eAdd,cY h0]
  rw [e1];simp [sX,Prg.e,Envt.ce,h0,hc]
 by_cases h1:(p.Xo.length:Int)<=h
 ·have e1:eAdd p e h=e:=by simp [eAdd,cW h1]
  rw [e1];simp [sX,Prg.e,Envt.ce,h0,h1,hc]
 by_cases h2:(e.valid.length:Int)<=h
 ·have e1:eAdd p e h=e:=by simp [eAdd,cW h2]
  rw [e1];simp [sX,Prg.e,Envt.ce,h0,h1,h2,hc]
 obtain ⟨m,rfl⟩:=f9 (show 0<=h by omega);have h1':¬p.Xo.length<=m:=by omega
 have h2':¬e.valid.length<=m:=by omega
 have hm:m<e.valid.length:=by omega
 have hp:m<p.Xo.length:=by omega
 have hv:=QH e s hm0 hs m hm true;cases q:e.valid[m] with
 | true=>
  have e1:eAdd p e m=e:=by simp [eAdd,hm,q]
  rw [e1];simp [sX,Prg.e,Envt.ce,h1',h2',hm,q,cB,hc]
 | false=>
  have e1:eAdd p e m=eSw e m true:=by simp [eAdd,hm,hp,q]
  rw [e1];rw [Envt.ce] at hv;generalize eSw e m true=z at*;rw [Envt.ce] at hv;simp [sX,Prg.e,Envt.ce,h1',h2',hm,q,cB,hv]
theorem Ie (p:Prg) (e:Envt) (s:EvS e) (hm0:e.metaF≠[]) (hs:e.Xz.length=e.valid.length) (h:Int):
  a8 Φ 260 [.agg p.c,.agg e.c,a7 h]=some (.val (.agg (eRem p e h).c)):=by
 rw [aB rfl rfl];have hc:=RC e s;rw [Envt.ce] at hc;by_cases h0:h<0
 ·have e1:eRem p e h=e:=by simp [eRem,cY h0]
  rw [e1];simp [vJ,Prg.e,Envt.ce,h0,hc]
 by_cases h1:(p.Xo.length:Int)<=h
 ·have e1:eRem p e h=e:=by simp [eRem,cW h1]
  rw [e1];simp [vJ,Prg.e,Envt.ce,h0,h1,hc]
 by_cases h2:(e.valid.length:Int)<=h
 ·have e1:eRem p e h=e:=by simp [eRem,cW h2]
  rw [e1];simp [vJ,Prg.e,Envt.ce,h0,h1,h2,hc]
 obtain ⟨m,rfl⟩:=f9 (show 0<=h by omega);have h1':¬p.Xo.length<=m:=by omega
 have h2':¬e.valid.length<=m:=by omega
 have hm:m<e.valid.length:=by omega
 have hp:m<p.Xo.length:=by omega
 have hv:=QH e s hm0 hs m hm false;have e1:eRem p e m=eSw e m false:=by simp [eRem,hm,hp]
 rw [e1];rw [Envt.ce] at hv;generalize eSw e m false=z at*;rw [Envt.ce] at hv;simp [vJ,Prg.e,Envt.ce,h1',h2',hv]
section
variable {G:Type} (m:G->Bool) (pr:G->G->Bool)
def W8 (l:List G):Option G:=l.find? fun r=>m r&& !(l.any fun x=>m x&&pr x r)
def tC (o:Option G) (r:G):Option G:=if m r&&(match o with | none=>true | some b=>pr r b) then some r else o
def KW (l:List G):Option G:=l.foldl (tC m pr) none
variable {m pr}
theorem sj (irr:∀a,pr a a=false) (tr:∀a b c,pr a b=true->pr b c=true->pr a c=true):∀(l s:List G) (o:Option G),(∀a∈s++l,∀b∈s++l,a≠b->pr a b=true\/pr b a=true)->
  (match o with | none=>∀x∈s,m x=false | some r=>r∈s/\m r=true/\∀x∈s,m x=true->pr x r=false)->
  match l.foldl (tC m pr) o with | none=>∀x∈s++l,m x=false | some r=>r∈s++l/\m r=true/\∀x∈s++l,m x=true->pr x r=false
 | [],s,o,_,h=>by simpa using h
 | a::l,s,o,ht,h=>by
  have hh:s++a::l=(s++[a])++l:=by simp
  rw [hh] at ht ⊢;rw [QD];refine sj irr tr l (s++[a]) _ ht ?_;cases o with
  | none=>
   simp only at h;cases hm:m a with
   | false=>
    simp only [tC,hm,MC];intro x hx;rcases nE.1 hx with hx | hx
    ·exact h x hx
    ·simp at hx;subst hx;exact hm
   | true=>
    simp only [tC,hm,KD,if_true];refine ⟨by simp,trivial,?_⟩;intro x hx hmx;rcases nE.1 hx with hx | hx
    ·rw [h x hx] at hmx;cases hmx
    ·simp at hx;subst hx;exact irr x
  | some b=>
   obtain ⟨h1,h2,h3⟩:=h;cases hm:m a with
   | false=>
    simp only [tC,hm,MC];refine ⟨by simp [h1],h2,?_⟩;intro x hx hmx;rcases nE.1 hx with hx | hx
    ·exact h3 x hx hmx
    ·simp at hx;subst hx;rw [hm] at hmx;cases hmx
   | true=>
    cases hp:pr a b with
    | true=>
     simp only [tC,hm,hp,KD,if_true];refine ⟨by simp,trivial,?_⟩;intro x hx hmx;rcases nE.1 hx with hx | hx
     ·refine TM.2 fun hc=>?_
      have:=tr x a b hc hp;rw [h3 x hx hmx] at this;cases this
     ·simp at hx;subst hx;exact irr x
    | false=>
     simp only [tC,hm,hp,Bool.and_false];refine ⟨by simp [h1],h2,?_⟩;intro x hx hmx;rcases nE.1 hx with hx | hx
     ·exact h3 x hx hmx
     ·simp at hx;subst hx;exact hp
theorem Hr (irr:∀a,pr a a=false) (tr:∀a b c,pr a b=true->pr b c=true->pr a c=true) (l:List G) (ht:∀a∈l,∀b∈l,a≠b->pr a b=true\/pr b a=true):W8 m pr l=KW m pr l:=by
 have h:=sj (m:=m) irr tr l [] none (by simpa using ht) (by simp);simp only [yY] at h;unfold KW;cases hr:l.foldl (tC m pr) none with
 | none=>
  rw [hr] at h;simp only at h;unfold W8;rw [List.find?_eq_none];intro x hx;simp [h x hx]
 | some r=>
  rw [hr] at h;simp only at h;obtain ⟨h1,h2,h3⟩:=h;have hbeat:(l.any fun x=>m x&&pr x r)=false:=by
   rw [List.any_eq_false];intro x hx;cases hm:m x with
   | false=>simp
   | true=>simp [h3 x hx hm]
  unfold W8;have huniq:∀y∈l,(m y&& !(l.any fun x=>m x&&pr x y))=true->y=r:=by
   intro y hy hc;simp only [d7,AP] at hc;refine Classical.byContradiction fun hne=>?_
   rcases ht y hy r h1 hne with hp | hp
   ·rw [h3 y hy hc.1] at hp;cases hp
   ·have:=List.any_eq_false.1 hc.2 r h1;simp [h2,hp] at this
  cases hf:l.find? (fun r=>m r&& !(l.any fun x=>m x&&pr x r)) with
  | none=>
   rw [List.find?_eq_none] at hf;have:=hf r h1;simp [h2] at this;obtain ⟨x,hx,hmx,hp⟩:=this;rw [h3 x hx hmx] at hp;cases hp
  | some y=>
   rw [huniq y (WO hf) (by have:=List.find?_some hf;exact this)]
end
def noE:Entry:=⟨[],0,⟨0,[]⟩⟩
theorem noE_s:EntS noE:=⟨by simp [noE],by simp [noE],by simp [noE],by simp [noE]⟩
theorem lk_ge {j:Nat}:∀{L:List (Nat×AO)},(∀x∈L,j<x.1)->look j L=none
 | [],_=>rfl
 | (u,w)::r,h=>by
  have:=h (u,w) (by simp);have hr:=lk_ge (L:=r) fun x hx=>h x (by simp [hx])
  have hu:¬u=j:=by simp only at this;omega
  simp [look,hu,hr]
theorem lk_lt {j:Nat}:∀{L:List (Nat×AO)},(∀x∈L,x.1<j)->look j L=none
 | [],_=>rfl
 | (u,w)::r,h=>by
  have:=h (u,w) (by simp);have hr:=lk_lt (L:=r) fun x hx=>h x (by simp [hx])
  have hu:¬u=j:=by simp only at this;omega
  simp [look,hu,hr]
theorem Kp.apps {X:Nat->Prop} {N:Nat} {O L:List (Nat×AO)} (h:∀x∈L,N<=x.1):Kp X N O (O++L):=fun j hj _=>by
 rw [aC,lk_ge (L:=L) fun x hx=>by have:=h x hx;omega];cases look j O<;>rfl
theorem Tail.apps {N M:Nat} {O L:List (Nat×AO)} (hT:Tail O N) (hn:N<=M) (h:∀x∈L,x.1<M):Tail (O++L) M:=fun j hj=>by
 rw [aC,hT j (by omega),lk_lt (L:=L) fun x hx=>by have:=h x hx;omega];rfl
set_option maxRecDepth 4000
def osum (a:Nat):Nat->Nat
 | 0=>0
 | i+1=>osum a i+a / 2^i % 2
theorem jp (a:Nat):∀i,osum a i<=i
 | 0=>Qb _
 | i+1=>by have:=jp a i;simp only [osum];omega
def M2 (v:Int):Int:=(osum v.toNat 32:Nat)
theorem It (n:Nat):iand .u32 (n:Int) 1=(n:Int) % 2:=by
 unfold iand;have e3:(BitVec.ofInt 32 (n:Int)&&& BitVec.ofInt 32 1).toNat=((n:Int) % 4294967296).toNat % 2:=by
  rw [TQ];have:(BitVec.ofInt 32 1).toNat=2^1 - 1:=rfl;rw [this,Nat.and_two_pow_sub_one_eq_mod,BitVec.toNat_ofInt];rfl
 rw [show IntKind.bits .u32=32 from rfl,e3];simp only [IntKind.wrap,IntKind.bits,IntKind.signed];simp;omega
theorem Lv (n i:Nat) (h:i<32):ishr .u32 (n:Int) (i:Int)=((n / 2^i:Nat):Int):=by
 unfold ishr;have:min (i:Int).toNat IntKind.u32.bits=i:=by simp [IntKind.bits];omega
 rw [this,Int.fdiv_eq_ediv_of_nonneg _ (by exact zB (zY (by decide)))];rw [Int.natCast_ediv,Int.natCast_pow];rfl
theorem Lj (n:Nat) (hn:n<2^32):a8 Φ 384 [.int .u32 (n:Int)]=some (.val (a7 (osum n 32:Nat))):=by
 rw [aB rfl rfl];simp [IQ];refine dC 32 (fun i e=>look 0 e=some (.int .u32 (n:Int))/\look 3 e=some (a7 (osum n i:Nat))/\look 5 e=some (a7 i)) (fun _=>some (Rt.val (a7 (osum n 32:Nat)))) ?_ ?_ 0 _ (Qc _) ?_
 ·rintro i e L hi hL ⟨h0,h3,h5⟩ ih;have hw:=aF i (by omega);have hb:=jp n i;have h1:=Lv n i hi;have h2:=It (n / 2^i);have hq:osum n (i+1)=osum n i+n / 2^i % 2:=rfl;generalize n / 2^i=q at*;have hc:IntKind.wrap .i64 ((q:Int) % 2)=(q:Int) % 2:=aQ;have hs:IntKind.wrap .i64 ((osum n i:Nat)+((q:Int) % 2))=((osum n (i+1):Nat):Int):=by
   rw [aQ,hq];omega
  have hi':(i:Int)<32:=by omega
  simp [mE,h0,h3,h5,hi',hL,h1,h2,hc,hs,hw];exact ih _ ⟨by simp [h0],by simp,by simp⟩
 ·rintro e L hL ⟨h0,h3,h5⟩;simp [mE,rX,h3,h5,hL]
 ·simp [osum]
theorem Ev (n:Nat) (hn:n<2^32):a8 Φ 403 [.int .u32 (n:Int)]=some (.val (a7 (osum n 32:Nat))):=by
 rw [aB rfl rfl];simp [J7];refine dC 32 (fun i e=>look 0 e=some (.int .u32 ((n / 2^i:Nat):Int))/\look 3 e=some (a7 (osum n i:Nat))/\look 4 e=some (a7 i)) (fun _=>some (Rt.val (a7 (osum n 32:Nat)))) ?_ ?_ 0 _ (Qc _) ?_
 ·rintro i e L hi hL ⟨h0,h3,h5⟩ ih;have hw:=aF i (by omega);have hb:=jp n i;have hq:osum n (i+1)=osum n i+n / 2^i % 2:=rfl;have hd:n / 2^(i+1)=n / 2^i / 2:=by rw [Nat.pow_succ,Nat.div_div_eq_div_mul]
  have hle:n / 2^i<=n:=Nat.div_le_self _ _;generalize n / 2^i=q at*;have hm:(q:Int).tmod 2=(q:Int) % 2:=AJ (by omega);have hv:(q:Int).tdiv 2=(q:Int) / 2:=K9 (by omega);have hc:IntKind.wrap .i64 ((q:Int) % 2)=(q:Int) % 2:=aQ;have hs:IntKind.wrap .i64 ((osum n i:Nat)+((q:Int) % 2))=((osum n (i+1):Nat):Int):=by
   rw [aQ,hq];omega
  have hu:IntKind.wrap .u32 ((q:Int) / 2)=(q:Int) / 2:=by
   have e:(2:Int)^32=4294967296:=rfl;simp [IntKind.wrap,IntKind.bits,IntKind.signed,e];omega
  have hi':(i:Int)<32:=by omega
  simp [mI,h0,h3,h5,hi',hL,hm,hv,hc,hs,hu,hw];exact ih _ ⟨by simp [hd],by simp,by simp⟩
 ·rintro e L hL ⟨h0,h3,h5⟩;simp [mI,s8,h3,h5,hL]
 ·simp [osum]
theorem Fd {v:Int} (h:ok32 0 v):a8 Φ 384 [.int .u32 v]=some (.val (a7 (M2 v))):=by
 obtain ⟨h1,h2⟩:=h;obtain ⟨n,rfl⟩:∃n:Nat,v=n:=⟨v.toNat,by omega⟩;have:=Lj n (by omega);simpa [M2] using this
theorem Bm {v:Int} (h:ok32 0 v):a8 Φ 403 [.int .u32 v]=some (.val (a7 (M2 v))):=by
 obtain ⟨h1,h2⟩:=h;obtain ⟨n,rfl⟩:∃n:Nat,v=n:=⟨v.toNat,by omega⟩;have:=Ev n (by omega);simpa [M2] using this
def pfx:List Xk->List Xh->Int
 | [],_=>0
 | k::ks,xs=>if k.kind=2 then (match xs with | m::_=>M2 m.Yd | []=>0) else pfx ks (xs.drop 1)
def pfxZ (p:Prg) (t:Int) (x:Entry):Int:=match at? p.Xm t with
 | some tb=>pfx tb.keys x.keys
 | none=>0
theorem ux (k:Xk) (ks:List Xk) (xs:List Xh):pfx (k::ks) xs=if k.kind=2 then (match xs with | m::_=>M2 m.Yd | []=>0) else pfx ks (xs.drop 1):=rfl
theorem P1 {ks:List Xk} {xs:List Xh} {i:Nat} (hi:i<ks.length) (h:ks[i].kind=2):pfx (ks.drop i) (xs.drop i)=if hx:i<xs.length then M2 xs[i].Yd else 0:=by
 rw [Qi hi,ux,a9 h];by_cases hx:i<xs.length
 ·rw [dif_pos hx,Qi hx]
 ·rw [dif_neg hx,List.drop_eq_nil_of_le (by omega)]
theorem uy {ks:List Xk} {xs:List Xh} {i:Nat} (hi:i<ks.length) (h:¬ks[i].kind=2):pfx (ks.drop i) (xs.drop i)=pfx (ks.drop (i+1)) (xs.drop (i+1)):=by
 rw [Qi hi,ux,QA h,F5]
theorem OZ (ks:List Xk) (xs:List Xh):pfx (ks.drop ks.length) xs=0:=by simp [pfx]
theorem tu (p:Prg) (f:PrgS p) (t:Int) (x:Entry) (hx:EntS x):a8 Φ 351 [.agg (Prg.c p),a7 t,.agg (Entry.c x)]=some (.val (a7 (pfxZ p t x))):=by
 rw [aB rfl rfl];by_cases i0:t<0
 ·simp [yE,Prg.e,Entry.ce,pfxZ,cY i0,i0]
 by_cases i1:(p.Xm.length:Int)<=t
 ·simp [yE,Prg.e,Entry.ce,pfxZ,cW i1,i0,i1]
 obtain ⟨k,rfl⟩:∃k:Nat,t=k:=⟨t.toNat,by omega⟩;have hk:k<p.Xm.length:=by omega
 have hR:pfxZ p k x=pfx p.Xm[k].keys x.keys:=by rw [pfxZ,oV,Qa hk]
 rw [hR];generalize hQ:pfx p.Xm[k].keys x.keys=Q;have hkl:=f.tk p.Xm[k] (Qd hk);simp [yE,Prg.e,Entry.ce,Tbl.e,i0,i1,hk];refine cV p.Xm[k].keys.length (fun _=>[]) 0 (fun i e=>pfx (p.Xm[k].keys.drop i) (x.keys.drop i)=Q/\look 5 e=some (.iptr 4 [Entry.c x] 0 0)/\look 23 e=some (.slice 3 (p.Xm[k].keys.map Xk.c))/\look 24 e=some (a7 p.Xm[k].keys.length)/\look 25 e=some (a7 i)) (fun _=>some (Rt.val (a7 Q))) ?_ ?_ 0 _ _ (Qc _) (Qc _) ?_
 ·rintro i e n L hi hL - ⟨he,h5,h23,h24,h25⟩ ih;have hw:=aF i (by omega);rw [Entry.ce] at h5;by_cases z:p.Xm[k].keys[i].kind=2
  ·rw [P1 hi z] at he;by_cases q:i<x.keys.length
   ·rw [dif_pos q] at he;have ho:=Fd (hx.ks x.keys[i] (Qd q)).2;simp [eN,Xk.e,Xh.ce,h5,h23,h24,h25,hi,hL,z,q,ho,he]
   ·rw [dif_neg q] at he;simp [eN,Xk.e,Xh.ce,h5,h23,h24,h25,hi,hL,z,q,<- he]
  ·rw [uy hi z] at he;simp [eN,Xk.e,h5,h23,h24,h25,hi,hL,z,hw];exact ih _ _ (Qc _) ⟨he,by simp [h5,Entry.ce],by simp [h23,Xk.e],by simp [h24],by simp⟩
 ·rintro e n L hL - ⟨he,h5,h23,h24,h25⟩;rw [OZ] at he;simp [eN,rM,h23,h24,h25,hL,<- he]
 ·exact ⟨by simpa using hQ,by simp [Entry.ce],by simp,by simp,by simp⟩
theorem qw (p:Prg) (f:PrgS p) (t:Int) (x:Entry) (hx:EntS x):a8 Φ 380 [.agg (Prg.c p),a7 t,.agg (Entry.c x)]=some (.val (a7 (pfxZ p t x))):=by
 rw [aB rfl rfl];by_cases i0:t<0
 ·simp [yI,Prg.e,Entry.ce,pfxZ,cY i0,i0]
 by_cases i1:(p.Xm.length:Int)<=t
 ·simp [yI,Prg.e,Entry.ce,pfxZ,cW i1,i0,i1]
 obtain ⟨k,rfl⟩:∃k:Nat,t=k:=⟨t.toNat,by omega⟩;have hk:k<p.Xm.length:=by omega
 have hR:pfxZ p k x=pfx p.Xm[k].keys x.keys:=by rw [pfxZ,oV,Qa hk]
 rw [hR];generalize hQ:pfx p.Xm[k].keys x.keys=Q;have hkl:=f.tk p.Xm[k] (Qd hk);simp [yI,Prg.e,Entry.ce,i0,i1];refine cV p.Xm[k].keys.length (fun _=>[]) 0 (fun i e=>pfx (p.Xm[k].keys.drop i) (x.keys.drop i)=Q/\look 1 e=some (a7 k)/\look 3 e=some (.iptr 9 [Prg.c p] 0 0)/\look 5 e=some (.iptr 4 [Entry.c x] 0 0)/\look 7 e=some (a7 i)) (fun _=>some (Rt.val (a7 Q))) ?_ ?_ 0 _ _ (Qc _) (Qc _) ?_
 ·rintro i e n L hi hL - ⟨he,h1,h3,h5,h7⟩ ih;have hw:=aF i (by omega);rw [Entry.ce] at h5;rw [Prg.e] at h3;by_cases z:p.Xm[k].keys[i].kind=2
  ·rw [P1 hi z] at he;by_cases q:i<x.keys.length
   ·rw [dif_pos q] at he;have ho:=Bm (hx.ks x.keys[i] (Qd q)).2;have q':¬x.keys.length<=i:=by omega
    simp [eO,Tbl.e,Xk.e,Xh.ce,h1,h3,h5,h7,hk,hi,hL,z,q,q',ho,he]
   ·rw [dif_neg q] at he;have q':x.keys.length<=i:=by omega
    simp [eO,Tbl.e,Xk.e,Xh.ce,h1,h3,h5,h7,hk,hi,hL,z,q,q',<- he]
  ·rw [uy hi z] at he;simp [eO,Tbl.e,Xk.e,h1,h3,h5,h7,hk,hi,hL,z,hw];exact ih _ _ (Qc _) ⟨he,by simp [h1],by simp [h3,Prg.e],by simp [h5,Entry.ce],by simp⟩
 ·rintro e n L hL - ⟨he,h1,h3,h5,h7⟩;rw [OZ] at he;rw [Prg.e] at h3;simp [eO,rV,Tbl.e,h1,h3,h7,hk,hL,<- he]
 ·exact ⟨by simpa using hQ,by simp,by simp [Prg.e],by simp [Entry.ce],by simp⟩
def prc (p:Prg) (t:Int) (a b:Rw):Bool:=if a.entry.Xs≠b.entry.Xs then decide (b.entry.Xs<a.entry.Xs) else if pfxZ p t a.entry≠pfxZ p t b.entry then decide (pfxZ p t b.entry<pfxZ p t a.entry) else decide (a.id<b.id)
theorem XM (p:Prg) (f:PrgS p) (t:Int) (a b:Rw) (ha:EntS a.entry) (hb:EntS b.entry):a8 Φ 285 [.agg (Prg.c p),a7 t,.agg (Rw.c a),.agg (Rw.c b)]=some (.val (.bool (prc p t a b))):=by
 rw [aB rfl rfl];have k1:=tu p f t a.entry ha;have k2:=tu p f t b.entry hb;simp only [Prg.e,Entry.ce] at k1 k2;by_cases q1:a.entry.Xs=b.entry.Xs
 ·rw [q1] at k1;by_cases q2:pfxZ p t a.entry=pfxZ p t b.entry
  ·simp [xU,Prg.e,Rw.ce,prc,k1,k2,q1,q2]
  ·simp [xU,Prg.e,Rw.ce,prc,k1,k2,q1,q2]
 ·simp [xU,Prg.e,Rw.ce,prc,q1]
theorem qzn (p:Prg) (f:PrgS p) (t:Int) (a b:Rw) (ha:EntS a.entry) (hb:EntS b.entry):a8 Φ 345 [.agg (Prg.c p),a7 t,.agg (Rw.c a),.agg (Rw.c b)]=some (.val (.bool (prc p t a b))):=by
 rw [aB rfl rfl];have k1:=qw p f t a.entry ha;have k2:=qw p f t b.entry hb;simp only [Prg.e,Entry.ce] at k1 k2;by_cases q1:a.entry.Xs=b.entry.Xs
 ·rw [q1] at k1;by_cases q2:pfxZ p t a.entry=pfxZ p t b.entry
  ·simp [yC,Prg.e,Rw.ce,prc,k1,k2,q1,q2]
  ·simp [yC,Prg.e,Rw.ce,prc,k1,k2,q1,q2]
 ·simp [yC,Prg.e,Rw.ce,prc,k1,k2,q1]
def CU (m:Xh) (v:Int):Prop:=iand .u32 (ixor .u32 v m.value) m.Yd=0
instance (m:Xh) (v:Int):Decidable (CU m v):=by unfold CU;infer_instance
def mts:List Xh->List Int->Bool
 | m::ms,v::vs=>if CU m v then mts ms vs else false
 | _,_=>true
def mtF (x:Entry) (key:List Int):Bool:=decide (x.keys.length=key.length)&&mts x.keys key
theorem PY {l:List Xh} {k:List Int} {i:Nat} (h1:i<l.length) (h2:i<k.length) (h:CU l[i] k[i]):mts (l.drop i) (k.drop i)=mts (l.drop (i+1)) (k.drop (i+1)):=by
 rw [Qi h1,Qi h2,mts,a9 h]
theorem wi {l:List Xh} {k:List Int} {i:Nat} (h1:i<l.length) (h2:i<k.length) (h:¬CU l[i] k[i]):mts (l.drop i) (k.drop i)=false:=by
 rw [Qi h1,Qi h2,mts,QA h]
theorem Z6 (x:Entry) (hx:x.keys.length<2^40) (key:List Int):a8 Φ 281 [.agg (Entry.c x),.slice 1 (key.map c32)]=some (.val (.bool (mtF x key))):=by
 rw [aB rfl rfl];by_cases q:x.keys.length=key.length
 rotate_left
 ·have q':¬key.length=x.keys.length:=fun h=>q h.symm
  simp [BP,Entry.ce,mtF,q,q']
 have hR:mtF x key=mts x.keys key:=by simp [mtF,q]
 rw [hR];generalize hQ:mts x.keys key=Q;simp [BP,Entry.ce,q];refine cV x.keys.length (fun _=>[]) 0 (fun i e=>mts (x.keys.drop i) (key.drop i)=Q/\look 1 e=some (.slice 1 (key.map c32))/\look 14 e=some (.slice 2 (x.keys.map Xh.c))/\look 15 e=some (a7 x.keys.length)/\look 16 e=some (a7 i)) (fun _=>some (Rt.val (.bool Q))) ?_ ?_ 0 _ _ (Qc _) (Qc _) ?_
 ·rintro i e n L hi hL - ⟨he,h1,h14,h15,h16⟩ ih;have hw:=aF i (by omega);have hk:i<key.length:=by omega
  by_cases z:CU x.keys[i] key[i]
  ·rw [PY hi hk z] at he;unfold CU at z;simp [gU,Xh.ce,c32e,h1,h14,h15,h16,hi,hk,hL,z,hw];exact ih _ _ (Qc _) ⟨he,by simp [h1],by simp [h14,Xh.ce],by simp [h15],by simp⟩
  ·rw [wi hi hk z] at he;unfold CU at z;simp [gU,Xh.ce,c32e,h1,h14,h15,h16,hi,hk,hL,z,<- he]
 ·rintro e n L hL - ⟨he,h1,h14,h15,h16⟩;rw [q,QB,OC (by omega)] at he;simp [gU,r6,h14,h15,h16,hL,<- he,mts]
 ·exact ⟨by simpa using hQ,by simp,by simp,by simp [q],by simp⟩
theorem WS (x:Entry) (hx:x.keys.length<2^40) (key:List Int):a8 Φ 344 [.agg (Entry.c x),.slice 1 (key.map c32)]=some (.val (.bool (mtF x key))):=by
 rw [aB rfl rfl];by_cases q:x.keys.length=key.length
 rotate_left
 ·simp [BZ,Entry.ce,mtF,q]
 have hR:mtF x key=mts x.keys key:=by simp [mtF,q]
 rw [hR];generalize hQ:mts x.keys key=Q;simp [BZ,Entry.ce,q];refine cV x.keys.length (fun _=>[]) 0 (fun i e=>mts (x.keys.drop i) (key.drop i)=Q/\look 1 e=some (.slice 1 (key.map c32))/\look 2 e=some (.iptr 4 [Entry.c x] 0 0)/\look 5 e=some (a7 i)) (fun _=>some (Rt.val (.bool Q))) ?_ ?_ 0 _ _ (Qc _) (Qc _) ?_
 ·rintro i e n L hi hL - ⟨he,h1,h2,h5⟩ ih;have hw:=aF i (by omega);have hk:i<key.length:=by omega
  rw [Entry.ce] at h2;by_cases z:CU x.keys[i] key[i]
  ·rw [PY hi hk z] at he;unfold CU at z;simp [gZ,Xh.ce,c32e,h1,h2,h5,hi,hk,hL,z,hw];exact ih _ _ (Qc _) ⟨he,by simp [h1],by simp [h2,Entry.ce],by simp⟩
  ·rw [wi hi hk z] at he;unfold CU at z;simp [gZ,Xh.ce,c32e,h1,h2,h5,hi,hk,hL,z,<- he]
 ·rintro e n L hL - ⟨he,h1,h2,h5⟩;rw [q,QB,OC (by omega)] at he;simp [gZ,rL,h1,h5,q,hL,<- he,mts]
 ·exact ⟨by simpa using hQ,by simp,by simp [Entry.ce],by simp⟩
theorem uq (r:Rw) (hr:EntS r.entry) (key:List Int):a8 Φ 280 [.agg (Rw.c r),.iptr 1 [[.slice 1 (key.map c32)]] 0 0]=some (.val (.bool (mtF r.entry key))):=by
 rw [aB rfl rfl];have h:=Z6 r.entry hr.kl key;simp only [Entry.ce] at h;simp [GW,Rw.ce,h]
def zRow:List AV:=[a7 0,.Xt 2 [],a7 0,a7 0,.Xt 1 []]
def Pm (N:Nat) (O:List (Nat×AO)) (o:Option Rw) (r:Option (Rt×AH)):Prop:=
 ∃O' N',r=some (.val (.tup [.agg (match o with | some x=>Rw.c x | none=>zRow),.bool o.isSome]),⟨O',N'⟩)/\Kp (fun _=>False) N O O'/\Tail O' N'/\N<=N'
theorem PM {O:List (Nat×AO)} {N:Nat} (hT:Tail O N) {L:AV} {l:List Rw} (hL:Re O 5 L (l.map Rw.c)) (hll:l.length<2^40) {g:Nat} {caps caps':List AV} (P:Rw->Bool)
  (hcap:∀O' N',(∀j,j<N->look j O'=look j O)->mapO (snap 40 ⟨O',N'⟩) caps=some caps') (hP:∀x∈l,a8 Φ g (.agg (Rw.c x)::caps')=some (.val (.bool (P x)))):
  Pm N O (l.find? P) (aG Φ 282 [L,.func (.func g) [] caps] ⟨O,N⟩):=by
 rw [eQ rfl rfl];have t0:=hT N (Qb _);have hlen:=hL.len;rw [tH] at hlen;simp [GX,t0,hlen,-lenOf];generalize hR:l.find? P=R;refine cC l.length (fun i e h=>∃O' N',h=⟨O',N'⟩/\(l.drop i).find? P=R/\Kp (fun _=>False) N O O'/\Tail O' N'/\N+1<=N'/\look N O'=some (.row 5 [zRow])/\look 1 e=some (.func (.func g) [] caps)/\look 4 e=some (.ptr N 5 0 0)/\look 9 e=some L/\look 10 e=some (a7 l.length)/\look 11 e=some (a7 i)) _ ?_ ?_ 0 _ _ (Qc _) ?_
 ·rintro i e _ K hi hK ⟨O',N',rfl,hf,hk,hT',hN,hb,h1,h4,h9,h10,h11⟩ ih;have hw:=aF i (by omega);have hv':Re O' 5 L (l.map Rw.c):=by
   refine hL.fr fun j hj=>?_
   cases hL with
   | row id _ es0 n hn hl hle ht=>cases hj;exact hk j (hT.lt hl) (by simp)
   | sl=>cases hj
   | fs=>cases hj
   | ap=>cases hj
  have u0:=hT' N' (Qb _);have nN:¬N=N':=by omega
  have hc:=hcap O' (N'+1) fun j hj=>hk j hj (by simp)
  have hp:=hP l[i] (Qd hi);simp only [Rw.ce] at hp;rw [Qi hi,List.find?_cons] at hf;cases hb2:P l[i] with
  | true=>
   rw [hb2] at hf hp;simp only at hf;subst hf;cases hv' with
   | row id' _ es0 n hn hl' hle ht=>
    have h0:=QV hi ht;simp [cQ,Rw.ce,h1,h4,h9,h10,h11,hi,u0,hn,hl',h0,hc,hp,hb,aA,zRow];exact ⟨_,_,rfl,Kp.setl hk (.inl (Qb _)),bB (hT'.mono (by omega)),by omega⟩
   | _=>
    simp [cQ,Rw.ce,h1,h4,h9,h10,h11,hi,u0,hc,hp,hb,aA,zRow];exact ⟨_,_,rfl,Kp.setl hk (.inl (Qb _)),bB (hT'.mono (by omega)),by omega⟩
  | false=>
   rw [hb2] at hf hp;simp only at hf;cases hv' with
   | row id' _ es0 n hn hl' hle ht=>
    have h0:=QV hi ht;simp [cQ,Rw.ce,h1,h4,h9,h10,h11,hi,hK,u0,hn,hl',h0,hc,hp,hw];exact ih _ _ ⟨_,_,rfl,hf,hk,hT'.mono (by omega),by omega,by simp [hb,zRow],by simp [h1],by simp [h4],by simp [h9],by simp [h10],by simp⟩
   | _=>
    simp [cQ,Rw.ce,h1,h4,h9,h10,h11,hi,hK,u0,hc,hp,hw];exact ih _ _ ⟨_,_,rfl,hf,hk,hT'.mono (by omega),by omega,by simp [hb,zRow],by simp [h1],by simp [h4],by simp [h9],by simp [h10],by simp⟩
 ·rintro e _ K hK ⟨O',N',rfl,hf,hk,hT',hN,hb,h1,h4,h9,h10,h11⟩;have u0:=hT' N' (Qb _);have nN:¬N'=N:=by omega
  have nN':¬N=N':=by omega
  rw [QB] at hf;simp only [List.find?_nil] at hf;subst hf;simp [cQ,r7,h4,h10,h11,hK,u0,hb,aC,aA,nN,nN',zRow];exact ⟨_,_,rfl,Kp.setl (Kp.app hk (by omega)) (.inl (Qb _)),bB (hT'.app1 (Qb _)),by omega⟩
 ·refine ⟨_,_,rfl,by simpa using hR,Kp.app Kp.refl (Qb _),hT.app1 (Qb _),by omega,by simp [aC,t0,zRow],by simp,by simp,by simp,by simp,by simp⟩
def F1 (key:List Int):AV:= .func (.func 280) [] [.iptr 1 [[.slice 1 (key.map c32)]] 0 0]
theorem ZZ (p:Prg) (f:PrgS p) (t:Int) (key:List Int) (x r:Rw) (hx:EntS x.entry) (hr:EntS r.entry):
  a8 Φ 284 [.agg (Rw.c x),.iptr 1 [[F1 key]] 0 0,.iptr 9 [Prg.c p] 0 0,.iptr 1 [[a7 t]] 0 0,.iptr 5 [Rw.c r] 0 0]=some (.val (.bool (mtF x.entry key&&prc p t x r))):=by
 rw [aB rfl rfl];have k1:=uq x hx key;have k2:=XM p f t x r hx hr;simp only [Prg.e,Rw.ce] at k1 k2;cases z:mtF x.entry key<;>rw [z] at k1<;>simp [GY,F1,Prg.e,Rw.ce,k1,k2]
theorem fany {G:Type} (Q:G->Bool):∀l:List G,(l.find? Q).isSome=l.any Q
 | []=>rfl
 | a::l=>by rw [List.find?_cons,DZ];cases h:Q a<;>simp [fany Q l]
theorem Bz (p:Prg) (f:PrgS p) (t:Int) (key:List Int) (l:List Rw) (hl:∀x∈l,EntS x.entry) (hll:l.length<2^40) (r:Rw) (hr:EntS r.entry):
  a8 Φ 283 [.agg (Rw.c r),.iptr 1 [[F1 key]] 0 0,.iptr 1 [[.slice 5 (l.map Rw.c)]] 0 0,.iptr 9 [Prg.c p] 0 0,.iptr 1 [[a7 t]] 0 0]=
   some (.val (.bool (mtF r.entry key&& !(l.any fun x=>mtF x.entry key&&prc p t x r)))):=by
 rw [aB rfl rfl];have k1:=uq r hr key;have kf:=fun N=>PM (O:=[]) (N:=N) (fun _ _=>rfl) (.sl (l.map Rw.c)) hll (g:=284) (caps:=[.iptr 1 [[F1 key]] 0 0,.iptr 9 [Prg.c p] 0 0,.iptr 1 [[a7 t]] 0 0,.iptr 5 [Rw.c r] 0 0]) (caps':=[.iptr 1 [[F1 key]] 0 0,.iptr 9 [Prg.c p] 0 0,.iptr 1 [[a7 t]] 0 0,.iptr 5 [Rw.c r] 0 0]) (fun x=>mtF x.entry key&&prc p t x r)
  (fun O' N' _=>by simp [F1,Prg.e,Rw.ce]) (fun x hx=>ZZ p f t key x r (hl x hx) hr)
 have ha:(l.find? fun x=>mtF x.entry key&&prc p t x r).isSome=l.any fun x=>mtF x.entry key&&prc p t x r:=fany _ l
 cases z:mtF r.entry key with
 | false=>
  rw [z] at k1;simp only [Rw.ce] at k1;simp [xT,F1,Prg.e,Rw.ce,k1]
 | true=>
  rw [z] at k1;obtain ⟨O',N',e,hk,hT',hN'⟩:=kf 0;rw [ha] at e;have u0:=hT' N' (Qb _);simp only [Rw.ce,Prg.e,F1] at k1 e;cases q:l.find? (fun x=>mtF x.entry key&&prc p t x r) with
  | some x=>
   rw [q] at e;simp only [Rw.ce] at e;simp [xT,F1,Prg.e,Rw.ce,k1,e,u0,aC,aA]
  | none=>
   rw [q] at e;simp only [zRow] at e;simp [xT,F1,Prg.e,Rw.ce,k1,e,u0,aC,aA]
def bstP (p:Prg) (t:Int) (l:List Rw) (key:List Int):Option Rw:=W8 (fun r=>mtF r.entry key) (prc p t) l
def rowV (o:Option Rw):List AV:=match o with
 | some x=>Rw.c x
 | none=>Rw.c ⟨0,noE⟩
theorem uv (r:Rw) (hr:EntS r.entry):a8 Φ 286 [.agg (Rw.c r)]=some (.val (.agg (Rw.c r))):=by
 rw [aB rfl rfl];have k1:=QL r.entry.keys hr.kl;have k2:=lj r.entry.call.args hr.al;simp [GZ,Rw.ce,k1,k2]
theorem Cw:a8 Φ 286 [.agg (Rw.c ⟨0,noE⟩)]=some (.val (.agg (Rw.c ⟨0,noE⟩))):=uv _ noE_s
theorem nne6 (N:Nat):¬N=N+1/\¬N=N+1+1/\¬N=N+1+1+1/\¬N=N+1+1+1+1/\¬N=N+1+1+1+1+1/\¬N=N+1+1+1+1+1+1/\¬N+1=N/\¬N+1=N+1+1/\¬N+1=N+1+1+1/\¬N+1=N+1+1+1+1/\¬N+1=N+1+1+1+1+1/\¬N+1=N+1+1+1+1+1+1/\¬N+1+1=N/\¬N+1+1=N+1/\¬N+1+1=N+1+1+1/\¬N+1+1=N+1+1+1+1/\¬N+1+1=N+1+1+1+1+1/\¬N+1+1=N+1+1+1+1+1+1/\¬N+1+1+1=N/\¬N+1+1+1=N+1/\¬N+1+1+1=N+1+1/\¬N+1+1+1=N+1+1+1+1/\¬N+1+1+1=N+1+1+1+1+1/\¬N+1+1+1=N+1+1+1+1+1+1/\¬N+1+1+1+1=N/\¬N+1+1+1+1=N+1/\¬N+1+1+1+1=N+1+1/\¬N+1+1+1+1=N+1+1+1/\¬N+1+1+1+1=N+1+1+1+1+1/\¬N+1+1+1+1=N+1+1+1+1+1+1/\¬N+1+1+1+1+1=N/\¬N+1+1+1+1+1=N+1/\¬N+1+1+1+1+1=N+1+1/\¬N+1+1+1+1+1=N+1+1+1/\¬N+1+1+1+1+1=N+1+1+1+1/\¬N+1+1+1+1+1=N+1+1+1+1+1+1/\¬N+1+1+1+1+1+1=N/\¬N+1+1+1+1+1+1=N+1/\¬N+1+1+1+1+1+1=N+1+1/\¬N+1+1+1+1+1+1=N+1+1+1/\¬N+1+1+1+1+1+1=N+1+1+1+1/\¬N+1+1+1+1+1+1=N+1+1+1+1+1:=by
 omega
def Pl (N:Nat) (O:List (Nat×AO)) (o:Option Rw) (r:Option (Rt×AH)):Prop:=
 ∃O' N',r=some (.val (.tup [.agg (rowV o),.bool o.isSome]),⟨O',N'⟩)/\Kp (fun _=>False) N O O'/\Tail O' N'/\N<=N'
theorem Hs (p:Prg) (f:PrgS p) (k:Nat) (hk:k<p.Xm.length) (key:List Int) {O:List (Nat×AO)} {N:Nat} (hT:Tail O N) {L:AV} {l:List Rw} (hL:Re O 5 L (l.map Rw.c)) (hll:l.length<2^40) (hl:∀x∈l,EntS x.entry):
  Pl N O (bstP p k l key) (aG Φ 178 [.agg (Prg.c p),a7 k,L,.slice 1 (key.map c32)] ⟨O,N⟩):=by
 rw [eQ rfl rfl];have t0:=hT N (Qb _);have t1:=hT (N+1) (by omega);have t2:=hT (N+1+1) (by omega);have t3:=hT (N+1+1+1) (by omega);have t4:=hT (N+1+1+1+1) (by omega);have t5:=hT (N+1+1+1+1+1) (by omega);have hlt:¬((k:Int)<0):=by omega
 have hge:¬((p.Xm.length:Int)<=(k:Int)):=by omega
 have hbs:(l.find? fun r=>mtF r.entry key&& !(l.any fun x=>mtF x.entry key&&prc p k x r))=bstP p k l key:=rfl;have hT6:Tail (O++[(N,.row 9 [Prg.c p]),(N+1,.row 1 [[a7 k]]),(N+1+1,.row 1 [[L]]),(N+1+1+1,.row 1 [[.slice 1 (key.map c32)]]),(N+1+1+1+1,.row 5 [zRow]),(N+1+1+1+1+1,.row 1 [[.func (.func 280) [] [.ptr (N+1+1+1) 1 0 0]]])]) (N+1+1+1+1+1+1):=hT.apps (by omega) (by simp only [nK,List.not_mem_nil,or_false];rintro x (rfl | rfl | rfl | rfl | rfl | rfl)<;>simp only<;>omega);have hk6:Kp (fun _=>False) N O (O++[(N,.row 9 [Prg.c p]),(N+1,.row 1 [[a7 k]]),(N+1+1,.row 1 [[L]]),(N+1+1+1,.row 1 [[.slice 1 (key.map c32)]]),(N+1+1+1+1,.row 5 [zRow]),(N+1+1+1+1+1,.row 1 [[.func (.func 280) [] [.ptr (N+1+1+1) 1 0 0]]])]):=Kp.apps (by simp only [nK,List.not_mem_nil,or_false];rintro x (rfl | rfl | rfl | rfl | rfl | rfl)<;>simp only<;>omega);have own:∀j,vid L=some j->j<N:=fun j hj=>by
  cases hL with
  | row id _ es0 n hn hl hle ht=>cases hj;exact hT.lt hl
  | sl=>cases hj
  | fs=>cases hj
  | ap=>cases hj
 have b0:look N (O++[(N,.row 9 [Prg.c p]),(N+1,.row 1 [[a7 k]]),(N+1+1,.row 1 [[L]]),(N+1+1+1,.row 1 [[.slice 1 (key.map c32)]]),(N+1+1+1+1,.row 5 [zRow]),(N+1+1+1+1+1,.row 1 [[.func (.func 280) [] [.ptr (N+1+1+1) 1 0 0]]])])=some (.row 9 [Prg.c p]):=by simp [aC,t0]
 have b1:look (N+1) (O++[(N,.row 9 [Prg.c p]),(N+1,.row 1 [[a7 k]]),(N+1+1,.row 1 [[L]]),(N+1+1+1,.row 1 [[.slice 1 (key.map c32)]]),(N+1+1+1+1,.row 5 [zRow]),(N+1+1+1+1+1,.row 1 [[.func (.func 280) [] [.ptr (N+1+1+1) 1 0 0]]])])=some (.row 1 [[a7 k]]):=by simp [aC,t1,nne6 N]
 have b2:look (N+1+1) (O++[(N,.row 9 [Prg.c p]),(N+1,.row 1 [[a7 k]]),(N+1+1,.row 1 [[L]]),(N+1+1+1,.row 1 [[.slice 1 (key.map c32)]]),(N+1+1+1+1,.row 5 [zRow]),(N+1+1+1+1+1,.row 1 [[.func (.func 280) [] [.ptr (N+1+1+1) 1 0 0]]])])=some (.row 1 [[L]]):=by simp [aC,t2,nne6 N]
 have b3:look (N+1+1+1) (O++[(N,.row 9 [Prg.c p]),(N+1,.row 1 [[a7 k]]),(N+1+1,.row 1 [[L]]),(N+1+1+1,.row 1 [[.slice 1 (key.map c32)]]),(N+1+1+1+1,.row 5 [zRow]),(N+1+1+1+1+1,.row 1 [[.func (.func 280) [] [.ptr (N+1+1+1) 1 0 0]]])])=some (.row 1 [[.slice 1 (key.map c32)]]):=by simp [aC,t3,nne6 N]
 have b4:look (N+1+1+1+1) (O++[(N,.row 9 [Prg.c p]),(N+1,.row 1 [[a7 k]]),(N+1+1,.row 1 [[L]]),(N+1+1+1,.row 1 [[.slice 1 (key.map c32)]]),(N+1+1+1+1,.row 5 [zRow]),(N+1+1+1+1+1,.row 1 [[.func (.func 280) [] [.ptr (N+1+1+1) 1 0 0]]])])=some (.row 5 [zRow]):=by simp [aC,t4,nne6 N]
 have b5:look (N+1+1+1+1+1) (O++[(N,.row 9 [Prg.c p]),(N+1,.row 1 [[a7 k]]),(N+1+1,.row 1 [[L]]),(N+1+1+1,.row 1 [[.slice 1 (key.map c32)]]),(N+1+1+1+1,.row 5 [zRow]),(N+1+1+1+1+1,.row 1 [[.func (.func 280) [] [.ptr (N+1+1+1) 1 0 0]]])])=some (.row 1 [[.func (.func 280) [] [.ptr (N+1+1+1) 1 0 0]]]):=by simp [aC,t5,nne6 N]
 have hL6:Re (O++[(N,.row 9 [Prg.c p]),(N+1,.row 1 [[a7 k]]),(N+1+1,.row 1 [[L]]),(N+1+1+1,.row 1 [[.slice 1 (key.map c32)]]),(N+1+1+1+1,.row 5 [zRow]),(N+1+1+1+1+1,.row 1 [[.func (.func 280) [] [.ptr (N+1+1+1) 1 0 0]]])]) 5 L (l.map Rw.c):=hL.fr fun j hj=>hk6 j (own j hj) (by simp)
 obtain ⟨O7,N7,e7,k7,hT7,hN7⟩:=PM hT6 hL6 hll (g:=283) (caps:=[.ptr (N+1+1+1+1+1) 1 0 0,.ptr (N+1+1) 1 0 0,.ptr N 9 0 0,.ptr (N+1) 1 0 0])
  (caps':=[.iptr 1 [[F1 key]] 0 0,.iptr 1 [[.slice 5 (l.map Rw.c)]] 0 0,.iptr 9 [Prg.c p] 0 0,.iptr 1 [[a7 k]] 0 0]) (fun r=>mtF r.entry key&& !(l.any fun x=>mtF x.entry key&&prc p k x r))
  (fun O' N' h=>by
   have c0:=(h N (by omega)).trans b0;have c1:=(h (N+1) (by omega)).trans b1;have c2:=(h (N+1+1) (by omega)).trans b2;have c3:=(h (N+1+1+1) (by omega)).trans b3;have c5:=(h (N+1+1+1+1+1) (by omega)).trans b5;have hL':Re O' 5 L (l.map Rw.c):=hL6.fr fun j hj=>h j (by have:=own j hj;omega)
   have cl:=hL'.snp (N:=N') (n:=38) (tA (n:=38) (H:=⟨O',N'⟩) (fun x=>Tf x) l);rw [Prg.e] at c0 ⊢;simp [c0,c1,c2,c3,c5,cl,F1])
  (fun r hr=>Bz p f k key l hl hll r (hl r hr))
 rw [hbs] at e7;have u7:=hT7 N7 (Qb _);have d4:=k7.lk hT6 b4 (by simp);have e4:¬N7=(N+1+1+1+1):=by omega
 have e4':¬(N+1+1+1+1)=N7:=by omega
 simp only [Prg.e,zRow] at e7 d4;cases hb:bstP p k l key with
 | some r=>
  have hr:EntS r.entry:=hl r (WO hb);have kc:=uv r hr;rw [hb] at e7;simp only [Rw.ce] at e7 kc;simp [B9,Prg.e,t0,t1,t2,t3,t4,t5,aC,aA,nne6 N,hlt,hge,hL.cells,-AV.cells,frzB,e7,u7,d4,kc,e4,e4'];refine ⟨_,_,by simp [rowV,Rw.ce];rfl,?_,bB (hT7.mono (Nat.le_succ _)),by omega⟩;exact Kp.setl (hk6.trans k7 (by omega)) (.inl (by omega))
 | none=>
  have kc:=Cw;rw [hb] at e7;simp only [Rw.ce,noE,zRow,zA] at e7 kc;simp [B9,Prg.e,t0,t1,t2,t3,t4,t5,aC,aA,nne6 N,hlt,hge,hL.cells,-AV.cells,frzB,e7,u7,d4,kc,e4,e4'];refine ⟨_,_,by simp [rowV,Rw.ce,noE];rfl,?_,bB (hT7.mono (Nat.le_succ _)),by omega⟩;exact Kp.setl (hk6.trans k7 (by omega)) (.inl (by omega))
theorem Lq (p:Prg) (t:Int) (a:Rw):prc p t a a=false:=by simp [prc]
theorem jr (p:Prg) (t:Int) (a b:Rw):prc p t a b=true↔b.entry.Xs<a.entry.Xs\/(a.entry.Xs=b.entry.Xs/\(pfxZ p t b.entry<pfxZ p t a.entry\/(pfxZ p t a.entry=pfxZ p t b.entry/\a.id<b.id))):=by
 unfold prc;split
 ·simp;omega
 ·split
  ·simp;omega
  ·simp;omega
theorem Sp (p:Prg) (t:Int) (a b c:Rw) (h1:prc p t a b=true) (h2:prc p t b c=true):prc p t a c=true:=by
 rw [jr] at*;omega
theorem Lr (p:Prg) (t:Int) (a b:Rw) (h:a.id≠b.id):prc p t a b=true\/prc p t b a=true:=by
 rw [jr,jr];omega
theorem Pb (p:Prg) (t:Int) (l:List Rw) (hl:l.Pairwise fun a b=>a.id<b.id) (key:List Int):bstP p t l key=KW (fun r=>mtF r.entry key) (prc p t) l:=by
 refine Hr (Lq p t) (Sp p t) l fun a ha b hb hab=>Lr p t a b fun hid=>hab ?_
 obtain ⟨i,hi,rfl⟩:=Qn.1 ha;obtain ⟨j,hj,rfl⟩:=Qn.1 hb;rw [WN] at hl;rcases Nat.lt_trichotomy i j with h | h | h
 ·have:=hl i j hi hj h;omega
 ·subst h;rfl
 ·have:=hl j i hj hi h;omega
def rv (o:Option Rw):List AV:=match o with
 | some x=>Rw.c x
 | none=>zRow
def oB (p:Prg) (t:Int) (key:List Int) (l:List Rw):Option Rw:=l.foldl (tC (fun r=>mtF r.entry key) (prc p t)) none
theorem Lg (p:Prg) (t:Int) (key:List Int) (l:List Rw) (r:Rw):oB p t key (l++[r])=tC (fun r=>mtF r.entry key) (prc p t) (oB p t key l) r:=by simp [oB]
theorem Ca {G:Type} (m:G->Bool) (pr:G->G->Bool) (o:Option G) (r:G):tC m pr o r=some r\/tC m pr o r=o:=by
 unfold tC;generalize (m r&&(match o with | none=>true | some b=>pr r b))=c;cases c<;>simp
theorem gk {G:Type} (m:G->Bool) (pr:G->G->Bool):∀(l:List G) (o:Option G) (x:G),l.foldl (tC m pr) o=some x->x∈l\/o=some x
 | [],o,x,h=> .inr h
 | a::l,o,x,h=>by
  rw [QD] at h;rcases gk m pr l _ x h with h | h
  ·exact .inl (D1 _ h)
  ·rcases Ca m pr o a with e | e
   ·rw [e] at h;rw [Option.some.inj h];exact .inl (by simp)
   ·rw [e] at h;exact .inr h
theorem lu (p:Prg) (t:Int) (key:List Int) (l:List Rw) (x:Rw) (h:oB p t key l=some x):x∈l:=by
 rcases gk _ _ l none x h with h | h
 ·exact h
 ·cases h
theorem Fv (p:Prg) (f:PrgS p) (k:Nat) (hk:k<p.Xm.length) (key:List Int) (l:List Rw) (hll:l.length<2^40) (hl:∀x∈l,EntS x.entry):
  a8 Φ 257 [.agg (Prg.c p),a7 k,.slice 5 (l.map Rw.c),.slice 1 (key.map c32)]=some (.val (.tup [.agg (rowV (oB p k key l)),.bool (oB p k key l).isSome])):=by
 rw [aB rfl rfl];simp [GR,Prg.e];refine cV l.length (fun i=>[(0,.row 5 [zRow]),(1,.row 5 [rv (oB p k key (l.take i))])]) 2 (fun i e=>look 1 e=some (a7 k)/\look 2 e=some (.slice 5 (l.map Rw.c))/\look 3 e=some (.slice 1 (key.map c32))/\look 4 e=some (.iptr 9 [Prg.c p] 0 0)/\look 8 e=some (.ptr 0 5 0 0)/\look 10 e=some (.ptr 1 5 0 0)/\look 11 e=some (.bool (oB p k key (l.take i)).isSome)/\look 12 e=some (a7 i))
  (fun _=>some (Rt.val (.tup [.agg (rowV (oB p k key l)),.bool (oB p k key l).isSome]))) ?_ ?_ 0 _ _ (Qc _) (Qb _) ?_
 ·rintro i e n L hi hL hn ⟨h1,h2,h3,h4,h8,h10,h11,h12⟩ ih;have hw:=aF i (by omega);have hs:oB p k key (l.take (i+1))=tC (fun r=>mtF r.entry key) (prc p k) (oB p k key (l.take i)) l[i]:=by
   rw [Qh hi,Lg]
  have hm:=WS l[i].entry (hl _ (Qd hi)).kl key;rw [Prg.e] at h4;simp only [Entry.ce] at hm;have hlt:¬((k:Int)<0):=by omega
  have hlt':(0:Int)<=(k:Int):=by omega
  have fin:∀o,oB p k key (l.take (i+1))=o->∀e',look 1 e'=some (a7 k)->look 2 e'=some (.slice 5 (l.map Rw.c))->look 3 e'=some (.slice 1 (key.map c32))->look 4 e'=some (.iptr 9 [Prg.c p] 0 0)->look 8 e'=some (.ptr 0 5 0 0)->look 10 e'=some (.ptr 1 5 0 0)->look 11 e'=some (.bool o.isSome)->look 12 e'=some (a7 ((i+1:Nat):Int))->∀n',2<=n'->
    go Φ (finP [.cell 8 true 5,.tmp 9]) L .normal ⟨e',⟨[(0,.row 5 [zRow]),(1,.row 5 [rv o])],n'⟩⟩=some (Rt.val (.tup [.agg (rowV (oB p k key l)),.bool (oB p k key l).isSome])):=fun o ho e' g1 g2 g3 g4 g8 g10 g11 g12 n' hn'=>by
   rw [<- ho];exact ih e' n' hn' ⟨g1,g2,g3,g4,g8,g10,by rw [ho];exact g11,g12⟩
  cases ho:oB p k key (l.take i) with
  | none=>
   rw [ho] at hs h11;cases hq:mtF l[i].entry key with
   | false=>
    rw [hq] at hm;have hs':oB p k key (l.take (i+1))=none:=by rw [hs];simp [tC,hq]
    simp [bI,Rw.ce,h1,h2,h3,h4,h8,h10,h11,h12,hi,hk,hL,hm,hw];exact fin none hs' _ (by simp [h1]) (by simp [h2,Rw.ce]) (by simp [h3]) (by simp [h4,Prg.e]) (by simp [h8]) (by simp [h10]) (by simp [h11]) (by simp) _ (by omega)
   | true=>
    rw [hq] at hm;have hs':oB p k key (l.take (i+1))=some l[i]:=by rw [hs];simp [tC,hq]
    simp [bI,Rw.ce,h1,h2,h3,h4,h8,h10,h11,h12,hi,hk,hL,hm,hw,rv,zRow];exact fin (some l[i]) hs' _ (by simp [h1]) (by simp [h2,Rw.ce]) (by simp [h3]) (by simp [h4,Prg.e]) (by simp [h8]) (by simp [h10]) (by simp) (by simp) _ (by omega)
  | some x=>
   rw [ho] at hs h11;have hx:=lu p k key _ x ho;have hx':x∈l:=Qu hx;have hp:=qzn p f k l[i] x (hl _ (Qd hi)) (hl x hx');simp only [Rw.ce,Prg.e] at hp;cases hq:mtF l[i].entry key with
   | false=>
    rw [hq] at hm;have hs':oB p k key (l.take (i+1))=some x:=by rw [hs];simp [tC,hq]
    simp [bI,Rw.ce,h1,h2,h3,h4,h8,h10,h11,h12,hi,hk,hL,hm,hw];exact fin (some x) hs' _ (by simp [h1]) (by simp [h2,Rw.ce]) (by simp [h3]) (by simp [h4,Prg.e]) (by simp [h8]) (by simp [h10]) (by simp [h11]) (by simp) _ (by omega)
   | true=>
    rw [hq] at hm;cases hb:prc p k l[i] x with
    | false=>
     rw [hb] at hp;have hs':oB p k key (l.take (i+1))=some x:=by rw [hs];simp [tC,hq,hb]
     simp [bI,Rw.ce,h1,h2,h3,h4,h8,h10,h11,h12,hi,hk,hL,hm,hw,rv,zRow,hp];exact fin (some x) hs' _ (by simp [h1]) (by simp [h2,Rw.ce]) (by simp [h3]) (by simp [h4,Prg.e]) (by simp [h8]) (by simp [h10]) (by simp [h11]) (by simp) _ (by omega)
    | true=>
     rw [hb] at hp;have hs':oB p k key (l.take (i+1))=some l[i]:=by rw [hs];simp [tC,hq,hb]
     simp [bI,Rw.ce,h1,h2,h3,h4,h8,h10,h11,h12,hi,hk,hL,hm,hw,rv,zRow,hp];exact fin (some l[i]) hs' _ (by simp [h1]) (by simp [h2,Rw.ce]) (by simp [h3]) (by simp [h4,Prg.e]) (by simp [h8]) (by simp [h10]) (by simp) (by simp) _ (by omega)
 ·rintro e n L hL hn ⟨h1,h2,h3,h4,h8,h10,h11,h12⟩;rw [fF] at h11 ⊢;cases ho:oB p k key l with
  | none=>
   rw [ho] at h11;simp [bI,l5,h2,h8,h10,h11,h12,hL,rv,zRow,rowV,Rw.ce,noE]
  | some x=>
   rw [ho] at h11;simp [bI,l5,h2,h8,h10,h11,h12,hL,rv,zRow,rowV,Rw.ce]
 ·simp [oB,Prg.e]
structure MS where
 e:Envt
 rs:List (List Int)
 hits:List Hit
def keyX (p:Prg) (t:Int) (e:Envt):List Int:=match at? p.Xm t with
 | none=>[]
 | some x=>x.keys.map fun k=>iand .u32 (eGet e k.field.header k.field.field) (bC (wid p k.field.header k.field.field))
def selX (p:Prg) (c:Xe) (t:Int) (e:Envt):Option Rw:=oB p t (keyX p t e) ((at? c.rows t).getD [])
def calX (c:Xe) (t:Int) (o:Option Rw):Xb:=match o with
 | some x=>x.entry.call
 | none=>(at? c.Xp t).getD ⟨0,[]⟩
def apX (p:Prg) (c:Xe) (t:Int) (s:MS):MS×Bool:=
 let o:=selX p c t s.e
 let y:=exeX p (calX c t o) s.e s.rs
 (⟨y.1,y.2,s.hits++[⟨t,(o.map (·.id)).getD 0,(calX c t o).Xy⟩]⟩,o.isSome)
def ndX (p:Prg) (c:Xe) (f:List Xa->MS->MS) (s:MS) (x:Xa):MS:=
 if x.kind=2 then f (if evl p [] x.cond s.e []=1 then x.thn else x.els) s
 else let y:=apX p c x.table s;f (if y.2 then x.thn else x.els) y.1
def ctX (p:Prg) (c:Xe):Nat->List Xa->MS->MS
 | 0,_,s=>s
 | n+1,l,s=>l.foldl (ndX p c (ctX p c n)) s
def resX (p:Prg) (s:MS):Rslt:=if (at? s.e.metaF 2).getD 0=1\/512<(emi p s.e).length then ⟨true,0,[],s.hits⟩ else ⟨false,(at? s.e.metaF 1).getD 0,emi p s.e,s.hits⟩
def noR:Rslt:=⟨true,0,[],[]⟩
def runX (p:Prg) (c:Xe) (k:Packet):Option (Rslt×List (List Int)):=if k.port<0\/255<k.port then none else match prs p k.data with
 | none=>none
 | some e=>
  let s:=ctX p c (nest p.Ya) p.Ya ⟨eSet p e (-1) 0 k.port,c.Xl,[]⟩
  some (resX p s,s.rs)
def runL (p:Prg) (c:Xe):List Packet->List Rslt×Xe
 | []=>([],c)
 | k::l=>match runX p c k with
  | none=>(noR::(runL p c l).1,(runL p c l).2)
  | some (r,rs)=>(r::(runL p { c with Xl:=rs } l).1,(runL p { c with Xl:=rs } l).2)
structure RV (p:Prg) (rs:List (List Int)):Prop where
 n:rs.length=p.Xl.length
 l:∀(i:Nat) (g:Xg) (x:List Int),p.Xl[i]? =some g->rs[i]? =some x->(x.length:Int)=g.size/\∀v∈x,0<=v/\v<2^g.Yc.toNat
theorem RV.set {p:Prg} {rs:List (List Int)} (h:RV p rs) (r i v:Int):RV p (rSet p rs r i v):=by
 unfold rSet;split
 ·rename_i g x hg hx;split
  ·refine ⟨by simp [h.n],fun j g' x' hg' hx'=>?_⟩;obtain ⟨k,rfl,hk,rfl⟩:=iX hx;simp only [uW,List.getElem?_set] at hx';split at hx'
   ·rename_i q;subst q;simp [hk] at hx';subst hx';rw [oV,hg'] at hg;obtain rfl:=Option.some.inj hg;obtain ⟨h1,h2⟩:=h.l k _ _ hg' (Qa hk);refine ⟨by simpa using h1,fun u hu=>?_⟩;rcases Qq hu with hu | rfl
    ·exact h2 u hu
    ·exact PX v _
   ·exact h.l j g' x' hg' hx'
  ·exact h
 ·exact h
theorem RV.get {p:Prg} {rs:List (List Int)} (h:RV p rs) (hw:∀g∈p.Xl,g.Yc<=32) (r i:Int):0<=rGet p rs r i/\rGet p rs r i<=4294967295:=by
 unfold rGet;split
 ·rename_i g x hg hx;split
  ·cases q:at? x i with
   | none=>simp
   | some v=>
    obtain ⟨k,rfl,hk,rfl⟩:=iX hx;rw [oV] at hg;obtain ⟨_,h2⟩:=h.l k g _ hg (Qa hk);obtain ⟨j,_,hj,rfl⟩:=iX q;obtain ⟨h3,h4⟩:=h2 _ (Qd hj);have h5:=hw g (Qe hg);have:(2:Int)^g.Yc.toNat<=2^32:=by
     have:=AM (n:=2) (by decide) (show g.Yc.toNat<=32 by omega)
     exact_mod_cast this
    simp only [nO];omega
  ·simp
 ·simp
theorem VL {p:Prg} {ps:List Fld} {args:List Int} {x:Envt×List (List Int)} (s:Xf) (h1:EV p x.1) (h2:RV p x.2):EV p (stmX p ps args x s).1/\RV p (stmX p ps args x s).2:=by
 unfold stmX;split
 ·exact ⟨h1.set _ _ _,h2⟩
 split
 ·exact ⟨h1.add _,h2⟩
 split
 ·exact ⟨h1.rem _,h2⟩
 split
 ·exact ⟨h1.set _ _ _,h2⟩
 ·exact ⟨h1,h2.set _ _ _⟩
theorem Q3 {p:Prg} {ps:List Fld} {args:List Int}:∀(l:List Xf) {x:Envt×List (List Int)},EV p x.1->RV p x.2->EV p (l.foldl (stmX p ps args) x).1/\RV p (l.foldl (stmX p ps args) x).2
 | [],x,h1,h2=>⟨h1,h2⟩
 | s::l,x,h1,h2=>Q3 l (VL s h1 h2).1 (VL s h1 h2).2
theorem PI {p:Prg} (c:Xb) {e:Envt} {rs:List (List Int)} (h1:EV p e) (h2:RV p rs):EV p (exeX p c e rs).1/\RV p (exeX p c e rs).2:=by
 unfold exeX;split
 ·exact ⟨h1,h2⟩
 ·exact Q3 _ h1 h2
structure SV' (p:Prg) (s:MS):Prop where
 e:EV p s.e
 r:RV p s.rs
theorem SV'.ap {p:Prg} {c:Xe} {t:Int} {s:MS} (h:SV' p s):SV' p (apX p c t s).1:=⟨(PI _ h.e h.r).1,(PI _ h.e h.r).2⟩
theorem SV'.nd {p:Prg} {c:Xe} {f:List Xa->MS->MS} (hf:∀l s,SV' p s->SV' p (f l s)) {s:MS} (h:SV' p s) (x:Xa):SV' p (ndX p c f s x):=by
 unfold ndX;split
 ·exact hf _ _ h
 ·exact hf _ _ h.ap
theorem eg {G I:Type} {P:I->Prop} {f:I->G->I} (hf:∀b a,P b->P (f b a)):∀(l:List G) (b:I),P b->P (l.foldl f b)
 | [],_,h=>h
 | a::l,b,h=>eg hf l _ (hf b a h)
theorem SV'.ct {p:Prg} {c:Xe}:∀(n:Nat) (l:List Xa) (s:MS),SV' p s->SV' p (ctX p c n l s)
 | 0,_,_,h=>h
 | n+1,l,s,h=>eg (P:=SV' p) (fun _ x hb=>SV'.nd (SV'.ct n) hb x) l s h
def apl (l:List Xa):List Int:=((pre l).filter appl).map (·.table)
theorem apl_nil:apl []=[]:=rfl
theorem Db (x:Xa) (l:List Xa):apl (x::l)=apl [x]++apl l:=by
 simp [apl,pre]
theorem Iw (x:Xa):apl [x]=(if appl x then [x.table] else [])++(apl x.thn++apl x.els):=by
 obtain ⟨k,t,c,a,b⟩:=x;simp only [apl,pre,pre1,KC,Xa.table,Xa.thn,Xa.els];cases q:appl (.mk k t c a b)<;>simp [List.filter_cons,q,Xa.table]
def HS (s s':MS) (l:List Int):Prop:=∃hs,s'.hits=s.hits++hs/\(hs.map (·.table)).Sublist l
theorem HS.refl {s:MS} {l:List Int}:HS s s l:=⟨[],by simp,List.nil_sublist _⟩
theorem HS.trans {s s' s'':MS} {l m:List Int} (h:HS s s' l) (h2:HS s' s'' m):HS s s'' (l++m):=by
 obtain ⟨a,e1,k1⟩:=h;obtain ⟨b,e2,k2⟩:=h2;exact ⟨a++b,by rw [e2,e1,AN],by rw [yZ];exact k1.append k2⟩
theorem HS.mono {s s':MS} {l m:List Int} (h:HS s s' l) (hm:l.Sublist m):HS s s' m:=by
 obtain ⟨a,e1,k1⟩:=h;exact ⟨a,e1,k1.trans hm⟩
theorem cr {x:Xa} {l:List Xa} {y:Xa} (hx:x∈l) (hy:y=x\/y∈pre x.thn\/y∈pre x.els):y∈pre l:=by
 induction l with
 | nil=>cases hx
 | cons a l ih=>
  simp only [pre,nE];rcases nK.1 hx with rfl | h
  ·left;obtain ⟨k,t,c,p,q⟩:=x;simp only [pre1,nK,nE];exact hy
  ·exact .inr (ih h)
theorem KV {p:Prg} {c:Xe}:∀(n:Nat) (l:List Xa) (s:MS),(∀x∈pre l,x.kind=2\/appl x=true)->HS s (ctX p c n l s) (apl l)
 | 0,_,_,_=>HS.refl
 | n+1,l,s,hk=>by
  simp only [ctX]
  induction l generalizing s with
  | nil=>exact HS.refl
  | cons x l ih=>
   rw [QD,Db];refine HS.trans ?_ (ih _ fun y hy=>hk y (by simp only [pre,nE];exact .inr hy));have kt:=fun s=>KV (p:=p) (c:=c) n x.thn s fun y hy=>hk y (cr (by simp) (.inr (.inl hy)))
   have ke:=fun s=>KV (p:=p) (c:=c) n x.els s fun y hy=>hk y (cr (by simp) (.inr (.inr hy)))
   rw [Iw];have both:∀(b:Prop) [Decidable b] (s:MS),HS s (ctX p c n (if b then x.thn else x.els) s) (apl x.thn++apl x.els):=fun b _ s=>by
    split
    ·exact (kt s).mono (List.sublist_append_left _ _)
    ·exact (ke s).mono (List.sublist_append_right _ _)
   unfold ndX;split
   ·exact (both _ _).mono (List.sublist_append_right _ _)
   ·rename_i h2;have ha:appl x=true:=(hk x (cr (by simp) (.inl rfl))).resolve_left h2;rw [a9 ha];exact HS.trans ⟨[_],rfl,List.Sublist.refl _⟩ (both _ _)
structure PWd (p:Prg):Prop where
 hl:p.Xo.length<2^40
 hf:∀h∈p.Xo,h.Xz.length<2^40
 ml:p.Xn.length<2^40
 m0:0<p.Xn.length
 rl:p.Xl.length<2^40
 rz:∀g∈p.Xl,g.size<2^40
 rw':∀g∈p.Xl,g.Yc<=32
structure XV (p:Prg) (e:Envt) (rs:List (List Int)):Prop where
 ev:EV p e
 rv:RV p rs
 pl:e.payload.length<2^40
theorem XV.evs {p:Prg} (w:PWd p) {e:Envt} {rs:List (List Int)} (x:XV p e rs):EvS e:=by
 refine ⟨by rw [x.ev.v];exact w.hl,by rw [x.ev.f];exact w.hl,fun l hl=>?_,by rw [x.ev.m];exact w.ml,x.pl⟩;obtain ⟨i,hi,rfl⟩:=Qn.1 hl;have h2:i<p.Xo.length:=by rw [<- x.ev.f];exact hi
 rw [x.ev.g i hi h2];exact w.hf _ (Qd h2)
theorem XV.m0 {p:Prg} (w:PWd p) {e:Envt} {rs:List (List Int)} (x:XV p e rs):e.metaF≠[]:=fun h=>by
 have:=x.ev.m;have:=w.m0;rw [h] at*;simp at*;omega
theorem XV.hs {p:Prg} {e:Envt} {rs:List (List Int)} (x:XV p e rs):e.Xz.length=e.valid.length:=by rw [x.ev.f,x.ev.v]
theorem XV.g {p:Prg} {e:Envt} {rs:List (List Int)} (x:XV p e rs) (h f:Int):ok32 0 (eGet e h f):=jk x.ev (fun h f=>(DL p h f).2) h f
theorem XV.r1 {p:Prg} (w:PWd p) {e:Envt} {rs:List (List Int)} (x:XV p e rs):rs.length<2^40:=by rw [x.rv.n];exact w.rl
theorem XV.r2 {p:Prg} (w:PWd p) {e:Envt} {rs:List (List Int)} (x:XV p e rs):∀l∈rs,l.length<2^40:=fun l hl=>by
 obtain ⟨i,hi,rfl⟩:=Qn.1 hl;have h2:i<p.Xl.length:=by rw [<- x.rv.n];exact hi
 have:=(x.rv.l i _ _ (Qa h2) (Qa hi)).1;have:=w.rz _ (Qd h2);omega
theorem VE (p:Prg) (e:Envt) (h f v:Int):(eSet p e h f v).payload=e.payload:=by
 unfold eSet ePut;split
 ·rfl
 ·split<;>rfl
theorem Lo {p:Prg} {ps:List Fld} {args:List Int} (x:Envt×List (List Int)) (s:Xf):(stmX p ps args x s).1.payload=x.1.payload:=by
 unfold stmX;split
 ·exact VE ..
 split
 ·unfold eAdd;split<;>rfl
 split
 ·unfold eRem;split<;>rfl
 split
 ·exact VE ..
 ·rfl
theorem XV.stm {p:Prg} {ps:List Fld} {args:List Int} {x:Envt×List (List Int)} (h:XV p x.1 x.2) (s:Xf):XV p (stmX p ps args x s).1 (stmX p ps args x s).2:=
 ⟨(VL s h.ev h.rv).1,(VL s h.ev h.rv).2,by rw [Lo];exact h.pl⟩
theorem Sn (e:Envt) (s:EvS e):a8 Φ 171 [.agg e.c]=some (.val (.agg e.c)):=by
 obtain ⟨O',N',V,F,M,A,hr,em,_⟩:=dq (Tail.nil 0) DE e s;have:=em.snp (N:=N');unfold a8;rw [show H0=⟨[],0⟩ from rfl,hr];show (match snap 40 ⟨O',N'⟩ (clR V F M e.payload) with | some r'=>some (Rt.val r') | none=>none)=_;unfold clR;rw [show (40:Nat)=39+1 from rfl,SH,this];rfl
def stC (p:Prg) (ps:List Fld) (args:List Int) (e:Envt) (rs:List (List Int)):List AV:=
 Prg.c p++[.slice 2 (ps.map Fld.c),.slice 1 (args.map c32)]++e.c++[.slice 1 (rs.map (cS 1 c32))]
theorem st_e (p:Prg) (ps:List Fld) (args:List Int) (e:Envt) (rs:List (List Int)):stC p ps args e rs=(uO p [.slice 2 (ps.map Fld.c),.slice 1 (args.map c32),.slice 1 (e.valid.map cB),.slice 1 (e.Xz.map (cS 1 c32)),.slice 1 (e.metaF.map c32),.slice 1 (e.payload.map c8),.slice 1 (rs.map (cS 1 c32))]):=by
  simp [stC,Prg.e,Envt.ce]
theorem W4 (p:Prg) (ps:List Fld) (args:List Int) (e:Envt) (rs:List (List Int)) (l:List Xd) (hg:∀h f,ok32 0 (eGet e h f)) (ha:∀v∈args,ok32 0 v):
  a8 Φ 352 [.iptr 16 [stC p ps args e rs] 0 0,.slice 3 (l.map Xd.c)]=some (.val (.int .u32 (evl p ps l e args))):=by
 rw [aB rfl rfl];have h:=QR p ps e args l hg ha;simp only [scC,Prg.e,oY,yY,Envt.ce] at h;simp [I9,st_e,h]
def StP (p:Prg) (ps:List Fld) (args:List Int) (id N:Nat) (O:List (Nat×AO)) (x:Envt×List (List Int)) (r:Option (Rt×AH)):Prop:=
 ∃O' N',r=some (.val (.tup []),⟨O',N'⟩)/\look id O'=some (.row 16 [stC p ps args x.1 x.2])/\Kp (fun j=>j=id) N O O'/\Tail O' N'/\N<=N'/\NR O'
section
variable {p:Prg} (w:PWd p) (ps:List Fld) {args:List Int} (ha:∀v∈args,ok32 0 v) {e:Envt} {rs:List (List Int)} (x:XV p e rs) (s:Xf) {O:List (Nat×AO)} {N id:Nat} (hT:Tail O N) (hN:NR O) (hm:look id O=some (.row 16 [stC p ps args e rs]))
include w ha x hT hN hm
omit w ha x in
theorem T5 (y:Envt×List (List Int)) (o:AO) (ho:o≠ .res):StP p ps args id N O y (some (.val (.tup []),⟨setl id (.row 16 [stC p ps args y.1 y.2]) (O++[(N,o)]),N+1⟩)):=by
 have f0:=eR hT hm (Qb N);refine ⟨_,_,rfl,?_,(Kp.app Kp.refl (Qb _)).setl (.inr rfl),bB (hT.app1 (Qb _)),by omega,(hN.app (.one ho)).setl (by simp)⟩;rw [aA,a9 rfl,aC,hm];rfl
theorem YJ:StP p ps args id N O (eSet p e s.dst.header s.dst.field (evl p ps s.value e args),rs) (aG Φ 288 [.ptr id 16 0 0,.agg s.c] ⟨O,N⟩):=by
 rw [eQ rfl rfl];have fin:=T5 ps (args:=args) hT hN hm (eSet p e s.dst.header s.dst.field (evl p ps s.value e args),rs) (.row 7 [s.c]) (by simp);have t0:=hT N (Qb _);have f0:=eR hT hm (Qb N);have h1:=W4 p ps args e rs s.value x.g ha;have h2:=mh p e (x.evs w) (x.m0 w) s.dst.header s.dst.field (evl p ps s.value e args) (NX ..);generalize hE:eSet p e s.dst.header s.dst.field (evl p ps s.value e args)=E at*;rw [st_e] at h1 hm fin;rw [Envt.ce,Envt.ce] at h2;simp only [Prg.e] at h2;rw [Xf.e] at fin;simp [H6,Xf.e,t0,aC,hm,f0,h1,h2];exact fin
omit ha in
theorem Lt:StP p ps args id N O (eAdd p e s.header,rs) (aG Φ 289 [.ptr id 16 0 0,.agg s.c] ⟨O,N⟩):=by
 rw [eQ rfl rfl];have fin:=T5 ps (args:=args) hT hN hm (eAdd p e s.header,rs) (.row 7 [s.c]) (by simp);have t0:=hT N (Qb _);have f0:=eR hT hm (Qb N);have h2:=Pn p e (x.evs w) (x.m0 w) x.hs s.header;generalize hE:eAdd p e s.header=E at*;rw [st_e] at hm fin;rw [Envt.ce,Envt.ce] at h2;simp only [Prg.e] at h2;rw [Xf.e] at fin;simp [H7,Xf.e,t0,aC,hm,f0,h2];exact fin
omit ha in
theorem Nt:StP p ps args id N O (eRem p e s.header,rs) (aG Φ 290 [.ptr id 16 0 0,.agg s.c] ⟨O,N⟩):=by
 rw [eQ rfl rfl];have fin:=T5 ps (args:=args) hT hN hm (eRem p e s.header,rs) (.row 7 [s.c]) (by simp);have t0:=hT N (Qb _);have f0:=eR hT hm (Qb N);have h2:=Tu p e (x.evs w) (x.m0 w) x.hs s.header;generalize hE:eRem p e s.header=E at*;rw [st_e] at hm fin;rw [Envt.ce,Envt.ce] at h2;simp only [Prg.e] at h2;rw [Xf.e] at fin;simp [H8,Xf.e,t0,aC,hm,f0,h2];exact fin
theorem Hh:StP p ps args id N O (eSet p e s.dst.header s.dst.field (rGet p rs s.Ye (evl p ps s.index e args)),rs) (aG Φ 291 [.ptr id 16 0 0,.agg s.c] ⟨O,N⟩):=by
 rw [eQ rfl rfl];have fin:=T5 ps (args:=args) hT hN hm (eSet p e s.dst.header s.dst.field (rGet p rs s.Ye (evl p ps s.index e args)),rs) (.row 7 [s.c]) (by simp);have t0:=hT N (Qb _);have f0:=eR hT hm (Qb N);have h1:=W4 p ps args e rs s.index x.g ha;have h3:=Ey p rs s.Ye (evl p ps s.index e args) (NX ..);have hr:=x.rv.get w.rw' s.Ye (evl p ps s.index e args);generalize hv:rGet p rs s.Ye (evl p ps s.index e args)=v at*;have h2:=mh p e (x.evs w) (x.m0 w) s.dst.header s.dst.field v hr;generalize hE:eSet p e s.dst.header s.dst.field v=E at*;rw [st_e] at h1 hm fin;rw [Envt.ce,Envt.ce] at h2;simp only [Prg.e] at h2 h3;rw [Xf.e] at fin;simp [H9,Xf.e,t0,aC,hm,f0,h1,h2,h3];exact fin
theorem Az:StP p ps args id N O (e,rSet p rs s.Ye (evl p ps s.index e args) (evl p ps s.value e args)) (aG Φ 292 [.ptr id 16 0 0,.agg s.c] ⟨O,N⟩):=by
 rw [eQ rfl rfl];have fin:=T5 ps (args:=args) hT hN hm (e,rSet p rs s.Ye (evl p ps s.index e args) (evl p ps s.value e args)) (.row 7 [s.c]) (by simp);have t0:=hT N (Qb _);have f0:=eR hT hm (Qb N);have h1:=W4 p ps args e rs s.index x.g ha;have h2:=W4 p ps args e rs s.value x.g ha;have h3:=Bs p rs (x.r1 w) (x.r2 w) s.Ye (evl p ps s.index e args) (evl p ps s.value e args) (NX ..) (NX ..);generalize hE:rSet p rs s.Ye (evl p ps s.index e args) (evl p ps s.value e args)=E at*;rw [st_e] at h1 h2 hm fin;simp only [Prg.e] at h3;rw [Xf.e] at fin;simp [HA,Xf.e,t0,aC,hm,f0,h1,h2,h3];exact fin
end
theorem zJ {G:Type} {f:Nat->Option G} {N:Nat} {x:G}:∀{i},fe f N i=some x->∃k,k<N/\f k=some x:=by
 have key:∀n i,n+i=N->feF f n i=some x->∃k,k<N/\f k=some x:=by
  intro n
  induction n with
  | zero=>intro i _ h;cases h
  | succ n ih=>
   intro i hi h;simp only [feF] at h;cases q:f i with
   | some y=>rw [q] at h;cases h;exact ⟨i,by omega,q⟩
   | none=>rw [q] at h;exact ih (i+1) (by omega) h
 intro i h;unfold fe at h;by_cases z:i<=N
 ·exact key (N - i) i (by omega) h
 ·rw [show N - i=0 by omega] at h;cases h
theorem zZ {G I:Type} {l:List G} {g:Nat->G->Option I} (h:fe (fun i=>(l[i]?).bind (g i)) l.length 0=none) {i:Nat} (hi:i<l.length):g i l[i]=none:=by
 have:=fe_all.1 h i hi;rw [Qa hi] at this;exact this
theorem D5 {G:Type} {c:Prop} [Decidable c] {x:G} (h:(if c then none else some x)=none):c:=by
 by_cases q:c
 ·exact q
 ·rw [QA q] at h;cases h
structure VFields (l:List Fld):Prop where
 w:∀f∈l,1<=f.Yc/\f.Yc<=32
theorem QS {l:List Fld} {i:Nat} {f:Fld} (h:fldE l i f=0):1<=f.Yc/\f.Yc<=32:=by
 unfold fldE at h;split at h
 ·cases h
 split at h
 ·cases h
 rename_i hb;simp only [wBad,D3,decide_eq_true_eq,not_or] at hb;omega
structure VProg (p:Prg):Prop where
 hl:p.Xo.length<=8
 rl:p.Xl.length<=4
 al:p.Xx.length<=16
 tl:p.Xm.length<=12
 hd:∀h∈p.Xo,hdrE h=0
 ml:p.Xn.length<=12
 mw:∀f∈p.Xn,1<=f.Yc/\f.Yc<=32
 m3:∀i,i<3->p.Xn[i]? =some (sJ i)
 rg:∀r∈p.Xl,regE r=0
 ac:∀i:Nat,i<p.Xx.length->(actE p i).2=0
 tb:∀i:Nat,i<p.Xm.length->(tblE p i).2=0
 pa:(parE p).2.2=0
 ct:(ctlE p).2=0
 dp:(depE p).2=0
theorem NN {G:Type} {a b:Option G} (h:a.or b=none):a=none/\b=none:=by
 cases a with
 | some x=>cases h
 | none=>exact ⟨rfl,h⟩
theorem OA {a b:Option Dg} (ha:∀d,a=some d->d.1≠0) (hb:∀d,b=some d->d.1≠0):∀d,a.or b=some d->d.1≠0:=fun d h=>by
 cases a with
 | some x=>exact ha d h
 | none=>exact hb d h
theorem Kw {p:Prg}:∀d,limD p=some d->d.1≠0:=fun d h=>by
 unfold limD at h
 repeat (split at h; · cases h;decide)
 cases h
theorem Jg {p:Prg}:∀d,hdrD p=some d->d.1≠0:=fun d h=>by
 obtain ⟨k,hk,e⟩:=zJ h;rw [Qa hk] at e;simp only [dI] at e;split at e
 ·cases e
 ·cases e;assumption
theorem Mq {p:Prg}:∀d,regD p=some d->d.1≠0:=fun d h=>by
 obtain ⟨k,hk,e⟩:=zJ h;rw [Qa hk] at e;simp only [dI] at e;split at e
 ·cases e
 ·cases e;assumption
theorem Kz {p:Prg}:∀d,metD p=some d->d.1≠0:=fun d h=>by
 unfold metD at h;split at h
 ·cases h;decide
 split at h
 ·rename_i e;cases h;obtain ⟨k,hk,e⟩:=zJ e;rw [Qa hk] at e;simp only [dI] at e;split at e
  ·cases e
  ·cases e;assumption
 ·obtain ⟨k,hk,e⟩:=zJ h;split at e
  ·cases e
  ·cases e;simp
theorem Cy {p:Prg}:∀d,vX p=some d->d.1≠0:=fun d h=>by
 obtain ⟨k,hk,e⟩:=zJ h;rw [Qa hk] at e;simp only [dI] at e;split at e
 ·cases e;assumption
 split at e
 ·cases e;simp
 ·cases e
theorem Ny {p:Prg}:∀d,tblD p=some d->d.1≠0:=fun d h=>by
 obtain ⟨k,hk,e⟩:=zJ h;rw [Qa hk] at e;simp only [dI] at e;split at e
 ·cases e;assumption
 split at e
 ·cases e;simp
 ·cases e
theorem Kf {p:Prg}:∀d,floD p=some d->d.1≠0:=fun d h=>by
 unfold floD at h;split at h
 ·cases h;assumption
 split at h
 ·cases h;assumption
 split at h
 ·cases h;assumption
 ·cases h
theorem L4 {p:Prg} (h:(prgD p).1=0):VProg p:=by
 have ho:((((((limD p).or (hdrD p)).or (metD p)).or (regD p)).or (vX p)).or (tblD p)).or (floD p)=none:=by
  unfold prgD at h;cases q:((((((limD p).or (hdrD p)).or (metD p)).or (regD p)).or (vX p)).or (tblD p)).or (floD p) with
  | none=>rfl
  | some d=>
   rw [q] at h;exact absurd h (OA (OA (OA (OA (OA (OA Kw Jg) Kz) Mq) Cy) Ny) Kf d q)
 obtain ⟨ho,h7⟩:=NN ho;obtain ⟨ho,h6⟩:=NN ho;obtain ⟨ho,h5⟩:=NN ho;obtain ⟨ho,h4⟩:=NN ho;obtain ⟨ho,h3⟩:=NN ho;obtain ⟨h1,h2⟩:=NN ho;have l1:p.Xo.length<=8/\p.Xl.length<=4/\p.Xx.length<=16/\p.Xm.length<=12:=by
  unfold limD at h1
  repeat (split at h1; · cases h1)
  omega
 have f7:(parE p).2.2=0/\(ctlE p).2=0/\(depE p).2=0:=by
  unfold floD at h7
  repeat (split at h7; · cases h7)
  rename_i a b c;exact ⟨Decidable.not_not.1 a,Decidable.not_not.1 b,Decidable.not_not.1 c⟩
 have m3:p.Xn.length<=12/\(∀f∈p.Xn,1<=f.Yc/\f.Yc<=32)/\∀i,i<3->p.Xn[i]? =some (sJ i):=by
  unfold metD at h3;split at h3
  ·cases h3
  rename_i hlen;split at h3
  ·cases h3
  rename_i hn;refine ⟨by omega,fun f hf=>?_,fun i hi=>?_⟩
  ·obtain ⟨i,hi,rfl⟩:=Qn.1 hf;exact QS (D5 (zZ hn hi))
  ·exact D5 (fe_all.1 h3 i hi)
 refine ⟨l1.1,l1.2.1,l1.2.2.1,l1.2.2.2,fun h hh=>?_,m3.1,m3.2.1,m3.2.2,fun r hr=>?_,fun i hi=>?_,fun i hi=>?_,f7.1,f7.2.1,f7.2.2⟩
 ·obtain ⟨i,hi,rfl⟩:=Qn.1 hh;have:=D5 (zZ h2 hi);unfold yT at this;split at this
  ·exact absurd this (by assumption)
  ·rename_i q;exact Decidable.not_not.1 q
 ·obtain ⟨i,hi,rfl⟩:=Qn.1 hr;have:=D5 (zZ h4 hi);unfold AD at this;split at this
  ·exact absurd this (by assumption)
  ·rename_i q;exact Decidable.not_not.1 q
 ·have:=zZ h5 hi;split at this
  ·cases this
  ·rename_i q;exact Decidable.not_not.1 q
 ·have:=zZ h6 hi;split at this
  ·cases this
  ·rename_i q;exact Decidable.not_not.1 q
theorem gj {f:Nat->Option (Int×Int)} {N:Nat} (hf:∀i x,f i=some x->x.2≠0) (h:((fe f N 0).getD (0,0)).2=0):fe f N 0=none:=by
 cases q:fe f N 0 with
 | none=>rfl
 | some x=>
  rw [q] at h;obtain ⟨k,_,e⟩:=zJ q;exact absurd h (hf k x e)
theorem QT {l:List Fld} (h:CQ l=none):∀f∈l,1<=f.Yc/\f.Yc<=32:=fun f hf=>by
 obtain ⟨i,hi,rfl⟩:=Qn.1 hf;have:=zZ h hi;unfold er at this;split at this
 ·rename_i q;exact QS q
 ·cases this
theorem vj {l:List Fld} {e:Int} (h:CQ l=some e):e≠0:=by
 obtain ⟨k,hk,q⟩:=zJ h;rw [Qa hk] at q;simp only [dI] at q;unfold er at q;split at q
 ·cases q
 ·cases q;assumption
structure VHdr (h:Xi):Prop where
 n:1<=h.Xz.length/\h.Xz.length<=12
 w:∀f∈h.Xz,1<=f.Yc/\f.Yc<=32
 s:wSum h.Xz % 8=0
theorem vhdr {h:Xi} (e:hdrE h=0):VHdr h:=by
 unfold hdrE at e;split at e
 ·cases e
 split at e
 ·cases e
 split at e
 ·cases e
 rename_i a b c;split at e
 ·rename_i q;exact absurd e (vj q)
 ·rename_i q;split at e
  ·rename_i s;exact ⟨by omega,QT q,s⟩
  ·cases e
structure VAct (p:Prg) (a:Action):Prop where
 pl:a.params.length<=4
 bl:a.body.length<=12
 pw:∀f∈a.params,1<=f.Yc/\f.Yc<=32
 st:∀s∈a.body,stmE p a.params s=0
theorem vact {p:Prg} {i:Nat} (hi:i<p.Xx.length) (e:(actE p i).2=0):VAct p p.Xx[i]:=by
 unfold actE at e;rw [show at? p.Xx (i:Int)=some p.Xx[i] by simp [hi]] at e;simp only at e;generalize p.Xx[i]=a at*;split at e
 ·exact absurd e (by assumption)
 rename_i hd;simp only [ne_eq,Decidable.not_not] at hd;unfold actD at hd;split at hd
 ·cases hd
 split at hd
 ·cases hd
 rename_i _ hl;have hf:CQ a.params=none:=by
  cases q:CQ a.params with
  | none=>rfl
  | some x=>rw [q] at hd;exact absurd hd (vj q)
 have hb:=gj (fun k x h=>by
  cases q:a.body[k]? with
  | none=>rw [q] at h;cases h
  | some s=>
   rw [q] at h;simp only [dI] at h;split at h
   ·cases h
   ·cases h;assumption) e
 refine ⟨by omega,by omega,QT hf,fun s hs=>?_⟩;obtain ⟨k,hk,rfl⟩:=Qn.1 hs;exact D5 (zZ hb hk)
structure VTbl (p:Prg) (x:Tbl):Prop where
 kl:x.keys.length<=6
 sz:1<=x.size/\x.size<=256
 kw:∀k∈x.keys,wid p k.field.header k.field.field≠0
 kk:∀k∈x.keys,k.kind=1\/k.kind=2\/k.kind=3
 ac:∀a∈x.Xx,0<=a/\a<p.Xx.length
 df:nV p x.Yb=0
structure VCtl (p:Prg):Prop where
 n:(pre p.Ya).length<=24
 d:nest p.Ya<=6
 e:∀(i:Nat) (h:i<(pre p.Ya).length),nJ p ((pre p.Ya).take i) (pre p.Ya)[i]=0
theorem vctl {p:Prg} (e:(ctlE p).2=0):VCtl p:=by
 unfold ctlE at e;split at e
 ·cases e
 split at e
 ·cases e
 rename_i a b;have hn:=gj (fun k x h=>by
  cases q:(pre p.Ya)[k]? with
  | none=>rw [q] at h;cases h
  | some s=>
   rw [q] at h;simp only [dI] at h;split at h
   ·cases h
   ·cases h;assumption) e
 exact ⟨by omega,by omega,fun i h=>D5 (zZ hn h)⟩
theorem VCtl.one {p:Prg} (v:VCtl p) {i j:Nat} {x y:Xa} (hij:i<j) (hx:(pre p.Ya)[i]? =some x) (hy:(pre p.Ya)[j]? =some y) (ax:appl x=true) (ay:appl y=true):x.table≠y.table:=by
 obtain ⟨hj,rfl⟩:=Qm.1 hy;have:=v.e j hj;unfold nJ at this;have hk:(pre p.Ya)[j].kind=1\/(pre p.Ya)[j].kind=3:=by
  unfold appl at ay;simpa using ay
 have h2:¬(pre p.Ya)[j].kind=2:=by omega
 rw [QA h2,a9 hk] at this;split at this
 ·cases this
 split at this
 ·cases this
 rename_i hn;intro ht;refine hn (DX.2 ⟨x,?_,by simp [ax,ht]⟩);rw [List.mem_take_iff_getElem];obtain ⟨hi,rfl⟩:=Qm.1 hx;exact ⟨i,by omega,rfl⟩
theorem vdep {p:Prg} (e:(depE p).2=0):p.Xr.length<=8/\∀d∈p.Xr,0<=d/\d<p.Xo.length:=by
 unfold depE at e;split at e
 ·cases e
 rename_i a;have hn:=gj (fun k x h=>by
  cases q:p.Xr[k]? with
  | none=>rw [q] at h;cases h
  | some s=>
   rw [q] at h;simp only [dI] at h;split at h
   ·cases h;simp
   split at h
   ·cases h;simp
   ·cases h) e
 refine ⟨by omega,fun d hd=>?_⟩;obtain ⟨k,hk,rfl⟩:=Qn.1 hd;have:=zZ hn hk;split at this
 ·cases this
 ·omega
structure VSt (p:Prg) (s:Nat) (x:Xc):Prop where
 el:x.extract.length<=4
 cl:x.cases.length<=8
 ex:∀h∈x.extract,0<=h/\h<p.Xo.length
 on:x.select=true->wid p x.on.header x.on.field≠0
 cs:∀c∈x.cases,oW p s c.next=true
 df:oW p s x.Yb=true
 cm:∀c∈x.cases,c.value.toNat&&& c.Yd.toNat=c.value.toNat
theorem vst {p:Prg} {s:Nat} {x:Xc} (e:(stE p s x).2=0):VSt p s x:=by
 unfold stE at e;split at e
 ·cases e
 split at e
 ·cases e
 split at e
 ·cases e
 split at e
 ·cases e
 rename_i h1 h2 h3 h4;split at e
 ·rename_i y q;obtain ⟨k,hk,q2⟩:=zJ q;rw [Qa hk] at q2;simp only [dI] at q2;split at q2
  ·cases q2
  ·cases q2;exact absurd e (by assumption)
 ·rename_i q;split at e
  ·rename_i hdf;refine ⟨by omega,by omega,fun h hh=>?_,fun hs hz=>h3 ⟨hs,hz⟩,fun c hc=>?_,hdf,fun c hc=>?_⟩
   ·by_cases q1:h<0
    ·exact absurd (DX.2 ⟨h,hh,by simp [q1]⟩) h2
    by_cases q2:(p.Xo.length:Int)<=h
    ·exact absurd (DX.2 ⟨h,hh,by simp [q2]⟩) h2
    ·omega
   ·obtain ⟨k,hk,rfl⟩:=Qn.1 hc;have hz:=D5 (zZ q hk);unfold tD at hz;split at hz
    ·cases hz
    split at hz
    ·cases hz
    split at hz
    ·assumption
    ·cases hz
   ·obtain ⟨k,hk,rfl⟩:=Qn.1 hc;have hz:=D5 (zZ q hk);unfold tD at hz;split at hz
    ·cases hz
    split at hz
    ·cases hz
    ·rename_i hz2;exact Decidable.of_not_not hz2
  ·cases e
structure VPar (p:Prg):Prop where
 n:1<=p.Xw.length/\p.Xw.length<=12
 s:∀(i:Nat) (h:i<p.Xw.length),VSt p i p.Xw[i]
theorem vpar {p:Prg} (e:(parE p).2.2=0):VPar p:=by
 unfold parE at e;split at e
 ·cases e
 split at e
 ·cases e
 rename_i h1 h2;refine ⟨by omega,fun i hi=>vst ?_⟩;cases q:(fe (fun s=>(p.Xw[s]?).bind fun x=>if idS x.name=false then some ((s:Int),(-1:Int),(6:Int)) else if dupN Xc.name p.Xw s x then some ((s:Int),-1,7) else if (stE p s x).2=0 then none else some ((s:Int),(stE p s x).1,(stE p s x).2)) p.Xw.length 0) with
 | some y=>
  rw [q] at e;obtain ⟨k,hk,q2⟩:=zJ q;rw [Qa hk] at q2;simp only [dI] at q2;split at q2
  ·cases q2;cases e
  split at q2
  ·cases q2;cases e
  split at q2
  ·cases q2
  ·cases q2;exact absurd e (by assumption)
 | none=>
  have:=zZ q hi;split at this
  ·cases this
  split at this
  ·cases this
  exact D5 this
theorem sy {p:Prg} {s:Nat} {n:Int} (h:oW p s n=true):n= -1\/n= -2\/∃k:Nat,n=k/\s<k/\k<p.Xw.length:=by
 unfold oW at h;simp only [D3,d7,decide_eq_true_eq] at h;rcases h with (h | h) | h
 ·exact .inl h
 ·exact .inr (.inl h)
 ·exact .inr (.inr ⟨n.toNat,by omega,by omega,by omega⟩)
structure VStm (p:Prg) (ps:List Fld) (s:Xf):Prop where
 k:s.kind=1\/s.kind=2\/s.kind=3\/s.kind=4\/s.kind=5
 a:s.kind=1->∃w,decl p s.dst.header s.dst.field=some w/\valE p ps s.value w=0
 h:s.kind=2\/s.kind=3->0<=s.header/\s.header<p.Xo.length
 r:s.kind=4->∃r w,at? p.Xl s.Ye=some r/\decl p s.dst.header s.dst.field=some w/\(exE p ps s.index).2=0/\w=r.Yc
 w:s.kind=5->∃r,at? p.Xl s.Ye=some r/\(exE p ps s.index).2=0/\valE p ps s.value r.Yc=0
theorem vstm {p:Prg} {ps:List Fld} {s:Xf} (e:stmE p ps s=0):VStm p ps s:=by
 unfold stmE at e;split at e
 ·rename_i k1;refine ⟨.inl k1,fun _=>?_,fun h=>by omega,fun h=>by omega,fun h=>by omega⟩;split at e
  ·cases e
  ·rename_i w q;exact ⟨w,q,e⟩
 split at e
 ·rename_i _ k23;refine ⟨by omega,fun h=>by omega,fun _=>?_,fun h=>by omega,fun h=>by omega⟩;split at e
  ·rename_i q;obtain ⟨x,hx⟩:=zX.1 q;unfold at? at hx;split at hx
   ·cases hx
   ·obtain ⟨hk,_⟩:=Qm.1 hx;omega
  ·cases e
 split at e
 ·rename_i _ _ k4;refine ⟨by omega,fun h=>by omega,fun h=>by omega,fun _=>?_,fun h=>by omega⟩;split at e
  ·rename_i r w q1 q2;split at e
   ·rename_i q3;split at e
    ·rename_i q4;exact ⟨r,w,q1,q2,q3,q4⟩
    ·cases e
   ·exact absurd e (by assumption)
  ·cases e
 split at e
 ·rename_i _ _ _ k5;refine ⟨by omega,fun h=>by omega,fun h=>by omega,fun h=>by omega,fun _=>?_⟩;split at e
  ·rename_i r q1;split at e
   ·rename_i q3;exact ⟨r,q1,q3,e⟩
   ·exact absurd e (by assumption)
  ·cases e
 ·cases e
theorem XV.fold {p:Prg} {ps:List Fld} {args:List Int}:∀(l:List Xf) {x:Envt×List (List Int)},XV p x.1 x.2->XV p (l.foldl (stmX p ps args) x).1 (l.foldl (stmX p ps args) x).2
 | [],_,h=>h
 | s::l,_,h=>XV.fold l (h.stm s)
structure ELoop (p:Prg) (ps:List Fld) (args:List Int) (body:List Xf) (y:Envt×List (List Int)) (i:Nat) (E:Env) (O:List (Nat×AO)) (N:Nat):Prop where
 e8:look 8 E=some (.ptr 0 4 0 0)
 e10:look 10 E=some (.ptr 1 16 0 0)
 e65:look 65 E=some (.slice 7 (body.map Xf.c))
 e66:look 66 E=some (a7 body.length)
 e67:look 67 E=some (a7 i)
 l0:look 0 O=some (.row 4 [z4])
 l1:look 1 O=some (.row 16 [stC p ps args ((body.take i).foldl (stmX p ps args) y).1 ((body.take i).foldl (stmX p ps args) y).2])
 t:Tail O N
 nr:NR O
 n2:2<=N
theorem Dw {p:Prg} (w:PWd p) (ps:List Fld) {args:List Int} (ha:∀v∈args,ok32 0 v) (body:List Xf) (hb:body.length<2^40) (hk:∀s∈body,s.kind=1\/s.kind=2\/s.kind=3\/s.kind=4\/s.kind=5)
    {y:Envt×List (List Int)} (x:XV p y.1 y.2) {E:Env} {O:List (Nat×AO)} {N:Nat} (h:ELoop p ps args body y 0 E O N):
    go Φ (finP sS.results) [.c (.loop bG),.b 0,.c kC] .normal ⟨E,⟨O,N⟩⟩=some (.val (.tup [.agg (body.foldl (stmX p ps args) y).1.c,.slice 1 ((body.foldl (stmX p ps args) y).2.map (cS 1 c32))])):=by
  generalize hR:some (Rt.val (.tup [.agg (body.foldl (stmX p ps args) y).1.c,.slice 1 ((body.foldl (stmX p ps args) y).2.map (cS 1 c32))]))=R;refine cC body.length (fun i E h=>∃O N,h=⟨O,N⟩/\ELoop p ps args body y i E O N) (fun r=>r=R) ?_ ?_ 0 _ _ (Qc _) ⟨_,_,rfl,h⟩
  · rintro i E _ K hi hK ⟨O,N,rfl,h⟩ ih
    have hw:=aF i (by omega);obtain ⟨e8,e10,e65,e66,e67,l0,l1,T,nr,n2⟩:=h;have xi:=XV.fold (ps:=ps) (args:=args) (body.take i) x;have tk:body.take (i+1)=body.take i++[body[i]]:=Qh hi;have hks:=hk _ (Qd hi);have t0:=T N (Qb _);have T1:Tail O (N+1):=T.mono (by omega);generalize hs:body[i]=s at*;have next:∀{E2:Env} {f:Nat} {z:Envt×List (List Int)},StP p ps args 1 (N+1) O z (aG Φ f [.ptr 1 16 0 0,.agg s.c] ⟨O,N+1⟩)->z=stmX p ps args ((body.take i).foldl (stmX p ps args) y) s->
        ∃O2 N2,aG Φ f [.ptr 1 16 0 0,.agg s.c] ⟨O,N+1⟩=some (.val (.tup []),⟨O2,N2⟩)/\∀E2,look 8 E2=look 8 E->look 10 E2=look 10 E->look 65 E2=look 65 E->look 66 E2=look 66 E->look 67 E2=some (a7 (i+1:Nat))->go Φ (finP sS.results) K .normal ⟨E2,⟨O2,N2⟩⟩=R:=fun {E2 f z} ⟨O2,N2,hr,h1,h2,h3,h4,h5⟩ hz=>
      ⟨O2,N2,hr,fun E2 g8 g10 g65 g66 g67=>ih _ _ ⟨O2,N2,rfl,g8.trans e8,g10.trans e10,g65.trans e65,g66.trans e66,g67,by rw [h2 0 (by omega) (by omega),l0],by rw [h1,hz,tk,OI];rfl,h3,h5,by omega⟩⟩
    have hxs:body[i]=s:=hs;rcases hks with k | k | k | k | k
    · obtain ⟨O2,N2,hr,fin⟩:=next (E2:=E) (YJ w ps ha xi s T1 nr l1) (by simp [stmX,k])
      rw [Xf.e] at hr;rw [k] at hr;simp [bG,Xf.e,e10,e65,e66,e67,hi,hxs,t0,k,hr,hw];exact fin _ (by simp) (by simp) (by simp) (by simp) (by simp)
    · obtain ⟨O2,N2,hr,fin⟩:=next (E2:=E) (Lt w ps xi s T1 nr l1) (by simp [stmX,k])
      rw [Xf.e] at hr;rw [k] at hr;simp [bG,Xf.e,e10,e65,e66,e67,hi,hxs,t0,k,hr,hw];exact fin _ (by simp) (by simp) (by simp) (by simp) (by simp)
    · obtain ⟨O2,N2,hr,fin⟩:=next (E2:=E) (Nt w ps xi s T1 nr l1) (by simp [stmX,k])
      rw [Xf.e] at hr;rw [k] at hr;simp [bG,Xf.e,e10,e65,e66,e67,hi,hxs,t0,k,hr,hw];exact fin _ (by simp) (by simp) (by simp) (by simp) (by simp)
    · obtain ⟨O2,N2,hr,fin⟩:=next (E2:=E) (Hh w ps ha xi s T1 nr l1) (by simp [stmX,k])
      rw [Xf.e] at hr;rw [k] at hr;simp [bG,Xf.e,e10,e65,e66,e67,hi,hxs,t0,k,hr,hw];exact fin _ (by simp) (by simp) (by simp) (by simp) (by simp)
    · obtain ⟨O2,N2,hr,fin⟩:=next (E2:=E) (Az w ps ha xi s T1 nr l1) (by simp [stmX,k])
      rw [Xf.e] at hr;rw [k] at hr;simp [bG,Xf.e,e10,e65,e66,e67,hi,hxs,t0,k,hr,hw];exact fin _ (by simp) (by simp) (by simp) (by simp) (by simp)
  · rintro E _ K hK ⟨O,N,rfl,e8,e10,e65,e66,e67,l0,l1,T,nr,n2⟩
    rw [fF] at l1;generalize body.foldl (stmX p ps args) y=z at*;rw [st_e] at l1;rw [z4] at l0;have n0:¬N=0/\¬N=1:=by omega
    rw [<- hR];simp [sS] at hK;simp [sS,bG,kC,Envt.ce,e8,e10,e66,e67,hK,l0,l1,aA,nr.eq,nr.sw]
theorem Ri {p:Prg} (f:PrgS p) (w:PWd p) (c:Xb) (hc1:(actE p c.Xy).2=0) (hc2:nV p c=0) (ha:∀v∈c.args,ok32 0 v) (hal:c.args.length<2^40) {e:Envt} {rs:List (List Int)} (x:XV p e rs):
  a8 Φ 179 [.agg p.c,.agg c.c,.agg e.c,.slice 1 (rs.map (cS 1 c32))]=some (.val (.tup [.agg (exeX p c e rs).1.c,.slice 1 ((exeX p c e rs).2.map (cS 1 c32))])):=by
 rw [aB rfl rfl];have h1:=Sn e (x.evs w);have h2:=Ip rs (x.r1 w) (x.r2 w);have h3:=P8 p f c.Xy;have h4:=UP p f c hal;rw [hc2] at h4;rw [hc1] at h3;have hA:∃k:Nat,c.Xy=k/\∃hk:k<p.Xx.length,True:=by
  unfold actE at hc1;cases q:at? p.Xx c.Xy with
  | none=>rw [q] at hc1;cases hc1
  | some a=>obtain ⟨k,e,hk,_⟩:=iX q;exact ⟨k,e,hk,trivial⟩
 obtain ⟨k,hk,hkl,_⟩:=hA;obtain ⟨act,args⟩:=c;simp only at hk ha hal;subst hk;have hv:=vact hkl hc1;have hbl:=hv.bl;have hkk:∀s∈p.Xx[k].body,s.kind=1\/s.kind=2\/s.kind=3\/s.kind=4\/s.kind=5:=fun s hs=>(vstm (hv.st s hs)).k
 have hX:exeX p ⟨k,args⟩ e rs=p.Xx[k].body.foldl (stmX p p.Xx[k].params args) (e,rs):=by simp [exeX,hkl]
 rw [hX];have lp:∀(E:Env) (O:List (Nat×AO)) (N:Nat),ELoop p p.Xx[k].params args p.Xx[k].body (e,rs) 0 E O N->_:=fun E O N hh=>Dw w p.Xx[k].params ha p.Xx[k].body (by omega) hkk (y:=(e,rs)) x hh
 generalize p.Xx[k].body.foldl (stmX p p.Xx[k].params args) (e,rs)=z at*;have hact:p.Xx[k]=⟨p.Xx[k].name,p.Xx[k].params,p.Xx[k].body⟩:=rfl;simp only [Prg.e,Xb.e] at h3 h4;rw [Envt.ce] at h1;simp [sS,Prg.e,Xb.e,Action.e,Envt.ce,h1,h2,h3,h4,hkl];refine (lp _ _ _ ⟨?_,?_,?_,?_,?_,?_,?_,?_,?_,?_⟩).trans ?_
 ·simp
 ·simp
 ·simp
 ·simp
 ·simp
 ·simp [z4]
 ·simp [st_e]
 ·exact Tail_cons_iff.2 ⟨by omega,Tail_cons_iff.2 ⟨by omega,Tail.nil _⟩⟩
 ·exact bO (by simp) (.one (by simp))
 ·omega
 ·simp [Envt.ce]
end Go.Av
