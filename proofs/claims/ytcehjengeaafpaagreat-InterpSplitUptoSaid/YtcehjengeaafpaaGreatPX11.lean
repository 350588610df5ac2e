/-
 A header is added or removed: the program's answers.
-/
import Derived.Test.YtcehjengeaafpaaGreatPX6
set_option linter.unusedVariables false
set_option linter.unusedSimpArgs false
set_option linter.constructorNameAsVariable false
namespace Go.Av
set_option maxRecDepth 6000
theorem EM.setV {O:List (Nat×AO)} {B:Nat} {V F M:AV} {A:List AV} {e:Envt} (h:EM O B V F M A e) {id n:Nat} (hV:V= .row id 1 0 n) (l':List Bool) (hl:l'.length=e.valid.length):
  EM (setl id (.row 1 (l'.map cB)) O) B V F M A { e with valid:=l' }:=by
 obtain ⟨v,m,f,r,mne⟩:=h;rcases v with ⟨_,h2⟩ | ⟨id',h1,lV,hB,hne⟩
 ·rw [hV] at h2;cases h2
 rw [hV] at h1;cases h1;subst hV;have hne':e.valid≠[]:=fun z=>hne (by simp [z])
 refine ⟨?_,?_,?_,r.fr fun j l _ hj=>G0 lV hj fun z=>hne' (L0 (by simp [cB,c32]) z.symm),mne⟩
 ·exact .inr ⟨id,by simp [hl],by rw [aA,a8 rfl,lV];rfl,hB,fun z=>hne' (by simp at z;subst z;exact Qg hl.symm)⟩
 ·exact m.fr fun j _ hj=>G0 lV hj fun z=>hne' (L0 (by simp [cB,c32]) z.symm)
 ·exact f.fr fun j _ hj=>G0 lV hj fun z=>hne (r.head (fun x hx=>by obtain ⟨y,_,rfl⟩:=iO.1 hx;exact .inl ⟨_,rfl⟩) z.symm)
def swX (p:Prg) (e:Envt) (h:Int) (b keep:Bool):Envt:=if (at? p.Xo h).isSome=false\/(at? e.valid h).isSome=false\/(keep=true/\at? e.valid h=some b) then e else eSw e h.toNat b
theorem sw_ok (p:Prg) (e:Envt) (s:EvS e) (hm:e.metaF≠[]) (hs:e.Xz.length=e.valid.length) (h:Int) (b keep:Bool):
  aB Φ jX [.agg p.c,.agg e.c,a7 h,.bool b,.bool keep]=some (.val (.agg (swX p e h b keep).c)):=by
 rw [aD rfl rfl];have T1:Tail [(0,AO.row 4 [z4])] 1:=Tail_cons_iff.2 ⟨by omega,Tail.nil _⟩;obtain ⟨O1,N1,V,F,M,A,hr,em,kp,T,hN1,nr⟩:=Ce T1 (.one (by simp)) e s;have l0:look 0 O1=some (.row 4 [z4]):=by rw [kp 0 (by omega) (by simp)];rfl
 have t0:=T N1 (Qb _);rcases em.m with ⟨z,_⟩ | ⟨im,rfl,lM,him,_⟩
 ·simp at z;exact absurd z hm
 generalize hMl:(e.metaF.map c32).length=lm at*;have n0:¬0=N1/\¬N1=0:=by omega
 rw [Envt.ce] at hr;simp only [z4,clR] at hr l0;have em2:=em.app [(N1,.row 4 [[V,F,.row im 1 0 lm,.slice 1 (e.payload.map c8)]])];have lN1:look N1 (O1++[(N1,.row 4 [[V,F,.row im 1 0 lm,.slice 1 (e.payload.map c8)]])])=some (.row 4 [[V,F,.row im 1 0 lm,.slice 1 (e.payload.map c8)]]):=by rw [aE,t0];simp
 have l02:look 0 (O1++[(N1,.row 4 [[V,F,.row im 1 0 lm,.slice 1 (e.payload.map c8)]])])=some (.row 4 [[.Xt 1 [],.Xt 1 [],.Xt 1 [],.Xt 1 []]]):=bK l0;generalize hO2:O1++[(N1,.row 4 [[V,F,.row im 1 0 lm,.slice 1 (e.payload.map c8)]])]=O2 at*;have fin:∀(O:List (Nat×AO)) n (e':Envt),EM O 1 V F (.row im 1 0 lm) A e'->e'.payload=e.payload->look 0 O=some (.row 4 [[.Xt 1 [],.Xt 1 [],.Xt 1 [],.Xt 1 []]])->retP ⟨setl 0 (.row 4 [[V,F,.row im 1 0 lm,.slice 1 (e.payload.map c8)]]) O,n⟩ (some (.agg [V,F,.row im 1 0 lm,.slice 1 (e.payload.map c8)]))=some (.val (.agg e'.c)):=fun O n e' h hp hl=>by
  have h2:EM (setl 0 (.row 4 [[V,F,.row im 1 0 lm,.slice 1 (e.payload.map c8)]]) O) 1 V F (.row im 1 0 lm) A e':=by
   have key:∀(es:List (List AV)) (j:Nat),1<=j->look j O=some (.row 1 es)->look j (setl 0 (.row 4 [[V,F,.row im 1 0 lm,.slice 1 (e.payload.map c8)]]) O)=some (.row 1 es):=fun es j hj h=>by rw [aA,QA (by omega),h]
   exact ⟨h.v.fr fun j h1 h2=>key _ j h1 h2,h.m.fr fun j h1 h2=>key _ j h1 h2,h.f.fr fun j h1 h2=>key _ j h1 h2,h.r.fr fun j l h1 h2=>key _ j h1 h2,h.mne⟩
  have:=h2.snp (N:=n);rw [hp] at this;rw [Jl,show aK=39+1 from rfl,Cs,this];rfl
 have sV:∀n,snap 40 ⟨O2,n⟩ V=some (.slice 1 (e.valid.map cB)):=fun n=>em2.v.sB
 generalize hR:some (Rt.val (AV.agg (swX p e h b keep).c))=R;have hH:=Z4 (p.Xo.map Xi.c) h;have hB:=YG (e.valid.map cB) h;rw [n9,<- HO] at hH hB;cases q1:(at? p.Xo h).isSome with
 | false=>
  have e1:swX p e h b keep=e:=by simp [swX,q1]
  rw [e1] at hR;rw [q1] at hH;simp [fX,Prg.e,Envt.ce,hr,t0,n0,aE,aA,rC,hH,hO2,lN1,l02,-retP];rw [<- hR];exact fin O2 _ e em2 rfl l02
 | true=>
 rw [q1] at hH;cases q2:(at? e.valid h).isSome with
 | false=>
  have e1:swX p e h b keep=e:=by simp [swX,q2]
  rw [e1] at hR;rw [q2] at hB;simp [fX,Prg.e,Envt.ce,hr,t0,n0,aE,aA,rC,hH,hB,hO2,lN1,l02,sV,-retP];rw [<- hR];exact fin O2 _ e em2 rfl l02
 | true=>
 rw [q2] at hB;obtain ⟨x,hx⟩:=xZ.1 q2;obtain ⟨k,rfl,hk,hxk⟩:=iG hx;rcases em2.v with ⟨z,_⟩ | ⟨iv,rfl,lV,hiv,_⟩
 ·have:e.valid=[]:=by simpa using z
  rw [this] at hk;simp at hk
 have hkl:k<(e.valid.map cB).length:=by simpa using hk
 have sV':=sV;have lV':=lV;have hmp:=fun n=>nU (g:=cB) (n:=39) (H:=⟨O2,n⟩) (fun x=>by simp [cB]) e.valid
 have i0:¬iv=0/\¬0=iv:=by omega
 have i1:¬iv=N1/\¬N1=iv:=by have:=bO lV lN1 (by simp);exact ⟨this,fun e=>this e.symm⟩
 generalize hlv:(e.valid.map cB).length=lv at*;have hlv':e.valid.length=lv:=by rw [<- hlv];simp
 have htl:(e.valid.map cB).take lv=e.valid.map cB:=Qo (by simp [hlv']);have hcB:(e.valid.map cB)[k]? =some [.bool x]:=by rw [List.getElem?_map,Qa hk,hxk];rfl
 by_cases zk:keep=true/\x=b
 ·have e1:swX p e k b keep=e:=by
   unfold swX;rw [a8 (.inr (.inr ⟨zk.1,by rw [hx,zk.2]⟩))]
  rw [e1] at hR;obtain ⟨rfl,rfl⟩:=zk;simp [fX,Prg.e,Envt.ce,hr,t0,n0,aE,aA,rC,hH,hB,hO2,lN1,l02,lV,htl,hmp,hlv,hlv',hk,hkl,hxk,cB,-retP];rw [<- hR];exact fin O2 _ e em2 rfl l02
 have e1:swX p e k b keep=eSw e k b:=by
  unfold swX;rw [QA]
  ·rfl
  ·rintro (q | q | ⟨q,q3⟩)
   ·rw [q1] at q;cases q
   ·rw [q2] at q;cases q
   ·rw [hx] at q3;exact zk ⟨q,Option.some.inj q3⟩
 rw [e1] at hR;have hkA:k<A.length:=by rw [em2.r.len,hs];exact hk
 have hkF:k<e.Xz.length:=by rw [hs];exact hk
 have hAk:A[k]? =some A[k]:=Qa hkA;rcases em2.f with ⟨hA,_⟩ | ⟨fd,rfl,lF,hfd,_⟩
 ·simp at hA;rw [hA] at hkA;simp at hkA
 have hlA:=em2.r.len;have hlF:(A.map fun x=>[x]).length=lv:=by rw [n9,hlA,hs,hlv']
 rw [hlF] at hr hO2 lN1 em2 fin;have em3:=em2.setV rfl (e.valid.set k b) (by simp);have hst:(e.valid.map cB).set k [AV.bool b]=(e.valid.set k b).map cB:=by rw [yE];simp [cB]
 rw [<- hst] at em3;have f1:¬fd=iv/\¬iv=fd:=by
  have:fd≠iv:=bO lF lV fun z=>by
   injection z with _ z
   have:=em2.r.head (fun x hx=>by obtain ⟨y,_,rfl⟩:=iO.1 hx;exact .inl ⟨_,rfl⟩) z;simp at this;rw [this] at hk;simp at hk
  exact ⟨this,fun e=>this e.symm⟩
 have hk3:¬lv<=k:=by omega
 have hkx:keep=false\/(keep=true/\decide (x=b)=false):=by
  cases keep
  ·exact .inl rfl
  ·exact .inr ⟨rfl,by simp;exact fun q=>zk ⟨rfl,q⟩⟩
 rcases em2.r.row k _ _ hAk (Qa hkF) with ⟨zl,hAf⟩ | ⟨id,hAr,lA,hid⟩
 ·have e2:eSw e k b={ e with valid:=e.valid.set k b }:=by
   unfold eSw;have:e.Xz.set k ((e.Xz.getD k []).map fun _=>0)=e.Xz:=by
    rw [zA,Qa hkF,jC];have h2:(e.Xz[k].map fun _=>(0:Int))=e.Xz[k]:=by rw [zl];rfl
    rw [h2];exact List.set_getElem_self hkF
   rw [this]
  rw [e2] at hR;have key:retP ⟨setl 0 (.row 4 [[.row iv 1 0 lv,.row fd 1 0 lv,.row im 1 0 lm,.slice 1 (e.payload.map c8)]]) (setl iv (.row 1 ((e.valid.map cB).set k [.bool b])) O2),N1+1⟩ (some (.agg [.row iv 1 0 lv,.row fd 1 0 lv,.row im 1 0 lm,.slice 1 (e.payload.map c8)]))=R:=by
   rw [<- hR];exact fin _ _ _ em3 rfl (by rw [aA,QA i0.2,l02])
  rcases hkx with rfl | ⟨rfl,hxb⟩
  ·simp [fX,Prg.e,Envt.ce,hr,t0,n0,aE,aA,rC,hH,hB,hO2,lN1,l02,lV,htl,hmp,hlv,hlv',hk,hkl,hk3,hxk,cB,i0,i1,f1,rX,bZ,hlA,hs,lF,hkA,hAf,-retP];exact key
  ·simp [fX,Prg.e,Envt.ce,hr,t0,n0,aE,aA,rC,hH,hB,hO2,lN1,l02,lV,htl,hmp,hlv,hlv',hk,hkl,hk3,hxk,hxb,cB,i0,i1,f1,rX,bZ,hlA,hs,lF,hkA,hAf,-retP];exact key
 ·have hAr2:A[k]? =some (.row id 1 0 e.Xz[k].length):=by rw [hAk,hAr]
  have em4:=em3.setA hAr2 (e.Xz[k].map fun _=>0) (by simp);have e2:eSw e k b={ e with valid:=e.valid.set k b,Xz:=e.Xz.set k (e.Xz[k].map fun _=>0) }:=by
   unfold eSw;rw [zA,Qa hkF,jC]
  rw [e2] at hR;have hrep:List.replicate e.Xz[k].length [AV.int .u32 0]=(e.Xz[k].map fun _=>(0:Int)).map c32:=by
   rw [List.map_map,<- List.map_const'];rfl
  have j1:¬id=iv/\¬iv=id:=by
   have:id≠iv:=bO lA lV fun z=>by
    injection z with _ z
    have:=L0 (by simp [cB,c32]) z;rw [this] at hk;simp at hk
   exact ⟨this,fun e=>this e.symm⟩
  have j0:¬id=0/\¬0=id:=by omega
  have j2:¬id=N1/\¬N1=id:=by have:=bO lA lN1 (by simp);exact ⟨this,fun e=>this e.symm⟩
  have htk:(e.Xz[k].map c32).take e.Xz[k].length=e.Xz[k].map c32:=Qo (by simp);have hdk:(e.Xz[k].map c32).drop e.Xz[k].length=[]:=List.drop_of_length_le (by simp);have key:retP ⟨setl 0 (.row 4 [[.row iv 1 0 lv,.row fd 1 0 lv,.row im 1 0 lm,.slice 1 (e.payload.map c8)]]) (setl id (.row 1 (List.replicate e.Xz[k].length [AV.int .u32 0])) (setl iv (.row 1 ((e.valid.map cB).set k [.bool b])) O2)),N1+1⟩ (some (.agg [.row iv 1 0 lv,.row fd 1 0 lv,.row im 1 0 lm,.slice 1 (e.payload.map c8)]))=R:=by
   rw [<- hR,hrep];exact fin _ _ _ em4 rfl (by rw [aA,QA j0.2,aA,QA i0.2,l02])
  rcases hkx with rfl | ⟨rfl,hxb⟩
  ·simp [fX,Prg.e,Envt.ce,hr,t0,n0,aE,aA,rC,hH,hB,hO2,lN1,l02,lV,htl,hmp,hlv,hlv',hk,hkl,hk3,hxk,cB,i0,i1,f1,rX,bZ,hlA,hs,lF,hkA,hAr,lA,j0,j1,j2,hdk,-retP];exact key
  ·simp [fX,Prg.e,Envt.ce,hr,t0,n0,aE,aA,rC,hH,hB,hO2,lN1,l02,lV,htl,hmp,hlv,hlv',hk,hkl,hk3,hxk,hxb,cB,i0,i1,f1,rX,bZ,hlA,hs,lF,hkA,hAr,lA,j0,j1,j2,hdk,-retP];exact key
theorem XQ (p:Prg) (e:Envt) (h:Int):swX p e h true true=eAdd p e h:=by
 unfold swX eAdd;cases q1:(at? p.Xo h).isSome<;>cases q2:at? e.valid h with
 | none=>simp
 | some x=>cases x<;>simp
theorem XR (p:Prg) (e:Envt) (h:Int):swX p e h false false=eRem p e h:=by
 unfold swX eRem;cases q1:(at? p.Xo h).isSome<;>cases q2:(at? e.valid h).isSome<;>simp
theorem XL (p:Prg) (e:Envt) (s:EvS e) (hm:e.metaF≠[]) (hs:e.Xz.length=e.valid.length) (h:Int):aB Φ uZ [.agg p.c,.agg e.c,a7 h]=some (.val (.agg (eAdd p e h).c)):=by
 rw [aD rfl rfl,<- XQ];have k:=sw_ok p e s hm hs h true true;generalize swX p e h true true=e2 at*;rw [Envt.ce] at k;rw [Envt.ce] at k;simp only [Prg.e] at k;simp [D1,Prg.e,Envt.ce,k]
theorem Y' (p:Prg) (e:Envt) (s:EvS e) (hm:e.metaF≠[]) (hs:e.Xz.length=e.valid.length) (h:Int):aB Φ v5 [.agg p.c,.agg e.c,a7 h]=some (.val (.agg (eRem p e h).c)):=by
 rw [aD rfl rfl,<- XR];have k:=sw_ok p e s hm hs h false false;generalize swX p e h false false=e2 at*;rw [Envt.ce] at k;rw [Envt.ce] at k;simp only [Prg.e] at k;simp [D3,Prg.e,Envt.ce,k]
section
variable {Z:Type} (m:Z->Bool) (pr:Z->Z->Bool)
def OW (l:List Z):Option Z:=l.find? fun r=>m r&& !(l.any fun x=>m x&&pr x r)
def rJ (o:Option Z) (r:Z):Option Z:=if m r&&(match o with | none=>true | some b=>pr r b) then some r else o
def Fm (l:List Z):Option Z:=l.foldl (rJ m pr) none
variable {m pr}
theorem Iw (irr:∀a,pr a a=false) (tr:∀a b c,pr a b=true->pr b c=true->pr a c=true):∀(l s:List Z) (o:Option Z),(∀a∈s++l,∀b∈s++l,a≠b->pr a b=true\/pr b a=true)->
  (match o with | none=>∀x∈s,m x=false | some r=>r∈s/\m r=true/\∀x∈s,m x=true->pr x r=false)->
  match l.foldl (rJ m pr) o with | none=>∀x∈s++l,m x=false | some r=>r∈s++l/\m r=true/\∀x∈s++l,m x=true->pr x r=false
 | [],s,o,_,h=>by simpa using h
 | a::l,s,o,ht,h=>by
  have hh:s++a::l=(s++[a])++l:=by simp
  rw [hh] at ht ⊢;rw [J4];refine Iw irr tr l (s++[a]) _ ht ?_;cases o with
  | none=>
   simp only at h;cases hm:m a with
   | false=>
    simp only [rJ,hm,J6];intro x hx;rcases fG.1 hx with hx | hx
    ·exact h x hx
    ·simp at hx;subst hx;exact hm
   | true=>
    simp only [rJ,hm,HH,if_true];refine ⟨by simp,trivial,?_⟩;intro x hx hmx;rcases fG.1 hx with hx | hx
    ·rw [h x hx] at hmx;cases hmx
    ·simp at hx;subst hx;exact irr x
  | some b=>
   obtain ⟨h1,h2,h3⟩:=h;cases hm:m a with
   | false=>
    simp only [rJ,hm,J6];refine ⟨by simp [h1],h2,?_⟩;intro x hx hmx;rcases fG.1 hx with hx | hx
    ·exact h3 x hx hmx
    ·simp at hx;subst hx;rw [hm] at hmx;cases hmx
   | true=>
    cases hp:pr a b with
    | true=>
     simp only [rJ,hm,hp,HH,if_true];refine ⟨by simp,trivial,?_⟩;intro x hx hmx;rcases fG.1 hx with hx | hx
     ·refine MJ.2 fun hc=>?_
      have:=tr x a b hc hp;rw [h3 x hx hmx] at this;cases this
     ·simp at hx;subst hx;exact irr x
    | false=>
     simp only [rJ,hm,hp,Bool.and_false];refine ⟨by simp [h1],h2,?_⟩;intro x hx hmx;rcases fG.1 hx with hx | hx
     ·exact h3 x hx hmx
     ·simp at hx;subst hx;exact hp
theorem TK (irr:∀a,pr a a=false) (tr:∀a b c,pr a b=true->pr b c=true->pr a c=true) (l:List Z) (ht:∀a∈l,∀b∈l,a≠b->pr a b=true\/pr b a=true):OW m pr l=Fm m pr l:=by
 have h:=Iw (m:=m) irr tr l [] none (by simpa using ht) (by simp);simp only [rT] at h;unfold Fm;cases hr:l.foldl (rJ m pr) none with
 | none=>
  rw [hr] at h;simp only at h;unfold OW;rw [List.find?_eq_none];intro x hx;simp [h x hx]
 | some r=>
  rw [hr] at h;simp only at h;obtain ⟨h1,h2,h3⟩:=h;have hbeat:(l.any fun x=>m x&&pr x r)=false:=by
   rw [List.any_eq_false];intro x hx;cases hm:m x with
   | false=>simp
   | true=>simp [h3 x hx hm]
  unfold OW;have huniq:∀y∈l,(m y&& !(l.any fun x=>m x&&pr x y))=true->y=r:=by
   intro y hy hc;simp only [cE,yC] at hc;refine Classical.byContradiction fun hne=>?_
   rcases ht y hy r h1 hne with hp | hp
   ·rw [h3 y hy hc.1] at hp;cases hp
   ·have:=List.any_eq_false.1 hc.2 r h1;simp [h2,hp] at this
  cases hf:l.find? (fun r=>m r&& !(l.any fun x=>m x&&pr x r)) with
  | none=>
   rw [List.find?_eq_none] at hf;have:=hf r h1;simp [h2] at this;obtain ⟨x,hx,hmx,hp⟩:=this;rw [h3 x hx hmx] at hp;cases hp
  | some y=>
   rw [huniq y (PL hf) (by have:=List.find?_some hf;exact this)]
end
def noE:Entry:=⟨[],0,⟨0,[]⟩⟩
theorem noE_s:EntS noE:=⟨by simp [noE],by simp [noE],by simp [noE],by simp [noE]⟩
theorem lk_ge {j:Nat}:∀{L:List (Nat×AO)},(∀x∈L,j<x.1)->look j L=none
 | [],_=>rfl
 | (u,w)::r,h=>by
  have:=h (u,w) (by simp);have hr:=lk_ge (L:=r) fun x hx=>h x (by simp [hx])
  have hu:¬u=j:=by simp only at this;omega
  simp [look,hu,hr]
theorem lk_lt {j:Nat}:∀{L:List (Nat×AO)},(∀x∈L,x.1<j)->look j L=none
 | [],_=>rfl
 | (u,w)::r,h=>by
  have:=h (u,w) (by simp);have hr:=lk_lt (L:=r) fun x hx=>h x (by simp [hx])
  have hu:¬u=j:=by simp only at this;omega
  simp [look,hu,hr]
theorem Kp.apps {X:Nat->Prop} {N:Nat} {O L:List (Nat×AO)} (h:∀x∈L,N<=x.1):Kp X N O (O++L):=fun j hj _=>by
 rw [aE,lk_ge (L:=L) fun x hx=>by have:=h x hx;omega];cases look j O<;>rfl
theorem Tail.apps {N M:Nat} {O L:List (Nat×AO)} (hT:Tail O N) (hn:N<=M) (h:∀x∈L,x.1<M):Tail (O++L) M:=fun j hj=>by
 rw [aE,hT j (by omega),lk_lt (L:=L) fun x hx=>by have:=h x hx;omega];rfl
set_option maxRecDepth 4000
def osum (a:Nat):Nat->Nat
 | 0=>0
 | i+1=>osum a i+a / 2^i % 2
theorem Mx (a:Nat):∀i,osum a i<=i
 | 0=>Qb _
 | i+1=>by have:=Mx a i;simp only [osum];omega
def LA (v:Int):Int:=(osum v.toNat 32:Nat)
theorem U6 (n:Nat):iand .u32 (n:Int) 1=(n:Int) % 2:=by
 unfold iand;have e3:(BitVec.ofInt 32 (n:Int)&&& BitVec.ofInt 32 1).toNat=((n:Int) % 4294967296).toNat % 2:=by
  rw [BitVec.toNat_and];have:(BitVec.ofInt 32 1).toNat=2^1 - 1:=rfl;rw [this,Nat.and_two_pow_sub_one_eq_mod,BitVec.toNat_ofInt];rfl
 rw [show IntKind.bits .u32=32 from rfl,e3];simp only [IntKind.wrap,IntKind.bits,IntKind.signed];simp;omega
theorem XF (n i:Nat) (h:i<32):ishr .u32 (n:Int) (i:Int)=((n / 2^i:Nat):Int):=by
 unfold ishr;have:min (i:Int).toNat IntKind.u32.bits=i:=by simp [IntKind.bits];omega
 rw [this,Int.fdiv_eq_ediv_of_nonneg _ (by exact BB (sC (by decide)))];rw [Int.natCast_ediv,Int.natCast_pow];rfl
theorem W6 (n:Nat) (hn:n<2^32):aB Φ qI [.int .u32 (n:Int)]=some (.val (a7 (osum n 32:Nat))):=by
 rw [aD rfl rfl];simp [DE];refine mQ 32 (fun i e=>look 0 e=some (.int .u32 (n:Int))/\look 3 e=some (a7 (osum n i:Nat))/\look 5 e=some (a7 i)) (fun _=>some (Rt.val (a7 (osum n 32:Nat)))) ?_ ?_ 0 _ (Qc _) ?_
 ·rintro i e L hi hL ⟨h0,h3,h5⟩ ih;have hw:=aP i (by omega);have hb:=Mx n i;have h1:=XF n i hi;have h2:=U6 (n / 2^i);have hq:osum n (i+1)=osum n i+n / 2^i % 2:=rfl;generalize n / 2^i=q at*;have hc:IntKind.wrap .i64 ((q:Int) % 2)=(q:Int) % 2:=cM (by omega) (by omega);have hs:IntKind.wrap .i64 ((osum n i:Nat)+((q:Int) % 2))=((osum n (i+1):Nat):Int):=by
   rw [cM (by omega) (by omega),hq];omega
  have hi':(i:Int)<32:=by omega
  simp [c_384_l0,h0,h3,h5,hi',hL,h1,h2,hc,hs,hw];exact ih _ ⟨by simp [h0],by simp,by simp⟩
 ·rintro e L hL ⟨h0,h3,h5⟩;simp [c_384_l0,c_384_k1,h3,h5,hL]
 ·simp [osum]
theorem R6 {v:Int} (h:ok32 0 v):aB Φ qI [.int .u32 v]=some (.val (a7 (LA v))):=by
 obtain ⟨h1,h2⟩:=h;obtain ⟨n,rfl⟩:∃n:Nat,v=n:=⟨v.toNat,by omega⟩;have:=W6 n (by omega);simpa [LA] using this
def pfx:List Xk->List Xh->Int
 | [],_=>0
 | k::ks,xs=>if k.kind=2 then (match xs with | m::_=>LA m.Yd | []=>0) else pfx ks (xs.drop 1)
def pfxZ (p:Prg) (t:Int) (x:Entry):Int:=match at? p.Xm t with
 | some tb=>pfx tb.keys x.keys
 | none=>0
theorem Lb (k:Xk) (ks:List Xk) (xs:List Xh):pfx (k::ks) xs=if k.kind=2 then (match xs with | m::_=>LA m.Yd | []=>0) else pfx ks (xs.drop 1):=rfl
theorem VD {ks:List Xk} {xs:List Xh} {i:Nat} (hi:i<ks.length) (h:ks[i].kind=2):pfx (ks.drop i) (xs.drop i)=if hx:i<xs.length then LA xs[i].Yd else 0:=by
 rw [Qi hi,Lb,a8 h];by_cases hx:i<xs.length
 ·rw [dif_pos hx,Qi hx]
 ·rw [dif_neg hx,List.drop_eq_nil_of_le (by omega)]
theorem SK {ks:List Xk} {xs:List Xh} {i:Nat} (hi:i<ks.length) (h:¬ks[i].kind=2):pfx (ks.drop i) (xs.drop i)=pfx (ks.drop (i+1)) (xs.drop (i+1)):=by
 rw [Qi hi,Lb,QA h,BA]
theorem WE (ks:List Xk) (xs:List Xh):pfx (ks.drop ks.length) xs=0:=by simp [pfx]
theorem Jh (p:Prg) (f:PrgS p) (t:Int) (x:Entry) (hx:EntS x):aB Φ qA [.agg (Prg.c p),a7 t,.agg (Entry.c x)]=some (.val (a7 (pfxZ p t x))):=by
 rw [aD rfl rfl];by_cases i0:t<0
 ·simp [oV,Prg.e,Entry.ce,pfxZ,gC i0,i0]
 by_cases i1:(p.Xm.length:Int)<=t
 ·simp [oV,Prg.e,Entry.ce,pfxZ,iJ i1,i0,i1]
 obtain ⟨k,rfl⟩:∃k:Nat,t=k:=⟨t.toNat,by omega⟩;have hk:k<p.Xm.length:=by omega
 have hR:pfxZ p k x=pfx p.Xm[k].keys x.keys:=by rw [pfxZ,nK,Qa hk]
 rw [hR];generalize hQ:pfx p.Xm[k].keys x.keys=Q;have hkl:=f.tk p.Xm[k] (Qd hk);simp [oV,Prg.e,Entry.ce,Tbl.e,i0,i1,hk];refine eS p.Xm[k].keys.length (fun _=>[]) 0 (fun i e=>pfx (p.Xm[k].keys.drop i) (x.keys.drop i)=Q/\look 5 e=some (.iptr 4 [Entry.c x] 0 0)/\look 23 e=some (.slice 3 (p.Xm[k].keys.map Xk.c))/\look 24 e=some (a7 p.Xm[k].keys.length)/\look 25 e=some (a7 i)) (fun _=>some (Rt.val (a7 Q))) ?_ ?_ 0 _ _ (Qc _) (Qc _) ?_
 ·rintro i e n L hi hL - ⟨he,h5,h23,h24,h25⟩ ih;have hw:=aP i (by omega);rw [Entry.ce] at h5;by_cases z:p.Xm[k].keys[i].kind=2
  ·rw [VD hi z] at he;by_cases q:i<x.keys.length
   ·rw [dif_pos q] at he;have ho:=R6 (hx.ks x.keys[i] (Qd q)).2;simp [c_351_l0,Xk.e,Xh.ce,h5,h23,h24,h25,hi,hL,z,q,ho,he]
   ·rw [dif_neg q] at he;simp [c_351_l0,Xk.e,Xh.ce,h5,h23,h24,h25,hi,hL,z,q,<- he]
  ·rw [SK hi z] at he;simp [c_351_l0,Xk.e,h5,h23,h24,h25,hi,hL,z,hw];exact ih _ _ (Qc _) ⟨he,by simp [h5,Entry.ce],by simp [h23,Xk.e],by simp [h24],by simp⟩
 ·rintro e n L hL - ⟨he,h5,h23,h24,h25⟩;rw [WE] at he;simp [c_351_l0,c_351_k1,h23,h24,h25,hL,<- he]
 ·exact ⟨by simpa using hQ,by simp [Entry.ce],by simp,by simp,by simp⟩
def prc (p:Prg) (t:Int) (a b:Rw):Bool:=if a.entry.Xs≠b.entry.Xs then decide (b.entry.Xs<a.entry.Xs) else if pfxZ p t a.entry≠pfxZ p t b.entry then decide (pfxZ p t b.entry<pfxZ p t a.entry) else decide (a.id<b.id)
theorem Zl (p:Prg) (f:PrgS p) (t:Int) (a b:Rw) (ha:EntS a.entry) (hb:EntS b.entry):aB Φ uM [.agg (Prg.c p),a7 t,.agg (Rw.c a),.agg (Rw.c b)]=some (.val (.bool (prc p t a b))):=by
 rw [aD rfl rfl];have k1:=Jh p f t a.entry ha;have k2:=Jh p f t b.entry hb;simp only [Prg.e,Entry.ce] at k1 k2;by_cases q1:a.entry.Xs=b.entry.Xs
 ·rw [q1] at k1;by_cases q2:pfxZ p t a.entry=pfxZ p t b.entry
  ·simp [oR,Prg.e,Rw.ce,prc,k1,k2,q1,q2]
  ·simp [oR,Prg.e,Rw.ce,prc,k1,k2,q1,q2]
 ·simp [oR,Prg.e,Rw.ce,prc,q1]
def EQ (m:Xh) (v:Int):Prop:=iand .u32 (ixor .u32 v m.value) m.Yd=0
instance (m:Xh) (v:Int):Decidable (EQ m v):=by unfold EQ;infer_instance
def mts:List Xh->List Int->Bool
 | m::ms,v::vs=>if EQ m v then mts ms vs else false
 | _,_=>true
def mtF (x:Entry) (key:List Int):Bool:=decide (x.keys.length=key.length)&&mts x.keys key
theorem VY {l:List Xh} {k:List Int} {i:Nat} (h1:i<l.length) (h2:i<k.length) (h:EQ l[i] k[i]):mts (l.drop i) (k.drop i)=mts (l.drop (i+1)) (k.drop (i+1)):=by
 rw [Qi h1,Qi h2,mts,a8 h]
theorem S6 {l:List Xh} {k:List Int} {i:Nat} (h1:i<l.length) (h2:i<k.length) (h:¬EQ l[i] k[i]):mts (l.drop i) (k.drop i)=false:=by
 rw [Qi h1,Qi h2,mts,QA h]
theorem qw8 (x:Entry) (hx:x.keys.length<2^40) (key:List Int):aB Φ uL [.agg (Entry.c x),.slice 1 (key.map c32)]=some (.val (.bool (mtF x key))):=by
 rw [aD rfl rfl];by_cases q:x.keys.length=key.length
 rotate_left
 ·have q':¬key.length=x.keys.length:=fun h=>q h.symm
  simp [t7,Entry.ce,mtF,q,q']
 have hR:mtF x key=mts x.keys key:=by simp [mtF,q]
 rw [hR];generalize hQ:mts x.keys key=Q;simp [t7,Entry.ce,q];refine eS x.keys.length (fun _=>[]) 0 (fun i e=>mts (x.keys.drop i) (key.drop i)=Q/\look 1 e=some (.slice 1 (key.map c32))/\look 14 e=some (.slice 2 (x.keys.map Xh.c))/\look 15 e=some (a7 x.keys.length)/\look 16 e=some (a7 i)) (fun _=>some (Rt.val (.bool Q))) ?_ ?_ 0 _ _ (Qc _) (Qc _) ?_
 ·rintro i e n L hi hL - ⟨he,h1,h14,h15,h16⟩ ih;have hw:=aP i (by omega);have hk:i<key.length:=by omega
  by_cases z:EQ x.keys[i] key[i]
  ·rw [VY hi hk z] at he;unfold EQ at z;simp [c_281_l0,Xh.ce,c32e,h1,h14,h15,h16,hi,hk,hL,z,hw];exact ih _ _ (Qc _) ⟨he,by simp [h1],by simp [h14,Xh.ce],by simp [h15],by simp⟩
  ·rw [S6 hi hk z] at he;unfold EQ at z;simp [c_281_l0,Xh.ce,c32e,h1,h14,h15,h16,hi,hk,hL,z,<- he]
 ·rintro e n L hL - ⟨he,h1,h14,h15,h16⟩;rw [q,B8,List.drop_of_length_le (by omega)] at he;simp [c_281_l0,c_281_k1,h14,h15,h16,hL,<- he,mts]
 ·exact ⟨by simpa using hQ,by simp,by simp,by simp [q],by simp⟩
theorem Kc (r:Rw) (hr:EntS r.entry) (key:List Int):aB Φ cF [.agg (Rw.c r),.iptr 1 [[.slice 1 (key.map c32)]] 0 0]=some (.val (.bool (mtF r.entry key))):=by
 rw [aD rfl rfl];have h:=qw8 r.entry hr.kl key;simp only [Entry.ce] at h;simp [CA,Rw.ce,h]
def zRow:List AV:=[a7 0,.Xt 2 [],a7 0,a7 0,.Xt 1 []]
def XK (N:Nat) (O:List (Nat×AO)) (o:Option Rw) (r:Option (Rt×AH)):Prop:=
 ∃O' N',r=some (.val (.tup [.agg (match o with | some x=>Rw.c x | none=>zRow),.bool o.isSome]),⟨O',N'⟩)/\Kp (fun _=>False) N O O'/\Tail O' N'/\N<=N'
theorem Ls {O:List (Nat×AO)} {N:Nat} (hT:Tail O N) {L:AV} {l:List Rw} (hL:Re O 5 L (l.map Rw.c)) (hll:l.length<2^40) {g:Nat} {caps caps':List AV} (P:Rw->Bool)
  (hcap:∀O' N',(∀j,j<N->look j O'=look j O)->mapO (snap 40 ⟨O',N'⟩) caps=some caps') (hP:∀x∈l,aB Φ g (.agg (Rw.c x)::caps')=some (.val (.bool (P x)))):
  XK N O (l.find? P) (aH Φ jO [L,.func (.func g) [] caps] ⟨O,N⟩):=by
 rw [d6 rfl rfl];have t0:=hT N (Qb _);have hlen:=hL.len;rw [n9] at hlen;simp [CB,t0,hlen,-lenOf];generalize hR:l.find? P=R;refine eF l.length (fun i e h=>∃O' N',h=⟨O',N'⟩/\(l.drop i).find? P=R/\Kp (fun _=>False) N O O'/\Tail O' N'/\N+1<=N'/\look N O'=some (.row 5 [zRow])/\look 1 e=some (.func (.func g) [] caps)/\look 4 e=some (.ptr N 5 0 0)/\look 9 e=some L/\look 10 e=some (a7 l.length)/\look 11 e=some (a7 i)) _ ?_ ?_ 0 _ _ (Qc _) ?_
 ·rintro i e _ K hi hK ⟨O',N',rfl,hf,hk,hT',hN,hb,h1,h4,h9,h10,h11⟩ ih;have hw:=aP i (by omega);have hv':Re O' 5 L (l.map Rw.c):=by
   refine hL.fr fun j hj=>?_
   cases hL with
   | row id _ es0 n hn hl hle ht=>cases hj;exact hk j (hT.lt hl) (by simp)
   | sl=>cases hj
   | fs=>cases hj
   | ap=>cases hj
  have u0:=hT' N' (Qb _);have nN:¬N=N':=by omega
  have hc:=hcap O' (N'+1) fun j hj=>hk j hj (by simp)
  have hp:=hP l[i] (Qd hi);simp only [Rw.ce] at hp;rw [Qi hi,List.find?_cons] at hf;cases hb2:P l[i] with
  | true=>
   rw [hb2] at hf hp;simp only at hf;subst hf;cases hv' with
   | row id' _ es0 n hn hl' hle ht=>
    have h0:=Ns hi ht;simp [c_282_l0,Rw.ce,h1,h4,h9,h10,h11,hi,u0,hn,hl',h0,hc,hp,hb,aA,zRow];exact ⟨_,_,rfl,Kp.setl hk (.inl (Qb _)),bW (hT'.mono (by omega)),by omega⟩
   | _=>
    simp [c_282_l0,Rw.ce,h1,h4,h9,h10,h11,hi,u0,hc,hp,hb,aA,zRow];exact ⟨_,_,rfl,Kp.setl hk (.inl (Qb _)),bW (hT'.mono (by omega)),by omega⟩
  | false=>
   rw [hb2] at hf hp;simp only at hf;cases hv' with
   | row id' _ es0 n hn hl' hle ht=>
    have h0:=Ns hi ht;simp [c_282_l0,Rw.ce,h1,h4,h9,h10,h11,hi,hK,u0,hn,hl',h0,hc,hp,hw];exact ih _ _ ⟨_,_,rfl,hf,hk,hT'.mono (by omega),by omega,by simp [hb,zRow],by simp [h1],by simp [h4],by simp [h9],by simp [h10],by simp⟩
   | _=>
    simp [c_282_l0,Rw.ce,h1,h4,h9,h10,h11,hi,hK,u0,hc,hp,hw];exact ih _ _ ⟨_,_,rfl,hf,hk,hT'.mono (by omega),by omega,by simp [hb,zRow],by simp [h1],by simp [h4],by simp [h9],by simp [h10],by simp⟩
 ·rintro e _ K hK ⟨O',N',rfl,hf,hk,hT',hN,hb,h1,h4,h9,h10,h11⟩;have u0:=hT' N' (Qb _);have nN:¬N'=N:=by omega
  have nN':¬N=N':=by omega
  rw [B8] at hf;simp only [List.find?_nil] at hf;subst hf;simp [c_282_l0,c_282_k1,h4,h10,h11,hK,u0,hb,aE,aA,nN,nN',zRow];exact ⟨_,_,rfl,Kp.setl (Kp.app hk (by omega)) (.inl (Qb _)),bW (hT'.app1 (Qb _)),by omega⟩
 ·refine ⟨_,_,rfl,by simpa using hR,Kp.app Kp.refl (Qb _),hT.app1 (Qb _),by omega,by simp [aE,t0,zRow],by simp,by simp,by simp,by simp,by simp⟩
def F1 (key:List Int):AV:= .func (.func cF) [] [.iptr 1 [[.slice 1 (key.map c32)]] 0 0]
theorem qx2 (p:Prg) (f:PrgS p) (t:Int) (key:List Int) (x r:Rw) (hx:EntS x.entry) (hr:EntS r.entry):
  aB Φ pQ [.agg (Rw.c x),.iptr 1 [[F1 key]] 0 0,.iptr 9 [Prg.c p] 0 0,.iptr 1 [[a7 t]] 0 0,.iptr 5 [Rw.c r] 0 0]=some (.val (.bool (mtF x.entry key&&prc p t x r))):=by
 rw [aD rfl rfl];have k1:=Kc x hx key;have k2:=Zl p f t x r hx hr;simp only [Prg.e,Rw.ce] at k1 k2;cases z:mtF x.entry key<;>rw [z] at k1<;>simp [CC,F1,Prg.e,Rw.ce,k1,k2]
theorem fany {Z:Type} (Q:Z->Bool):∀l:List Z,(l.find? Q).isSome=l.any Q
 | []=>rfl
 | a::l=>by rw [List.find?_cons,F7];cases h:Q a<;>simp [fany Q l]
theorem QQ (p:Prg) (f:PrgS p) (t:Int) (key:List Int) (l:List Rw) (hl:∀x∈l,EntS x.entry) (hll:l.length<2^40) (r:Rw) (hr:EntS r.entry):
  aB Φ mI [.agg (Rw.c r),.iptr 1 [[F1 key]] 0 0,.iptr 1 [[.slice 5 (l.map Rw.c)]] 0 0,.iptr 9 [Prg.c p] 0 0,.iptr 1 [[a7 t]] 0 0]=
   some (.val (.bool (mtF r.entry key&& !(l.any fun x=>mtF x.entry key&&prc p t x r)))):=by
 rw [aD rfl rfl];have k1:=Kc r hr key;have kf:=fun N=>Ls (O:=[]) (N:=N) (fun _ _=>rfl) (.sl (l.map Rw.c)) hll (g:=pQ) (caps:=[.iptr 1 [[F1 key]] 0 0,.iptr 9 [Prg.c p] 0 0,.iptr 1 [[a7 t]] 0 0,.iptr 5 [Rw.c r] 0 0]) (caps':=[.iptr 1 [[F1 key]] 0 0,.iptr 9 [Prg.c p] 0 0,.iptr 1 [[a7 t]] 0 0,.iptr 5 [Rw.c r] 0 0]) (fun x=>mtF x.entry key&&prc p t x r)
  (fun O' N' _=>by simp [F1,Prg.e,Rw.ce]) (fun x hx=>qx2 p f t key x r (hl x hx) hr)
 have ha:(l.find? fun x=>mtF x.entry key&&prc p t x r).isSome=l.any fun x=>mtF x.entry key&&prc p t x r:=fany _ l
 cases z:mtF r.entry key with
 | false=>
  rw [z] at k1;simp only [Rw.ce] at k1;simp [oQ,F1,Prg.e,Rw.ce,k1]
 | true=>
  rw [z] at k1;obtain ⟨O',N',e,hk,hT',hN'⟩:=kf 0;rw [ha] at e;have u0:=hT' N' (Qb _);simp only [Rw.ce,Prg.e,F1] at k1 e;cases q:l.find? (fun x=>mtF x.entry key&&prc p t x r) with
  | some x=>
   rw [q] at e;simp only [Rw.ce] at e;simp [oQ,F1,Prg.e,Rw.ce,k1,e,u0,aE,aA]
  | none=>
   rw [q] at e;simp only [zRow] at e;simp [oQ,F1,Prg.e,Rw.ce,k1,e,u0,aE,aA]
def bstP (p:Prg) (t:Int) (l:List Rw) (key:List Int):Option Rw:=OW (fun r=>mtF r.entry key) (prc p t) l
def rowV (o:Option Rw):List AV:=match o with
 | some x=>Rw.c x
 | none=>Rw.c ⟨0,noE⟩
theorem Kg (r:Rw) (hr:EntS r.entry):aB Φ pR [.agg (Rw.c r)]=some (.val (.agg (Rw.c r))):=by
 rw [aD rfl rfl];have k1:=Nw r.entry.keys hr.kl;have k2:=Ev r.entry.call.args hr.al;simp [CD,Rw.ce,k1,k2]
theorem QJ:aB Φ pR [.agg (Rw.c ⟨0,noE⟩)]=some (.val (.agg (Rw.c ⟨0,noE⟩))):=Kg _ noE_s
theorem nne6 (N:Nat):¬N=N+1/\¬N=N+1+1/\¬N=N+1+1+1/\¬N=N+1+1+1+1/\¬N=N+1+1+1+1+1/\¬N=N+1+1+1+1+1+1/\¬N+1=N/\¬N+1=N+1+1/\¬N+1=N+1+1+1/\¬N+1=N+1+1+1+1/\¬N+1=N+1+1+1+1+1/\¬N+1=N+1+1+1+1+1+1/\¬N+1+1=N/\¬N+1+1=N+1/\¬N+1+1=N+1+1+1/\¬N+1+1=N+1+1+1+1/\¬N+1+1=N+1+1+1+1+1/\¬N+1+1=N+1+1+1+1+1+1/\¬N+1+1+1=N/\¬N+1+1+1=N+1/\¬N+1+1+1=N+1+1/\¬N+1+1+1=N+1+1+1+1/\¬N+1+1+1=N+1+1+1+1+1/\¬N+1+1+1=N+1+1+1+1+1+1/\¬N+1+1+1+1=N/\¬N+1+1+1+1=N+1/\¬N+1+1+1+1=N+1+1/\¬N+1+1+1+1=N+1+1+1/\¬N+1+1+1+1=N+1+1+1+1+1/\¬N+1+1+1+1=N+1+1+1+1+1+1/\¬N+1+1+1+1+1=N/\¬N+1+1+1+1+1=N+1/\¬N+1+1+1+1+1=N+1+1/\¬N+1+1+1+1+1=N+1+1+1/\¬N+1+1+1+1+1=N+1+1+1+1/\¬N+1+1+1+1+1=N+1+1+1+1+1+1/\¬N+1+1+1+1+1+1=N/\¬N+1+1+1+1+1+1=N+1/\¬N+1+1+1+1+1+1=N+1+1/\¬N+1+1+1+1+1+1=N+1+1+1/\¬N+1+1+1+1+1+1=N+1+1+1+1/\¬N+1+1+1+1+1+1=N+1+1+1+1+1:=by
 omega
def XJ (N:Nat) (O:List (Nat×AO)) (o:Option Rw) (r:Option (Rt×AH)):Prop:=
 ∃O' N',r=some (.val (.tup [.agg (rowV o),.bool o.isSome]),⟨O',N'⟩)/\Kp (fun _=>False) N O O'/\Tail O' N'/\N<=N'
theorem TL (p:Prg) (f:PrgS p) (k:Nat) (hk:k<p.Xm.length) (key:List Int) {O:List (Nat×AO)} {N:Nat} (hT:Tail O N) {L:AV} {l:List Rw} (hL:Re O 5 L (l.map Rw.c)) (hll:l.length<2^40) (hl:∀x∈l,EntS x.entry):
  XJ N O (bstP p k l key) (aH Φ lZ [.agg (Prg.c p),a7 k,L,.slice 1 (key.map c32)] ⟨O,N⟩):=by
 rw [d6 rfl rfl];have t0:=hT N (Qb _);have t1:=hT (N+1) (by omega);have t2:=hT (N+1+1) (by omega);have t3:=hT (N+1+1+1) (by omega);have t4:=hT (N+1+1+1+1) (by omega);have t5:=hT (N+1+1+1+1+1) (by omega);have hlt:¬((k:Int)<0):=by omega
 have hge:¬((p.Xm.length:Int)<=(k:Int)):=by omega
 have hbs:(l.find? fun r=>mtF r.entry key&& !(l.any fun x=>mtF x.entry key&&prc p k x r))=bstP p k l key:=rfl;have hT6:Tail (O++[(N,.row 9 [Prg.c p]),(N+1,.row 1 [[a7 k]]),(N+1+1,.row 1 [[L]]),(N+1+1+1,.row 1 [[.slice 1 (key.map c32)]]),(N+1+1+1+1,.row 5 [zRow]),(N+1+1+1+1+1,.row 1 [[.func (.func cF) [] [.ptr (N+1+1+1) 1 0 0]]])]) (N+1+1+1+1+1+1):=hT.apps (by omega) (by simp only [fV,List.not_mem_nil,or_false];rintro x (rfl | rfl | rfl | rfl | rfl | rfl)<;>simp only<;>omega);have hk6:Kp (fun _=>False) N O (O++[(N,.row 9 [Prg.c p]),(N+1,.row 1 [[a7 k]]),(N+1+1,.row 1 [[L]]),(N+1+1+1,.row 1 [[.slice 1 (key.map c32)]]),(N+1+1+1+1,.row 5 [zRow]),(N+1+1+1+1+1,.row 1 [[.func (.func cF) [] [.ptr (N+1+1+1) 1 0 0]]])]):=Kp.apps (by simp only [fV,List.not_mem_nil,or_false];rintro x (rfl | rfl | rfl | rfl | rfl | rfl)<;>simp only<;>omega);have own:∀j,vid L=some j->j<N:=fun j hj=>by
  cases hL with
  | row id _ es0 n hn hl hle ht=>cases hj;exact hT.lt hl
  | sl=>cases hj
  | fs=>cases hj
  | ap=>cases hj
 have b0:look N (O++[(N,.row 9 [Prg.c p]),(N+1,.row 1 [[a7 k]]),(N+1+1,.row 1 [[L]]),(N+1+1+1,.row 1 [[.slice 1 (key.map c32)]]),(N+1+1+1+1,.row 5 [zRow]),(N+1+1+1+1+1,.row 1 [[.func (.func cF) [] [.ptr (N+1+1+1) 1 0 0]]])])=some (.row 9 [Prg.c p]):=by simp [aE,t0]
 have b1:look (N+1) (O++[(N,.row 9 [Prg.c p]),(N+1,.row 1 [[a7 k]]),(N+1+1,.row 1 [[L]]),(N+1+1+1,.row 1 [[.slice 1 (key.map c32)]]),(N+1+1+1+1,.row 5 [zRow]),(N+1+1+1+1+1,.row 1 [[.func (.func cF) [] [.ptr (N+1+1+1) 1 0 0]]])])=some (.row 1 [[a7 k]]):=by simp [aE,t1,nne6 N]
 have b2:look (N+1+1) (O++[(N,.row 9 [Prg.c p]),(N+1,.row 1 [[a7 k]]),(N+1+1,.row 1 [[L]]),(N+1+1+1,.row 1 [[.slice 1 (key.map c32)]]),(N+1+1+1+1,.row 5 [zRow]),(N+1+1+1+1+1,.row 1 [[.func (.func cF) [] [.ptr (N+1+1+1) 1 0 0]]])])=some (.row 1 [[L]]):=by simp [aE,t2,nne6 N]
 have b3:look (N+1+1+1) (O++[(N,.row 9 [Prg.c p]),(N+1,.row 1 [[a7 k]]),(N+1+1,.row 1 [[L]]),(N+1+1+1,.row 1 [[.slice 1 (key.map c32)]]),(N+1+1+1+1,.row 5 [zRow]),(N+1+1+1+1+1,.row 1 [[.func (.func cF) [] [.ptr (N+1+1+1) 1 0 0]]])])=some (.row 1 [[.slice 1 (key.map c32)]]):=by simp [aE,t3,nne6 N]
 have b4:look (N+1+1+1+1) (O++[(N,.row 9 [Prg.c p]),(N+1,.row 1 [[a7 k]]),(N+1+1,.row 1 [[L]]),(N+1+1+1,.row 1 [[.slice 1 (key.map c32)]]),(N+1+1+1+1,.row 5 [zRow]),(N+1+1+1+1+1,.row 1 [[.func (.func cF) [] [.ptr (N+1+1+1) 1 0 0]]])])=some (.row 5 [zRow]):=by simp [aE,t4,nne6 N]
 have b5:look (N+1+1+1+1+1) (O++[(N,.row 9 [Prg.c p]),(N+1,.row 1 [[a7 k]]),(N+1+1,.row 1 [[L]]),(N+1+1+1,.row 1 [[.slice 1 (key.map c32)]]),(N+1+1+1+1,.row 5 [zRow]),(N+1+1+1+1+1,.row 1 [[.func (.func cF) [] [.ptr (N+1+1+1) 1 0 0]]])])=some (.row 1 [[.func (.func cF) [] [.ptr (N+1+1+1) 1 0 0]]]):=by simp [aE,t5,nne6 N]
 have hL6:Re (O++[(N,.row 9 [Prg.c p]),(N+1,.row 1 [[a7 k]]),(N+1+1,.row 1 [[L]]),(N+1+1+1,.row 1 [[.slice 1 (key.map c32)]]),(N+1+1+1+1,.row 5 [zRow]),(N+1+1+1+1+1,.row 1 [[.func (.func cF) [] [.ptr (N+1+1+1) 1 0 0]]])]) 5 L (l.map Rw.c):=hL.fr fun j hj=>hk6 j (own j hj) (by simp)
 obtain ⟨O7,N7,e7,k7,hT7,hN7⟩:=Ls hT6 hL6 hll (g:=mI) (caps:=[.ptr (N+1+1+1+1+1) 1 0 0,.ptr (N+1+1) 1 0 0,.ptr N 9 0 0,.ptr (N+1) 1 0 0])
  (caps':=[.iptr 1 [[F1 key]] 0 0,.iptr 1 [[.slice 5 (l.map Rw.c)]] 0 0,.iptr 9 [Prg.c p] 0 0,.iptr 1 [[a7 k]] 0 0]) (fun r=>mtF r.entry key&& !(l.any fun x=>mtF x.entry key&&prc p k x r))
  (fun O' N' h=>by
   have c0:=(h N (by omega)).trans b0;have c1:=(h (N+1) (by omega)).trans b1;have c2:=(h (N+1+1) (by omega)).trans b2;have c3:=(h (N+1+1+1) (by omega)).trans b3;have c5:=(h (N+1+1+1+1+1) (by omega)).trans b5;have hL':Re O' 5 L (l.map Rw.c):=hL6.fr fun j hj=>h j (by have:=own j hj;omega)
   have cl:=hL'.snp (N:=N') (n:=38) (nU (n:=38) (H:=⟨O',N'⟩) (fun x=>ZV x) l);rw [Prg.e] at c0 ⊢;simp [c0,c1,c2,c3,c5,cl,F1])
  (fun r hr=>QQ p f k key l hl hll r (hl r hr))
 rw [hbs] at e7;have u7:=hT7 N7 (Qb _);have d4:=k7.lk hT6 b4 (by simp);have e4:¬N7=(N+1+1+1+1):=by omega
 have e4':¬(N+1+1+1+1)=N7:=by omega
 simp only [Prg.e,zRow] at e7 d4;cases hb:bstP p k l key with
 | some r=>
  have hr:EntS r.entry:=hl r (PL hb);have kc:=Kg r hr;rw [hb] at e7;simp only [Rw.ce] at e7 kc;simp [sN,Prg.e,t0,t1,t2,t3,t4,t5,aE,aA,nne6 N,hlt,hge,hL.cells,-AV.cells,frzB,e7,u7,d4,kc,e4,e4'];refine ⟨_,_,by simp [rowV,Rw.ce];rfl,?_,bW (hT7.mono (Nat.le_succ _)),by omega⟩;exact Kp.setl (hk6.trans k7 (by omega)) (.inl (by omega))
 | none=>
  have kc:=QJ;rw [hb] at e7;simp only [Rw.ce,noE,zRow,yF] at e7 kc;simp [sN,Prg.e,t0,t1,t2,t3,t4,t5,aE,aA,nne6 N,hlt,hge,hL.cells,-AV.cells,frzB,e7,u7,d4,kc,e4,e4'];refine ⟨_,_,by simp [rowV,Rw.ce,noE];rfl,?_,bW (hT7.mono (Nat.le_succ _)),by omega⟩;exact Kp.setl (hk6.trans k7 (by omega)) (.inl (by omega))
theorem VF (p:Prg) (t:Int) (a:Rw):prc p t a a=false:=by simp [prc]
theorem Ee (p:Prg) (t:Int) (a b:Rw):prc p t a b=true↔b.entry.Xs<a.entry.Xs\/(a.entry.Xs=b.entry.Xs/\(pfxZ p t b.entry<pfxZ p t a.entry\/(pfxZ p t a.entry=pfxZ p t b.entry/\a.id<b.id))):=by
 unfold prc;split
 ·simp;omega
 ·split
  ·simp;omega
  ·simp;omega
theorem ZL (p:Prg) (t:Int) (a b c:Rw) (h1:prc p t a b=true) (h2:prc p t b c=true):prc p t a c=true:=by
 rw [Ee] at*;omega
theorem VG (p:Prg) (t:Int) (a b:Rw) (h:a.id≠b.id):prc p t a b=true\/prc p t b a=true:=by
 rw [Ee,Ee];omega
theorem YM (p:Prg) (t:Int) (l:List Rw) (hl:l.Pairwise fun a b=>a.id<b.id) (key:List Int):bstP p t l key=Fm (fun r=>mtF r.entry key) (prc p t) l:=by
 refine TK (VF p t) (ZL p t) l fun a ha b hb hab=>VG p t a b fun hid=>hab ?_
 obtain ⟨i,hi,rfl⟩:=Qn.1 ha;obtain ⟨j,hj,rfl⟩:=Qn.1 hb;rw [PJ] at hl;rcases Nat.lt_trichotomy i j with h | h | h
 ·have:=hl i j hi hj h;omega
 ·subst h;rfl
 ·have:=hl j i hj hi h;omega
def rv (o:Option Rw):List AV:=match o with
 | some x=>Rw.c x
 | none=>zRow
def oB (p:Prg) (t:Int) (key:List Int) (l:List Rw):Option Rw:=l.foldl (rJ (fun r=>mtF r.entry key) (prc p t)) none
theorem QR {Z:Type} (m:Z->Bool) (pr:Z->Z->Bool) (o:Option Z) (r:Z):rJ m pr o r=some r\/rJ m pr o r=o:=by
 unfold rJ;generalize (m r&&(match o with | none=>true | some b=>pr r b))=c;cases c<;>simp
theorem Jw {Z:Type} (m:Z->Bool) (pr:Z->Z->Bool):∀(l:List Z) (o:Option Z) (x:Z),l.foldl (rJ m pr) o=some x->x∈l\/o=some x
 | [],o,x,h=> .inr h
 | a::l,o,x,h=>by
  rw [J4] at h;rcases Jw m pr l _ x h with h | h
  ·exact .inl (zB _ h)
  ·rcases QR m pr o a with e | e
   ·rw [e] at h;rw [Option.some.inj h];exact .inl (by simp)
   ·rw [e] at h;exact .inr h
structure MS where
 e:Envt
 rs:List (List Int)
 hits:List Hit
def keyX (p:Prg) (t:Int) (e:Envt):List Int:=match at? p.Xm t with
 | none=>[]
 | some x=>x.keys.map fun k=>iand .u32 (eGet e k.field.header k.field.field) (cP (wid p k.field.header k.field.field))
def selX (p:Prg) (c:Xe) (t:Int) (e:Envt):Option Rw:=oB p t (keyX p t e) ((at? c.rows t).getD [])
def calX (c:Xe) (t:Int) (o:Option Rw):Xb:=match o with
 | some x=>x.entry.call
 | none=>(at? c.Xp t).getD ⟨0,[]⟩
def apX (p:Prg) (c:Xe) (t:Int) (s:MS):MS×Bool:=
 let o:=selX p c t s.e
 let y:=exeX p (calX c t o) s.e s.rs
 (⟨y.1,y.2,s.hits++[⟨t,(o.map (·.id)).getD 0,(calX c t o).Xy⟩]⟩,o.isSome)
def ndX (p:Prg) (c:Xe) (f:List Xa->MS->MS) (s:MS) (x:Xa):MS:=
 if x.kind=2 then f (if evl p [] x.cond s.e []=1 then x.thn else x.els) s
 else let y:=apX p c x.table s;f (if y.2 then x.thn else x.els) y.1
def ctX (p:Prg) (c:Xe):Nat->List Xa->MS->MS
 | 0,_,s=>s
 | n+1,l,s=>l.foldl (ndX p c (ctX p c n)) s
def resX (p:Prg) (s:MS):Rslt:=if (at? s.e.metaF 2).getD 0=1\/512<(emi p s.e).length then ⟨true,0,[],s.hits⟩ else ⟨false,(at? s.e.metaF 1).getD 0,emi p s.e,s.hits⟩
def noR:Rslt:=⟨true,0,[],[]⟩
def runX (p:Prg) (c:Xe) (k:Packet):Option (Rslt×List (List Int)):=if k.port<0\/255<k.port then none else match prs p k.data with
 | none=>none
 | some e=>
  let s:=ctX p c (nest p.Ya) p.Ya ⟨eSet p e (-1) 0 k.port,c.Xl,[]⟩
  some (resX p s,s.rs)
def runL (p:Prg) (c:Xe):List Packet->List Rslt×Xe
 | []=>([],c)
 | k::l=>match runX p c k with
  | none=>(noR::(runL p c l).1,(runL p c l).2)
  | some (r,rs)=>(r::(runL p { c with Xl:=rs } l).1,(runL p { c with Xl:=rs } l).2)
structure RV (p:Prg) (rs:List (List Int)):Prop where
 n:rs.length=p.Xl.length
 l:∀(i:Nat) (g:Xg) (x:List Int),p.Xl[i]? =some g->rs[i]? =some x->(x.length:Int)=g.size/\∀v∈x,0<=v/\v<2^g.Yc.toNat
theorem RV.set {p:Prg} {rs:List (List Int)} (h:RV p rs) (r i v:Int):RV p (rSet p rs r i v):=by
 unfold rSet;split
 ·rename_i g x hg hx;split
  ·refine ⟨by simp [h.n],fun j g' x' hg' hx'=>?_⟩;obtain ⟨k,rfl,hk,rfl⟩:=iG hx;simp only [B7,List.getElem?_set] at hx';split at hx'
   ·rename_i q;subst q;simp [hk] at hx';subst hx';rw [nK,hg'] at hg;obtain rfl:=Option.some.inj hg;obtain ⟨h1,h2⟩:=h.l k _ _ hg' (Qa hk);refine ⟨by simpa using h1,fun u hu=>?_⟩;rcases Qq hu with hu | rfl
    ·exact h2 u hu
    ·exact Ms v _
   ·exact h.l j g' x' hg' hx'
  ·exact h
 ·exact h
theorem RV.get {p:Prg} {rs:List (List Int)} (h:RV p rs) (hw:∀g∈p.Xl,g.Yc<=32) (r i:Int):0<=rGet p rs r i/\rGet p rs r i<=4294967295:=by
 unfold rGet;split
 ·rename_i g x hg hx;split
  ·cases q:at? x i with
   | none=>simp
   | some v=>
    obtain ⟨k,rfl,hk,rfl⟩:=iG hx;rw [nK] at hg;obtain ⟨_,h2⟩:=h.l k g _ hg (Qa hk);obtain ⟨j,_,hj,rfl⟩:=iG q;obtain ⟨h3,h4⟩:=h2 _ (Qd hj);have h5:=hw g (Qe hg);have:(2:Int)^g.Yc.toNat<=2^32:=by
     have:=B6 (n:=2) (by decide) (show g.Yc.toNat<=32 by omega)
     exact_mod_cast this
    simp only [jC];omega
  ·simp
 ·simp
theorem NZ {p:Prg} {ps:List Fld} {args:List Int} {x:Envt×List (List Int)} (s:Xf) (h1:EV p x.1) (h2:RV p x.2):EV p (stmX p ps args x s).1/\RV p (stmX p ps args x s).2:=by
 unfold stmX;split
 ·exact ⟨h1.set _ _ _,h2⟩
 split
 ·exact ⟨h1.add _,h2⟩
 split
 ·exact ⟨h1.rem _,h2⟩
 split
 ·exact ⟨h1.set _ _ _,h2⟩
 ·exact ⟨h1,h2.set _ _ _⟩
theorem Nj {p:Prg} {ps:List Fld} {args:List Int}:∀(l:List Xf) {x:Envt×List (List Int)},EV p x.1->RV p x.2->EV p (l.foldl (stmX p ps args) x).1/\RV p (l.foldl (stmX p ps args) x).2
 | [],x,h1,h2=>⟨h1,h2⟩
 | s::l,x,h1,h2=>Nj l (NZ s h1 h2).1 (NZ s h1 h2).2
theorem Lp {p:Prg} (c:Xb) {e:Envt} {rs:List (List Int)} (h1:EV p e) (h2:RV p rs):EV p (exeX p c e rs).1/\RV p (exeX p c e rs).2:=by
 unfold exeX;split
 ·exact ⟨h1,h2⟩
 ·exact Nj _ h1 h2
structure SV' (p:Prg) (s:MS):Prop where
 e:EV p s.e
 r:RV p s.rs
theorem SV'.ap {p:Prg} {c:Xe} {t:Int} {s:MS} (h:SV' p s):SV' p (apX p c t s).1:=⟨(Lp _ h.e h.r).1,(Lp _ h.e h.r).2⟩
theorem SV'.nd {p:Prg} {c:Xe} {f:List Xa->MS->MS} (hf:∀l s,SV' p s->SV' p (f l s)) {s:MS} (h:SV' p s) (x:Xa):SV' p (ndX p c f s x):=by
 unfold ndX;split
 ·exact hf _ _ h
 ·exact hf _ _ h.ap
theorem Bt {Z I:Type} {P:I->Prop} {f:I->Z->I} (hf:∀b a,P b->P (f b a)):∀(l:List Z) (b:I),P b->P (l.foldl f b)
 | [],_,h=>h
 | a::l,b,h=>Bt hf l _ (hf b a h)
theorem SV'.ct {p:Prg} {c:Xe}:∀(n:Nat) (l:List Xa) (s:MS),SV' p s->SV' p (ctX p c n l s)
 | 0,_,_,h=>h
 | n+1,l,s,h=>Bt (P:=SV' p) (fun _ x hb=>SV'.nd (SV'.ct n) hb x) l s h
def apl (l:List Xa):List Int:=((pre l).filter appl).map (·.table)
theorem apl_nil:apl []=[]:=rfl
theorem QN (x:Xa) (l:List Xa):apl (x::l)=apl [x]++apl l:=by
 simp [apl,pre]
theorem UA (x:Xa):apl [x]=(if appl x then [x.table] else [])++(apl x.thn++apl x.els):=by
 obtain ⟨k,t,c,a,b⟩:=x;simp only [apl,pre,pre1,J5,Xa.table,Xa.thn,Xa.els];cases q:appl (.mk k t c a b)<;>simp [List.filter_cons,q,Xa.table]
def HS (s s':MS) (l:List Int):Prop:=∃hs,s'.hits=s.hits++hs/\(hs.map (·.table)).Sublist l
theorem HS.refl {s:MS} {l:List Int}:HS s s l:=⟨[],by simp,List.nil_sublist _⟩
theorem HS.trans {s s' s'':MS} {l m:List Int} (h:HS s s' l) (h2:HS s' s'' m):HS s s'' (l++m):=by
 obtain ⟨a,e1,k1⟩:=h;obtain ⟨b,e2,k2⟩:=h2;exact ⟨a++b,by rw [e2,e1,yB],by rw [zG];exact k1.append k2⟩
theorem HS.mono {s s':MS} {l m:List Int} (h:HS s s' l) (hm:l.Sublist m):HS s s' m:=by
 obtain ⟨a,e1,k1⟩:=h;exact ⟨a,e1,k1.trans hm⟩
theorem Bc {x:Xa} {l:List Xa} {y:Xa} (hx:x∈l) (hy:y=x\/y∈pre x.thn\/y∈pre x.els):y∈pre l:=by
 induction l with
 | nil=>cases hx
 | cons a l ih=>
  simp only [pre,fG];rcases fV.1 hx with rfl | h
  ·left;obtain ⟨k,t,c,p,q⟩:=x;simp only [pre1,fV,fG];exact hy
  ·exact .inr (ih h)
theorem Fp {p:Prg} {c:Xe}:∀(n:Nat) (l:List Xa) (s:MS),(∀x∈pre l,x.kind=2\/appl x=true)->HS s (ctX p c n l s) (apl l)
 | 0,_,_,_=>HS.refl
 | n+1,l,s,hk=>by
  simp only [ctX]
  induction l generalizing s with
  | nil=>exact HS.refl
  | cons x l ih=>
   rw [J4,QN];refine HS.trans ?_ (ih _ fun y hy=>hk y (by simp only [pre,fG];exact .inr hy));have kt:=fun s=>Fp (p:=p) (c:=c) n x.thn s fun y hy=>hk y (Bc (by simp) (.inr (.inl hy)))
   have ke:=fun s=>Fp (p:=p) (c:=c) n x.els s fun y hy=>hk y (Bc (by simp) (.inr (.inr hy)))
   rw [UA];have both:∀(b:Prop) [Decidable b] (s:MS),HS s (ctX p c n (if b then x.thn else x.els) s) (apl x.thn++apl x.els):=fun b _ s=>by
    split
    ·exact (kt s).mono (List.sublist_append_left _ _)
    ·exact (ke s).mono (List.sublist_append_right _ _)
   unfold ndX;split
   ·exact (both _ _).mono (List.sublist_append_right _ _)
   ·rename_i h2;have ha:appl x=true:=(hk x (Bc (by simp) (.inl rfl))).resolve_left h2;rw [a8 ha];exact HS.trans ⟨[_],rfl,List.Sublist.refl _⟩ (both _ _)
structure PWd (p:Prg):Prop where
 hl:p.Xo.length<2^40
 hf:∀h∈p.Xo,h.Xz.length<2^40
 ml:p.Xn.length<2^40
 m0:0<p.Xn.length
 rl:p.Xl.length<2^40
 rz:∀g∈p.Xl,g.size<2^40
 rw':∀g∈p.Xl,g.Yc<=32
structure XV (p:Prg) (e:Envt) (rs:List (List Int)):Prop where
 ev:EV p e
 rv:RV p rs
 pl:e.payload.length<2^40
theorem XV.evs {p:Prg} (w:PWd p) {e:Envt} {rs:List (List Int)} (x:XV p e rs):EvS e:=by
 refine ⟨by rw [x.ev.v];exact w.hl,by rw [x.ev.f];exact w.hl,fun l hl=>?_,by rw [x.ev.m];exact w.ml,x.pl⟩;obtain ⟨i,hi,rfl⟩:=Qn.1 hl;have h2:i<p.Xo.length:=by rw [<- x.ev.f];exact hi
 rw [x.ev.g i hi h2];exact w.hf _ (Qd h2)
theorem XV.m0 {p:Prg} (w:PWd p) {e:Envt} {rs:List (List Int)} (x:XV p e rs):e.metaF≠[]:=fun h=>by
 have:=x.ev.m;have:=w.m0;rw [h] at*;simp at*;omega
theorem XV.hs {p:Prg} {e:Envt} {rs:List (List Int)} (x:XV p e rs):e.Xz.length=e.valid.length:=by rw [x.ev.f,x.ev.v]
theorem XV.g {p:Prg} {e:Envt} {rs:List (List Int)} (x:XV p e rs) (h f:Int):ok32 0 (eGet e h f):=Mj x.ev (fun h f=>(OV p h f).2) h f
theorem XV.r1 {p:Prg} (w:PWd p) {e:Envt} {rs:List (List Int)} (x:XV p e rs):rs.length<2^40:=by rw [x.rv.n];exact w.rl
theorem XV.r2 {p:Prg} (w:PWd p) {e:Envt} {rs:List (List Int)} (x:XV p e rs):∀l∈rs,l.length<2^40:=fun l hl=>by
 obtain ⟨i,hi,rfl⟩:=Qn.1 hl;have h2:i<p.Xl.length:=by rw [<- x.rv.n];exact hi
 have:=(x.rv.l i _ _ (Qa h2) (Qa hi)).1;have:=w.rz _ (Qd h2);omega
theorem Ed (p:Prg) (e:Envt) (h f v:Int):(eSet p e h f v).payload=e.payload:=by
 unfold eSet ePut;split
 ·rfl
 ·split<;>rfl
theorem WD {p:Prg} {ps:List Fld} {args:List Int} (x:Envt×List (List Int)) (s:Xf):(stmX p ps args x s).1.payload=x.1.payload:=by
 unfold stmX;split
 ·exact Ed ..
 split
 ·unfold eAdd;split<;>rfl
 split
 ·unfold eRem;split<;>rfl
 split
 ·exact Ed ..
 ·rfl
theorem XV.stm {p:Prg} {ps:List Fld} {args:List Int} {x:Envt×List (List Int)} (h:XV p x.1 x.2) (s:Xf):XV p (stmX p ps args x s).1 (stmX p ps args x s).2:=
 ⟨(NZ s h.ev h.rv).1,(NZ s h.ev h.rv).2,by rw [WD];exact h.pl⟩
theorem ZJ (e:Envt) (s:EvS e):aB Φ cV [.agg e.c]=some (.val (.agg e.c)):=by
 obtain ⟨O',N',V,F,M,A,hr,em,_⟩:=Ce (Tail.nil 0) EG e s;have:=em.snp (N:=N');unfold aB;rw [show H0=⟨[],0⟩ from rfl,hr];show (match snap 40 ⟨O',N'⟩ (clR V F M e.payload) with | some r'=>some (Rt.val r') | none=>none)=_;unfold clR;rw [show (40:Nat)=39+1 from rfl,Cs,this];rfl
def stC (p:Prg) (ps:List Fld) (args:List Int) (e:Envt) (rs:List (List Int)):List AV:=
 Prg.c p++[.slice 2 (ps.map Fld.c),.slice 1 (args.map c32)]++e.c++[.slice 1 (rs.map (cS 1 c32))]
theorem st_e (p:Prg) (ps:List Fld) (args:List Int) (e:Envt) (rs:List (List Int)):stC p ps args e rs=(mW p [.slice 2 (ps.map Fld.c),.slice 1 (args.map c32),.slice 1 (e.valid.map cB),.slice 1 (e.Xz.map (cS 1 c32)),.slice 1 (e.metaF.map c32),.slice 1 (e.payload.map c8),.slice 1 (rs.map (cS 1 c32))]):=by
  simp [stC,Prg.e,Envt.ce]
theorem OJ (p:Prg) (ps:List Fld) (args:List Int) (e:Envt) (rs:List (List Int)) (l:List Xd) (hg:∀h f,ok32 0 (eGet e h f)) (ha:∀v∈args,ok32 0 v):
  aB Φ jV [.iptr 16 [stC p ps args e rs] 0 0,.slice 3 (l.map Xd.c)]=some (.val (.int .u32 (evl p ps l e args))):=by
 rw [aD rfl rfl];have h:=Nz p ps e args l hg ha;simp only [scC,Prg.e,iU,rT,Envt.ce] at h;simp [D0,st_e,h]
def StP (p:Prg) (ps:List Fld) (args:List Int) (id N:Nat) (O:List (Nat×AO)) (x:Envt×List (List Int)) (r:Option (Rt×AH)):Prop:=
 ∃O' N',r=some (.val (.tup []),⟨O',N'⟩)/\look id O'=some (.row 16 [stC p ps args x.1 x.2])/\Kp (fun j=>j=id) N O O'/\Tail O' N'/\N<=N'/\NR O'
section
variable {p:Prg} (w:PWd p) (ps:List Fld) {args:List Int} (ha:∀v∈args,ok32 0 v) {e:Envt} {rs:List (List Int)} (x:XV p e rs) (s:Xf) {O:List (Nat×AO)} {N id:Nat} (hT:Tail O N) (hN:NR O) (hm:look id O=some (.row 16 [stC p ps args e rs]))
include w ha x hT hN hm
omit w ha x in
theorem LE (y:Envt×List (List Int)) (o:AO) (ho:o≠ .res):StP p ps args id N O y (some (.val (.tup []),⟨setl id (.row 16 [stC p ps args y.1 y.2]) (O++[(N,o)]),N+1⟩)):=by
 have f0:=dI hT hm (Qb N);refine ⟨_,_,rfl,?_,(Kp.app Kp.refl (Qb _)).setl (.inr rfl),bW (hT.app1 (Qb _)),by omega,(hN.app (.one ho)).setl (by simp)⟩;rw [aA,a8 rfl,aE,hm];rfl
theorem qxj:StP p ps args id N O (eSet p e s.dst.header s.dst.field (evl p ps s.value e args),rs) (aH Φ pT [.ptr id 16 0 0,.agg s.c] ⟨O,N⟩):=by
 rw [d6 rfl rfl];have fin:=LE ps (args:=args) hT hN hm (eSet p e s.dst.header s.dst.field (evl p ps s.value e args),rs) (.row 7 [s.c]) (by simp);have t0:=hT N (Qb _);have f0:=dI hT hm (Qb N);have h1:=OJ p ps args e rs s.value x.g ha;have h2:=Fj p e (x.evs w) (x.m0 w) s.dst.header s.dst.field (evl p ps s.value e args) (OK ..);generalize hE:eSet p e s.dst.header s.dst.field (evl p ps s.value e args)=E at*;rw [st_e] at h1 hm fin;rw [Envt.ce,Envt.ce] at h2;simp only [Prg.e] at h2;rw [Xf.e] at fin;simp [CG,Xf.e,t0,aE,hm,f0,h1,h2];exact fin
omit ha in
theorem XD:StP p ps args id N O (eAdd p e s.header,rs) (aH Φ pU [.ptr id 16 0 0,.agg s.c] ⟨O,N⟩):=by
 rw [d6 rfl rfl];have fin:=LE ps (args:=args) hT hN hm (eAdd p e s.header,rs) (.row 7 [s.c]) (by simp);have t0:=hT N (Qb _);have f0:=dI hT hm (Qb N);have h2:=XL p e (x.evs w) (x.m0 w) x.hs s.header;generalize hE:eAdd p e s.header=E at*;rw [st_e] at hm fin;rw [Envt.ce,Envt.ce] at h2;simp only [Prg.e] at h2;rw [Xf.e] at fin;simp [CH,Xf.e,t0,aE,hm,f0,h2];exact fin
omit ha in
theorem WO:StP p ps args id N O (eRem p e s.header,rs) (aH Φ pV [.ptr id 16 0 0,.agg s.c] ⟨O,N⟩):=by
 rw [d6 rfl rfl];have fin:=LE ps (args:=args) hT hN hm (eRem p e s.header,rs) (.row 7 [s.c]) (by simp);have t0:=hT N (Qb _);have f0:=dI hT hm (Qb N);have h2:=Y' p e (x.evs w) (x.m0 w) x.hs s.header;generalize hE:eRem p e s.header=E at*;rw [st_e] at hm fin;rw [Envt.ce,Envt.ce] at h2;simp only [Prg.e] at h2;rw [Xf.e] at fin;simp [CJ,Xf.e,t0,aE,hm,f0,h2];exact fin
theorem SB:StP p ps args id N O (eSet p e s.dst.header s.dst.field (rGet p rs s.Ye (evl p ps s.index e args)),rs) (aH Φ pW [.ptr id 16 0 0,.agg s.c] ⟨O,N⟩):=by
 rw [d6 rfl rfl];have fin:=LE ps (args:=args) hT hN hm (eSet p e s.dst.header s.dst.field (rGet p rs s.Ye (evl p ps s.index e args)),rs) (.row 7 [s.c]) (by simp);have t0:=hT N (Qb _);have f0:=dI hT hm (Qb N);have h1:=OJ p ps args e rs s.index x.g ha;have h3:=SV p rs s.Ye (evl p ps s.index e args) (OK ..);have hr:=x.rv.get w.rw' s.Ye (evl p ps s.index e args);generalize hv:rGet p rs s.Ye (evl p ps s.index e args)=v at*;have h2:=Fj p e (x.evs w) (x.m0 w) s.dst.header s.dst.field v hr;generalize hE:eSet p e s.dst.header s.dst.field v=E at*;rw [st_e] at h1 hm fin;rw [Envt.ce,Envt.ce] at h2;simp only [Prg.e] at h2 h3;rw [Xf.e] at fin;simp [CK,Xf.e,t0,aE,hm,f0,h1,h2,h3];exact fin
theorem qz8:StP p ps args id N O (e,rSet p rs s.Ye (evl p ps s.index e args) (evl p ps s.value e args)) (aH Φ pX [.ptr id 16 0 0,.agg s.c] ⟨O,N⟩):=by
 rw [d6 rfl rfl];have fin:=LE ps (args:=args) hT hN hm (e,rSet p rs s.Ye (evl p ps s.index e args) (evl p ps s.value e args)) (.row 7 [s.c]) (by simp);have t0:=hT N (Qb _);have f0:=dI hT hm (Qb N);have h1:=OJ p ps args e rs s.index x.g ha;have h2:=OJ p ps args e rs s.value x.g ha;have h3:=qzy p rs (x.r1 w) (x.r2 w) s.Ye (evl p ps s.index e args) (evl p ps s.value e args) (OK ..) (OK ..);generalize hE:rSet p rs s.Ye (evl p ps s.index e args) (evl p ps s.value e args)=E at*;rw [st_e] at h1 h2 hm fin;simp only [Prg.e] at h3;rw [Xf.e] at fin;simp [CL,Xf.e,t0,aE,hm,f0,h1,h2,h3];exact fin
end
theorem r9 {Z:Type} {f:Nat->Option Z} {N:Nat} {x:Z}:∀{i},fe f N i=some x->∃k,k<N/\f k=some x:=by
 have key:∀n i,n+i=N->feF f n i=some x->∃k,k<N/\f k=some x:=by
  intro n
  induction n with
  | zero=>intro i _ h;cases h
  | succ n ih=>
   intro i hi h;simp only [feF] at h;cases q:f i with
   | some y=>rw [q] at h;cases h;exact ⟨i,by omega,q⟩
   | none=>rw [q] at h;exact ih (i+1) (by omega) h
 intro i h;unfold fe at h;by_cases z:i<=N
 ·exact key (N - i) i (by omega) h
 ·rw [show N - i=0 by omega] at h;cases h
theorem rV {Z I:Type} {l:List Z} {g:Nat->Z->Option I} (h:fe (fun i=>(l[i]?).bind (g i)) l.length 0=none) {i:Nat} (hi:i<l.length):g i l[i]=none:=by
 have:=fe_all.1 h i hi;rw [Qa hi] at this;exact this
theorem yH {Z:Type} {c:Prop} [Decidable c] {x:Z} (h:(if c then none else some x)=none):c:=by
 by_cases q:c
 ·exact q
 ·rw [QA q] at h;cases h
structure VFields (l:List Fld):Prop where
 w:∀f∈l,1<=f.Yc/\f.Yc<=32
theorem Ob {l:List Fld} {i:Nat} {f:Fld} (h:fldE l i f=0):1<=f.Yc/\f.Yc<=32:=by
 unfold fldE at h;split at h
 ·cases h
 split at h
 ·cases h
 rename_i hb;simp only [wBad,zH,decide_eq_true_eq,not_or] at hb;omega
structure VProg (p:Prg):Prop where
 hl:p.Xo.length<=8
 rl:p.Xl.length<=4
 al:p.Xx.length<=16
 tl:p.Xm.length<=12
 hd:∀h∈p.Xo,hdrE h=0
 ml:p.Xn.length<=12
 mw:∀f∈p.Xn,1<=f.Yc/\f.Yc<=32
 m3:∀i,i<3->p.Xn[i]? =some (rF i)
 rg:∀r∈p.Xl,regE r=0
 ac:∀i:Nat,i<p.Xx.length->(actE p i).2=0
 tb:∀i:Nat,i<p.Xm.length->(tblE p i).2=0
 pa:(parE p).2.2=0
 ct:(ctlE p).2=0
 dp:(depE p).2=0
theorem IE {Z:Type} {a b:Option Z} (h:a.or b=none):a=none/\b=none:=by
 cases a with
 | some x=>cases h
 | none=>exact ⟨rfl,h⟩
theorem IW {a b:Option Dg} (ha:∀d,a=some d->d.1≠0) (hb:∀d,b=some d->d.1≠0):∀d,a.or b=some d->d.1≠0:=fun d h=>by
 cases a with
 | some x=>exact ha d h
 | none=>exact hb d h
theorem VS {p:Prg}:∀d,limD p=some d->d.1≠0:=fun d h=>by
 unfold limD at h
 repeat (split at h; · cases h;decide)
 cases h
theorem UK {p:Prg}:∀d,hdrD p=some d->d.1≠0:=fun d h=>by
 obtain ⟨k,hk,e⟩:=r9 h;rw [Qa hk] at e;simp only [gI] at e;split at e
 ·cases e
 ·cases e;assumption
theorem X6 {p:Prg}:∀d,regD p=some d->d.1≠0:=fun d h=>by
 obtain ⟨k,hk,e⟩:=r9 h;rw [Qa hk] at e;simp only [gI] at e;split at e
 ·cases e
 ·cases e;assumption
theorem VV {p:Prg}:∀d,metD p=some d->d.1≠0:=fun d h=>by
 unfold metD at h;split at h
 ·cases h;decide
 split at h
 ·rename_i e;cases h;obtain ⟨k,hk,e⟩:=r9 e;rw [Qa hk] at e;simp only [gI] at e;split at e
  ·cases e
  ·cases e;assumption
 ·obtain ⟨k,hk,e⟩:=r9 h;split at e
  ·cases e
  ·cases e;simp
theorem QL {p:Prg}:∀d,rI p=some d->d.1≠0:=fun d h=>by
 obtain ⟨k,hk,e⟩:=r9 h;rw [Qa hk] at e;simp only [gI] at e;split at e
 ·cases e;assumption
 split at e
 ·cases e;simp
 ·cases e
theorem XU {p:Prg}:∀d,tblD p=some d->d.1≠0:=fun d h=>by
 obtain ⟨k,hk,e⟩:=r9 h;rw [Qa hk] at e;simp only [gI] at e;split at e
 ·cases e;assumption
 split at e
 ·cases e;simp
 ·cases e
theorem VC {p:Prg}:∀d,floD p=some d->d.1≠0:=fun d h=>by
 unfold floD at h;split at h
 ·cases h;assumption
 split at h
 ·cases h;assumption
 split at h
 ·cases h;assumption
 ·cases h
theorem vprog {p:Prg} (h:(prgD p).1=0):VProg p:=by
 have ho:((((((limD p).or (hdrD p)).or (metD p)).or (regD p)).or (rI p)).or (tblD p)).or (floD p)=none:=by
  unfold prgD at h;cases q:((((((limD p).or (hdrD p)).or (metD p)).or (regD p)).or (rI p)).or (tblD p)).or (floD p) with
  | none=>rfl
  | some d=>
   rw [q] at h;exact absurd h (IW (IW (IW (IW (IW (IW VS UK) VV) X6) QL) XU) VC d q)
 obtain ⟨ho,h7⟩:=IE ho;obtain ⟨ho,h6⟩:=IE ho;obtain ⟨ho,h5⟩:=IE ho;obtain ⟨ho,h4⟩:=IE ho;obtain ⟨ho,h3⟩:=IE ho;obtain ⟨h1,h2⟩:=IE ho;have l1:p.Xo.length<=8/\p.Xl.length<=4/\p.Xx.length<=16/\p.Xm.length<=12:=by
  unfold limD at h1
  repeat (split at h1; · cases h1)
  omega
 have f7:(parE p).2.2=0/\(ctlE p).2=0/\(depE p).2=0:=by
  unfold floD at h7
  repeat (split at h7; · cases h7)
  rename_i a b c;exact ⟨Decidable.not_not.1 a,Decidable.not_not.1 b,Decidable.not_not.1 c⟩
 have m3:p.Xn.length<=12/\(∀f∈p.Xn,1<=f.Yc/\f.Yc<=32)/\∀i,i<3->p.Xn[i]? =some (rF i):=by
  unfold metD at h3;split at h3
  ·cases h3
  rename_i hlen;split at h3
  ·cases h3
  rename_i hn;refine ⟨by omega,fun f hf=>?_,fun i hi=>?_⟩
  ·obtain ⟨i,hi,rfl⟩:=Qn.1 hf;exact Ob (yH (rV hn hi))
  ·exact yH (fe_all.1 h3 i hi)
 refine ⟨l1.1,l1.2.1,l1.2.2.1,l1.2.2.2,fun h hh=>?_,m3.1,m3.2.1,m3.2.2,fun r hr=>?_,fun i hi=>?_,fun i hi=>?_,f7.1,f7.2.1,f7.2.2⟩
 ·obtain ⟨i,hi,rfl⟩:=Qn.1 hh;have:=yH (rV h2 hi);unfold AE at this;split at this
  ·exact absurd this (by assumption)
  ·rename_i q;exact Decidable.not_not.1 q
 ·obtain ⟨i,hi,rfl⟩:=Qn.1 hr;have:=yH (rV h4 hi);unfold EU at this;split at this
  ·exact absurd this (by assumption)
  ·rename_i q;exact Decidable.not_not.1 q
 ·have:=rV h5 hi;split at this
  ·cases this
  ·rename_i q;exact Decidable.not_not.1 q
 ·have:=rV h6 hi;split at this
  ·cases this
  ·rename_i q;exact Decidable.not_not.1 q
end Go.Av
