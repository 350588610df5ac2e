/-
 Bits and headers are read: the reference's answers.
-/
import Derived.Test.YtcehjengeaafpaaGreatPX25
set_option linter.all false
namespace Go.Av
set_option maxRecDepth 8000
def yrC (B:List Int) (pos:Nat):List AV:=[.slice 1 (B.map c8),a7 pos]
section
variable (B:List Int) (pos:Nat) (hB:B.length<=512) (hp:pos<=8*B.length)
include hB hp
theorem QG:a8 Φ 377 [.agg (yrC B pos)]=some (.val (a7 ((8*B.length - pos:Nat):Int))):=by
 rw [aB rfl rfl];have w1:IntKind.wrap .i64 (8*(B.length:Int))=((8*B.length:Nat):Int):=by
  rw [show (8*(B.length:Int))=((8*B.length:Nat):Int) by omega];exact aQ
 have w2:IntKind.wrap .i64 (8*(B.length:Int) - (pos:Int))=((8*B.length - pos:Nat):Int):=by
  rw [show (8*(B.length:Int) - (pos:Int))=((8*B.length - pos:Nat):Int) by omega];exact aQ
 simp [IK,yrC,w1,w2]
omit hB hp in
theorem RF (w:Nat) (h1:1<=w) (h2:w<=32):a8 Φ 334 [a7 w]=some (.val (.bool true)):=by
 rw [aB rfl rfl];have h3:(1:Int)<=w:=by omega
 have h4:(w:Int)<=32:=by omega
 simp [HU,h3,h4]
theorem Hz (hb:bOk B) (w:Nat) (h1:1<=w) (h2:w<=32) (h:pos+w<=8*B.length):a8 Φ 378 [.agg (yrC B pos),a7 w]=some (.val (.tup [.agg (yrC B (pos+w)),.int .u32 (rdN B pos w),a7 0])):=by
 rw [aB rfl rfl];have q1:=RF w h1 h2;have q2:=QG B pos hB hp;have q3:¬8*B.length - pos<w:=by omega
 rw [yrC] at q2;generalize hR:some (Rt.val (.tup [.agg (yrC B (pos+w)),.int .u32 (rdN B pos w),a7 0]))=R;simp [IL,yrC,q1,q2,q3];refine cC w (fun i e h=>∃n P,2<=n/\P=pos+i/\h=⟨[(0,.row 2 [[.slice 1 (B.map c8),a7 ((P:Nat):Int)]]),(1,.row 2 [[.Xt 1 [],a7 0]])],n⟩/\look 1 e=some (a7 w)/\look 2 e=some (.ptr 0 2 0 0)/\look 4 e=some (.ptr 1 2 0 0)/\look 7 e=some (.int .u32 (rdN B pos i))/\look 8 e=some (a7 i)) (fun r=>r=R) ?_ ?_ 0 _ _ (Qc _) ?_
 ·rintro i e _ L hi hL ⟨n,P,hn,hP,rfl,g1,g2,g4,g7,g8⟩ ih;have hw:=aF i (by omega);have hst:rdN B pos (i+1)=2*rdN B pos i+zT B P:=by rw [hP];rfl
  have hf:=SN B pos i;have hf2:=SN B pos (i+1);have hp32:=CW (show i+1<=32 by omega);have h01:=gv B P;rw [hst] at hf2;obtain ⟨D,hD⟩:∃D,D=P / 8:=⟨_,rfl⟩;obtain ⟨M,hM⟩:∃M,M=P % 8:=⟨_,rfl⟩;obtain ⟨S,hS⟩:∃S,S=7 - M:=⟨_,rfl⟩;have hb':D<B.length:=by omega
  have hrb:zT B P=B[D] / 2^S % 2:=by
   unfold zT;rw [<- hD,<- hM,<- hS,vZ,Qa hb',nO]
  have hx:=hb _ (Qd hb');have hq3:((P:Int) / 8)=D:=by omega
  have hq0:(P:Int).tdiv 8=D:=by rw [K9 (by omega)];omega
  have hwD:IntKind.wrap .i64 (D:Int)=D:=aQ;have hr1:(P:Int).tmod 8=M:=by rw [AJ (by omega)];omega
  have hr2:((P:Int) % 8)=M:=by omega
  have hs:IntKind.wrap .i64 (7 - (M:Int))=S:=by
   rw [show (7 - (M:Int))=(S:Int) by omega];exact aQ
  have hp1:=aF P (by omega);have hn0:¬((S:Int)<0):=by omega
  have hc:IntKind.wrap .u32 B[D]=B[D]:=sQ hx.1 (by omega);have hsh:ishr .u32 B[D] (S:Int)=B[D] / 2^S:=SJ hx.1 (by omega) (by omega);have hd0:0<=B[D] / 2^S:=Int.ediv_nonneg hx.1 (zB (yR S));have htm:(B[D] / 2^S).tmod 2=zT B P:=by rw [hrb];exact AJ hd0
  generalize B[D] / 2^S=y at*;generalize zT B P=z at*;generalize hv:rdN B pos i=v at*;have c1:IntKind.wrap .u32 (2*v)=2*v:=sQ;have c2:IntKind.wrap .u32 z=z:=sQ;have c3:IntKind.wrap .u32 (2*v+z)=2*v+z:=sQ;simp [mB,g1,g2,g4,g7,g8,hi,hw,hq0,hq3,hwD,hr1,hr2,hs,hp1,hb',hL,aA,c8,hn0,hc,hsh,htm,c1,c2,c3];exact ih _ _ ⟨_,P+1,hn,by omega,rfl,by simp [g1],by simp [g2],by simp [g4],by simp [hst],by simp⟩
 ·rintro e _ L hL ⟨n,P,hn,hP,rfl,g1,g2,g4,g7,g8⟩;subst hP;rw [<- hR];simp [mB,rU,g1,g2,g4,g7,g8,hL,aA,yrC]
 ·exact ⟨2,pos,Qb _,by simp,by simp,by simp,by simp,by simp,by simp [rdN],by simp⟩
end
theorem yal8 (l:List Int):jD 1 (l.map c8)=true:=vU 1 c8 l fun x=>by simp
theorem Ib (B:List Int) (hB:B.length<=512):a8 Φ 245 [.slice 1 (B.map c8)]=some (.val (.agg (yrC B 0))):=by
 rw [aB rfl rfl];have b1:B.length<=70368744177664:=by omega
 have al:=yal8 B;simp [GK,yrC,b1,al]
theorem Ig (B:List Int) (hB:B.length<=512) (k:Nat) (hk:k<=B.length):a8 Φ 248 [.agg (yrC B (8*k))]=some (.val (.tup [.slice 1 ((B.drop k).map c8),a7 0])):=by
 rw [aB rfl rfl];have b1:B.length - k<=70368744177664:=by omega
 have al:=yal8 (B.drop k);rw [List.map_drop] at al;have ht:List.take (B.length - k) (List.drop k (List.map c8 B))=List.drop k (List.map c8 B):=Qo (by simp);obtain ⟨P,hP⟩:∃P,P=8*k:=⟨_,rfl⟩;rw [<- hP];have hq3:((P:Int) / 8)=k:=by omega
 have hq0:(P:Int).tdiv 8=k:=by rw [K9 (by omega)];omega
 have hwD:IntKind.wrap .i64 (k:Int)=k:=aQ;have hr1:(P:Int).tmod 8=0:=by rw [AJ (by omega)];omega
 have hr2:((P:Int) % 8)=0:=by omega
 simp [GM,yrC,hq0,hq3,hwD,hr1,hr2,hk,b1,al,ht]
theorem R4 {l:List Fld} (hl:l.length<=12) (hw:∀f∈l,1<=f.Yc/\f.Yc<=32) (i:Nat):wN (l.take i)<=384:=by
 have h1:=L5 (l:=l) i;have:∀l:List Fld,(∀f∈l,1<=f.Yc/\f.Yc<=32)->wN l<=32*l.length:=by
  intro l
  induction l with
  | nil=>simp [wN]
  | cons f r ih=>
   intro h;have h2:=ih fun g hg=>h g (D1 _ hg)
   have h3:=h f (OG ..);simp only [wN,uP,MD,AQ] at*;omega
 have:=this l hw;omega
theorem Cl {h:Xi} (hn:h.name.length<2^40) (hf:∀f∈h.Xz,f.name.length<2^40) (e:hdrE h=0):a8 Φ 376 [.agg (Xi.c h)]=some (.val (a7 (wN h.Xz:Nat))):=by
 rw [aB rfl rfl];have hc:=NC h hn hf;rw [e] at hc;have hv:=vhdr e;simp only [Xi.e] at hc;generalize hR:some (Rt.val (AV.int IntKind.i64 (wN h.Xz:Nat)))=R;have h12:=hv.n;simp [IJ,Xi.e,hc];refine (dC h.Xz.length (fun i e=>look 1 e=some (.iptr 2 [Xi.c h] 0 0)/\look 3 e=some (a7 (wN (h.Xz.take i):Nat))/\look 4 e=some (a7 i)) (fun _=>R) ?_ ?_ 0 _ (Qc _) ?_).trans rfl
 ·rintro i e L hi hL ⟨g1,g3,g4⟩ ih;have hwr:=aF i (by omega);obtain ⟨w1,w2⟩:=hv.w _ (Qd hi);have htk:=km hi;have h384:=R4 h12.2 hv.w (i+1);obtain ⟨k,hk⟩:=f9 (show 0<=h.Xz[i].Yc by omega);rw [hk,uW] at htk;have hsum:IntKind.wrap .i64 ((wN (h.Xz.take i):Nat)+(k:Int))=(wN (h.Xz.take (i+1)):Nat):=by
   rw [show ((wN (h.Xz.take i):Nat)+(k:Int))=(wN (h.Xz.take (i+1)):Nat) by omega];exact aQ
  simp only [Xi.e] at g1;simp [mA,Fld.e,g1,g3,g4,hi,hwr,hk,hsum];exact ih _ ⟨by simp [g1,Xi.e],by simp,by simp⟩
 ·rintro e L hL ⟨g1,g3,g4⟩;rw [fF] at g3;simp only [Xi.e] at g1;rw [<- hR];simp [mA,rT,g1,g3,g4,hL]
 ·simp [Xi.e,wN]
def yRd (h:Xi) (B:List Int) (pos:Nat):Rt:=if 8*B.length<pos+wN h.Xz then .val (.tup [.agg (yrC B pos),.slice 1 [],a7 3]) else .val (.tup [.agg (yrC B (pos+wN h.Xz)),.slice 1 ((rdF B pos h.Xz).map c32),a7 0])
theorem Co {h:Xi} (hn:h.name.length<2^40) (hf:∀f∈h.Xz,f.name.length<2^40) (e:hdrE h=0) (B:List Int) (pos:Nat) (hB:B.length<=512) (hb:bOk B) (hp:pos<=8*B.length):
  a8 Φ 333 [.agg (Xi.c h),.agg (yrC B pos)]=some (yRd h B pos):=by
 rw [aB rfl rfl];have q2:=QG B pos hB hp;have hc:=NC h hn hf;have hbt:=Cl hn hf e;rw [e] at hc;have hv:=vhdr e;rw [yrC] at q2;simp only [Xi.e] at hc hbt;unfold yRd;by_cases hs:8*B.length<pos+wN h.Xz
 ·have q3:8*B.length - pos<wN h.Xz:=by omega
  rw [a9 hs];simp [BW,yrC,Xi.e,hc,hbt,q2,q3]
 have q3:¬8*B.length - pos<wN h.Xz:=by omega
 rw [QA hs];generalize hR:some (Rt.val (.tup [.agg (yrC B (pos+wN h.Xz)),.slice 1 ((rdF B pos h.Xz).map c32),a7 0]))=R;simp [BW,yrC,Xi.e,hc,hbt,q2,q3];refine cC h.Xz.length (fun i e hp=>∃(n P:Nat),P=pos+wN (h.Xz.take i)/\3<=n/\hp=⟨[(0,.row 2 [[.slice 1 (B.map c8),a7 P]]),(1,.row 2 [[.Xt 1 [],a7 0]]),(2,.tok 1 i)],n⟩/\look 2 e=some (.iptr 2 [Xi.c h] 0 0)/\look 3 e=some (.ptr 0 2 0 0)/\look 4 e=some (.ptr 1 2 0 0)/\look 8 e=some (.app 1 ((rdF B pos (h.Xz.take i)).map c32) 2)/\look 9 e=some (a7 i)) (fun r=>r=R) ?_ ?_ 0 _ _ (Qc _) ?_
 ·rintro i e _ L hi hL ⟨n,P,hP,hn3,rfl,g2,g3,g4,g8,g9⟩ ih;have hvl:=hv.n;have hwr:=aF i (by omega);obtain ⟨w1,w2⟩:=hv.w _ (Qd hi);have htk:=km hi;have hle:=L5 (l:=h.Xz) (i+1);have hrf:rdF B pos (h.Xz.take (i+1))=rdF B pos (h.Xz.take i)++[rdN B P h.Xz[i].Yc.toNat]:=by
   rw [Qh hi,jw,<- hP];rfl
  have hlen:(rdF B pos (h.Xz.take i)).length=i:=by
   rw [VI];simp;omega
  obtain ⟨k,hk⟩:=f9 (show 0<=h.Xz[i].Yc by omega);rw [hk] at htk w1 w2 hrf;simp only [uW] at htk hrf;have hr:=Hz B P hB (by omega) hb k (by omega) (by omega) (by omega);obtain ⟨P',hP'⟩:∃P',P'=P+k:=⟨_,rfl⟩;simp only [yrC,<- hP'] at hr;simp only [Xi.e] at g2;have hfs:(i+1)*4<=70368744177664:=by omega
  have n0:¬n=0/\¬n=1/\¬n=2/\¬n+10=0/\¬n+10=1/\¬n+10=2/\¬0=n+10/\¬1=n+10/\¬2=n+10:=by omega
  obtain ⟨z1,z2,z3,z4,z5,z6,z7,z8,z9⟩:=n0;simp [lS,Fld.e,g2,g3,g4,g8,g9,hi,hk,hr,hwr,hlen,hfs,z1,z2,z3,z4,z5,z6,z7,z8,z9,aC,aA,N5,jA];refine ih _ _ ⟨_,P',by omega,?_,by rfl,by simp [g2,Xi.e],by simp [g3],by simp [g4],by simp [hrf,c32],by simp⟩;omega
 ·rintro e _ L hL ⟨n,P,hP,hn3,rfl,g2,g3,g4,g8,g9⟩;rw [fF] at hP g8;subst hP;rw [<- hR];simp [lS,rI,Xi.e,g2,g3,g4,g8,g9,hL,aA,yrC]
 ·exact ⟨3,pos,by simp [wN],Qb _,by simp,by simp [Xi.e],by simp,by simp,by simp [rdF],by simp⟩
theorem AE.sn {O:List (Nat×AO)} {N:Nat} {V F M P:AV} {e:Envt} (h:AE O N V F M P e) (O':List (Nat×AO)) (n:Nat) (ha:∀j x,j<N->look j O=some (.row 1 x)->look j O'=some (.row 1 x)):snap 38 ⟨O',n⟩ V=some (.slice 1 (e.valid.map cB))/\snap 38 ⟨O',n⟩ F=some (.slice 1 (e.Xz.map (cS 1 c32)))/\snap 38 ⟨O',n⟩ M=some (.slice 1 (e.metaF.map c32))/\snap 38 ⟨O',n⟩ P=some (.slice 1 (e.payload.map c8)):=by
 have h1:=(h.v O' n ha).2.2;have h2:=(h.m O' n ha).2.2;have h4:snap 38 ⟨O',n⟩ P=some (.slice 1 (e.payload.map c8)):=by
  rcases h.p with rfl | ⟨tk,rfl⟩<;>simp
 have h3:snap 38 ⟨O',n⟩ F=some (.slice 1 (e.Xz.map (cS 1 c32))):=by
  rcases h.f with rfl | ⟨fd,A,rfl,hfd,hl,hA,hsu⟩
  ·simp
  have key:∀(A:List AV) (L:List (List Int)),A.length=L.length->(∀(k:Nat) (a:AV) (x:List Int),A[k]? =some a->L[k]? =some x->snap 37 ⟨O',n⟩ a=some (.slice 1 (x.map c32)))->mapO (mapO (snap 37 ⟨O',n⟩)) (A.map fun x=>[x])=some (L.map (cS 1 c32)):=by
   intro A
   induction A with
   | nil=>intro L hL _;rw [KB] at hL;rw [Qg hL.symm];rfl
   | cons a A ih=>
    intro L hL hh;cases L with
    | nil=>simp at hL
    | cons x L=>
     have h0:=hh 0 a x rfl rfl;have hr:=ih L (by simpa using hL) fun k b y hb hy=>hh (k+1) b y (by simpa using hb) (by simpa using hy)
     simp only [uP,mapO,h0,hr,cS]
  have hk:=key A e.Xz hA fun k a x hka hx=>(hsu k a x hka hx O' n ha).2.1
  have hl2:=ha fd _ hfd hl;simp [hl2,hk]
 exact ⟨h1,h3,h2,h4⟩
theorem AE.put {O O2:List (Nat×AO)} {B N N2:Nat} {V F M P:AV} {A:List AV} {e:Envt} (h:EM O B V F M A e) (hT:Tail O N) (hN:N<=N2) (hp:P= .app 1 (e.payload.map c8) 0\/∃tk,P= .app 1 (e.payload.map c8) tk) {k iv fd:Nat} (hk:k<e.valid.length) (hkA:k<A.length) (hV:V= .row iv 1 0 e.valid.length) (hF:F= .row fd 1 0 A.length) (vals:List Int)
  (h2:∀j x,look j (setl fd (.row 1 ((A.set k (.slice 1 (vals.map c32))).map fun x=>[x])) (setl iv (.row 1 ((e.valid.set k true).map cB)) O))=some (.row 1 x)->look j O2=some (.row 1 x)):
  AE O2 N2 V F M P { e with valid:=e.valid.set k true,Xz:=e.Xz.set k vals }:=by
 have h1:=h.setV hV (e.valid.set k true) (by simp);have lV:look iv O=some (.row 1 (e.valid.map cB)):=by
  rcases h.v with ⟨_,q⟩ | ⟨id,q,l,_⟩
  ·rw [hV] at q;cases q
  ·rw [hV] at q;injection q with q;subst q;exact l
 have lF:look fd O=some (.row 1 (A.map fun x=>[x])):=by
  rcases h.f with ⟨_,q⟩ | ⟨id,q,l,_⟩
  ·rw [hF] at q;cases q
  ·rw [hF] at q;injection q with q;subst q;exact l
 have fv:fd≠iv:=aW lF lV fun z=>by
  injection z with _ z
  have:=h.r.head (fun x hx=>by obtain ⟨y,_,rfl⟩:=iU.1 hx;exact .inl ⟨_,rfl⟩) z;simp at this;rw [this] at hk;simp at hk
 have hAne:(A.map fun x=>[x])≠[]:=by
  intro z;have:A=[]:=by simpa using z
  rw [this] at hkA;simp at hkA
 have lF1:look fd (setl iv (.row 1 ((e.valid.set k true).map cB)) O)=some (.row 1 (A.map fun x=>[x])):=by rw [aA,QA fv,lF]
 have old:∀(j:Nat) (es:List (List AV)),(∀x∈es,(∃b,x=[.bool b])\/∃k n,x=[.int k n])->look j (setl iv (.row 1 ((e.valid.set k true).map cB)) O)=some (.row 1 es)->look j O2=some (.row 1 es):=fun j es he hj=>by
  refine h2 j es ?_;rw [EF lF1 hj fun z=>hAne (by have:=h.r.head he z;rw [z,this])]
 have hlt:∀{j:Nat} {es:List (List AV)},look j (setl iv (.row 1 ((e.valid.set k true).map cB)) O)=some (.row 1 es)->j<N2:=fun {j es} hj=>OE ((bB hT).lt hj) hN
 have hb:∀l:List Bool,∀x∈l.map cB,(∃b,x=[AV.bool b])\/∃k n,x=[AV.int k n]:=fun l x hx=>by obtain ⟨y,_,rfl⟩:=iU.1 hx;exact .inl ⟨_,rfl⟩
 have hi:∀l:List Int,∀x∈l.map c32,(∃b,x=[AV.bool b])\/∃k n,x=[AV.int k n]:=fun l x hx=>by obtain ⟨y,_,rfl⟩:=iU.1 hx;exact .inr ⟨_,_,rfl⟩
 refine ⟨?_,?_,.inr ⟨fd,A.set k (.slice 1 (vals.map c32)),by rw [hF];simp,hlt lF1,?_,by simp [h.r.len],fun j a x ha hx=>?_⟩,?_⟩
 ·rcases h1.v with ⟨q,_⟩ | ⟨id,q,l,_⟩
  ·have:e.valid.set k true=[]:=by simpa using q
   have:=congrArg List.length this;simp at this;rw [this] at hk;simp at hk
  ·rw [q];exact SU.row (old _ _ (hb _) l) (hlt l) (QU _)
 ·rcases h1.m with ⟨q,q2⟩ | ⟨id,q,l,_⟩
  ·rw [q2,q];exact SU.nil _ _
  ·rw [q];exact SU.row (old _ _ (hi _) l) (hlt l) (jn _)
 ·refine h2 fd _ ?_;rw [aA,a9 rfl,lF1];rfl
 ·have hkF:k<e.Xz.length:=by rw [<- h.r.len];exact hkA
  rw [List.getElem?_set,a9 hkA] at ha;simp only [List.getElem?_set,a9 hkF] at hx;split at ha
  ·rename_i q;rw [a9 q] at hx;cases ha;cases hx;exact SU.sl _ _ _
  ·rename_i q;rw [QA q] at hx;rcases h1.r.row j a x ha hx with ⟨q,q2⟩ | ⟨id,q,l,_⟩
   ·rw [q,q2];exact SU.nil _ _
   ·have hle:x.length=(x.map c32).length:=by simp
    rw [q,hle];exact SU.row (old _ _ (hi _) l) (hlt l) (jn _)
 ·rcases hp with hp | hp
  ·exact .inr ⟨0,hp⟩
  ·exact .inr hp
theorem rt {t:Nat} {x:AO}:∀{O:List (Nat×AO)},look t O=none->dropl t (O++[(t,x)])=O
 | [],_=>by simp
 | (u,w)::r,h=>by
  by_cases q:u=t
  ·subst q;simp at h
  ·rw [j9 _ _ _ _ q] at h;rw [oY,qb _ _ _ _ q,rt h]
theorem AE.mono {O O':List (Nat×AO)} {N N':Nat} {V F M P:AV} {e:Envt} (h:AE O N V F M P e) (hk:∀j x,j<N->look j O=some (.row 1 x)->look j O'=some (.row 1 x)) (hN:N<=N'):AE O' N' V F M P e:=by
 refine ⟨h.v.mono hk hN,h.m.mono hk hN,?_,h.p⟩;rcases h.f with h1 | ⟨fd,A,h1,h2,h3,h4,h5⟩
 ·exact .inl h1
 ·exact .inr ⟨fd,A,h1,by omega,hk fd _ h2 h3,h4,fun k a x ha hx=>(h5 k a x ha hx).mono hk hN⟩
def YExt (B:List Int) (y:Option (Envt×Nat)) (r:Option Rt):Prop:=match y with
 | some z=>r=some (.val (.tup [.agg z.1.c,.agg (yrC B z.2),.int .i64 0]))
 | none=>∃(e':Envt) (pos':Nat),r=some (.val (.tup [.agg e'.c,.agg (yrC B pos'),.int .i64 3]))
structure XL (p:Prg) (x:Xc) (B:List Int) (y:Option (Envt×Nat)) (i:Nat) (E:Env) (O:List (Nat×AO)) (N:Nat) (V F M P:AV) (e:Envt) (pos:Nat):Prop where
 e4:look 4 E=some (.iptr 9 [p.c] 0 0)
 e5:look 5 E=some (.iptr 7 [x.c] 0 0)
 e6:look 6 E=some (.ptr 0 4 0 0)
 e7:look 7 E=some (.ptr 1 2 0 0)
 e8:look 8 E=some (.ptr 2 4 0 0)
 e9:look 9 E=some (.ptr 3 2 0 0)
 e11:look 11 E=some (a7 i)
 l0:look 0 O=some (.row 4 [[V,F,M,P]])
 l1:look 1 O=some (.row 2 [yrC B pos])
 l2:look 2 O=some (.row 4 [z4])
 l3:look 3 O=some (.row 2 [[.Xt 1 [],a7 0]])
 ae:AE O N V F M P e
 T:Tail O N
 nr:NR O
 n4:4<=N
 ev:EV p e
 pl:e.payload.length<2^40
 q:pos<=8*B.length
 hy:y=exHs p B (x.extract.drop i) (e,pos)
theorem Rg {p:Prg} (w:PWd p) {e:Envt} (ev:EV p e) (pl:e.payload.length<2^40):EvS e:=by
 refine ⟨by rw [ev.v];exact w.hl,by rw [ev.f];exact w.hl,fun l hl=>?_,by rw [ev.m];exact w.ml,pl⟩;obtain ⟨i,hi,rfl⟩:=Qn.1 hl;have h2:i<p.Xo.length:=by rw [<- ev.f];exact hi
 rw [ev.g i hi h2];exact w.hf _ (Qd h2)
theorem Cn {p:Prg} (fs:PrgS p) (w:PWd p) (hd:∀h∈p.Xo,hdrE h=0) {x:Xc} (hs:∀h∈x.extract,0<=h/\h<p.Xo.length) (hsl:x.extract.length<2^40) {B:List Int} (hb:bOk B) (hl:B.length<=512) {y:Option (Envt×Nat)} {E:Env} {O:List (Nat×AO)} {N:Nat} {V F M P:AV} {e:Envt} {pos:Nat} (h:XL p x B y 0 E O N V F M P e pos):
  YExt B y (go Φ (finP nQ.results) [.c (.loop dZ),.b 0,.c kW] .normal ⟨E,⟨O,N⟩⟩):=by
 refine cC x.extract.length (fun i E h=>∃O N V F M P e pos,h=⟨O,N⟩/\XL p x B y i E O N V F M P e pos) (fun r=>YExt B y r) ?_ ?_ 0 _ _ (Qc _) ⟨_,_,_,_,_,_,_,_,rfl,h⟩
 ·rintro i E _ K hi hK ⟨O,N,V,F,M,P,e,pos,rfl,h⟩ ih;have hw:=aF i (by omega);obtain ⟨e4,e5,e6,e7,e8,e9,e11,l0,l1,l2,l3,ae,T,nr,n4,ev,pl,q,hy⟩:=h;obtain ⟨d1,d2⟩:=hs _ (Qd hi);rw [Qi hi] at hy;generalize hx:x.extract[i]=hh at*;obtain ⟨k,rfl⟩:=f9 d1;have hk:k<p.Xo.length:=by omega
  have hgm:=Qd hk;have hrd:=Co (fs.hn _ hgm) (fs.hf _ hgm) (hd _ hgm) B pos hl hb q;have hwN:(wSum p.Xo[k].Xz).toNat=wN p.Xo[k].Xz:=by rw [OB (vhdr (hd _ hgm)).w];simp
  have t0:=T N (Qb _);have t:∀j,look (N+j) O=none:=fun j=>T _ (by omega)
  have nn:∀j,(¬N+j=0/\¬0=N+j)/\(¬N+j=1/\¬1=N+j)/\(¬N+j=2/\¬2=N+j)/\(¬N+j=3/\¬3=N+j):=fun j=>by omega
  have n0:(¬N=0/\¬0=N)/\(¬N=1/\¬1=N)/\(¬N=2/\¬2=N)/\(¬N=3/\¬3=N):=by omega
  have dN:=fun j y=>rt (x:=y) (t j)
  simp only [exHs,exH,oV,Qa hk,hwN,uW] at hy;unfold yRd at hrd;simp only [yrC] at l1 hrd;simp only [z4] at l2;rw [Prg.e] at e4;rw [Xc.e] at e5;simp only [Xi.e] at hrd;by_cases z:8*B.length<pos+wN p.Xo[k].Xz
  ·rw [a9 z] at hrd hy;have hs2:∀a b,eT (setl 3 (.row 2 a) (setl 2 (.row 4 b) O))=setl 3 (.row 2 a) (setl 2 (.row 4 b) O):=fun a b=>(nr.setl (by simp)).setl (by simp)
   have fin:∀n a b err,retP ⟨setl 3 (.row 2 a) (setl 2 (.row 4 b) O),n⟩ (some (.tup [.agg [V,F,M,P],.agg [.slice 1 (B.map c8),a7 pos],a7 err]))=some (.val (.tup [.agg e.c,.agg (yrC B pos),a7 err])):=fun n a b err=>by
    obtain ⟨s1,s2,s3,s4⟩:=ae.sn (setl 3 (.row 2 a) (setl 2 (.row 4 b) O)) n fun j x _ hj=>by rw [aA,QA (aW hj l3 (by simp)),aA,QA (aW hj l2 (by simp)),hj]
    rw [MU,show aI=38+2 from rfl];simp [s1,s2,s3,s4,yrC,Envt.ce]
   simp [nQ,dZ,Xi.e,Xc.e,e4,e5,e6,e7,e8,e9,e11,l0,l1,l2,l3,hi,hx,hk,hrd,t,t0,nn,n0,dN,aC,aA,nG,nr.eq,nr.sw,cI,hs2,-retP];rw [hy,fin];exact ⟨e,pos,rfl⟩
  ·rw [QA z] at hrd hy;obtain ⟨P',hP'⟩:∃P',P'=pos+wN p.Xo[k].Xz:=⟨_,rfl⟩;rw [<- hP'] at hrd hy;simp only [dI] at hy;have kr:∀a (j:Nat) (x:List (List AV)),look j O=some (.row 1 x)->look j (setl 1 (.row 2 a) O)=some (.row 1 x):=fun a j x hj=>by rw [aA,QA (aW hj l1 (by simp)),hj]
   have ae1:=ae.mono (O':=setl 1 (.row 2 [[.slice 1 (B.map c8),a7 P']]) O) (N':=N+14) (fun j x _ hj=>kr _ j x hj) (by omega);obtain ⟨O',N',V',F',M',A,tk,hcl,em,kp,T',hN',nr'⟩:=UI (bB (T.mono (show N<=N+14 by omega))) (nr.setl (by simp)) (Rg w ev pl) ae1;have c0:look 0 O'=some (.row 4 [[V,F,M,P]]):=by rw [kp 0 (by omega) (by simp),aA,QA (by decide),l0]
   have c1:look 1 O'=some (.row 2 [[.slice 1 (B.map c8),a7 P']]):=by rw [kp 1 (by omega) (by simp),aA,a9 rfl,l1];rfl
   have c2:look 2 O'=some (.row 4 [[.Xt 1 [],.Xt 1 [],.Xt 1 [],.Xt 1 []]]):=by rw [kp 2 (by omega) (by simp),aA,QA (by decide),l2]
   have c3:look 3 O'=some (.row 2 [[.Xt 1 [],a7 0]]):=by rw [kp 3 (by omega) (by simp),aA,QA (by decide),l3]
   have hkv:k<e.valid.length:=by rw [ev.v];exact hk
   have hkf:k<e.Xz.length:=by rw [ev.f];exact hk
   have hkA:k<A.length:=by rw [em.r.len];exact hkf
   obtain ⟨iv,rfl,lV,hiv⟩:∃iv,V'= .row iv 1 0 e.valid.length/\look iv O'=some (.row 1 (e.valid.map cB))/\N+14<=iv:=by
    rcases em.v with ⟨z,_⟩ | ⟨iv,h,l,hi,_⟩
    ·have:e.valid=[]:=by simpa using z
     rw [this] at hkv;simp at hkv
    ·exact ⟨iv,by simpa using h,l,hi⟩
   obtain ⟨fd,rfl,lF,hfd⟩:∃fd,F'= .row fd 1 0 A.length/\look fd O'=some (.row 1 (A.map fun x=>[x]))/\N+14<=fd:=by
    rcases em.f with ⟨z,_⟩ | ⟨fd,h,l,hi,_⟩
    ·have:A=[]:=by simpa using z
     rw [this] at hkA;simp at hkA
    ·exact ⟨fd,by simpa using h,l,hi⟩
   have fv:¬fd=iv/\¬iv=fd:=by
    have:fd≠iv:=aW lF lV fun z=>by
     injection z with _ z
     have:=em.r.head (fun x hx=>by obtain ⟨y,_,rfl⟩:=iU.1 hx;exact .inl ⟨_,rfl⟩) z;simp at this;rw [this] at hkv;simp at hkv
    exact ⟨this,fun e=>this e.symm⟩
   have v0:(¬iv=0/\¬0=iv)/\(¬fd=0/\¬0=fd):=by omega
   have hex:exH p B (e,pos) (k:Int)=some ({ e with valid:=e.valid.set k true,Xz:=e.Xz.set k (rdF B pos p.Xo[k].Xz) },P'):=by
    simp only [exH,oV,Qa hk,hwN,uW];rw [QA z,hP']
   have ev2:=EV.exH (fun g hg f hf=>(vhdr (hd g hg)).w f hf) (x:=(e,pos)) ev hex;simp only at ev2;have fr:go Φ (finP nQ.results) K .normal=go Φ (finP nQ.results) K .normal:=rfl;generalize rdF B pos p.Xo[k].Xz=vals at*;have hA2:(A.set k (.slice 1 (vals.map c32))).map (fun x=>[x])=(A.map fun x=>[x]).set k [.slice 1 (vals.map c32)]:=by rw [uX]
   have hV2:(e.valid.set k true).map cB=(e.valid.map cB).set k [.bool true]:=by rw [uX];rfl
   have fin:∀{E2:Env} {n:Nat} {Y:List AV},(∀j,j=4\/j=5\/j=6\/j=7\/j=8\/j=9->look j E2=look j E)->look 11 E2=some (a7 (i+1:Nat))->Y=[.row iv 1 0 e.valid.length,.row fd 1 0 A.length,M',.app 1 (e.payload.map c8) tk]->N'<=n->
     YExt B y (go Φ (finP nQ.results) K .normal ⟨E2,⟨setl fd (.row 1 ((A.map fun x=>[x]).set k [.slice 1 (vals.map c32)])) (setl iv (.row 1 ((e.valid.map cB).set k [.bool true])) (setl 0 (.row 4 [Y]) O')),n⟩⟩):=fun {E2 n Y} hE g11 hY hn=>by
    have k0:∀j,j≠0->look j (setl fd (.row 1 ((A.map fun x=>[x]).set k [.slice 1 (vals.map c32)])) (setl iv (.row 1 ((e.valid.map cB).set k [.bool true])) (setl 0 (.row 4 [Y]) O')))=look j (setl fd (.row 1 ((A.map fun x=>[x]).set k [.slice 1 (vals.map c32)])) (setl iv (.row 1 ((e.valid.map cB).set k [.bool true])) O')):=fun j hj=>by simp [aA,hj,v0]
    have kj:∀j,j≠0->j≠iv->j≠fd->look j (setl fd (.row 1 ((A.map fun x=>[x]).set k [.slice 1 (vals.map c32)])) (setl iv (.row 1 ((e.valid.map cB).set k [.bool true])) (setl 0 (.row 4 [Y]) O')))=look j O':=fun j hj h1 h2=>by simp [aA,hj,h1,h2]
    refine ih _ _ ⟨_,_,.row iv 1 0 e.valid.length,.row fd 1 0 A.length,M',.app 1 (e.payload.map c8) tk,{ e with valid:=e.valid.set k true,Xz:=e.Xz.set k vals },P',rfl,?_⟩;refine ⟨by rw [hE 4 (by simp),e4,Prg.e],by rw [hE 5 (by simp),e5,Xc.e],by rw [hE 6 (by simp),e6],by rw [hE 7 (by simp),e7],by rw [hE 8 (by simp),e8],by rw [hE 9 (by simp),e9],g11,?_,?_,?_,?_,
     AE.put em (Tail.mono T' (Qb _)) hn (.inr ⟨tk,rfl⟩) hkv hkA rfl rfl vals (fun j x hj=>?_),bB (bB (bB (T'.mono hn))),((nr'.setl (by simp)).setl (by simp)).setl (by simp),by omega,ev2,pl,by omega,hy⟩
    ·simp [aA,v0,c0,hY]
    ·rw [kj 1 (by omega) (by omega) (by omega),c1];rfl
    ·rw [kj 2 (by omega) (by omega) (by omega),c2];rfl
    ·rw [kj 3 (by omega) (by omega) (by omega),c3]
    ·rw [hA2,hV2] at hj;by_cases q0:j=0
     ·subst q0;simp [aA,v0,c0] at hj
     ·rw [k0 j q0,hj]
   have hEE:∀{E2:Env},look 4 E2=look 4 E->look 5 E2=look 5 E->look 6 E2=look 6 E->look 7 E2=look 7 E->look 8 E2=look 8 E->look 9 E2=look 9 E->∀j,j=4\/j=5\/j=6\/j=7\/j=8\/j=9->look j E2=look j E:=fun {E2} a1 a2 a3 a4 a5 a6 j hj=>by
    rcases hj with rfl | rfl | rfl | rfl | rfl | rfl<;>assumption
   simp [dZ,Xi.e,Xc.e,e4,e5,e6,e7,e8,e9,e11,l0,l1,l2,l3,hi,hx,hk,hrd,t,t0,nn,n0,dN,aC,aA,nG,nr.eq,nr.sw,cI,cB,hcl,c0,lV,lF,fv,v0,hkv,hkA,hw,-retP];exact fin (hEE (by simp) (by simp) (by simp) (by simp) (by simp) (by simp)) (by simp) rfl (Qb _)
 ·rintro E _ K hK ⟨O,N,V,F,M,P,e,pos,rfl,h⟩;obtain ⟨e4,e5,e6,e7,e8,e9,e11,l0,l1,l2,l3,ae,T,nr,n4,ev,pl,q,hy⟩:=h;rw [QB] at hy;have hs2:∀a b,eT (setl 3 (.row 2 a) (setl 2 (.row 4 b) O))=setl 3 (.row 2 a) (setl 2 (.row 4 b) O):=fun a b=>(nr.setl (by simp)).setl (by simp)
  have fin:∀n a b err,retP ⟨setl 3 (.row 2 a) (setl 2 (.row 4 b) O),n⟩ (some (.tup [.agg [V,F,M,P],.agg [.slice 1 (B.map c8),a7 pos],a7 err]))=some (.val (.tup [.agg e.c,.agg (yrC B pos),a7 err])):=fun n a b err=>by
   obtain ⟨s1,s2,s3,s4⟩:=ae.sn (setl 3 (.row 2 a) (setl 2 (.row 4 b) O)) n fun j x _ hj=>by rw [aA,QA (aW hj l3 (by simp)),aA,QA (aW hj l2 (by simp)),hj]
   rw [MU,show aI=38+2 from rfl];simp [s1,s2,s3,s4,yrC,Envt.ce]
  simp only [yrC] at l1;simp only [z4] at l2;rw [Xc.e] at e5;simp [nQ,dZ,e5,e11] at hK ⊢;simp [kW,hK,e6,e7,e8,e9,l0,l1,l2,l3,aA,nr.eq,nr.sw,hs2,-retP];rw [hy,fin];rfl
theorem Nk {p:Prg} (fs:PrgS p) (w:PWd p) (hd:∀h∈p.Xo,hdrE h=0) {x:Xc} (hs:∀h∈x.extract,0<=h/\h<p.Xo.length) (hsl:x.extract.length<2^40) {B:List Int} (hb:bOk B) (hl:B.length<=512) {e:Envt} {pos:Nat} (ev:EV p e) (pl:e.payload.length<2^40) (q:pos<=8*B.length):
  YExt B (exHs p B x.extract (e,pos)) (a8 Φ 246 [.agg p.c,.agg x.c,.agg e.c,.agg (yrC B pos)]):=by
 rw [aB rfl rfl];have lp:=fun E O N V F M P h=>Cn fs w hd hs hsl hb hl (y:=exHs p B x.extract (e,pos)) (E:=E) (O:=O) (N:=N) (V:=V) (F:=F) (M:=M) (P:=P) (e:=e) (pos:=pos) h
 simp [nQ,Prg.e,Xc.e,Envt.ce,yrC];refine lp _ _ _ _ _ _ _ ⟨by simp [Prg.e],by simp [Xc.e],by simp,by simp,by simp,by simp,by simp,by simp,by simp [yrC],by simp [z4],by simp,AE.imm _ _ e,?_,?_,by omega,ev,pl,q,rfl⟩
 ·exact Tail_cons_iff.2 ⟨by omega,Tail_cons_iff.2 ⟨by omega,Tail_cons_iff.2 ⟨by omega,Tail_cons_iff.2 ⟨by omega,Tail.nil _⟩⟩⟩⟩
 ·exact bO (by simp) (bO (by simp) (bO (by simp) (.one (by simp))))
theorem Fc (x:Xc) (g:Int) (c:Xj) (r:List Xj):nxF x g (c::r)=if iand .u32 g c.Yd=c.value then c.next else nxF x g r:=by
 unfold nxF;rw [List.find?_cons];by_cases h:iand .u32 g c.Yd=c.value<;>simp [h]
theorem Pi (x:Xc) (e:Envt) (hl:x.cases.length<2^40):a8 Φ 247 [.agg x.c,.agg e.c]=some (.val (a7 (nxS x e))):=by
 rw [aB rfl rfl];have hg:=kq e x.on.header x.on.field;rw [Envt.ce] at hg;unfold nxS;generalize eGet e x.on.header x.on.field=g at*;have hnx:(if x.select=true then ((x.cases.find? fun c=>decide (iand .u32 g c.Yd=c.value)).map (·.next)).getD x.Yb else x.Yb)=if x.select=true then nxF x g x.cases else x.Yb:=rfl
 rw [hnx];generalize hR:some (Rt.val (a7 (if x.select=true then nxF x g x.cases else x.Yb)))=R;simp [GL,Xc.e,Envt.ce];refine cC x.cases.length (fun i ev h=>∃n,h=⟨[],n⟩/\look 2 ev=some (.iptr 7 [x.c] 0 0)/\look 3 ev=some (.iptr 4 [e.c] 0 0)/\look 5 ev=some (a7 i)/\R=some (Rt.val (a7 (if x.select=true then nxF x g (x.cases.drop i) else x.Yb)))) (fun r=>r=R) ?_ ?_ 0 _ _ (Qc _) ?_
 ·rintro i ev _ L hi hL ⟨n,rfl,h2,h3,h5,hR⟩ ih;have hw:=aF i (by omega);rw [Xc.e] at h2;rw [Envt.ce] at h3;cases hs:x.select with
  | false=>
   rw [hs] at h2 hR;simp [eA,kX,h2,h3,h5,hi,hL,hR]
  | true=>
   rw [hs,Qi hi,a9 rfl,Fc] at hR;rw [hs] at h2;by_cases hm:iand IntKind.u32 g x.cases[i].Yd=x.cases[i].value
   ·rw [hR,a9 hm];simp [eA,Xj.e,h2,h3,h5,hi,hL,hg,hm]
   ·simp [eA,Xj.e,h2,h3,h5,hi,hL,hg,hm,hw];exact ih _ _ ⟨_,rfl,by simp [h2,Xc.e,hs],by simp [h3,Envt.ce],by simp,by rw [hR,hs,QA hm];simp⟩
 ·rintro ev _ L hL ⟨n,rfl,h2,h3,h5,hR⟩;rw [Xc.e] at h2;rw [QB] at hR;have:(if x.select=true then nxF x g [] else x.Yb)=x.Yb:=by split<;>rfl
  rw [this] at hR;simp [eA,kX,h2,h5,hL,hR]
 ·exact ⟨_,rfl,by simp [Xc.e],by simp [Envt.ce],by simp,hR.symm⟩
theorem Om {p:Prg} (fs:PrgS p) (hd:∀h∈p.Xo,hdrE h=0) (hp:(parE p).2.2=0) (d:List Int):
  a8 Φ 243 [.agg p.c,.slice 1 (d.map c8)]=some (.val (a7 (if 512<d.length then 4 else 0))):=by
 rw [aB rfl rfl];have h1:=xb p fs;have hl:=fs.h;rw [tup3,hp] at h1;simp only [Prg.e] at h1;generalize hX:(if 512<d.length then (4:Int) else 0)=X;simp [GJ,Prg.e,h1];refine (dC p.Xo.length (fun i e=>look 1 e=some (.slice 1 (d.map c8))/\look 2 e=some (.iptr 9 [p.c] 0 0)/\look 8 e=some (a7 i)) (fun _=>some (Rt.val (a7 X))) ?_ ?_ 0 _ (Qc _) ?_).trans rfl
 ·rintro i e L hi hL ⟨g1,g2,g8⟩ ih;have hw:=aF i (by omega);have hm:=Qd hi;have hc:=NC p.Xo[i] (fs.hn _ hm) (fs.hf _ hm);rw [hd _ hm] at hc;rw [Prg.e] at g2;rw [Xi.e] at hc;simp [gN,Xi.e,g2,g8,hi,hw,hc];exact ih _ ⟨by simp [g1],by simp [g2,Prg.e],by simp⟩
 ·rintro e L hL ⟨g1,g2,g8⟩;rw [Prg.e] at g2;by_cases z:512<d.length
  ·rw [a9 z] at hX;simp [gN,kU,g1,g2,g8,hL,z,<- hX]
  ·rw [QA z] at hX;simp [gN,kU,g1,g2,g8,hL,z,<- hX]
 ·simp [Prg.e]
theorem rep32 {G:Type} (l:List G):List.replicate l.length [AV.int .u32 0]=(l.map fun _=>(0:Int)).map c32:=by
 rw [E1,<- MB];rfl
theorem repB {G:Type} (l:List G):List.replicate l.length [AV.bool false]=(l.map fun _=>false).map cB:=by
 rw [E1,<- MB];rfl
def nwF (p:Prg) (i:Nat):List (List AV):=(p.Xo.take i).map fun h=>[.slice 1 (List.replicate h.Xz.length [.int .u32 0])]
theorem QF {p:Prg} (w:PWd p):a8 Φ 244 [.agg p.c]=some (.val (.agg (eNew p).c)):=by
 rw [aB rfl rfl];have hl:=w.hl;have b1:(p.Xo.length:Int)<4611686018427387904:=by omega
 have b2:(p.Xo.length:Int)<=140737488355328:=by omega
 have hml:=w.ml;have b3:(p.Xn.length:Int)<4611686018427387904:=by omega
 have b4:(p.Xn.length:Int)*4<=140737488355328:=by omega
 generalize hR:some (Rt.val (.agg (eNew p).c))=R;simp [wU,Prg.e,b1,b2];refine cC p.Xo.length (fun i E h=>look 1 E=some (.iptr 9 [p.c] 0 0)/\look 2 E=some (.ptr 0 4 0 0)/\look 3 E=some (.ptr 1 4 0 0)/\look 4 E=some (a7 i)/\
  ((i=0/\h=⟨[(0,.row 4 [z4]),(1,.row 4 [[.row 2 1 0 p.Xo.length,.Xt 1 [],.Xt 1 [],.Xt 1 []]]),(2,.row 1 (List.replicate p.Xo.length [.bool false]))],3⟩)\/(0<i/\∃n,32<=n/\h=⟨[(0,.row 4 [z4]),(1,.row 4 [[.row 2 1 0 p.Xo.length,.app 1 (nwF p i) 31,.Xt 1 [],.Xt 1 []]]),(2,.row 1 (List.replicate p.Xo.length [.bool false])),(31,.tok 1 i)],n⟩))) (fun r=>r=R) ?_ ?_ 0 _ _ (Qc _) ?_
 ·rintro i E _ K hi hK ⟨e1,e2,e3,e4,h⟩ ih;have hw:=aF i (by omega);have hf:=w.hf _ (Qd hi);have c1:(p.Xo[i].Xz.length:Int)<4611686018427387904:=by omega
  have c2:(p.Xo[i].Xz.length:Int)*4<=140737488355328:=by omega
  have c3:(i+1)*24<=70368744177664:=by omega
  have hs:nwF p (i+1)=nwF p i++[[.slice 1 (List.replicate p.Xo[i].Xz.length [.int .u32 0])]]:=by
   unfold nwF;rw [Qh hi,yZ];rfl
  have hln:(nwF p i).length=i:=by simp [nwF];omega
  rw [Prg.e] at e1;have w1:IntKind.wrap .i64 1=1:=rfl;rcases h with ⟨rfl,rfl⟩ | ⟨hi0,n,hn,rfl⟩
  ·have h0:nwF p 0=[]:=rfl;rw [h0,yY] at hs;simp [dY,Xi.e,e1,e3,e4,hi,w1,c1,c2];exact ih _ _ ⟨by simp [e1,Prg.e],by simp [e2],by simp [e3],by simp,.inr ⟨by decide,32,by decide,by rw [hs]⟩⟩
  ·have n31:¬n+28=31/\¬31=n+28:=by omega
   have nn:∀k,¬n=0/\¬n=1/\¬n=2/\¬n=31/\¬0=n+k/\¬1=n+k/\¬2=n+k/\¬31=n+k/\¬n+k=0/\¬n+k=1/\¬n+k=2/\¬n+k=31:=fun k=>by omega
   simp [dY,Xi.e,e1,e3,e4,hi,hw,c1,c2,c3,hln,nn,aA];refine ih _ _ ⟨by simp [e1,Prg.e],by simp [e2],by simp [e3],by simp,.inr ⟨by omega,_,?_,by rw [hs]⟩⟩;omega
 ·rintro E _ K hK ⟨e1,e2,e3,e4,h⟩;have hF:(nwF p p.Xo.length)=(eNew p).Xz.map (cS 1 c32):=by
   simp only [nwF,eNew,fF,E1];refine List.map_congr_left fun h _=>?_
   simp only [Function.comp_apply,cS,rep32]
  have r1:=repB p.Xo;have r2:=rep32 p.Xn;have hE:(eNew p).c=[.slice 1 (List.replicate p.Xo.length [.bool false]),.slice 1 (nwF p p.Xo.length),.slice 1 (List.replicate p.Xn.length [.int .u32 0]),.slice 1 []]:=by
   rw [Envt.ce,hF,r1,r2];rfl
  have m1:∀n H,mapO (mapO (snap (n+1) H)) (List.replicate p.Xo.length [AV.bool false])=some (List.replicate p.Xo.length [AV.bool false]):=fun n H=>by rw [r1];exact QU _ n H
  have m2:∀n H,mapO (mapO (snap (n+1) H)) (List.replicate p.Xn.length [AV.int .u32 0])=some (List.replicate p.Xn.length [AV.int .u32 0]):=fun n H=>by rw [r2];exact jn _ n H
  have m1':=fun H=>m1 38 H
  have m2':=fun H=>m2 38 H
  have m1'':=fun H=>m1 37 H
  have m2'':=fun H=>m2 37 H
  rw [Prg.e] at e1;rw [<- hR,hE];rcases h with ⟨h0,rfl⟩ | ⟨hi0,n,hn,rfl⟩
  ·rw [h0] at e4;have hh:p.Xo=[]:=Qg h0;have h0':nwF p 0=[]:=rfl;rw [hh] at e1;simp only [hh,KB,zA,List.replicate_zero,h0'] at e1 ⊢;simp [wU,dY,e1,e4,hh,hK];simp [kV,e1,e2,e3,b3,b4,hK,hh,z4,m2',m2'']
  ·have nn:∀k,¬n=0/\¬n=1/\¬n=2/\¬n=31/\¬0=n+k/\¬1=n+k/\¬2=n+k/\¬31=n+k/\¬n+k=0/\¬n+k=1/\¬n+k=2/\¬n+k=31:=fun k=>by omega
   have n0:¬0=n/\¬1=n/\¬2=n/\¬31=n:=by omega
   simp [wU,dY,e1,e4,hK];simp [kV,e1,e2,e3,b3,b4,hK,z4,m1',m2',m1'',m2'',nn,n0]
 ·exact ⟨by simp [Prg.e],by simp,by simp,by simp,.inl ⟨rfl,by simp [z4]⟩⟩
theorem PH {p:Prg} {d:List Int}:∀(l:List Int) {x y:Envt×Nat},x.2<=8*d.length->exHs p d l x=some y->y.2<=8*d.length
 | [],x,y,h,hy=>by cases hy;exact h
 | k::l,x,y,h,hy=>by
  simp only [exHs] at hy;obtain ⟨z,hz,hy⟩:=Qt.1 hy;refine PH l ?_ hy;unfold exH at hz;split at hz
  ·cases hz
  ·split at hz
   ·cases hz
   ·rename_i hn;cases hz;simp only;omega
structure YR (p:Prg) (d:List Int) (R:Option Envt) (n:Nat) (E:Env) (h:AH) (L:List Int) (s:Int) (x:Envt×Nat):Prop where
 e2:look 2 E=some (.iptr 9 [p.c] 0 0)
 e4:look 4 E=some (.ptr 0 4 0 0)
 e8:look 8 E=some (.ptr 1 4 0 0)
 e9:look 9 E=some (.ptr 2 2 0 0)
 e10:look 10 E=some (.app 1 (L.map cI) 3)
 e11:look 11 E=some (a7 s)
 h:∃m,4<=m/\h=⟨[(0,.row 4 [z4]),(1,.row 4 [x.1.c]),(2,.row 2 [yrC d x.2]),(3,.tok 1 L.length)],m⟩
 q:x.2<=8*d.length/\x.2 % 8=0
 pl:x.1.payload=[]
 hL:L.length+n<=p.Xw.length+1
 hR:R=prF p d n s x
 hs:s= -1\/s= -2\/∃k:Nat,s=k/\k<p.Xw.length/\p.Xw.length+1<=n+k
 n0:0<n
 ev:EV p x.1
theorem Cq {p:Prg} (fs:PrgS p) (w:PWd p) (hd:∀h∈p.Xo,hdrE h=0) (vp:VPar p) {d:List Int} (hb:bOk d) (hl:d.length<=512) {R:Option Envt} {n:Nat} {E:Env} {h:AH} {L:List Int} {s:Int} {x:Envt×Nat} (hi:YR p d R n E h L s x):
  RunP p R (go Φ (finP pP.results) [.c (.loop cG),.b 0,.c fZ] .normal ⟨E,h⟩):=by
 refine KZ (Z:=Nat) (fun n=>n) (fun n E h=>∃L s x,YR p d R n E h L s x) (fun _ r=>RunP p R r) ?_ n E _ ⟨_,_,_,hi⟩;rintro n E _ K hK ⟨L,s,x,e2,e4,e8,e9,e10,e11,⟨m,hm,rfl⟩,q,pl,hL,hR,hs,n0,ev⟩ ih;have hnw:=QF w;rw [Envt.ce] at hnw;simp only [Prg.e] at hnw;rw [Prg.e] at e2;obtain ⟨e,pos⟩:=x;simp only at q pl ev;rcases hs with rfl | rfl | ⟨k,rfl,hk,hkn⟩
 ·have hRR:R=some { e with payload:=d.drop (pos / 8) }:=by
   obtain ⟨m,rfl⟩:∃m,n=m+1:=⟨n - 1,by omega⟩;rw [hR,prF,a9 rfl]
  have hre:=Ig d hl (pos / 8) (by omega);rw [show 8*(pos / 8)=pos by omega] at hre;simp only [yrC] at hre;rw [hRR];generalize hrs:d.drop (pos / 8)=rs at*;simp [pP,cG,e11] at hK ⊢;simp [fZ,Envt.ce,yrC,z4,e2,e4,e8,e9,e10,e11,hre,hK,aA];exact ⟨L.map cI,rfl⟩
 ·have hRR:R=none:=by
   obtain ⟨m,rfl⟩:∃m,n=m+1:=⟨n - 1,by omega⟩;rw [hR,prF,QA (by decide),cY (by decide)]
  rw [hRR];simp [pP,cG,e11] at hK ⊢;simp [fZ,Envt.ce,z4,hnw,e2,e4,e8,e9,e10,e11,hK,aA];exact ⟨L.map cI,15,by decide,by rw [Envt.ce]⟩
 ·have vs:=vp.s k hk;have hmem:=Qd hk;have hle:=fun e=>tq vs e
  have hsn:=vp.n;obtain ⟨m',rfl⟩:∃m,n=m+1:=⟨n - 1,by omega⟩;rw [prF,QA (by omega),oV,Qa hk] at hR;simp only at hR;have hex:=Nk fs w hd (x:=p.Xw[k]) vs.ex (fs.se _ hmem) hb hl (e:=e) (pos:=pos) ev (by rw [pl];simp) q.1;have hcl:=fs.sc _ hmem;have hla:(L.length+1)*8<=70368744177664:=by omega
  have ck0:(0:Int)<=k:=by omega
  generalize hst:p.Xw[k]=st at*;cases hy:exHs p d st.extract (e,pos) with
  | none=>
   rw [hy] at hex hR;obtain ⟨e',pos',hex⟩:=hex;rw [Envt.ce,Envt.ce,Xc.e] at hex;simp only [Prg.e,yrC] at hex;have hRR:R=none:=hR;rw [hRR];simp [pP,cG,Xc.e,Envt.ce,yrC,z4,e2,e4,e8,e9,e10,e11,hk,hst,hex,hla,hnw,aA];exact ⟨(L++[(k:Int)]).map cI,3,by decide,by simp [Envt.ce,cI]⟩
  | some y=>
   rw [hy] at hex hR;obtain ⟨g1,g2,g3,g4⟩:=gh _ hy;have g5:=kz hd _ (show (e,pos).2 % 8=0 from q.2) hy;have g6:=PH _ (show (e,pos).2<=8*d.length from q.1) hy;have ev2:EV p y.1:=EV.exHs (fun g hg f hf=>(vhdr (hd g hg)).w f hf) _ (x:=(e,pos)) ev hy;have nx:=Pi st y.1 hcl;have hl2:=sy (hle y.1);obtain ⟨e',pos'⟩:=y;simp only [YExt] at hex;simp only [dI] at hR g4 g5 g6 ev2 nx hl2;generalize nxS st e'=s' at*;rw [Envt.ce,Envt.ce,Xc.e] at hex;rw [Envt.ce,Xc.e] at nx;simp only [Prg.e,yrC] at hex;simp [cG,Xc.e,Envt.ce,yrC,z4,e2,e4,e8,e9,e10,e11,hk,hst,hex,nx,hla,hK,aA];refine ih m' _ _ (by omega) ⟨L++[(k:Int)],s',(e',pos'),by simp [e2,Prg.e],by simp [e4],by simp [e8],by simp [e9],by simp [cI],by simp,⟨_,hm,by simp [Envt.ce,yrC,z4]⟩,⟨g6,g5⟩,g4.trans pl,by simp;omega,hR,?_,by omega,ev2⟩;rcases hl2 with h | h | ⟨j,h1,h2,h3⟩
   ·exact .inl h
   ·exact .inr (.inl h)
   ·exact .inr (.inr ⟨j,h1,h3,by omega⟩)
theorem Pd {p:Prg} (fs:PrgS p) (w:PWd p) (hd:∀h∈p.Xo,hdrE h=0) (hp:(parE p).2.2=0) {d:List Int} (hb:bOk d):RunP p (prs p d) (a8 Φ 151 [.agg p.c,.slice 1 (d.map c8)]):=by
 rw [aB rfl rfl];have vp:=vpar hp;have hac:=Om fs hd hp d;have hnw:=QF w;rw [Envt.ce] at hnw;simp only [Prg.e] at hac hnw;by_cases z:512<d.length
 ·rw [a9 z] at hac;rw [prs,a9 z];simp [pP,Prg.e,hac,hnw];exact ⟨[],4,by decide,by simp [Envt.ce]⟩
 rw [QA z] at hac;rw [prs,QA z];have hnr:=Ib d (by omega);have lp:=fun R E h L s x hi=>Cq fs w hd vp hb (by omega) (R:=R) (n:=p.Xw.length+1) (E:=E) (h:=h) (L:=L) (s:=s) (x:=x) hi
 have n1p:1<=p.Xw.length:=vp.n.1;simp only [yrC] at hnr;simp [pP,Prg.e,hac,hnw,hnr];refine lp _ _ _ [] 0 (eNew p,0) ⟨by simp [Prg.e],by simp,by simp,by simp,by simp,by simp,⟨4,Qb _,by simp [Envt.ce,yrC,z4]⟩,by simp,by simp [eNew],by simp,rfl,.inr (.inr ⟨0,rfl,by omega,by omega⟩),by omega,EV.new p⟩
theorem Cp {p:Prg} (fs:PrgS p) (w:PWd p) (hd:∀h∈p.Xo,hdrE h=0) (hp:(parE p).2.2=0) {d:List Int} (hb:bOk d):ParP p (prs p d) (a8 Φ 89 [.agg p.c,.slice 1 (d.map c8)]):=by
 rw [aB rfl rfl];have h:=Pd fs w hd hp hb;simp only [Prg.e] at h;cases q:prs p d with
 | some e=>
  rw [q] at h;obtain ⟨l,h⟩:=h;rw [Envt.ce] at h;simp only [ParP];simp [KR,Prg.e,h,Envt.ce,aA]
 | none=>
  rw [q] at h;obtain ⟨l,c,hc,h⟩:=h;rw [Envt.ce] at h;refine ⟨c,hc,?_⟩;simp [KR,Prg.e,h,Envt.ce,aA]
theorem Cr {p:Prg} (w:PWd p) {e:Envt} (s:Shp p e):a8 Φ 249 [.agg p.c,.agg e.c]=some (.val (.bool true)):=by
 rw [aB rfl rfl];have hl:=w.hl;have s1:=s.v;have s2:=s.f;have s3:=s.m;simp [GN,Prg.e,Envt.ce,s1,s2,s3];refine (dC p.Xo.length (fun i E=>look 2 E=some (.iptr 9 [p.c] 0 0)/\look 3 E=some (.iptr 4 [e.c] 0 0)/\look 5 E=some (a7 i)) (fun _=>some (Rt.val (.bool true))) ?_ ?_ 0 _ (Qc _) ?_).trans rfl
 ·rintro i E L hi hL ⟨g2,g3,g5⟩ ih;have hw:=aF i (by omega);have hf:i<e.Xz.length:=by omega
  have hg:=s.g i hf hi;rw [Prg.e] at g2;rw [Envt.ce] at g3;simp [kY,Xi.e,g2,g3,g5,hi,hf,hg,hw,cS];exact ih _ ⟨by simp [g2,Prg.e],by simp [g3,Envt.ce],by simp⟩
 ·rintro E L hL ⟨g2,g3,g5⟩;rw [Prg.e] at g2;simp [kY,qU,g2,g5,hL]
 ·simp [Prg.e,Envt.ce]
section
variable {p:Prg} (w:PWd p) {e:Envt} (v:EV p e)
include w v
theorem Uu (ev:Env) (n:Nat) (h3:look 3 ev=some (.iptr 4 [e.c] 0 0)):go Φ (finP [.tmp 4]) [.c jO] .normal ⟨ev,⟨[],n⟩⟩=some (.val (a7 0)):=by
 have hl:=w.hl;simp [jO];refine cC e.Xz.length (fun i ev h=>∃n,h=⟨[],n⟩/\look 3 ev=some (.iptr 4 [e.c] 0 0)/\look 8 ev=some (a7 i)) (fun (r:Option Rt)=>r=some (.val (a7 0))) ?_ ?_ 0 _ _ (Qc _) ?_
 ·rintro i ev _ L hi hL ⟨n,rfl,h3,h8⟩ ih;have hw:IntKind.wrap .i64 ((i:Int)+1)=((i+1:Nat):Int):=aQ (by omega) (by have:=v.f;omega);have hv:i<e.valid.length:=by rw [v.v,<- v.f];exact hi
  have hp:i<p.Xo.length:=by rw [<- v.f];exact hi
  have hfl:=w.hf _ (Qd hp);rw [<- v.g i hi hp] at hfl;rw [Envt.ce] at h3;simp [jV,h3,h8,hi,hL];refine cC e.Xz[i].length (fun j ev h=>∃n,h=⟨[],n⟩/\look 3 ev=some (.iptr 4 [e.c] 0 0)/\look 8 ev=some (a7 i)/\look 9 ev=some (a7 j)) (fun (r:Option Rt)=>r=some (.val (a7 0))) ?_ ?_ 0 _ _ (Qc _) ?_
  ·rintro j ev _ M hj hM ⟨n,rfl,h3,h8,h9⟩ ih2;have hw2:=aF j (by omega);rw [Envt.ce] at h3;cases z:e.valid[i] with
   | true=>
    simp [gA,h3,h8,h9,hi,hj,hv,hM,cS,cB,c32,z,hw2];exact ih2 _ _ ⟨_,rfl,by simp [h3,Envt.ce],by simp [h8],by simp⟩
   | false=>
    have z2:=v.z i _ (by rw [Qa hv,z]) (Qa hi) _ (Qd hj);simp [gA,h3,h8,h9,hi,hj,hv,hM,cS,cB,c32,z,z2,hw2];exact ih2 _ _ ⟨_,rfl,by simp [h3,Envt.ce],by simp [h8],by simp⟩
  ·rintro ev _ M hM ⟨n,rfl,h3,h8,h9⟩;rw [Envt.ce] at h3;simp [gA,pS,h3,h8,h9,hi,hM,cS,hw];exact ih _ _ ⟨_,rfl,by simp [h3,Envt.ce],by simp⟩
  ·exact ⟨_,rfl,by simp [h3,Envt.ce],by simp [h8],by simp⟩
 ·rintro ev _ L hL ⟨n,rfl,h3,h8⟩;rw [Envt.ce] at h3;simp [jV,pT,h3,h8,hL]
 ·exact ⟨_,rfl,by simp [h3],by simp⟩
theorem Ut (ev:Env) (n:Nat) (h2:look 2 ev=some (.iptr 9 [p.c] 0 0)) (h3:look 3 ev=some (.iptr 4 [e.c] 0 0)):go Φ (finP [.tmp 4]) [.c jQ] .normal ⟨ev,⟨[],n⟩⟩=some (.val (a7 0)):=by
 have hml:=w.ml;simp [jQ];refine cC e.metaF.length (fun i ev h=>∃n,h=⟨[],n⟩/\look 2 ev=some (.iptr 9 [p.c] 0 0)/\look 3 ev=some (.iptr 4 [e.c] 0 0)/\look 7 ev=some (a7 i)) (fun (r:Option Rt)=>r=some (.val (a7 0))) ?_ ?_ 0 _ _ (Qc _) ?_
 ·rintro i ev _ L hi hL ⟨n,rfl,h2,h3,h7⟩ ih;have hw:IntKind.wrap .i64 ((i:Int)+1)=((i+1:Nat):Int):=aQ (by omega) (by have:=v.m;omega);have q1:=SA p (-1) i;obtain ⟨k,hk⟩:=f9 (DL p (-1) i).1;have hk32:=(DL p (-1) i).2;have hfit:=v.fm i _ (Qa hi);rw [hk] at q1 hk32;rw [hk,uW] at hfit;have q2:=S5 _ (nW hfit (by omega)) k (by omega);have z:=hfit.2;rw [Envt.ce] at h3;simp only [Prg.e] at h2 q1;simp [jT,h2,h3,h7,hi,hL,q1,q2,c32,z,hw];exact ih _ _ ⟨_,rfl,by simp [h2,Prg.e],by simp [h3,Envt.ce],by simp⟩
 ·rintro ev _ L hL ⟨n,rfl,h2,h3,h7⟩;have hc:=Uu w v;rw [Envt.ce] at h3;simp [jT,h3,h7,hL];exact hc _ _ (by simp [h3,Envt.ce])
 ·exact ⟨_,rfl,by simp [h2],by simp [h3],by simp⟩
theorem Ni:a8 Φ 157 [.agg p.c,.agg e.c]=some (.val (a7 0)):=by
 rw [aB rfl rfl];have hz:=Cr w v.toShp;have hl:=w.hl;rw [Envt.ce] at hz;simp only [Prg.e] at hz;simp [FG,Prg.e,Envt.ce,hz];refine cC e.Xz.length (fun i ev h=>∃n,h=⟨[],n⟩/\look 2 ev=some (.iptr 9 [p.c] 0 0)/\look 3 ev=some (.iptr 4 [e.c] 0 0)/\look 5 ev=some (a7 i)) (fun (r:Option Rt)=>r=some (.val (a7 0))) ?_ ?_ 0 _ _ (Qc _) ?_
 ·rintro i ev _ L hi hL ⟨n,rfl,h2,h3,h5⟩ ih;have hw:IntKind.wrap .i64 ((i:Int)+1)=((i+1:Nat):Int):=aQ (by omega) (by have:=v.f;omega);have hp:i<p.Xo.length:=by rw [<- v.f];exact hi
  have hfl:=w.hf _ (Qd hp);rw [<- v.g i hi hp] at hfl;rw [Envt.ce] at h3;simp [jS,h3,h5,hi,hL];refine cC e.Xz[i].length (fun j ev h=>∃n,h=⟨[],n⟩/\look 2 ev=some (.iptr 9 [p.c] 0 0)/\look 3 ev=some (.iptr 4 [e.c] 0 0)/\look 5 ev=some (a7 i)/\look 6 ev=some (a7 j)) (fun (r:Option Rt)=>r=some (.val (a7 0))) ?_ ?_ 0 _ _ (Qc _) ?_
  ·rintro j ev _ M hj hM ⟨n,rfl,h2,h3,h5,h6⟩ ih2;have hw2:=aF j (by omega);have q1:=SA p i j;obtain ⟨k,hk⟩:=f9 (DL p i j).1;have hk32:=(DL p i j).2;have hfit:=v.ff i j _ _ (Qa hi) (Qa hj);rw [hk] at q1 hk32;rw [hk,uW] at hfit;have q2:=S5 _ (nW hfit (by omega)) k (by omega);have z:=hfit.2;rw [Envt.ce] at h3;simp only [Prg.e] at h2 q1;simp [jR,h2,h3,h5,h6,hi,hj,hM,q1,q2,cS,c32,z,hw2];exact ih2 _ _ ⟨_,rfl,by simp [h2,Prg.e],by simp [h3,Envt.ce],by simp [h5],by simp⟩
  ·rintro ev _ M hM ⟨n,rfl,h2,h3,h5,h6⟩;rw [Envt.ce] at h3;simp [jR,pR,h3,h5,h6,hi,hM,cS,hw];exact ih _ _ ⟨_,rfl,by simp [h2],by simp [h3,Envt.ce],by simp⟩
  ·exact ⟨_,rfl,by simp [h2],by simp [h3,Envt.ce],by simp [h5],by simp⟩
 ·rintro ev _ L hL ⟨n,rfl,h2,h3,h5⟩;have hc:=Ut w v;rw [Envt.ce] at h3;simp [jS,h3,h5,hL];exact hc _ _ (by simp [h2]) (by simp [h3,Envt.ce])
 ·exact ⟨_,rfl,by simp [Prg.e],by simp [Envt.ce],by simp⟩
end
theorem yalB (l:List Bool):jD 1 (l.map cB)=true:=vU 1 cB l fun x=>by simp
theorem Cu (L:List Bool) (hL:L.length<=100000) (v:Int) (k:Nat) (h1:1<=k) (h2:k<=32) (hv:0<=v/\v<2^k):a8 Φ 250 [.agg [.slice 1 (L.map cB)],.int .u32 v,a7 k]=some (.val (.tup [.agg [.slice 1 ((L++iQ v k).map cB)],a7 0])):=by
 rw [aB rfl rfl];have q1:=RF k h1 h2;have q2:=UV v k (nW hv h2);have hf:fits v k=true:=by
  have:wBad (k:Int)=false:=wBad_false.2 ⟨by omega,by omega⟩;simp [fits,this,hv.2]
 rw [hf] at q2;have b1:L.length<=70368744177664:=by omega
 have al:=yalB L;have hw0:IntKind.wrap .i64 ((k:Int) - 1)=((k - 1:Nat):Int):=by
  rw [show ((k:Int) - 1)=((k - 1:Nat):Int) by omega];exact aQ
 generalize hR:some (Rt.val (.tup [.agg [.slice 1 ((L++iQ v k).map cB)],a7 0]))=R;simp [GO,q1,q2,b1,al,hw0,aA];refine cC k (fun i e h=>∃(n:Nat),2<=n/\h=⟨[(0,.row 1 [[.Xt 1 []]]),(1,.tok 1 (L.length+i))],n⟩/\look 1 e=some (.int .u32 v)/\look 6 e=some (.ptr 0 1 0 0)/\look 8 e=some (.app 1 ((L++(iQ v k).take i).map cB) 1)/\look 9 e=some (a7 ((k:Int) - 1 - i))) (fun r=>r=R) ?_ ?_ 0 _ _ (Qc _) ?_
 ·rintro i e _ M hi hM ⟨n,hn,rfl,g1,g6,g8,g9⟩ ih;obtain ⟨j,hj⟩:∃j:Nat,(k:Int) - 1 - i=j:=⟨k - 1 - i,by omega⟩;have hjk:k - 1 - i=j:=by omega
  rw [hj] at g9;have hwr:IntKind.wrap .i64 ((j:Int) - 1)=(k:Int) - 1 - ((i+1:Nat):Int):=by
   have:(j:Int) - 1=(k:Int) - 1 - ((i+1:Nat):Int):=by omega
   rw [this];by_cases z0:j=0
   ·rw [show (k:Int) - 1 - ((i+1:Nat):Int)= -1 by omega];rfl
   ·rw [show (k:Int) - 1 - ((i+1:Nat):Int)=((j - 1:Nat):Int) by omega];exact aQ
  have b2:L.length+i+1<=70368744177664:=by omega
  have j0:¬(j:Int)<0:=by omega
  have hib:i<(iQ v k).length:=by rw [ED];exact hi
  have hbit:=dk v k i hib;rw [hjk] at hbit;have hsh:ishr .u32 v (j:Int)=v / 2^j:=SJ hv.1 (by omega) (by omega);have hd0:0<=v / 2^j:=Int.ediv_nonneg hv.1 (zB (yR j));have htm:(v / 2^j).tmod 2=v / 2^j % 2:=AJ hd0;have hwm:IntKind.wrap .u32 (v / 2^j % 2)=v / 2^j % 2:=sQ;have htk:(iQ v k).take (i+1)=(iQ v k).take i++[decide (v / 2^j % 2=1)]:=by rw [Qh hib,hbit]
  have hlen:((iQ v k).take i).length=i:=by rw [iF,ED];omega
  generalize (iQ v k).take i=bs at*;generalize v / 2^j=y at*;simp [kZ,g1,g6,g8,g9,b2,j0,hwr,hsh,htm,hwm,hlen,aA];exact ih _ _ ⟨n,hn,by rw [cZ],by simp [g1],by simp [g6],by rw [htk];simp [cB],by simp⟩
 ·rintro e _ M hM ⟨n,hn,rfl,g1,g6,g8,g9⟩;have e1:(k:Int) - 1 - k= -1:=by omega
  have htk:(iQ v k).take k=iQ v k:=Qo (by rw [ED];exact Qb _);rw [htk] at g8;rw [e1] at g9;rw [<- hR];simp [kZ,qV,g6,g8,g9,hM,aA]
 ·exact ⟨2,Qb _,by simp,by simp,by simp,by simp,by simp;omega⟩
theorem ZT {h:Xi} (hn:h.name.length<2^40) (hf:∀f∈h.Xz,f.name.length<2^40) (e:hdrE h=0) {v:List Int} (fv:fitF h.Xz v) (L:List Bool) (hL:L.length<=90000):
  a8 Φ 159 [.agg (Xi.c h),.slice 1 (v.map c32),.agg [.slice 1 (L.map cB)]]=some (.val (.tup [.agg [.slice 1 ((L++oD h.Xz v).map cB)],a7 0])):=by
 rw [aB rfl rfl];have hc:=NC h hn hf;rw [e] at hc;have hv:=vhdr e;have h12:=hv.n;obtain ⟨z,fv⟩:=fv;simp only [Xi.e] at hc;generalize hR:some (Rt.val (.tup [.agg [.slice 1 ((L++oD h.Xz v).map cB)],a7 0]))=R;simp [FI,Xi.e,hc,z,aA];refine cC v.length (fun i e hp=>∃(n:Nat),2<=n/\hp=⟨[(0,.row 1 [[.Xt 1 []]]),(1,.row 1 [[.slice 1 ((L++oD (h.Xz.take i) (v.take i)).map cB)]])],n⟩/\look 1 e=some (.slice 1 (v.map c32))/\look 3 e=some (.iptr 2 [Xi.c h] 0 0)/\look 5 e=some (.iptr 1 [[.slice 1 (L.map cB)]] 0 0)/\look 6 e=some (.ptr 0 1 0 0)/\look 9 e=some (.ptr 1 1 0 0)/\look 10 e=some (a7 i)) (fun r=>r=R) ?_ ?_ 0 _ _ (Qc _) ?_
 ·rintro i e _ M hi hM ⟨n,hn,rfl,g1,g3,g5,g6,g9,g10⟩ ih;have hwr:=aF i (by omega);have hif:i<h.Xz.length:=by omega
  obtain ⟨w1,w2⟩:=hv.w _ (Qd hif);have hfit:=fv i hif hi;have hst:=TY h.Xz v i hif hi;have hbl:(oD (h.Xz.take i) (v.take i)).length<=384:=by
   rw [MP _ _ (by simp [z])];exact R4 h12.2 hv.w i
  obtain ⟨k,hk⟩:=f9 (show 0<=h.Xz[i].Yc by omega);rw [hk,uW] at hst hfit;rw [hk] at w1 w2;generalize oD (h.Xz.take i) (v.take i)=bs at*;have hr:=Cu (L++bs) (by simp;omega) v[i] k (by omega) (by omega) hfit;rw [AN,<- hst] at hr;generalize oD (h.Xz.take (i+1)) (v.take (i+1))=bs2 at*;simp only [Xi.e] at g3;have n0:¬n=0/\¬n=1/\¬n+11=0/\¬n+11=1/\¬0=n+11/\¬1=n+11:=by omega
  obtain ⟨z1,z2,z3,z4,z5,z6⟩:=n0;generalize hL1:(L++bs).map cB=L1 at*;generalize hL2:(L++bs2).map cB=L2 at*;simp [jW,Fld.e,g1,g3,g5,g6,g9,g10,hi,hif,hk,hr,hwr,c32,z1,z2,z3,z4,z5,z6,aC,aA,N5,jA];refine ih _ _ ⟨_,?_,by rfl,by simp [g1],by simp [g3,Xi.e],by simp [g5],by simp [g6],by simp [g9],by simp⟩;omega
 ·rintro e _ M hM ⟨n,hn,rfl,g1,g3,g5,g6,g9,g10⟩;rw [<- hR];have t1:h.Xz.take v.length=h.Xz:=Qo (by omega);rw [t1,fF];generalize (L++oD h.Xz v).map cB=L1 at*;simp [jW,pU,g1,g6,g9,g10,hM,aA]
 ·exact ⟨2,Qb _,by simp [oD],by simp,by simp [Xi.e],by simp,by simp,by simp,by simp⟩
def gB (L:List Bool) (i j:Nat):Int:=byt (((L.take i).drop (8*j)).take 8)
theorem Pp (L:List Bool) {i:Nat} (hi:i<L.length):gB L (i+1) (i / 8)=2*gB L i (i / 8)+b2i L[i]:=by
 have hl:(L.take i).length=i:=by rw [iF];omega
 unfold gB;rw [Qh hi,TC (by omega)];have h1:((L.take i).drop (8*(i / 8))).length<8:=by rw [DW];omega
 generalize (L.take i).drop (8*(i / 8))=X at*;have t1:(X++[L[i]]).take 8=X++[L[i]]:=Qo (by rw [sR,TE];omega);have t2:X.take 8=X:=Qo (by omega);rw [t1,t2,ur]
theorem gB_ne (L:List Bool) {i j:Nat} (hi:i<L.length) (h:j≠i / 8):gB L (i+1) j=gB L i j:=by
 have hl:(L.take i).length=i:=by rw [iF];omega
 unfold gB;rw [Qh hi];by_cases z:i<8*j
 ·rw [OC (by simp;omega),OC (by omega)]
 ·rw [TC (by omega),List.take_append_of_le_length (by rw [DW];omega)]
theorem Rn (L:List Bool) {i:Nat} (hi:i<L.length):0<=gB L i (i / 8)/\gB L i (i / 8)<128:=by
 have hl:(L.take i).length=i:=by rw [iF];omega
 have h:=PA (((L.take i).drop (8*(i / 8))).take 8);have hlen:(((L.take i).drop (8*(i / 8))).take 8).length<=7:=by rw [iF,DW];omega
 have hp:(2:Int)^(((L.take i).drop (8*(i / 8))).take 8).length<=2^7:=by
  rw [<- uS,<- uS];exact MF.2 (AM (by decide) hlen)
 unfold gB;omega
theorem pt (L:List Bool):∀m,byts m L=(List.range m).map fun j=>byt ((L.drop (8*j)).take 8)
 | 0=>rfl
 | m+1=>by rw [dm,pt L m,List.range_succ,yZ];rfl
theorem Pq (L:List Bool) {i D:Nat} (hi:i<L.length):(List.range D).map (gB L (i+1))=((List.range D).map (gB L i)).set (i / 8) (2*gB L i (i / 8)+b2i L[i]):=by
 refine List.ext_getElem (by simp) fun j h1 h2=>?_
 simp only [List.getElem_map,List.getElem_range,TP];split
 ·rename_i q;subst q;exact Pp L hi
 ·rename_i q;exact gB_ne L hi fun e=>q e.symm
theorem Cm (L:List Bool) (hL:L.length<=100000) (hz:L.length % 8=0):a8 Φ 160 [.agg [.slice 1 (L.map cB)]]=some (.val (.tup [.slice 1 ((byts (L.length / 8) L).map c8),a7 0])):=by
 rw [aB rfl rfl];obtain ⟨D,hD⟩:∃D,D=L.length / 8:=⟨_,rfl⟩;have hr1:(L.length:Int).tmod 8=0:=by rw [AJ (by omega)];omega
 have hr2:((L.length:Int) % 8)=0:=by omega
 have hq0:(L.length:Int).tdiv 8=D:=by rw [K9 (by omega)];omega
 have hq3:((L.length:Int) / 8)=D:=by omega
 have hwD:IntKind.wrap .i64 (D:Int)=D:=aQ;have hDb:D<4611686018427387904/\D<=140737488355328:=by omega
 have hend:byts (L.length / 8) L=(List.range D).map (gB L L.length):=by
  rw [pt,<- hD];refine List.map_congr_left fun j _=>?_
  unfold gB;rw [fF]
 have hrep:List.replicate D [AV.int IntKind.u8 0]=((List.range D).map (gB L 0)).map c8:=by
  refine List.ext_getElem (by simp) fun j h1 h2=>?_
  simp [gB,byt,c8]
 rw [hend];generalize hR:some (Rt.val (.tup [.slice 1 (((List.range D).map (gB L L.length)).map c8),a7 0]))=R;simp [FJ,hr1,hr2,hq0,hq3,hwD,hDb];rw [hrep];refine cC L.length (fun i e h=>∃(l:List Int) (n:Nat),l=(List.range D).map (gB L i)/\h=⟨[(0,.row 1 (l.map c8))],n⟩/\look 1 e=some (.iptr 1 [[.slice 1 (L.map cB)]] 0 0)/\look 4 e=some (.row 0 1 0 D)/\look 5 e=some (a7 i)) (fun r=>r=R) ?_ ?_ 0 _ _ (Qc _) ?_
 ·rintro i e _ K hi hK ⟨l,n,hlD,rfl,g1,g4,g5⟩ ih;have hwr:=aF i (by omega);have hs:=Pq (D:=D) L hi;have hf:=Rn L hi;have hl:l.length=D:=by rw [hlD];simp
  obtain ⟨j,hj⟩:∃j,j=i / 8:=⟨_,rfl⟩;have hjl:j<l.length:=by omega
  have hjD:j<D:=by omega
  have hlj:l[j]=gB L i j:=by simp [hlD]
  rw [<- hj] at hs hf;rw [<- hlD] at hs;rw [<- hlj] at hs hf;have e0:(i:Int).tdiv 8=j:=by rw [K9 (by omega)];omega
  have e3:((i:Int) / 8)=j:=by omega
  have eD:IntKind.wrap .i64 (j:Int)=j:=aQ;have c1:IntKind.wrap .u8 (2*l[j])=2*l[j]:=by
   simp only [IntKind.wrap,IntKind.bits,IntKind.signed];simp;omega
  have c2:IntKind.wrap .u8 (2*l[j]+1)=2*l[j]+1:=by
   simp only [IntKind.wrap,IntKind.bits,IntKind.signed];simp;omega
  have hm:∀x:Int,(l.map c8).set j [AV.int IntKind.u8 x]=(l.set j x).map c8:=fun x=>by simp [c8]
  cases q:L[i] with
  | true=>
   rw [q] at hs;simp [gC,g1,g4,g5,hi,hK,e0,e3,eD,hjl,hjD,hl,cB,c8,q,hwr,c1,c2,aA];refine ih _ _ ⟨l.set j (2*l[j]+1),n,by rw [hs];rfl,by rw [<- hm],by simp [g1],by simp [g4],by simp⟩
  | false=>
   rw [q] at hs;simp [gC,g1,g4,g5,hi,hK,e0,e3,eD,hjl,hjD,hl,cB,c8,q,hwr,c1,aA];refine ih _ _ ⟨l.set j (2*l[j]),n,by rw [hs];simp [b2i],by rw [<- hm],by simp [g1],by simp [g4],by simp⟩
 ·rintro e _ K hK ⟨l,n,hlD,rfl,g1,g4,g5⟩;have hl:l.length=D:=by rw [hlD];simp
  have htk:(l.map c8).take D=l.map c8:=Qo (by simp [hl]);have hid:=fun H:AH=>tA (g:=c8) (n:=38) (H:=H) (fun x=>by simp [c8]) l
  rw [<- hR,<- hlD];simp [gC,pV,g1,g4,g5,hK,hl,htk,hid]
 ·exact ⟨_,1,rfl,rfl,by simp,by simp,by simp⟩
theorem Ia {p:Prg} (fs:PrgS p) (w:PWd p) (hd:∀h∈p.Xo,hdrE h=0) (hp:(depE p).2=0) {e:Envt} (ev:EV p e) (pl:e.payload.length<2^40):
  a8 Φ 91 [.agg p.c,.agg e.c]=some (.val (.slice 1 ((emi p e).map c8))):=by
 rw [aB rfl rfl];have hck:=wy p fs;have hce:=Ni w ev;have vd:=vdep hp;have hdp:=vd.2;have hdl:p.Xr.length<=8:=vd.1;have hl:=fs.h;rw [hp] at hck;rw [Envt.ce] at hce;simp only [Prg.e] at hck hce;generalize hR:some (Rt.val (.slice 1 ((emi p e).map c8)))=R;simp [OS,Prg.e,Envt.ce,hck,hce];refine cC p.Xo.length (fun i ev h=>∃n,h=⟨[],n⟩/\look 2 ev=some (.iptr 9 [p.c] 0 0)/\look 3 ev=some (.iptr 4 [e.c] 0 0)/\look 7 ev=some (a7 i)) (fun r=>r=R) ?_ ?_ 0 _ _ (Qc _) ?_
 ·rintro i ev _ L hi hL ⟨n,rfl,h2,h3,h7⟩ ih;have hw:=aF i (by omega);have hm:=Qd hi;have hc:=NC p.Xo[i] (fs.hn _ hm) (fs.hf _ hm);rw [hd _ hm] at hc;simp only [Xi.e] at hc;rw [Prg.e] at h2;simp [oR,Xi.e,h2,h7,hi,hL,hc,hw];exact ih _ _ ⟨_,rfl,by simp [h2,Prg.e],by simp [h3],by simp⟩
 ·rintro ev' _ L hL ⟨n,rfl,h2,h3,h7⟩;have hnw:a8 Φ 158 []=some (.val (.agg [.slice 1 []])):=by
   rw [aB rfl rfl];simp [FH]
  rw [Prg.e] at h2;simp [oR,uF,h2,h7,hL,hnw];refine cC p.Xr.length (fun i ev h=>∃(m:Nat),n<m/\h=⟨[(n,.row 1 [[.slice 1 ((bD p e i).map cB)]])],m⟩/\look 2 ev=some (.iptr 9 [p.c] 0 0)/\look 3 ev=some (.iptr 4 [e.c] 0 0)/\look 8 ev=some (.ptr n 1 0 0)/\look 9 ev=some (a7 i)) (fun r=>r=R) ?_ ?_ 0 _ _ (Qc _) ?_
  ·rintro i ev' _ M hi hM ⟨m,hnm,rfl,h2,h3,h8,h9⟩ ih;have hw:=aF i (by omega);obtain ⟨d1,d2⟩:=hdp _ (Qd hi);have ln:=SR hd ev hdp i (by omega);have hst:=jh p e hi;obtain ⟨k,hk⟩:=f9 d1;have hkh:k<p.Xo.length:=by omega
   have hkf:k<e.Xz.length:=by rw [ev.f];exact hkh
   have hkv:k<e.valid.length:=by rw [ev.v];exact hkh
   have hm:=Qd hkh;have hwr:=ZT (fs.hn _ hm) (fs.hf _ hm) (hd _ hm) (jm hd ev hkh hkf) (bD p e i) (by omega);rw [hk] at hst;rw [Prg.e] at h2;rw [Envt.ce] at h3;simp only [Xi.e] at hwr;have n0:¬m=n/\¬n=m/\¬m+11=n/\¬n=m+11:=by omega
   obtain ⟨z1,z2,z3,z4⟩:=n0;have z5:∀k,¬m+k=n:=fun k=>by omega
   have z6:∀k,¬n=m+k:=fun k=>by omega
   have z7:∀k,(n == m+k)=false:=fun k=>by simp;omega
   cases hv:e.valid[k] with
   | true=>
    have hb:bH p e k=oD p.Xo[k].Xz e.Xz[k]:=by simp [bH,hkv,hv,hkh,hkf]
    rw [hb] at hst;rw [<- hst] at hwr;generalize hL1:(bD p e i).map cB=L1 at*;generalize hL2:(bD p e (i+1)).map cB=L2 at*;simp [n9,Xi.e,h2,h3,h8,h9,hi,hM,hw,cI,cB,cS,hk,hkh,hkf,hkv,hv,hwr,z1,z2,z3,z4,z5,z6,z7,aC,aA,N5,jA];refine ih _ _ ⟨_,?_,by rfl,by simp [h2,Prg.e],by simp [h3,Envt.ce,cS,cB],by simp [h8],by simp⟩;omega
   | false=>
    have hb:bH p e k=[]:=by simp [bH,hkv,hv]
    rw [hb,KC] at hst;rw [hst] at ih;generalize hL1:(bD p e i).map cB=L1 at*;simp [n9,Xi.e,h2,h3,h8,h9,hi,hM,hw,cI,cB,cS,hk,hkh,hkf,hkv,hv,aC,aA,N5,jA];exact ih _ _ ⟨_,hnm,by rfl,by simp [h2,Prg.e],by simp [h3,Envt.ce,cS,cB],by simp [h8],by simp⟩
  ·rintro ev' _ M hM ⟨m,hnm,rfl,h2,h3,h8,h9⟩;have ln:=SR hd ev hdp p.Xr.length (Qb _);have hE:bD p e p.Xr.length=uL p e:=by
    unfold bD uL;rw [fF];rfl
   rw [hE] at ln ⊢;have hby:=Cm (uL p e) (by omega) ln.2;have hbl:(byts ((uL p e).length / 8) (uL p e)).length<=1000:=by rw [LG];omega
   have hem:emi p e=byts ((uL p e).length / 8) (uL p e)++e.payload:=rfl;generalize byts ((uL p e).length / 8) (uL p e)=b at*;rw [Prg.e] at h2;rw [Envt.ce] at h3;have b1:b.length<=70368744177664:=by omega
   have b2:b.length+e.payload.length<=70368744177664:=by omega
   have al1:=yal8 b;have al2:=yal8 e.payload;have z1:¬m=n:=by omega
   have z2:¬n=m:=by omega
   rw [<- hR,hem];generalize hL1:(uL p e).map cB=L1 at*;simp [n9,uE,h2,h3,h8,h9,hM,hby,b1,b2,al1,al2,z1,z2,aC,aA]
  ·exact ⟨_,Nat.lt_succ_self _,by simp [bD],by simp [h2,Prg.e],by simp [h3],by simp,by simp⟩
 ·exact ⟨_,rfl,by simp [Prg.e],by simp [Envt.ce],by simp⟩
def T0 (r:Option Rt):Prop:=∃b,r=some (.val (.bool b))
theorem Oc {p:Prg} (fs:PrgS p) {c:Xe} (cs:CS c):T0 (a8 Φ 11 [.agg p.c,.agg c.c]):=by
 rw [aB rfl rfl];simp [KF,Prg.c,Xe.c];refine cC c.rows.length (fun i E H=>look 2 E=some (.iptr 9 [p.c] 0 0)/\look 3 E=some (.iptr 4 [c.c] 0 0)/\look 7 E=some (a7 i)/\look 6 E=some (a7 0)/\(∃n,look 5 E=some (a7 n))/\H.objs=[]) T0 ?_ ?_ 0 _ _ (Qc _) ?_
 rotate_left 2
 ·exact ⟨by simp [Prg.c],by simp [Xe.c],by simp,by simp,⟨0,by simp⟩,rfl⟩
 ·rintro i E ⟨objs,n⟩ K hi hK ⟨e2,e3,e7,e6,⟨m,e5⟩,h⟩ ih;cases h;have hw:IntKind.wrap .i64 ((i:Int)+1)=((i+1:Nat):Int):=aQ (by omega) (by have:=cs.r;omega);simp only [Xe.c] at e3;simp [oE,cS,e3,e7,e5,hi,hw];refine ih _ _ ?_;exact ⟨by simp [e2],by simp [e3,Xe.c],by simp,by simp [e6],⟨IntKind.wrap .i64 (m+c.rows[i].length),by simp⟩,rfl⟩
 ·rintro E ⟨objs,n⟩ K hK ⟨e2,e3,e7,e6,⟨m,e5⟩,h⟩;cases h;simp only [Xe.c] at e3;simp [KF,oE,e3,e7] at hK ⊢;rw [hK];simp [tI];refine cC p.Xx.length (fun i E H=>look 2 E=some (.iptr 9 [p.c] 0 0)/\look 3 E=some (.iptr 4 [c.c] 0 0)/\look 8 E=some (a7 i)/\(∃n,look 5 E=some (a7 n))/\(∃n,look 6 E=some (a7 n))/\H.objs=[]) T0 ?_ ?_ 0 _ _ (Qc _) ?_
  rotate_left 2
  ·exact ⟨by simp [e2],by simp [e3,Xe.c],by simp,⟨m,by simp [e5]⟩,⟨0,by simp [e6]⟩,rfl⟩
  ·rintro i E ⟨objs,n⟩ K hi hK ⟨e2,e3,e8,⟨m,e5⟩,⟨m2,e6⟩,h⟩ ih;cases h;have hw:IntKind.wrap .i64 ((i:Int)+1)=((i+1:Nat):Int):=aQ (by omega) (by have:=fs.a;omega);rw [Prg.c] at e2;simp [oF,Action.e,e2,e8,e6,hi,hw];refine ih _ _ ?_;exact ⟨by simp [e2,Prg.c],by simp [e3],by simp,⟨m,by simp [e5]⟩,⟨IntKind.wrap .i64 (m2+p.Xx[i].body.length),by simp⟩,rfl⟩
  ·rintro E ⟨objs,n⟩ K hK ⟨e2,e3,e8,⟨m,e5⟩,⟨m2,e6⟩,h⟩;cases h;rw [Prg.c] at e2;simp only [Xe.c] at e3;simp [oF,e2,e8] at hK ⊢;rw [hK];by_cases z1:60<m
   ·simp [cD,e2,e3,e5,e6,z1];exact ⟨_,rfl⟩
   by_cases z2:60<m2
   ·simp [cD,e2,e3,e5,e6,z1,z2];exact ⟨_,rfl⟩
   by_cases z3:12<p.Xo.length
   ·simp [cD,e2,e3,e5,e6,z1,z2,z3];exact ⟨_,rfl⟩
   by_cases z4:16<p.Xm.length
   ·simp [cD,e2,e3,e5,e6,z1,z2,z3,z4];exact ⟨_,rfl⟩
   by_cases z5:16<p.Xw.length
   ·simp [cD,e2,e3,e5,e6,z1,z2,z3,z4,z5];exact ⟨_,rfl⟩
   by_cases z6:30<p.Ya.length
   ·simp [cD,e2,e3,e5,e6,z1,z2,z3,z4,z5,z6];exact ⟨_,rfl⟩
   ·simp [cD,e2,e3,e5,e6,z1,z2,z3,z4,z5,z6];exact ⟨_,rfl⟩
def b2sV (h:AH) (o:Option AV):Option (AV×AH):=match o with
 | some v=>evOp [(0,v)] 0 h (.b2s (.t 0))
 | none=>none
theorem Rh {e:Env} {nx:Nat} {h:AH} {n:Nat}:evOp e nx h (.b2s (.t n))=b2sV h (look n e):=by
 cases hl:look n e with
 | none=>simp only [evOp,evX,hl,b2sV]
 | some v=>simp only [evOp,evX,hl,b2sV,look,if_true]
theorem Kb {call:aP} {e:Env} {nx:Nat} {h:AH} {n:Nat}:aD call e nx h (.b2s (.t n))=eU (b2sV h (look n e)):=by rw [qg,Rh]
def strB (l:List Int):List UInt8:=l.map fun n=>UInt8.ofNat n.toNat
theorem PQ (F:List AV->Option UInt8) (hF:∀n,F (c8 n)=some (UInt8.ofNat n.toNat)):∀l:List Int,mapO F (l.map c8)=some (strB l)
 | []=>rfl
 | a::l=>by simp only [uP,mapO,hF,PQ F hF l,strB]
theorem Y7 (h:AH) (z:Nat) (l:List Int):b2sV h (some (.slice z (l.map c8)))=some (.str (strB l),h):=by
 simp only [b2sV,evOp,evX,look,if_true,dF];rw [PQ _ (fun n=>rfl)]
theorem YS (l:List Int):a8 Φ 23 [.slice 1 (l.map c8),.slice 1 (l.map c8)]=some (.val (.bool true)):=by
 rw [aB rfl rfl];have s1:=fun h=>Y7 h 1 l
 simp [OM,s1,Kb,-qg]
theorem ZM (l:List Hit) (hl:l.length<2^40):a8 Φ 40 [.slice 3 (l.map Hit.c),.slice 3 (l.map Hit.c)]=some (.val (.bool true)):=by
 rw [aB rfl rfl];simp [KJ];refine cC l.length (fun i E H=>look 0 E=some (.slice 3 (l.map Hit.c))/\look 1 E=some (.slice 3 (l.map Hit.c))/\look 5 E=some (a7 i)/\H.objs=[]) (fun (r:Option Rt)=>r=some (.val (.bool true))) ?_ ?_ 0 _ _ (Qc _) ?_
 rotate_left 2
 ·exact ⟨by simp,by simp,by simp,rfl⟩
 ·rintro i E ⟨objs,n⟩ K hi hK ⟨e0,e1,e5,h⟩ ih;cases h;have hw:=aF i (by omega);simp [tR,Hit.c,e0,e1,e5,hi,hw];refine ih _ _ ?_;exact ⟨by simp [e0],by simp [e1],by simp,rfl⟩
 ·rintro E ⟨objs,n⟩ K hK ⟨e0,e1,e5,h⟩;cases h;simp [KJ,tR,e0,e5] at hK ⊢;rw [hK];simp [yK]
theorem Ea (r:Rslt) (hl:r.hits.length<2^40):a8 Φ 15 [.agg r.c,.agg r.c]=some (.val (.bool true)):=by
 rw [aB rfl rfl];have h1:=YS r.data;have h2:=ZM r.hits hl;simp [OL,Rslt.c,h1,h2]
theorem Br {p:Prg} (cv:CtV p) {c:Xe} {k:Packet} {r:Rslt} {rs:List (List Int)} (h:runX p c k=some (r,rs)):r.hits.length<2^30:=by
 unfold runX at h;split at h
 ·cases h
 split at h
 ·cases h
 ·cases h;have hk:∀x∈pre p.Ya,x.kind=2\/appl x=true:=fun x hx=>by
   rcases (cv.n x hx).1 with h | ⟨h | h,_⟩
   ·exact .inl h
   ·right;simp [appl,h]
   ·right;simp [appl,h.1]
  rename_i e _;have:=io (p:=p) (c:=c) (nest p.Ya) p.Ya ⟨eSet p e (-1) 0 k.port,c.Xl,[]⟩ hk;have hl:=cv.l;unfold resX;simp only [KB] at this;split<;>simp only<;>omega
structure Cs26 (p:Prg) (c:Xe) (k:Packet):Prop where
 fs:PrgS p
 ct:CfgT c
 cs:CS c
 sc:CfgS c
 hc:(pre p.Ya).length<2^40 - 1
 kb:bOk k.data
 kl:k.data.length<2^40
def x26 (p:Prg) (c:Xe) (k:Packet):AV:= .agg (p.c++(c.c++k.c))
end Go.Av
