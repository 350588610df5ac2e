/-
 A packet in memory: it is copied.
-/
import Derived.Test.YtcehjengeaafpaaGreatV1
set_option linter.unusedVariables false
set_option linter.unusedSimpArgs false
set_option linter.constructorNameAsVariable false
namespace Go.Av
set_option maxRecDepth 6000
theorem FP {t:Nat} {x y:AO} {L:List (Nat×AO)}:∀{O:List (Nat×AO)},look t O=some x->setl t y (O++L)=setl t y O++L
 | [],h=>by cases h
 | (u,w)::r,h=>by
  by_cases q:u=t
  ·subst q;simp
  ·rw [jI _ _ _ _ q] at h;simp [q,FP h]
theorem VC {t:Nat} {x:AO} {L:List (Nat×AO)}:∀{O:List (Nat×AO)},look t O=some x->dropl t (O++L)=dropl t O++L
 | [],h=>by cases h
 | (u,w)::r,h=>by
  by_cases q:u=t
  ·subst q;simp
  ·rw [jI _ _ _ _ q] at h;simp [q,VC h]
def NRw (O:List (Nat×AO)) (B:Nat) (X:AV) (es:List (List AV)):Prop:=(es=[]/\X= .Xt 1 [])\/∃id,X= .row id 1 0 es.length/\look id O=some (.row 1 es)/\B<=id/\es≠[]
theorem NRw.fr {O O':List (Nat×AO)} {B:Nat} {X:AV} {es:List (List AV)} (h:NRw O B X es) (hf:∀j,B<=j->look j O=some (.row 1 es)->look j O'=some (.row 1 es)):NRw O' B X es:=by
 rcases h with h | ⟨id,h1,h2,h3,h4⟩
 ·exact .inl h
 ·exact .inr ⟨id,h1,hf id h3 h2,h3,h4⟩
theorem NRw.snp {O:List (Nat×AO)} {B N n:Nat} {X:AV} {es:List (List AV)} (h:NRw O B X es) {es':List (List AV)} (hs:mapO (mapO (snap n ⟨O,N⟩)) es=some es'):snap (n+1) ⟨O,N⟩ X=some (.slice 1 es'):=by
 rcases h with ⟨rfl,rfl⟩ | ⟨id,rfl,h2,_⟩
 ·simp [mapO] at hs;subst hs;simp
 ·simp [h2,hs]
structure EM (O:List (Nat×AO)) (B:Nat) (V F M:AV) (A:List AV) (e:Envt):Prop where
 v:NRw O B V (e.valid.map cB)
 m:NRw O B M (e.metaF.map c32)
 f:NRw O B F (A.map fun x=>[x])
 r:RL O B A e.Xz
 mne:∀(k id n n':Nat),A[k]? =some (.row id 1 0 n)->M≠ .row id 1 0 n'
theorem qxk (a:AV) (h:AH):aQ Φ mF [a] h=go Φ (finC rT.results) [.c rT.body] .normal ⟨fL 0 [a],h⟩:=eI rfl rfl
theorem qxl (a:AV) (h:AH):aQ Φ kJ [a] h=go Φ (finC rU.results) [.c rU.body] .normal ⟨fL 0 [a],h⟩:=eI rfl rfl
theorem qz1 (l:List Bool):anyL (fun c=> !flat aT c) (l.map cB).flatten=false:=by
 refine Sd fun x hx=>?_
 obtain ⟨y,hy,hx⟩:=EU.1 hx;obtain ⟨b,_,rfl⟩:=lH.1 hy;simp [cB] at hx;subst hx;rfl
theorem qz2 (l:List Int):anyL (fun c=> !flat aT c) (l.map c32).flatten=false:=by
 refine Sd fun x hx=>?_
 obtain ⟨y,hy,hx⟩:=EU.1 hx;obtain ⟨b,_,rfl⟩:=lH.1 hy;simp [c32] at hx;subst hx;rfl
theorem ZG (l:List Bool) (hl:l.length<2^40) (nx:Nat) (H:AH):nP (aQ Φ) mF [.Xt 1 [[.slice 1 (l.map cB)]]] nx H=if l=[] then some (.val (.Xt 1 []),H) else some (.val (.row nx 1 0 l.length),H.put nx (.row 1 (l.map cB))):=by
 have w1:IntKind.wrap .i64 1=1:=rfl;have hb:l.length<=70368744177664:=by omega
 have al:kX 1 (l.map cB)=true:=K1 1 cB l fun x=>by simp
 have hs:mapO (mapO (snap aT ⟨[(0,.row 1 (l.map cB))],1⟩)) (l.map cB)=some (l.map cB):=r9 (g:=cB) (fun x=>by simp [cB]) l;unfold nP;rw [show mapO (snap aT H) [AV.Xt 1 [[.slice 1 (l.map cB)]]]=some [AV.slice 1 [[.slice 1 (l.map cB)]]] by simp];simp only;rw [qxk];simp [rT];rw [bY];by_cases z:l=[]
 ·subst z;simp [c_270_l0,w1];rw [bY];simp [c_270_l0,c_270_k1]
 ·rw [QA z];simp [c_270_l0,w1,z,al,hb];rw [bY];have hf:=qz1 l;rw [show aT=40 from rfl] at hs hf;simp [c_270_l0,c_270_k1,hs,hf]
theorem qtf (l:List Int) (hl:l.length<2^40) (nx:Nat) (H:AH):nP (aQ Φ) kJ [.Xt 1 [[.slice 1 (l.map c32)]]] nx H=if l=[] then some (.val (.Xt 1 []),H) else some (.val (.row nx 1 0 l.length),H.put nx (.row 1 (l.map c32))):=by
 have w1:IntKind.wrap .i64 1=1:=rfl;have hb:l.length*4<=70368744177664:=by omega
 have al:kX 1 (l.map c32)=true:=K1 1 c32 l fun x=>by simp
 have hs:mapO (mapO (snap aT ⟨[(0,.row 1 (l.map c32))],1⟩)) (l.map c32)=some (l.map c32):=r9 (g:=c32) (fun x=>by simp [c32]) l;unfold nP;rw [show mapO (snap aT H) [AV.Xt 1 [[.slice 1 (l.map c32)]]]=some [AV.slice 1 [[.slice 1 (l.map c32)]]] by simp];simp only;rw [qxl];simp [rU];rw [bY];by_cases z:l=[]
 ·subst z;simp [c_271_l0,w1];rw [bY];simp [c_271_l0,c_271_k1]
 ·rw [QA z];simp [c_271_l0,w1,z,al,hb];rw [bY];have hf:=qz2 l;rw [show aT=40 from rfl] at hs hf;simp [c_271_l0,c_271_k1,hs,hf]
theorem ZH (l:List Int) (hl:l.length<2^40):a8 Φ tH [.slice 1 [[.slice 1 (l.map c8)]]]=some (.val (.slice 1 (l.map c8))):=by
 rw [aA rfl rfl];have w1:IntKind.wrap .i64 1=1:=rfl;have hb:l.length<=70368744177664:=by omega
 have al:kX 1 (l.map c8)=true:=K1 1 c8 l fun x=>by simp
 simp [IA];rw [bY];simp [c_272_l0,w1,al,hb];rw [bY];simp [c_272_l0,c_272_k1]
def clR (V F M:AV) (pay:List Int):AV:= .agg [V,F,M,.slice 1 (pay.map c8)]
def ClP (N:Nat) (O:List (Nat×AO)) (e:Envt) (r:Option (Rt×AH)):Prop:=
 ∃O' N' V F M A,r=some (.val (clR V F M e.payload),⟨O',N'⟩)/\EM O' N V F M A e/\Kp (fun _=>False) N O O'/\Tail O' N'/\N<=N'/\NR O'
structure EvS (e:Envt):Prop where
 v:e.valid.length<2^40
 f:e.Xz.length<2^40
 g:∀l∈e.Xz,l.length<2^40
 m:e.metaF.length<2^40
 p:e.payload.length<2^40
def z4:List AV:=[.Xt 1 [],.Xt 1 [],.Xt 1 [],.Xt 1 []]
structure CI (O0:List (Nat×AO)) (N:Nat) (e:Envt) (a b i:Nat) (E:Env) (O':List (Nat×AO)) (N':Nat) (V F M:AV) (A:List AV):Prop where
 e2:look 2 E=some (.ptr a 4 0 0)
 e3:look 3 E=some (.ptr b 4 0 0)
 e20:look 20 E=some (.slice 1 (e.Xz.map (cS 1 c32)))
 e21:look 21 E=some (a7 e.Xz.length)
 e22:look 22 E=some (a7 i)
 la:look a O'=some (.row 4 [z4])
 lb:look b O'=some (.row 4 [[V,F,M,.slice 1 (e.payload.map c8)]])
 v:NRw O' N V (e.valid.map cB)
 m:NRw O' N M (e.metaF.map c32)
 f:NRw O' N F (A.map fun x=>[x])
 r:RL O' N A (e.Xz.take i)
 mne:∀(k id n n':Nat),A[k]? =some (.row id 1 0 n)->M≠ .row id 1 0 n'
 kp:Kp (fun _=>False) N O0 O'
 t:Tail O' N'
 nr:NR O'
 hN:N<=N'
 an:N<=a
 bn:N<=b
theorem RL.head {O:List (Nat×AO)} {B:Nat} {A:List AV} {L:List (List Int)} (h:RL O B A L) {es:List (List AV)} (he:∀x∈es,(∃b,x=[.bool b])\/∃k n,x=[.int k n]) (hA:(A.map fun x=>[x])=es):es=[]:=by
 cases A with
 | nil=>exact hA.symm
 | cons a A=>
  exfalso;subst hA;have h1:=he [a] (by simp);cases L with
  | nil=>have:=h.len;simp at this
  | cons l L=>
   rcases h.row 0 a l rfl rfl with ⟨_,rfl⟩ | ⟨id,rfl,_⟩<;>rcases h1 with ⟨b,h⟩ | ⟨k,n,h⟩<;>simp at h
theorem qv3 {O0:List (Nat×AO)} {N:Nat} {e:Envt} {a b i:Nat} {E E':Env} {O' O1:List (Nat×AO)} {N':Nat} {V F M X:AV} {A:List AV} {L:List (Nat×AO)} (h:CI O0 N e a b i E O' N' V F M A) (hi:i<e.Xz.length) {x:List Int} (hx:e.Xz[i]=x)
  (hE:∀t,t=2\/t=3\/t=20\/t=21->look t E'=look t E) (hE2:look 22 E'=some (a7 (i+1:Nat)))
  (hb:look b O1=some (.row 4 [[V,.row (N'+32) 1 0 (A.length+1),M,.slice 1 (e.payload.map c8)]]))
  (hk:∀j y,look j O'=some y->j≠b->(∀n,F≠ .row j 1 0 n)->look j O1=some y) (hkp:∀j,j<N->look j O1=look j O') (hT1:Tail O1 N') (hn1:NR O1)
  (hX:(x=[]/\X= .Xt 1 []/\L=[(N'+31,.row 1 [[X]]),(N'+32,.row 1 ((A++[X]).map fun x=>[x]))])\/
   (x≠[]/\X= .row (N'+30) 1 0 x.length/\L=[(N'+30,.row 1 (x.map c32)),(N'+31,.row 1 [[X]]),(N'+32,.row 1 ((A++[X]).map fun x=>[x]))])):
  CI O0 N e a b (i+1) E' (O1++L) (N'+33) V (.row (N'+32) 1 0 (A.length+1)) M (A++[X]):=by
 obtain ⟨e2,e3,e20,e21,e22,la,lb,v,m,f,r,mne,kp,hT,nr,hN,an,bn⟩:=h;have ab:a≠b:=cW la lb (by simp [z4]);have app:∀j y,look j O1=some y->look j (O1++L)=some y:=fun j y h=>by rw [aH,h];rfl
 have key:∀(es:List (List AV)),(∀x∈es,(∃b,x=[.bool b])\/∃k n,x=[.int k n])->∀j,look j O'=some (.row 1 es)->es≠[]->look j (O1++L)=some (.row 1 es):=fun es he j hj hne=>by
  refine app j _ (hk j _ hj (cW hj lb (by simp)) fun n hF=>?_);rcases f with ⟨_,hF2⟩ | ⟨id,hF2,lF,_,_⟩
  ·rw [hF2] at hF;cases hF
  ·rw [hF2] at hF;cases hF;rw [lF] at hj;injection hj with hj
   injection hj with _ hj
   exact hne (r.head he hj)
 have hL2:look (N'+32) (O1++L)=some (.row 1 ((A++[X]).map fun x=>[x])):=by
  rw [aH,hT1 _ (by omega)];rcases hX with ⟨_,_,rfl⟩ | ⟨_,_,rfl⟩<;>simp
 have tk:e.Xz.take (i+1)=e.Xz.take i++[x]:=by rw [Qh hi,hx]
 have rf:∀(j:Nat) (l:List Int),N<=j->look j O'=some (.row 1 (l.map c32))->look j (O1++L)=some (.row 1 (l.map c32)):=fun j l _ hj=>by
  by_cases z:l.map c32=[]
  ·refine app j _ (hk j _ hj (cW hj lb (by simp)) fun n hF=>?_);rcases f with ⟨_,hF2⟩ | ⟨id,hF2,lF,_,hne⟩
   ·rw [hF2] at hF;cases hF
   ·rw [hF2] at hF;cases hF;rw [lF,z] at hj;injection hj with hj
    injection hj with _ hj
    exact hne hj
  ·exact key _ (fun x hx=>by obtain ⟨y,_,rfl⟩:=lH.1 hx;exact .inr ⟨_,_,rfl⟩) j hj z
 refine ⟨by rw [hE 2 (by simp),e2],by rw [hE 3 (by simp),e3],by rw [hE 20 (by simp),e20],by rw [hE 21 (by simp),e21],hE2,?_,app b _ hb,?_,?_,?_,?_,?_,?_,?_,?_,by omega,an,bn⟩
 ·refine app a _ (hk a _ la ab fun n hF=>?_);rcases f with ⟨_,hF2⟩ | ⟨id,hF2,lF,_,_⟩
  ·rw [hF2] at hF;cases hF
  ·rw [hF2] at hF;cases hF;rw [lF] at la;cases la
 ·rcases v with v | ⟨id,h1,h2,h3,h4⟩
  ·exact .inl v
  ·exact .inr ⟨id,h1,key _ (fun x hx=>by obtain ⟨y,_,rfl⟩:=lH.1 hx;exact .inl ⟨_,rfl⟩) id h2 h4,h3,h4⟩
 ·rcases m with m | ⟨id,h1,h2,h3,h4⟩
  ·exact .inl m
  ·exact .inr ⟨id,h1,key _ (fun x hx=>by obtain ⟨y,_,rfl⟩:=lH.1 hx;exact .inr ⟨_,_,rfl⟩) id h2 h4,h3,h4⟩
 ·exact .inr ⟨N'+32,by simp,hL2,by omega,by simp⟩
 ·rw [tk];rcases hX with ⟨rfl,rfl,_⟩ | ⟨_,rfl,rfl⟩
  ·exact r.snoc0 rf
  ·refine r.snoc hT rf (by omega) (by omega) ?_;rw [aH,hT1 _ (by omega)];simp
 ·intro k id n n' hk2 hM;rw [List.getElem?_append] at hk2;split at hk2
  ·exact mne k id n n' hk2 hM
  ·rcases m with ⟨_,hm⟩ | ⟨id',hm,lm,_⟩
   ·rw [hm] at hM;cases hM
   ·rw [hm] at hM;cases hM;have:=hT.lt lm;cases hkk:k - A.length with
    | zero=>
     rw [hkk] at hk2;simp at hk2;rcases hX with ⟨_,rfl,_⟩ | ⟨_,rfl,_⟩
     ·cases hk2
     ·cases hk2;omega
    | succ j=>rw [hkk] at hk2;simp at hk2
 ·intro j hj hx2;rw [aH];have h1:=kp j hj hx2;rw [hkp j hj,h1];cases hz:look j O0 with
  | some y=>rfl
  | none=>
   rcases hX with ⟨_,_,rfl⟩ | ⟨_,_,rfl⟩<;>simp<;>(repeat rw [jI _ _ _ _ (by omega)])<;>rfl
 ·rcases hX with ⟨_,_,rfl⟩ | ⟨_,_,rfl⟩<;>simp only [Tail_append_iff,Tail_cons_iff]<;>exact ⟨hT1.mono (by omega),by omega,by omega,by first | exact Tail.nil _ | exact ⟨by omega,Tail.nil _⟩⟩
 ·rcases hX with ⟨_,_,rfl⟩ | ⟨_,_,rfl⟩
  ·exact hn1.app (dU (by simp) (.one (by simp)))
  ·exact hn1.app (dU (by simp) (dU (by simp) (.one (by simp))))
theorem Eu {O0:List (Nat×AO)} {N:Nat} {e:Envt} (s:EvS e) {a b:Nat} {E:Env} {O':List (Nat×AO)} {N':Nat} {V F M:AV} {A:List AV} (h:CI O0 N e a b 0 E O' N' V F M A):
  ClP N O0 e (go Φ (finC jW.results) [.c (.loop c_171_l0),.b 0,.c c_171_k1] .normal ⟨E,⟨O',N'⟩⟩):=by
 refine gL e.Xz.length (fun i E h=>∃O' N' V F M A,h=⟨O',N'⟩/\CI O0 N e a b i E O' N' V F M A) _ ?_ ?_ 0 _ _ (Qc _) ⟨_,_,_,_,_,_,rfl,h⟩
 ·rintro i E _ K hi hK ⟨O',N',V,F,M,A,rfl,h⟩ ih;have hw:IntKind.wrap .i64 ((i:Int)+1)=((i+1:Nat):Int):=cN (by omega) (by have:=s.f;omega);have t:∀k,look (N'+k) O'=none:=fun k=>h.t _ (by omega)
  have t0:=h.t N' (Qb _);have h0:=h;obtain ⟨e2,e3,e20,e21,e22,la,lb,v,m,f,r,mne,kp,hT,nr,hN,an,bn⟩:=h;generalize hx:e.Xz[i]=x;have jU:=qtf x (by rw [<- hx];exact s.g _ (Qd hi));have fb:=fun k=>eX (n:=N'+k) hT lb (by omega)
  have bq:∀k,(b == N'+k)=false:=fun k=>by have:=fb k;simp;omega
  have hfl:=s.f;have hE:∀(E2:Env),(∀t,t=2\/t=3\/t=20\/t=21->look t E2=look t E)->∀t,t=2\/t=3\/t=20\/t=21->look t E2=look t E:=fun _ h=>h
  rcases f with ⟨hA,rfl⟩ | ⟨id,rfl,lF,hid,hne⟩
  ·have hA':A=[]:=by simpa using hA
   subst hA';have fin:∀{E2:Env} {Y:List AV} {L:List (Nat×AO)} {X:AV},(∀t,t=2\/t=3\/t=20\/t=21->look t E2=look t E)->look 22 E2=some (a7 (i+1:Nat))->Y=[V,.row (N'+32) 1 0 1,M,.slice 1 (e.payload.map c8)]->
     ((x=[]/\X= .Xt 1 []/\L=[(N'+31,.row 1 [[X]]),(N'+32,.row 1 [[X]])])\/(x≠[]/\X= .row (N'+30) 1 0 x.length/\L=[(N'+30,.row 1 (x.map c32)),(N'+31,.row 1 [[X]]),(N'+32,.row 1 [[X]])]))->
     ClP N O0 e (go Φ (finC jW.results) K .normal ⟨E2,⟨setl b (.row 4 [Y]) O'++L,N'+33⟩⟩):=fun {E2 Y L X} hE hE2 hY hX=>
    ih _ _ ⟨_,_,V,_,M,_,rfl,qv3 h0 hi hx hE hE2 (by rw [aC,a9 rfl,lb,hY];rfl) (fun j y hj hjb _=>by rw [aC,QA hjb,hj]) (fun j hj=>by rw [aC,QA (by omega)]) (d6 hT) (nr.setl (by simp)) hX⟩
   by_cases zx:x=[]
   ·simp [zx] at jU;have hx':=hx;rw [zx] at hx';simp [c_171_l0,e2,e3,e20,e21,e22,hi,hx',cS,hw,t0,t,fW,jU,lb,aH,aC,pU,nr.eq,nr.sw,gB,fb,bq,FP lb];exact fin (by rintro t (rfl | rfl | rfl | rfl)<;>simp) (by simp) rfl (.inl ⟨zx,rfl,rfl⟩)
   ·simp [zx] at jU;simp [c_171_l0,e2,e3,e20,e21,e22,hi,hx,cS,hw,t0,t,fW,jU,lb,aH,aC,pU,nr.eq,nr.sw,gB,fb,bq,FP lb];exact fin (by rintro t (rfl | rfl | rfl | rfl)<;>simp) (by simp) rfl (.inr ⟨zx,rfl,rfl⟩)
  ·have ib:¬id=b/\¬b=id:=by
    have:=cW lF lb (by simp);exact ⟨this,fun e=>this e.symm⟩
   have fi:=fun k=>eX (n:=N'+k) hT lF (by omega)
   have iq:∀k,(id == N'+k)=false:=fun k=>by have:=fi k;simp;omega
   have hb:(A.length+1)*24<=70368744177664:=by have:=r.len;simp at this;omega
   have lb1:look b (dropl id O')=_:=(E6 ib.2 O').trans lb;have fin:∀{E2:Env} {Y:List AV} {L:List (Nat×AO)} {X:AV},(∀t,t=2\/t=3\/t=20\/t=21->look t E2=look t E)->look 22 E2=some (a7 (i+1:Nat))->Y=[V,.row (N'+32) 1 0 (A.length+1),M,.slice 1 (e.payload.map c8)]->
     ((x=[]/\X= .Xt 1 []/\L=[(N'+31,.row 1 [[X]]),(N'+32,.row 1 ((A.map fun x=>[x])++[[X]]))])\/(x≠[]/\X= .row (N'+30) 1 0 x.length/\L=[(N'+30,.row 1 (x.map c32)),(N'+31,.row 1 [[X]]),(N'+32,.row 1 ((A.map fun x=>[x])++[[X]]))]))->
     ClP N O0 e (go Φ (finC jW.results) K .normal ⟨E2,⟨setl b (.row 4 [Y]) (dropl id O')++L,N'+33⟩⟩):=fun {E2 Y L X} hE hE2 hY hX=>
    ih _ _ ⟨_,_,V,_,M,_,rfl,qv3 h0 hi hx hE hE2 (by rw [aC,a9 rfl,lb1,hY];rfl) (fun j y hj hjb hjF=>by
     have:j≠id:=fun e=>hjF _ (by rw [e])
     rw [aC,QA hjb,E6 this,hj]) (fun j hj=>by rw [aC,QA (by omega),E6 (by omega)]) (d6 (Vb hT)) (nr.dropl.setl (by simp)) (by simpa using hX)⟩
   by_cases zx:x=[]
   ·simp [zx] at jU;have hx':=hx;rw [zx] at hx';simp [c_171_l0,e2,e3,e20,e21,e22,hi,hx',cS,hw,t0,t,fW,jU,lb,lF,aH,aC,E6,pU,nr.eq,gB,fb,bq,ib,fi,iq,hb,VC lF,FP lb1,nr.dropl.sw];exact fin (by rintro t (rfl | rfl | rfl | rfl)<;>simp) (by simp) rfl (.inl ⟨zx,rfl,rfl⟩)
   ·simp [zx] at jU;simp [c_171_l0,e2,e3,e20,e21,e22,hi,hx,cS,hw,t0,t,fW,jU,lb,lF,aH,aC,E6,pU,nr.eq,gB,fb,bq,ib,fi,iq,hb,VC lF,FP lb1,nr.dropl.sw];exact fin (by rintro t (rfl | rfl | rfl | rfl)<;>simp) (by simp) rfl (.inr ⟨zx,rfl,rfl⟩)
 ·rintro E _ K hK ⟨O',N',V,F,M,A,rfl,h⟩;obtain ⟨e2,e3,e20,e21,e22,la,lb,v,m,f,r,mne,kp,hT,nr,hN,an,bn⟩:=h;rw [jQ] at r;have ab:a≠b:=cW la lb (by simp [z4]);have ba:¬b=a:=fun e=>ab e.symm
  rw [z4] at la;simp [jW,c_171_l0,c_171_k1,e2,e3,e20,e21,e22,la,lb,aC] at hK ⊢;simp [c_171_k1,hK,e2,e3,la,lb,aC];have ne:∀{es:List (List AV)} {j:Nat},look j O'=some (.row 1 es)->look j (setl a (.row 4 [[V,F,M,.slice 1 (e.payload.map c8)]]) O')=some (.row 1 es):=fun {es j} h=>by
   rw [aC,QA (cW h la (by simp)),h]
  exact ⟨_,_,V,F,M,A,rfl,⟨v.fr fun j _ h=>ne h,m.fr fun j _ h=>ne h,f.fr fun j _ h=>ne h,r.fr fun j l _ h=>ne h,mne⟩,kp.setl (.inl an),d6 hT,hN,nr.setl (by simp)⟩
theorem Po {O:List (Nat×AO)} {N:Nat} (hT:Tail O N) (hN:NR O) (e:Envt) (s:EvS e):ClP N O e (aQ Φ eG [.agg e.c] ⟨O,N⟩):=by
 rw [eI rfl rfl];have t:∀k,look (N+k) O=none:=fun k=>hT _ (by omega)
 have t0:=hT N (Qb _);have jB:=ZG e.valid s.v;have jU:=qtf e.metaF s.m;have jP:=ZH e.payload s.p;have bq:∀k,0<k->(N == N+k)=false/\(N+k == N)=false:=fun k hk=>by simp;omega
 have fin:∀{E2:Env} {V M:AV} {x:List AV} {L:List (Nat×AO)},look 2 E2=some (.ptr (N+1) 4 0 0)->look 3 E2=some (.ptr (N+5) 4 0 0)->look 20 E2=some (.slice 1 (e.Xz.map (cS 1 c32)))->look 21 E2=some (a7 e.Xz.length)->look 22 E2=some (a7 (0:Nat))->
   look (N+1) L=some (.row 4 [z4])->look (N+5) L=some (.row 4 [[V,.Xt 1 [],M,.slice 1 (e.payload.map c8)]])->NRw L N V (e.valid.map cB)->NRw L N M (e.metaF.map c32)->(∀j,j<N->look j L=none)->Tail L (N+16)->NR L->
   ClP N O e (go Φ (finC jW.results) [.c (.loop c_171_l0),.b 0,.c c_171_k1] .normal ⟨E2,⟨O++L,N+16⟩⟩):=fun {E2 V M x L} h2 h3 h20 h21 h22 hl1 hl5 hv hm hlt hTL hNL=>
  have hw:∀j y,N<=j->look j L=some y->look j (O++L)=some y:=fun j y hj hl=>by rw [aH,hT j hj,hl];rfl
  Eu s (a:=N+1) (b:=N+5) (A:=[]) ⟨h2,h3,h20,h21,h22,hw _ _ (by omega) hl1,hw _ _ (by omega) hl5,hv.fr fun j h1 h2=>hw _ _ h1 h2,hm.fr fun j h1 h2=>hw _ _ h1 h2,.inl ⟨rfl,rfl⟩,by simpa using RL.nil,by simp,fun j hj _=>by
   rw [aH,hlt j hj];simp,Tail_append_iff.2 ⟨hT.mono (by omega),hTL⟩,hN.app hNL,by omega,by omega,by omega⟩
 have lt1:∀{u j:Nat} {y:AO} {r:List (Nat×AO)},j<u->look j r=none->look j ((u,y)::r)=none:=fun {u j y r} h1 h2=>by rw [jI _ _ _ _ (by omega),h2]
 have ne1:∀k j,j<N->N+k≠j:=fun k j h=>by omega
 have lt6:∀k,k<16->N+k<N+16:=fun k h=>by omega
 by_cases zv:e.valid=[]<;>by_cases zm:e.metaF=[]<;>simp [zv] at jB<;>simp [zm] at jU
 all_goals
  simp [jW,Envt.ce,t0,t,fW,zv,zm,jB,jU,jP,aH,aC,pU,hN.eq,gB,bq]
 ·refine fin (V:= .Xt 1 []) (M:= .Xt 1 []) (x:=[]) (by simp) (by simp) (by simp) (by simp) (by simp) (by simp [z4]) (by simp) (.inl ⟨by simp [zv],rfl⟩) (.inl ⟨by simp [zm],rfl⟩) ?_ ?_ ?_
  ·intro j hj
   repeat first | exact VI _ | refine (jI _ _ _ _ (ne1 0 _ hj)).trans ?_ | refine (jI _ _ _ _ (ne1 _ _ hj)).trans ?_
  ·simp only [Tail_cons_iff];exact ⟨lt6 0 (by decide),lt6 1 (by decide),lt6 _ (by decide),Tail.nil _⟩
  ·exact dU (by simp) (dU (by simp) (dU (by simp) (KL)))
 ·refine fin (V:= .Xt 1 []) (M:= .row (N+15) 1 0 e.metaF.length) (x:=[]) (by simp) (by simp) (by simp) (by simp) (by simp) (by simp [z4]) (by simp) (.inl ⟨by simp [zv],rfl⟩) (.inr ⟨N+15,by simp,by simp,by omega,by simpa using zm⟩) ?_ ?_ ?_
  ·intro j hj
   repeat first | exact VI _ | refine (jI _ _ _ _ (ne1 0 _ hj)).trans ?_ | refine (jI _ _ _ _ (ne1 _ _ hj)).trans ?_
  ·simp only [Tail_cons_iff];exact ⟨lt6 0 (by decide),lt6 1 (by decide),lt6 _ (by decide),lt6 _ (by decide),Tail.nil _⟩
  ·exact dU (by simp) (dU (by simp) (dU (by simp) (dU (by simp) (KL))))
 ·refine fin (V:= .row (N+11) 1 0 e.valid.length) (M:= .Xt 1 []) (x:=[]) (by simp) (by simp) (by simp) (by simp) (by simp) (by simp [z4]) (by simp) (.inr ⟨N+11,by simp,by simp,by omega,by simpa using zv⟩) (.inl ⟨by simp [zm],rfl⟩) ?_ ?_ ?_
  ·intro j hj
   repeat first | exact VI _ | refine (jI _ _ _ _ (ne1 0 _ hj)).trans ?_ | refine (jI _ _ _ _ (ne1 _ _ hj)).trans ?_
  ·simp only [Tail_cons_iff];exact ⟨lt6 0 (by decide),lt6 1 (by decide),lt6 _ (by decide),lt6 _ (by decide),Tail.nil _⟩
  ·exact dU (by simp) (dU (by simp) (dU (by simp) (dU (by simp) (KL))))
 ·refine fin (V:= .row (N+11) 1 0 e.valid.length) (M:= .row (N+15) 1 0 e.metaF.length) (x:=[]) (by simp) (by simp) (by simp) (by simp) (by simp) (by simp [z4]) (by simp) (.inr ⟨N+11,by simp,by simp,by omega,by simpa using zv⟩) (.inr ⟨N+15,by simp,by simp,by omega,by simpa using zm⟩) ?_ ?_ ?_
  ·intro j hj
   repeat first | exact VI _ | refine (jI _ _ _ _ (ne1 0 _ hj)).trans ?_ | refine (jI _ _ _ _ (ne1 _ _ hj)).trans ?_
  ·simp only [Tail_cons_iff];exact ⟨lt6 0 (by decide),lt6 1 (by decide),lt6 _ (by decide),lt6 _ (by decide),lt6 _ (by decide),Tail.nil _⟩
  ·exact dU (by simp) (dU (by simp) (dU (by simp) (dU (by simp) (dU (by simp) (KL)))))
theorem NRw.len {O:List (Nat×AO)} {B:Nat} {X:AV} {es:List (List AV)} (h:NRw O B X es):lenOf X=some es.length:=by
 rcases h with ⟨rfl,rfl⟩ | ⟨id,rfl,_⟩<;>rfl
theorem NRw.sU {O:List (Nat×AO)} {B N:Nat} {X:AV} {l:List Int} (h:NRw O B X (l.map c32)):snap 40 ⟨O,N⟩ X=some (.slice 1 (l.map c32)):=h.snp (n:=39) (r9 (g:=c32) (fun x=>by simp [c32]) l)
theorem NRw.sB {O:List (Nat×AO)} {B N:Nat} {X:AV} {l:List Bool} (h:NRw O B X (l.map cB)):snap 40 ⟨O,N⟩ X=some (.slice 1 (l.map cB)):=h.snp (n:=39) (r9 (g:=cB) (fun x=>by simp [cB]) l)
theorem cH {O L:List (Nat×AO)} {j:Nat} {y:AO} (h:look j O=some y):look j (O++L)=some y:=by rw [aH,h];rfl
theorem EM.app {O:List (Nat×AO)} {B:Nat} {V F M:AV} {A:List AV} {e:Envt} (h:EM O B V F M A e) (L:List (Nat×AO)):EM (O++L) B V F M A e:=
 ⟨h.v.fr fun _ _ h=>cH h,h.m.fr fun _ _ h=>cH h,h.f.fr fun _ _ h=>cH h,h.r.fr fun _ _ _ h=>cH h,h.mne⟩
def ElP (N:Nat) (O:List (Nat×AO)) (M:AV) (A:List AV) (e:Envt) (h f:Int) (r:Option (Rt×AH)):Prop:=
 ∃X L N',r=some (.val (.tup [X,.bool (eHas e h f)]),⟨O++L,N'⟩)/\Tail (O++L) N'/\NR (O++L)/\N<=N'/\(eHas e h f=true->(h= -1/\X=M)\/∃k:Nat,h=k/\A[k]? =some X)
theorem ZV {O:List (Nat×AO)} {N B:Nat} (hT:Tail O N) (hN:NR O) {V F M:AV} {A:List AV} {e:Envt} (m:EM O B V F M A e) (h f:Int) (P:AV):
  ElP N O M A e h f (aQ Φ kG [.agg [V,F,M,P],.agg [a7 h,a7 f]] ⟨O,N⟩):=by
 rw [eI rfl rfl];have t0:=hT N (Qb _);have t1:=hT (N+1) (by omega);have n1:¬N=N+1:=by omega
 have hi:=To;have fin:∀{X:AV} {x y:AO} {b:Bool},b=eHas e h f->x≠ .res->y≠ .res->(eHas e h f=true->(h= -1/\X=M)\/∃k:Nat,h=k/\A[k]? =some X)->ElP N O M A e h f (some (.val (.tup [X,.bool b]),⟨O++[(N,x),(N+1,y)],N+2⟩)):=fun {X x y b} hb hx hy hh=>by
  rw [hb];exact ⟨X,_,_,rfl,Tail_append_iff.2 ⟨hT.mono (by omega),Tail_cons_iff.2 ⟨by omega,Tail_cons_iff.2 ⟨by omega,Tail.nil _⟩⟩⟩,hN.app (dU hx (.one hy)),by omega,hh⟩
 by_cases hm:h= -1
 ·subst hm;have sM:=fun L n=>NRw.sU (N:=n) (m.app L).m
  have e1:eHas e (-1) f=decide (0<=f/\f<(e.metaF.map c32).length):=by simp [eHas,OL]
  simp [fH,t0,t1,n1,sM,hi,aH];exact fin (by rw [e1];simp) (by simp) (by simp) fun _=> .inl ⟨rfl,rfl⟩
 have sV:=fun L n=>NRw.sB (N:=n) (m.app L).v
 have hv:=qy3 e.valid h;have hlF:=m.f.len;rw [qN,m.r.len] at hlF;have out:(at? e.Xz h)=none->eHas e h f=false:=fun z=>by simp [eHas,hm,z]
 by_cases h0:h<0
 ·have z:=out (eP h0);rw [eP h0] at hv;simp at hv;simp [fH,t0,t1,n1,sV,hi,aH,hm,wJ,dC,h0,hv,hlF,-lenOf];exact fin (by rw [z]) (by simp) (by simp) fun q=>by rw [z] at q;cases q
 by_cases h1:(e.Xz.length:Int)<=h
 ·have z:=out (eZ h1);cases q:(at? e.valid h).getD false with
  | false=>
   rw [q] at hv;simp [fH,t0,t1,n1,sV,hi,aH,hm,wJ,dC,h0,h1,hv,hlF,-lenOf];exact fin (by rw [z]) (by simp) (by simp) fun q=>by rw [z] at q;cases q
  | true=>
   rw [q] at hv;have hi0:=To [] f;have e0:decide (0<=f/\f<(([]:List (List AV)).length:Int))=false:=by simp
   rw [e0] at hi0;simp [fH,t0,t1,n1,sV,hi0,aH,hm,wJ,dC,h0,h1,hv,hlF,-lenOf];exact fin (by rw [z]) (by simp) (by simp) fun q=>by rw [z] at q;cases q
 obtain ⟨k,rfl⟩:=nU (show 0<=h by omega);have hk:k<e.Xz.length:=by omega
 have hk2:¬e.Xz.length<=k:=by omega
 have hkA:k<A.length:=by rw [m.r.len];exact hk
 rcases m.f with ⟨hA,rfl⟩ | ⟨id,rfl,lF,hid,hne⟩
 ·simp at hA;rw [hA] at hkA;simp at hkA
 have fi:=eX hT lF (Qb N);have fi1:=eX (n:=N+1) hT lF (by omega);have hAk:A[k]? =some A[k]:=Qa hkA;have sA:∀L n,snap 40 ⟨O++L,n⟩ A[k]=some (.slice 1 (e.Xz[k].map c32)):=fun L n=>by
  have:=(m.app L).r.row k _ _ hAk (Qa hk);rcases this with ⟨z,h⟩ | ⟨id,h,hl,_⟩
  ·rw [h,z];simp
  ·have h2:=r9 (g:=c32) (n:=39) (H:=⟨O++L,n⟩) (fun x=>by simp [c32]) e.Xz[k];have ht:(e.Xz[k].map c32).take e.Xz[k].length=e.Xz[k].map c32:=Qo (by simp);rw [h];simp [hl,ht,h2]
 have hlA:=m.r.len;have e1:eHas e k f=((at? e.valid k).getD false&&decide (0<=f/\f<(e.Xz[k].map c32).length)):=by simp [eHas,hm,hk,OL]
 cases q:(at? e.valid (k:Int)).getD false with
 | false=>
  rw [q] at hv e1;simp [fH,t0,t1,n1,sV,sA,hi,aH,hm,wJ,dC,hk,hk2,hv,hlA,lF,fi,fi1];exact fin (by rw [e1];rfl) (by simp) (by simp) fun _=> .inr ⟨k,rfl,hAk⟩
 | true=>
  rw [q] at hv e1;simp [fH,t0,t1,n1,sV,sA,hi,aH,hm,wJ,dC,hk,hk2,hv,hlA,lF,fi,fi1];exact fin (by rw [e1];simp) (by simp) (by simp) fun _=> .inr ⟨k,rfl,hAk⟩
theorem SF {Z I:Type} {f:Z->List AV} {g:I->List AV} (hfg:∀a b,f a≠g b) {l:List Z} {m:List I} (h:l.map f=m.map g):m=[]:=by
 cases m with
 | nil=>rfl
 | cons b m=>
  cases l with
  | nil=>simp at h
  | cons a l=>simp at h;exact absurd h.1 (hfg a b)
theorem MG {O:List (Nat×AO)} {id j:Nat} {es es':List (List AV)} {y:AO} (hl:look id O=some (.row 1 es)) (hj:look j O=some (.row 1 es')) (hne:es≠es'):look j (setl id y O)=some (.row 1 es'):=by
 rw [aC,QA (fun e=>by subst e;rw [hl] at hj;cases hj;exact hne rfl),hj]
theorem EM.setM {O:List (Nat×AO)} {B:Nat} {V F M:AV} {A:List AV} {e:Envt} (h:EM O B V F M A e) {id n:Nat} (hM:M= .row id 1 0 n) (l':List Int) (hl:l'.length=e.metaF.length):
  EM (setl id (.row 1 (l'.map c32)) O) B V F M A { e with metaF:=l' }:=by
 obtain ⟨v,m,f,r,mne⟩:=h;rcases m with ⟨_,h2⟩ | ⟨id',h1,lM,hB,hne⟩
 ·rw [hM] at h2;cases h2
 rw [hM] at h1;cases h1;subst hM;have hne':e.metaF≠[]:=fun z=>hne (by simp [z])
 refine ⟨?_,?_,?_,?_,mne⟩
 ·rcases v with v | ⟨iv,h1,h2,h3,h4⟩
  ·exact .inl v
  ·exact .inr ⟨iv,h1,MG lM h2 fun z=>hne' (SF (by simp [cB,c32]) z.symm),h3,h4⟩
 ·exact .inr ⟨id,by simp [hl],by rw [aC,a9 rfl,lM];rfl,hB,fun z=>hne' (by simp at z;subst z;exact Qg hl.symm)⟩
 ·rcases f with f | ⟨iv,h1,h2,h3,h4⟩
  ·exact .inl f
  ·exact .inr ⟨iv,h1,MG lM h2 fun z=>hne (r.head (fun x hx=>by obtain ⟨y,_,rfl⟩:=lH.1 hx;exact .inr ⟨_,_,rfl⟩) z.symm),h3,h4⟩
 ·refine ⟨r.len,fun k x l hx hl2=>?_,r.inj⟩;rcases r.row k x l hx hl2 with h | ⟨i2,g1,g2,g3⟩
  ·exact .inl h
  ·refine .inr ⟨i2,g1,?_,g3⟩;rw [aC,QA (fun z=>by subst z;subst g1;exact mne k i2 _ _ hx rfl),g2]
theorem EM.setA {O:List (Nat×AO)} {B:Nat} {V F M:AV} {A:List AV} {e:Envt} (h:EM O B V F M A e) {k id n:Nat} (hA:A[k]? =some (.row id 1 0 n)) (l':List Int) (hl:l'.length=n):
  EM (setl id (.row 1 (l'.map c32)) O) B V F M A { e with Xz:=e.Xz.set k l' }:=by
 obtain ⟨v,m,f,r,mne⟩:=h;have hk:k<A.length:=(Qm.1 hA).1;have hk2:k<e.Xz.length:=by rw [<- r.len];exact hk
 rcases r.row k _ _ hA (Qa hk2) with ⟨_,h2⟩ | ⟨id',h1,lA,hB⟩
 ·cases h2
 cases h1;refine ⟨?_,?_,?_,r.set hA l' hl,mne⟩
 ·rcases v with v | ⟨iv,h1,h2,h3,h4⟩
  ·exact .inl v
  ·refine .inr ⟨iv,h1,MG lA h2 fun z=>h4 ?_,h3,h4⟩;rw [SF (by simp [cB,c32]) z];rfl
 ·rcases m with m | ⟨iv,h1,h2,h3,h4⟩
  ·exact .inl m
  ·refine .inr ⟨iv,h1,?_,h3,h4⟩;rw [aC,QA (fun z=>by subst z;exact mne k iv _ _ hA h1),h2]
 ·rcases f with f | ⟨iv,h1,h2,h3,h4⟩
  ·exact .inl f
  ·refine .inr ⟨iv,h1,MG lA h2 fun z=>h4 ?_,h3,h4⟩;rw [<- z];exact r.head (fun x hx=>by obtain ⟨y,_,rfl⟩:=lH.1 hx;exact .inr ⟨_,_,rfl⟩) z.symm
theorem EM.snp {O:List (Nat×AO)} {B N:Nat} {V F M:AV} {A:List AV} {e:Envt} (h:EM O B V F M A e):mapO (snap 39 ⟨O,N⟩) [V,F,M,.slice 1 (e.payload.map c8)]=some e.c:=by
 have h1:=h.v.snp (N:=N) (n:=38) (r9 (g:=cB) (fun x=>by simp [cB]) e.valid);have h2:=h.m.snp (N:=N) (n:=38) (r9 (g:=c32) (fun x=>by simp [c32]) e.metaF);have h3:=h.f.snp (N:=N) (n:=38) (h.r.snp 36);simp only [mapO,h1,h2,h3,Envt.ce];simp
theorem vM {Φ:FuncId->Option AFun} {I:Type} {fin:Option (Ex×St)->Option I} {t:Nat} {ks:List Nat} {K:List Fr} {e:Env} {H:AH} {id z i off:Nat} {o:Option (List (List AV))}:frzB Φ fin t ks K e H id z i off true o=go Φ fin (.f ks::K) .normal ⟨e,H⟩:=by cases o<;>rfl
theorem Ts (p:Prg) (e:Envt) (s:EvS e) (hm:e.metaF≠[]) (h f v:Int) (hv:ok32 0 v):
  a8 Φ kC [.agg p.c,.agg e.c,.agg [a7 h,a7 f],.int .u32 v]=some (.val (.agg (eSet p e h f v).c)):=by
 rw [aA rfl rfl];have hw:=PG p h f;have T1:Tail [(0,AO.row 4 [z4])] 1:=Tail_cons_iff.2 ⟨by omega,Tail.nil _⟩;obtain ⟨O1,N1,V,F,M,A,hr,em,kp,T,hN1,nr⟩:=Po T1 (.one (by simp)) e s;have l0:look 0 O1=some (.row 4 [z4]):=by rw [kp 0 (by omega) (by simp)];rfl
 have t0:=T N1 (Qb _);rcases em.m with ⟨z,_⟩ | ⟨im,rfl,lM,him,_⟩
 ·simp at z;exact absurd z hm
 generalize hMl:(e.metaF.map c32).length=lm at*;have n0:¬0=N1/\¬N1=0:=by omega
 obtain ⟨X,L,N2,hr2,T2,nr2,hN2,hX⟩:=ZV (T.app1 (o:= .row 4 [[V,F,.row im 1 0 lm,.slice 1 (e.payload.map c8)]]) (Qb _)) (nr.app (.one (by simp))) (em.app _) h f (.slice 1 (e.payload.map c8));have em2:=(em.app [(N1,.row 4 [[V,F,.row im 1 0 lm,.slice 1 (e.payload.map c8)]])]).app L;have lN1:look N1 (O1++[(N1,.row 4 [[V,F,.row im 1 0 lm,.slice 1 (e.payload.map c8)]])]++L)=some (.row 4 [[V,F,.row im 1 0 lm,.slice 1 (e.payload.map c8)]]):=cH (by rw [aH,t0];simp);have l02:look 0 (O1++[(N1,.row 4 [[V,F,.row im 1 0 lm,.slice 1 (e.payload.map c8)]])]++L)=some (.row 4 [z4]):=cH (cH l0);generalize hO2:O1++[(N1,.row 4 [[V,F,.row im 1 0 lm,.slice 1 (e.payload.map c8)]])]++L=O2 at*;rw [Envt.ce] at hr;simp only [Prg.e] at hw;have w0:=WI p h f;simp only [z4,clR] at hr l02;have sn:∀(O:List (Nat×AO)) n (e':Envt),EM O 1 V F (.row im 1 0 lm) A e'->e'.payload=e.payload->mapO (snap 39 ⟨O,n⟩) [V,F,.row im 1 0 lm,.slice 1 (e.payload.map c8)]=some e'.c:=fun O n e' h hp=>by
  rw [<- hp];exact h.snp
 have fin:∀(O:List (Nat×AO)) n (e':Envt),EM O 1 V F (.row im 1 0 lm) A e'->e'.payload=e.payload->look 0 O=some (.row 4 [[.Xt 1 [],.Xt 1 [],.Xt 1 [],.Xt 1 []]])->retP ⟨setl 0 (.row 4 [[V,F,.row im 1 0 lm,.slice 1 (e.payload.map c8)]]) O,n⟩ (some (.agg [V,F,.row im 1 0 lm,.slice 1 (e.payload.map c8)]))=some (.val (.agg e'.c)):=fun O n e' h hp hl=>by
  have h2:EM (setl 0 (.row 4 [[V,F,.row im 1 0 lm,.slice 1 (e.payload.map c8)]]) O) 1 V F (.row im 1 0 lm) A e':=by
   have key:∀(es:List (List AV)) (j:Nat),1<=j->look j O=some (.row 1 es)->look j (setl 0 (.row 4 [[V,F,.row im 1 0 lm,.slice 1 (e.payload.map c8)]]) O)=some (.row 1 es):=fun es j hj h=>by rw [aC,QA (by omega),h]
   exact ⟨h.v.fr fun j h1 h2=>key _ j h1 h2,h.m.fr fun j h1 h2=>key _ j h1 h2,h.f.fr fun j h1 h2=>key _ j h1 h2,h.r.fr fun j l h1 h2=>key _ j h1 h2,h.mne⟩
  rw [Ze,show aT=39+1 from rfl,Rq,sn _ _ e' h2 hp];rfl
 generalize hR:some (Rt.val (AV.agg (eSet p e h f v).c))=R;cases q:eHas e h f with
 | false=>
  rw [q] at hr2;have e1:eSet p e h f v=e:=by simp [eSet,q]
  rw [e1] at hR;simp [nX,Prg.e,Envt.ce,hr,t0,n0,aH,aC,vM,hw,hr2,lN1,l02,-retP];rw [<- hR];exact fin O2 N2 e em2 rfl l02
 | true=>
  rw [q] at hr2;by_cases zw:wid p h f=0
  ·have e1:eSet p e h f v=e:=by simp [eSet,zw]
   rw [e1] at hR;rw [zw] at hw;simp [nX,Prg.e,Envt.ce,hr,t0,n0,aH,aC,vM,hw,hr2,lN1,l02,-retP];rw [<- hR];exact fin O2 N2 e em2 rfl l02
  have zw':0<wid p h f:=by omega
  have hi:=qO hv (show 1<=wid p h f by omega) w0.2;have hmk:=j6 (wid p h f);have e1:eSet p e h f v=ePut h f (v % 2^(wid p h f).toNat) e:=by simp [eSet,zw,q]
  rw [e1] at hR;generalize v % 2^(wid p h f).toNat=u at*;rcases hX q with ⟨rfl,rfl⟩ | ⟨k,rfl,hAk⟩
  ·simp only [eHas,if_true] at q;obtain ⟨x,hx⟩:=DU.1 q;obtain ⟨j,rfl,hj,_⟩:=kO hx;have lM2:look im O2=some (.row 1 (e.metaF.map c32)):=by rw [<- hO2];exact cH (cH lM)
   have hjl:j<lm:=by rw [<- hMl];simpa using hj
   have e2:ePut (-1) j u e={ e with metaF:=e.metaF.set j u }:=by simp [ePut]
   have em3:=em2.setM rfl (e.metaF.set j u) (by simp);have i1:¬im=N1/\¬N1=im:=by have:=cW lM2 lN1 (by simp);exact ⟨this,fun e=>this e.symm⟩
   have i0:¬im=0/\¬0=im:=by omega
   have hst:(e.metaF.map c32).set j [AV.int .u32 u]=(e.metaF.set j u).map c32:=by rw [DY];simp [c32]
   simp [nX,Prg.e,Envt.ce,hr,t0,n0,aH,aC,vM,hw,hr2,lN1,l02,zw',hmk,hi,hjl,lM2,hj,i1,i0,c32,-retP];rw [hst,<- hR,e2];exact fin _ N2 _ em3 rfl (by rw [aC,QA i0.2,l02])
  ·have hm1:¬((k:Int)= -1):=by omega
   simp only [eHas,QA hm1,dJ] at q;obtain ⟨x,hx⟩:=DU.1 q.2;obtain ⟨l,hx1,hx2⟩:=Qt.1 hx;rw [qT] at hx1;obtain ⟨j,rfl,hj,_⟩:=kO hx2;have hk:k<e.Xz.length:=(Qm.1 hx1).1;rcases em2.r.row k X l hAk hx1 with ⟨z,_⟩ | ⟨id,rfl,lA,hid⟩
   ·rw [z] at hj;simp at hj
   have e2:ePut k j u e={ e with Xz:=e.Xz.set k (l.set j u) }:=by simp [ePut,hm1,vB,hx1]
   have em3:=em2.setA hAk (l.set j u) (by simp);have i1:¬id=N1/\¬N1=id:=by have:=cW lA lN1 (by simp);exact ⟨this,fun e=>this e.symm⟩
   have i0:¬id=0/\¬0=id:=by omega
   have hst:(l.map c32).set j [AV.int .u32 u]=(l.set j u).map c32:=by rw [DY];simp [c32]
   simp [nX,Prg.e,Envt.ce,hr,t0,n0,aH,aC,vM,hw,hr2,lN1,l02,zw',hmk,hi,lA,hj,i1,i0,c32,-retP];rw [hst,<- hR,e2];exact fin _ N2 _ em3 rfl (by rw [aC,QA i0.2,l02])
theorem EM.setV {O:List (Nat×AO)} {B:Nat} {V F M:AV} {A:List AV} {e:Envt} (h:EM O B V F M A e) {id n:Nat} (hV:V= .row id 1 0 n) (l':List Bool) (hl:l'.length=e.valid.length):
  EM (setl id (.row 1 (l'.map cB)) O) B V F M A { e with valid:=l' }:=by
 obtain ⟨v,m,f,r,mne⟩:=h;rcases v with ⟨_,h2⟩ | ⟨id',h1,lV,hB,hne⟩
 ·rw [hV] at h2;cases h2
 rw [hV] at h1;cases h1;subst hV;have hne':e.valid≠[]:=fun z=>hne (by simp [z])
 refine ⟨?_,?_,?_,r.fr fun j l _ hj=>MG lV hj fun z=>hne' (SF (by simp [cB,c32]) z.symm),mne⟩
 ·exact .inr ⟨id,by simp [hl],by rw [aC,a9 rfl,lV];rfl,hB,fun z=>hne' (by simp at z;subst z;exact Qg hl.symm)⟩
 ·exact m.fr fun j _ hj=>MG lV hj fun z=>hne' (SF (by simp [cB,c32]) z.symm)
 ·exact f.fr fun j _ hj=>MG lV hj fun z=>hne (r.head (fun x hx=>by obtain ⟨y,_,rfl⟩:=lH.1 hx;exact .inl ⟨_,rfl⟩) z.symm)
def swX (p:Prg) (e:Envt) (h:Int) (b keep:Bool):Envt:=if (at? p.Xo h).isSome=false\/(at? e.valid h).isSome=false\/(keep=true/\at? e.valid h=some b) then e else eSw e h.toNat b
theorem sw_ok (p:Prg) (e:Envt) (s:EvS e) (hm:e.metaF≠[]) (hs:e.Xz.length=e.valid.length) (h:Int) (b keep:Bool):
  a8 Φ mT [.agg p.c,.agg e.c,a7 h,.bool b,.bool keep]=some (.val (.agg (swX p e h b keep).c)):=by
 rw [aA rfl rfl];have T1:Tail [(0,AO.row 4 [z4])] 1:=Tail_cons_iff.2 ⟨by omega,Tail.nil _⟩;obtain ⟨O1,N1,V,F,M,A,hr,em,kp,T,hN1,nr⟩:=Po T1 (.one (by simp)) e s;have l0:look 0 O1=some (.row 4 [z4]):=by rw [kp 0 (by omega) (by simp)];rfl
 have t0:=T N1 (Qb _);rcases em.m with ⟨z,_⟩ | ⟨im,rfl,lM,him,_⟩
 ·simp at z;exact absurd z hm
 generalize hMl:(e.metaF.map c32).length=lm at*;have n0:¬0=N1/\¬N1=0:=by omega
 rw [Envt.ce] at hr;simp only [z4,clR] at hr l0;have em2:=em.app [(N1,.row 4 [[V,F,.row im 1 0 lm,.slice 1 (e.payload.map c8)]])];have lN1:look N1 (O1++[(N1,.row 4 [[V,F,.row im 1 0 lm,.slice 1 (e.payload.map c8)]])])=some (.row 4 [[V,F,.row im 1 0 lm,.slice 1 (e.payload.map c8)]]):=by rw [aH,t0];simp
 have l02:look 0 (O1++[(N1,.row 4 [[V,F,.row im 1 0 lm,.slice 1 (e.payload.map c8)]])])=some (.row 4 [[.Xt 1 [],.Xt 1 [],.Xt 1 [],.Xt 1 []]]):=cH l0;generalize hO2:O1++[(N1,.row 4 [[V,F,.row im 1 0 lm,.slice 1 (e.payload.map c8)]])]=O2 at*;have fin:∀(O:List (Nat×AO)) n (e':Envt),EM O 1 V F (.row im 1 0 lm) A e'->e'.payload=e.payload->look 0 O=some (.row 4 [[.Xt 1 [],.Xt 1 [],.Xt 1 [],.Xt 1 []]])->retP ⟨setl 0 (.row 4 [[V,F,.row im 1 0 lm,.slice 1 (e.payload.map c8)]]) O,n⟩ (some (.agg [V,F,.row im 1 0 lm,.slice 1 (e.payload.map c8)]))=some (.val (.agg e'.c)):=fun O n e' h hp hl=>by
  have h2:EM (setl 0 (.row 4 [[V,F,.row im 1 0 lm,.slice 1 (e.payload.map c8)]]) O) 1 V F (.row im 1 0 lm) A e':=by
   have key:∀(es:List (List AV)) (j:Nat),1<=j->look j O=some (.row 1 es)->look j (setl 0 (.row 4 [[V,F,.row im 1 0 lm,.slice 1 (e.payload.map c8)]]) O)=some (.row 1 es):=fun es j hj h=>by rw [aC,QA (by omega),h]
   exact ⟨h.v.fr fun j h1 h2=>key _ j h1 h2,h.m.fr fun j h1 h2=>key _ j h1 h2,h.f.fr fun j h1 h2=>key _ j h1 h2,h.r.fr fun j l h1 h2=>key _ j h1 h2,h.mne⟩
  have:=h2.snp (N:=n);rw [hp] at this;rw [Ze,show aT=39+1 from rfl,Rq,this];rfl
 have sV:∀n,snap 40 ⟨O2,n⟩ V=some (.slice 1 (e.valid.map cB)):=fun n=>em2.v.sB
 generalize hR:some (Rt.val (AV.agg (swX p e h b keep).c))=R;have hH:=La (p.Xo.map Xi.c) h;have hB:=Kz (e.valid.map cB) h;rw [qN,<- OL] at hH hB;cases q1:(at? p.Xo h).isSome with
 | false=>
  have e1:swX p e h b keep=e:=by simp [swX,q1]
  rw [e1] at hR;rw [q1] at hH;simp [iP,Prg.e,Envt.ce,hr,t0,n0,aH,aC,vM,hH,hO2,lN1,l02,-retP];rw [<- hR];exact fin O2 _ e em2 rfl l02
 | true=>
 rw [q1] at hH;cases q2:(at? e.valid h).isSome with
 | false=>
  have e1:swX p e h b keep=e:=by simp [swX,q2]
  rw [e1] at hR;rw [q2] at hB;simp [iP,Prg.e,Envt.ce,hr,t0,n0,aH,aC,vM,hH,hB,hO2,lN1,l02,sV,-retP];rw [<- hR];exact fin O2 _ e em2 rfl l02
 | true=>
 rw [q2] at hB;obtain ⟨x,hx⟩:=DU.1 q2;obtain ⟨k,rfl,hk,hxk⟩:=kO hx;rcases em2.v with ⟨z,_⟩ | ⟨iv,rfl,lV,hiv,_⟩
 ·have:e.valid=[]:=by simpa using z
  rw [this] at hk;simp at hk
 have hkl:k<(e.valid.map cB).length:=by simpa using hk
 have sV':=sV;have lV':=lV;have hmp:=fun n=>r9 (g:=cB) (n:=39) (H:=⟨O2,n⟩) (fun x=>by simp [cB]) e.valid
 have i0:¬iv=0/\¬0=iv:=by omega
 have i1:¬iv=N1/\¬N1=iv:=by have:=cW lV lN1 (by simp);exact ⟨this,fun e=>this e.symm⟩
 generalize hlv:(e.valid.map cB).length=lv at*;have hlv':e.valid.length=lv:=by rw [<- hlv];simp
 have htl:(e.valid.map cB).take lv=e.valid.map cB:=Qo (by simp [hlv']);have hcB:(e.valid.map cB)[k]? =some [.bool x]:=by rw [List.getElem?_map,Qa hk,hxk];rfl
 by_cases zk:keep=true/\x=b
 ·have e1:swX p e k b keep=e:=by
   unfold swX;rw [a9 (.inr (.inr ⟨zk.1,by rw [hx,zk.2]⟩))]
  rw [e1] at hR;obtain ⟨rfl,rfl⟩:=zk;simp [iP,Prg.e,Envt.ce,hr,t0,n0,aH,aC,vM,hH,hB,hO2,lN1,l02,lV,htl,hmp,hlv,hlv',hk,hkl,hxk,cB,-retP];rw [<- hR];exact fin O2 _ e em2 rfl l02
 have e1:swX p e k b keep=eSw e k b:=by
  unfold swX;rw [QA]
  ·rfl
  ·rintro (q | q | ⟨q,q3⟩)
   ·rw [q1] at q;cases q
   ·rw [q2] at q;cases q
   ·rw [hx] at q3;exact zk ⟨q,Option.some.inj q3⟩
 rw [e1] at hR;have hkA:k<A.length:=by rw [em2.r.len,hs];exact hk
 have hkF:k<e.Xz.length:=by rw [hs];exact hk
 have hAk:A[k]? =some A[k]:=Qa hkA;rcases em2.f with ⟨hA,_⟩ | ⟨fd,rfl,lF,hfd,_⟩
 ·simp at hA;rw [hA] at hkA;simp at hkA
 have hlA:=em2.r.len;have hlF:(A.map fun x=>[x]).length=lv:=by rw [qN,hlA,hs,hlv']
 rw [hlF] at hr hO2 lN1 em2 fin;have em3:=em2.setV rfl (e.valid.set k b) (by simp);have hst:(e.valid.map cB).set k [AV.bool b]=(e.valid.set k b).map cB:=by rw [DY];simp [cB]
 rw [<- hst] at em3;have f1:¬fd=iv/\¬iv=fd:=by
  have:fd≠iv:=cW lF lV fun z=>by
   injection z with _ z
   have:=em2.r.head (fun x hx=>by obtain ⟨y,_,rfl⟩:=lH.1 hx;exact .inl ⟨_,rfl⟩) z;simp at this;rw [this] at hk;simp at hk
  exact ⟨this,fun e=>this e.symm⟩
 have hk3:¬lv<=k:=by omega
 have hkx:keep=false\/(keep=true/\decide (x=b)=false):=by
  cases keep
  ·exact .inl rfl
  ·exact .inr ⟨rfl,by simp;exact fun q=>zk ⟨rfl,q⟩⟩
 rcases em2.r.row k _ _ hAk (Qa hkF) with ⟨zl,hAf⟩ | ⟨id,hAr,lA,hid⟩
 ·have e2:eSw e k b={ e with valid:=e.valid.set k b }:=by
   unfold eSw;have:e.Xz.set k ((e.Xz.getD k []).map fun _=>0)=e.Xz:=by
    rw [vB,Qa hkF,jO];have h2:(e.Xz[k].map fun _=>(0:Int))=e.Xz[k]:=by rw [zl];rfl
    rw [h2];exact List.set_getElem_self hkF
   rw [this]
  rw [e2] at hR;have key:retP ⟨setl 0 (.row 4 [[.row iv 1 0 lv,.row fd 1 0 lv,.row im 1 0 lm,.slice 1 (e.payload.map c8)]]) (setl iv (.row 1 ((e.valid.map cB).set k [.bool b])) O2),N1+1⟩ (some (.agg [.row iv 1 0 lv,.row fd 1 0 lv,.row im 1 0 lm,.slice 1 (e.payload.map c8)]))=R:=by
   rw [<- hR];exact fin _ _ _ em3 rfl (by rw [aC,QA i0.2,l02])
  rcases hkx with rfl | ⟨rfl,hxb⟩
  ·simp [iP,Prg.e,Envt.ce,hr,t0,n0,aH,aC,vM,hH,hB,hO2,lN1,l02,lV,htl,hmp,hlv,hlv',hk,hkl,hk3,hxk,cB,i0,i1,f1,wJ,dC,hlA,hs,lF,hkA,hAf,-retP];exact key
  ·simp [iP,Prg.e,Envt.ce,hr,t0,n0,aH,aC,vM,hH,hB,hO2,lN1,l02,lV,htl,hmp,hlv,hlv',hk,hkl,hk3,hxk,hxb,cB,i0,i1,f1,wJ,dC,hlA,hs,lF,hkA,hAf,-retP];exact key
 ·have hAr2:A[k]? =some (.row id 1 0 e.Xz[k].length):=by rw [hAk,hAr]
  have em4:=em3.setA hAr2 (e.Xz[k].map fun _=>0) (by simp);have e2:eSw e k b={ e with valid:=e.valid.set k b,Xz:=e.Xz.set k (e.Xz[k].map fun _=>0) }:=by
   unfold eSw;rw [vB,Qa hkF,jO]
  rw [e2] at hR;have hrep:List.replicate e.Xz[k].length [AV.int .u32 0]=(e.Xz[k].map fun _=>(0:Int)).map c32:=by
   rw [List.map_map,<- List.map_const'];rfl
  have j1:¬id=iv/\¬iv=id:=by
   have:id≠iv:=cW lA lV fun z=>by
    injection z with _ z
    have:=SF (by simp [cB,c32]) z;rw [this] at hk;simp at hk
   exact ⟨this,fun e=>this e.symm⟩
  have j0:¬id=0/\¬0=id:=by omega
  have j2:¬id=N1/\¬N1=id:=by have:=cW lA lN1 (by simp);exact ⟨this,fun e=>this e.symm⟩
  have htk:(e.Xz[k].map c32).take e.Xz[k].length=e.Xz[k].map c32:=Qo (by simp);have hdk:(e.Xz[k].map c32).drop e.Xz[k].length=[]:=List.drop_of_length_le (by simp);have key:retP ⟨setl 0 (.row 4 [[.row iv 1 0 lv,.row fd 1 0 lv,.row im 1 0 lm,.slice 1 (e.payload.map c8)]]) (setl id (.row 1 (List.replicate e.Xz[k].length [AV.int .u32 0])) (setl iv (.row 1 ((e.valid.map cB).set k [.bool b])) O2)),N1+1⟩ (some (.agg [.row iv 1 0 lv,.row fd 1 0 lv,.row im 1 0 lm,.slice 1 (e.payload.map c8)]))=R:=by
   rw [<- hR,hrep];exact fin _ _ _ em4 rfl (by rw [aC,QA j0.2,aC,QA i0.2,l02])
  rcases hkx with rfl | ⟨rfl,hxb⟩
  ·simp [iP,Prg.e,Envt.ce,hr,t0,n0,aH,aC,vM,hH,hB,hO2,lN1,l02,lV,htl,hmp,hlv,hlv',hk,hkl,hk3,hxk,cB,i0,i1,f1,wJ,dC,hlA,hs,lF,hkA,hAr,lA,j0,j1,j2,hdk,-retP];exact key
  ·simp [iP,Prg.e,Envt.ce,hr,t0,n0,aH,aC,vM,hH,hB,hO2,lN1,l02,lV,htl,hmp,hlv,hlv',hk,hkl,hk3,hxk,hxb,cB,i0,i1,f1,wJ,dC,hlA,hs,lF,hkA,hAr,lA,j0,j1,j2,hdk,-retP];exact key
theorem Jb (p:Prg) (e:Envt) (h:Int):swX p e h true true=eAdd p e h:=by
 unfold swX eAdd;cases q1:(at? p.Xo h).isSome<;>cases q2:at? e.valid h with
 | none=>simp
 | some x=>cases x<;>simp
theorem Jc (p:Prg) (e:Envt) (h:Int):swX p e h false false=eRem p e h:=by
 unfold swX eRem;cases q1:(at? p.Xo h).isSome<;>cases q2:(at? e.valid h).isSome<;>simp
theorem Jr (p:Prg) (e:Envt) (s:EvS e) (hm:e.metaF≠[]) (hs:e.Xz.length=e.valid.length) (h:Int):a8 Φ BM [.agg p.c,.agg e.c,a7 h]=some (.val (.agg (eAdd p e h).c)):=by
 rw [aA rfl rfl,<- Jb];have k:=sw_ok p e s hm hs h true true;generalize swX p e h true true=e2 at*;rw [Envt.ce] at k;rw [Envt.ce] at k;simp only [Prg.e] at k;simp [J5,Prg.e,Envt.ce,k]
theorem Mx (p:Prg) (e:Envt) (s:EvS e) (hm:e.metaF≠[]) (hs:e.Xz.length=e.valid.length) (h:Int):a8 Φ BN [.agg p.c,.agg e.c,a7 h]=some (.val (.agg (eRem p e h).c)):=by
 rw [aA rfl rfl,<- Jc];have k:=sw_ok p e s hm hs h false false;generalize swX p e h false false=e2 at*;rw [Envt.ce] at k;rw [Envt.ce] at k;simp only [Prg.e] at k;simp [J6,Prg.e,Envt.ce,k]
section
variable {Z:Type} (m:Z->Bool) (pr:Z->Z->Bool)
def WK (l:List Z):Option Z:=l.find? fun r=>m r&& !(l.any fun x=>m x&&pr x r)
def vP (o:Option Z) (r:Z):Option Z:=if m r&&(match o with | none=>true | some b=>pr r b) then some r else o
def Ty (l:List Z):Option Z:=l.foldl (vP m pr) none
variable {m pr}
theorem Yk (irr:∀a,pr a a=false) (tr:∀a b c,pr a b=true->pr b c=true->pr a c=true):∀(l s:List Z) (o:Option Z),(∀a∈s++l,∀b∈s++l,a≠b->pr a b=true\/pr b a=true)->
  (match o with | none=>∀x∈s,m x=false | some r=>r∈s/\m r=true/\∀x∈s,m x=true->pr x r=false)->
  match l.foldl (vP m pr) o with | none=>∀x∈s++l,m x=false | some r=>r∈s++l/\m r=true/\∀x∈s++l,m x=true->pr x r=false
 | [],s,o,_,h=>by simpa using h
 | a::l,s,o,ht,h=>by
  have hh:s++a::l=(s++[a])++l:=by simp
  rw [hh] at ht ⊢;rw [PU];refine Yk irr tr l (s++[a]) _ ht ?_;cases o with
  | none=>
   simp only at h;cases hm:m a with
   | false=>
    simp only [vP,hm,OC];intro x hx;rcases gI.1 hx with hx | hx
    ·exact h x hx
    ·simp at hx;subst hx;exact hm
   | true=>
    simp only [vP,hm,L9,if_true];refine ⟨by simp,trivial,?_⟩;intro x hx hmx;rcases gI.1 hx with hx | hx
    ·rw [h x hx] at hmx;cases hmx
    ·simp at hx;subst hx;exact irr x
  | some b=>
   obtain ⟨h1,h2,h3⟩:=h;cases hm:m a with
   | false=>
    simp only [vP,hm,OC];refine ⟨by simp [h1],h2,?_⟩;intro x hx hmx;rcases gI.1 hx with hx | hx
    ·exact h3 x hx hmx
    ·simp at hx;subst hx;rw [hm] at hmx;cases hmx
   | true=>
    cases hp:pr a b with
    | true=>
     simp only [vP,hm,hp,L9,if_true];refine ⟨by simp,trivial,?_⟩;intro x hx hmx;rcases gI.1 hx with hx | hx
     ·refine Bool.eq_false_iff.2 fun hc=>?_
      have:=tr x a b hc hp;rw [h3 x hx hmx] at this;cases this
     ·simp at hx;subst hx;exact irr x
    | false=>
     simp only [vP,hm,hp,Bool.and_false];refine ⟨by simp [h1],h2,?_⟩;intro x hx hmx;rcases gI.1 hx with hx | hx
     ·exact h3 x hx hmx
     ·simp at hx;subst hx;exact hp
theorem Cy (irr:∀a,pr a a=false) (tr:∀a b c,pr a b=true->pr b c=true->pr a c=true) (l:List Z) (ht:∀a∈l,∀b∈l,a≠b->pr a b=true\/pr b a=true):WK m pr l=Ty m pr l:=by
 have h:=Yk (m:=m) irr tr l [] none (by simpa using ht) (by simp);simp only [wE] at h;unfold Ty;cases hr:l.foldl (vP m pr) none with
 | none=>
  rw [hr] at h;simp only at h;unfold WK;rw [List.find?_eq_none];intro x hx;simp [h x hx]
 | some r=>
  rw [hr] at h;simp only at h;obtain ⟨h1,h2,h3⟩:=h;have hbeat:(l.any fun x=>m x&&pr x r)=false:=by
   rw [List.any_eq_false];intro x hx;cases hm:m x with
   | false=>simp
   | true=>simp [h3 x hx hm]
  unfold WK;have huniq:∀y∈l,(m y&& !(l.any fun x=>m x&&pr x y))=true->y=r:=by
   intro y hy hc;simp only [dJ,QB] at hc;refine Classical.byContradiction fun hne=>?_
   rcases ht y hy r h1 hne with hp | hp
   ·rw [h3 y hy hc.1] at hp;cases hp
   ·have:=List.any_eq_false.1 hc.2 r h1;simp [h2,hp] at this
  cases hf:l.find? (fun r=>m r&& !(l.any fun x=>m x&&pr x r)) with
  | none=>
   rw [List.find?_eq_none] at hf;have:=hf r h1;simp [h2] at this;obtain ⟨x,hx,hmx,hp⟩:=this;rw [h3 x hx hmx] at hp;cases hp
  | some y=>
   rw [huniq y (X7 hf) (by have:=List.find?_some hf;exact this)]
end
def noE:Entry:=⟨[],0,⟨0,[]⟩⟩
theorem noE_s:EntS noE:=⟨by simp [noE],by simp [noE],by simp [noE],by simp [noE]⟩
theorem lk_ge {j:Nat}:∀{L:List (Nat×AO)},(∀x∈L,j<x.1)->look j L=none
 | [],_=>rfl
 | (u,w)::r,h=>by
  have:=h (u,w) (by simp);have hr:=lk_ge (L:=r) fun x hx=>h x (by simp [hx])
  have hu:¬u=j:=by simp only at this;omega
  simp [look,hu,hr]
theorem lk_lt {j:Nat}:∀{L:List (Nat×AO)},(∀x∈L,x.1<j)->look j L=none
 | [],_=>rfl
 | (u,w)::r,h=>by
  have:=h (u,w) (by simp);have hr:=lk_lt (L:=r) fun x hx=>h x (by simp [hx])
  have hu:¬u=j:=by simp only at this;omega
  simp [look,hu,hr]
theorem Kp.apps {X:Nat->Prop} {N:Nat} {O L:List (Nat×AO)} (h:∀x∈L,N<=x.1):Kp X N O (O++L):=fun j hj _=>by
 rw [aH,lk_ge (L:=L) fun x hx=>by have:=h x hx;omega];cases look j O<;>rfl
theorem Tail.apps {N M:Nat} {O L:List (Nat×AO)} (hT:Tail O N) (hn:N<=M) (h:∀x∈L,x.1<M):Tail (O++L) M:=fun j hj=>by
 rw [aH,hT j (by omega),lk_lt (L:=L) fun x hx=>by have:=h x hx;omega];rfl
set_option maxRecDepth 4000
def osum (a:Nat):Nat->Nat
 | 0=>0
 | i+1=>osum a i+a / 2^i % 2
theorem qwq (a:Nat):∀i,osum a i<=i
 | 0=>Qb _
 | i+1=>by have:=qwq a i;simp only [osum];omega
def SN (v:Int):Int:=(osum v.toNat 32:Nat)
theorem Dw (n:Nat):iand .u32 (n:Int) 1=(n:Int) % 2:=by
 unfold iand;have e3:(BitVec.ofInt 32 (n:Int)&&& BitVec.ofInt 32 1).toNat=((n:Int) % 4294967296).toNat % 2:=by
  rw [UC];have:(BitVec.ofInt 32 1).toNat=2^1 - 1:=rfl;rw [this,Nat.and_two_pow_sub_one_eq_mod,BitVec.toNat_ofInt];rfl
 rw [show IntKind.bits .u32=32 from rfl,e3];simp only [IntKind.wrap,IntKind.bits,IntKind.signed];simp;omega
theorem Hi (n i:Nat) (h:i<32):ishr .u32 (n:Int) (i:Int)=((n / 2^i:Nat):Int):=by
 unfold ishr;have:min (i:Int).toNat IntKind.u32.bits=i:=by simp [IntKind.bits];omega
 rw [this,Int.fdiv_eq_ediv_of_nonneg _ (by exact GL (wX (by decide)))];rw [Int.natCast_ediv,Int.natCast_pow];rfl
theorem Gu (n:Nat) (hn:n<2^32):a8 Φ uG [.int .u32 (n:Int)]=some (.val (a7 (osum n 32:Nat))):=by
 rw [aA rfl rfl];simp [JH];refine eY 32 (fun i e=>look 0 e=some (.int .u32 (n:Int))/\look 3 e=some (a7 (osum n i:Nat))/\look 5 e=some (a7 i)) (fun _=>some (Rt.val (a7 (osum n 32:Nat)))) ?_ ?_ 0 _ (Qc _) ?_
 ·rintro i e L hi hL ⟨h0,h3,h5⟩ ih;have hw:=aM i (by omega);have hb:=qwq n i;have h1:=Hi n i hi;have h2:=Dw (n / 2^i);have hq:osum n (i+1)=osum n i+n / 2^i % 2:=rfl;generalize n / 2^i=q at*;have hc:IntKind.wrap .i64 ((q:Int) % 2)=(q:Int) % 2:=cN (by omega) (by omega);have hs:IntKind.wrap .i64 ((osum n i:Nat)+((q:Int) % 2))=((osum n (i+1):Nat):Int):=by
   rw [cN (by omega) (by omega),hq];omega
  have hi':(i:Int)<32:=by omega
  simp [c_384_l0,h0,h3,h5,hi',hL,h1,h2,hc,hs,hw];exact ih _ ⟨by simp [h0],by simp,by simp⟩
 ·rintro e L hL ⟨h0,h3,h5⟩;simp [c_384_l0,c_384_k1,h3,h5,hL]
 ·simp [osum]
theorem Ap {v:Int} (h:ok32 0 v):a8 Φ uG [.int .u32 v]=some (.val (a7 (SN v))):=by
 obtain ⟨h1,h2⟩:=h;obtain ⟨n,rfl⟩:∃n:Nat,v=n:=⟨v.toNat,by omega⟩;have:=Gu n (by omega);simpa [SN] using this
def pfx:List Xk->List Xh->Int
 | [],_=>0
 | k::ks,xs=>if k.kind=2 then (match xs with | m::_=>SN m.Yd | []=>0) else pfx ks (xs.drop 1)
def pfxZ (p:Prg) (t:Int) (x:Entry):Int:=match at? p.Xm t with
 | some tb=>pfx tb.keys x.keys
 | none=>0
theorem qts (k:Xk) (ks:List Xk) (xs:List Xh):pfx (k::ks) xs=if k.kind=2 then (match xs with | m::_=>SN m.Yd | []=>0) else pfx ks (xs.drop 1):=rfl
theorem Fq {ks:List Xk} {xs:List Xh} {i:Nat} (hi:i<ks.length) (h:ks[i].kind=2):pfx (ks.drop i) (xs.drop i)=if hx:i<xs.length then SN xs[i].Yd else 0:=by
 rw [Qi hi,qts,a9 h];by_cases hx:i<xs.length
 ·rw [dif_pos hx,Qi hx]
 ·rw [dif_neg hx,List.drop_eq_nil_of_le (by omega)]
theorem Ba {ks:List Xk} {xs:List Xh} {i:Nat} (hi:i<ks.length) (h:¬ks[i].kind=2):pfx (ks.drop i) (xs.drop i)=pfx (ks.drop (i+1)) (xs.drop (i+1)):=by
 rw [Qi hi,qts,QA h,GK]
theorem Fp (ks:List Xk) (xs:List Xh):pfx (ks.drop ks.length) xs=0:=by simp [pfx]
theorem Yy (p:Prg) (f:PrgS p) (t:Int) (x:Entry) (hx:EntS x):a8 Φ u6 [.agg (Prg.c p),a7 t,.agg (Entry.c x)]=some (.val (a7 (pfxZ p t x))):=by
 rw [aA rfl rfl];by_cases i0:t<0
 ·simp [sC,Prg.e,Entry.ce,pfxZ,eP i0,i0]
 by_cases i1:(p.Xm.length:Int)<=t
 ·simp [sC,Prg.e,Entry.ce,pfxZ,eZ i1,i0,i1]
 obtain ⟨k,rfl⟩:∃k:Nat,t=k:=⟨t.toNat,by omega⟩;have hk:k<p.Xm.length:=by omega
 have hR:pfxZ p k x=pfx p.Xm[k].keys x.keys:=by rw [pfxZ,qT,Qa hk]
 rw [hR];generalize hQ:pfx p.Xm[k].keys x.keys=Q;have hkl:=f.tk p.Xm[k] (Qd hk);simp [sC,Prg.e,Entry.ce,Tbl.e,i0,i1,hk];refine dV p.Xm[k].keys.length (fun _=>[]) 0 (fun i e=>pfx (p.Xm[k].keys.drop i) (x.keys.drop i)=Q/\look 5 e=some (.iptr 4 [Entry.c x] 0 0)/\look 23 e=some (.slice 3 (p.Xm[k].keys.map Xk.c))/\look 24 e=some (a7 p.Xm[k].keys.length)/\look 25 e=some (a7 i)) (fun _=>some (Rt.val (a7 Q))) ?_ ?_ 0 _ _ (Qc _) (Qc _) ?_
 ·rintro i e n L hi hL - ⟨he,h5,h23,h24,h25⟩ ih;have hw:=aM i (by omega);rw [Entry.ce] at h5;by_cases z:p.Xm[k].keys[i].kind=2
  ·rw [Fq hi z] at he;by_cases q:i<x.keys.length
   ·rw [dif_pos q] at he;have ho:=Ap (hx.ks x.keys[i] (Qd q)).2;simp [c_351_l0,Xk.e,Xh.ce,h5,h23,h24,h25,hi,hL,z,q,ho,he]
   ·rw [dif_neg q] at he;simp [c_351_l0,Xk.e,Xh.ce,h5,h23,h24,h25,hi,hL,z,q,<- he]
  ·rw [Ba hi z] at he;simp [c_351_l0,Xk.e,h5,h23,h24,h25,hi,hL,z,hw];exact ih _ _ (Qc _) ⟨he,by simp [h5,Entry.ce],by simp [h23,Xk.e],by simp [h24],by simp⟩
 ·rintro e n L hL - ⟨he,h5,h23,h24,h25⟩;rw [Fp] at he;simp [c_351_l0,c_351_k1,h23,h24,h25,hL,<- he]
 ·exact ⟨by simpa using hQ,by simp [Entry.ce],by simp,by simp,by simp⟩
def prc (p:Prg) (t:Int) (a b:Rw):Bool:=if a.entry.Xs≠b.entry.Xs then decide (b.entry.Xs<a.entry.Xs) else if pfxZ p t a.entry≠pfxZ p t b.entry then decide (pfxZ p t b.entry<pfxZ p t a.entry) else decide (a.id<b.id)
theorem qvf (p:Prg) (f:PrgS p) (t:Int) (a b:Rw) (ha:EntS a.entry) (hb:EntS b.entry):a8 Φ B6 [.agg (Prg.c p),a7 t,.agg (Rw.c a),.agg (Rw.c b)]=some (.val (.bool (prc p t a b))):=by
 rw [aA rfl rfl];have k1:=Yy p f t a.entry ha;have k2:=Yy p f t b.entry hb;simp only [Prg.e,Entry.ce] at k1 k2;by_cases q1:a.entry.Xs=b.entry.Xs
 ·rw [q1] at k1;by_cases q2:pfxZ p t a.entry=pfxZ p t b.entry
  ·simp [rZ,Prg.e,Rw.ce,prc,k1,k2,q1,q2]
  ·simp [rZ,Prg.e,Rw.ce,prc,k1,k2,q1,q2]
 ·simp [rZ,Prg.e,Rw.ce,prc,q1]
def KV (m:Xh) (v:Int):Prop:=iand .u32 (ixor .u32 v m.value) m.Yd=0
instance (m:Xh) (v:Int):Decidable (KV m v):=by unfold KV;infer_instance
def mts:List Xh->List Int->Bool
 | m::ms,v::vs=>if KV m v then mts ms vs else false
 | _,_=>true
def mtF (x:Entry) (key:List Int):Bool:=decide (x.keys.length=key.length)&&mts x.keys key
theorem Gn {l:List Xh} {k:List Int} {i:Nat} (h1:i<l.length) (h2:i<k.length) (h:KV l[i] k[i]):mts (l.drop i) (k.drop i)=mts (l.drop (i+1)) (k.drop (i+1)):=by
 rw [Qi h1,Qi h2,mts,a9 h]
theorem Aj {l:List Xh} {k:List Int} {i:Nat} (h1:i<l.length) (h2:i<k.length) (h:¬KV l[i] k[i]):mts (l.drop i) (k.drop i)=false:=by
 rw [Qi h1,Qi h2,mts,QA h]
theorem qyd (x:Entry) (hx:x.keys.length<2^40) (key:List Int):a8 Φ B5 [.agg (Entry.c x),.slice 1 (key.map c32)]=some (.val (.bool (mtF x key))):=by
 rw [aA rfl rfl];by_cases q:x.keys.length=key.length
 rotate_left
 ·have q':¬key.length=x.keys.length:=fun h=>q h.symm
  simp [yS,Entry.ce,mtF,q,q']
 have hR:mtF x key=mts x.keys key:=by simp [mtF,q]
 rw [hR];generalize hQ:mts x.keys key=Q;simp [yS,Entry.ce,q];refine dV x.keys.length (fun _=>[]) 0 (fun i e=>mts (x.keys.drop i) (key.drop i)=Q/\look 1 e=some (.slice 1 (key.map c32))/\look 14 e=some (.slice 2 (x.keys.map Xh.c))/\look 15 e=some (a7 x.keys.length)/\look 16 e=some (a7 i)) (fun _=>some (Rt.val (.bool Q))) ?_ ?_ 0 _ _ (Qc _) (Qc _) ?_
 ·rintro i e n L hi hL - ⟨he,h1,h14,h15,h16⟩ ih;have hw:=aM i (by omega);have hk:i<key.length:=by omega
  by_cases z:KV x.keys[i] key[i]
  ·rw [Gn hi hk z] at he;unfold KV at z;simp [c_281_l0,Xh.ce,c32e,h1,h14,h15,h16,hi,hk,hL,z,hw];exact ih _ _ (Qc _) ⟨he,by simp [h1],by simp [h14,Xh.ce],by simp [h15],by simp⟩
  ·rw [Aj hi hk z] at he;unfold KV at z;simp [c_281_l0,Xh.ce,c32e,h1,h14,h15,h16,hi,hk,hL,z,<- he]
 ·rintro e n L hL - ⟨he,h1,h14,h15,h16⟩;rw [q,wW,List.drop_of_length_le (by omega)] at he;simp [c_281_l0,c_281_k1,h14,h15,h16,hL,<- he,mts]
 ·exact ⟨by simpa using hQ,by simp,by simp,by simp [q],by simp⟩
theorem Zv (r:Rw) (hr:EntS r.entry) (key:List Int):a8 Φ dO [.agg (Rw.c r),.iptr 1 [[.slice 1 (key.map c32)]] 0 0]=some (.val (.bool (mtF r.entry key))):=by
 rw [aA rfl rfl];have h:=qyd r.entry hr.kl key;simp only [Entry.ce] at h;simp [IB,Rw.ce,h]
def zRow:List AV:=[a7 0,.Xt 2 [],a7 0,a7 0,.Xt 1 []]
def Jq (N:Nat) (O:List (Nat×AO)) (o:Option Rw) (r:Option (Rt×AH)):Prop:=
 ∃O' N',r=some (.val (.tup [.agg (match o with | some x=>Rw.c x | none=>zRow),.bool o.isSome]),⟨O',N'⟩)/\Kp (fun _=>False) N O O'/\Tail O' N'/\N<=N'
theorem qwc {O:List (Nat×AO)} {N:Nat} (hT:Tail O N) {L:AV} {l:List Rw} (hL:Re O 5 L (l.map Rw.c)) (hll:l.length<2^40) {g:Nat} {caps caps':List AV} (P:Rw->Bool)
  (hcap:∀O' N',(∀j,j<N->look j O'=look j O)->mapO (snap 40 ⟨O',N'⟩) caps=some caps') (hP:∀x∈l,a8 Φ g (.agg (Rw.c x)::caps')=some (.val (.bool (P x)))):
  Jq N O (l.find? P) (aQ Φ mI [L,.func (.func g) [] caps] ⟨O,N⟩):=by
 rw [eI rfl rfl];have t0:=hT N (Qb _);have hlen:=hL.len;rw [qN] at hlen;simp [IC,t0,hlen,-lenOf];generalize hR:l.find? P=R;refine gL l.length (fun i e h=>∃O' N',h=⟨O',N'⟩/\(l.drop i).find? P=R/\Kp (fun _=>False) N O O'/\Tail O' N'/\N+1<=N'/\look N O'=some (.row 5 [zRow])/\look 1 e=some (.func (.func g) [] caps)/\look 4 e=some (.ptr N 5 0 0)/\look 9 e=some L/\look 10 e=some (a7 l.length)/\look 11 e=some (a7 i)) _ ?_ ?_ 0 _ _ (Qc _) ?_
 ·rintro i e _ K hi hK ⟨O',N',rfl,hf,hk,hT',hN,hb,h1,h4,h9,h10,h11⟩ ih;have hw:=aM i (by omega);have hv':Re O' 5 L (l.map Rw.c):=by
   refine hL.fr fun j hj=>?_
   cases hL with
   | row id _ es0 n hn hl hle ht=>cases hj;exact hk j (hT.lt hl) (by simp)
   | sl=>cases hj
   | fs=>cases hj
   | ap=>cases hj
  have u0:=hT' N' (Qb _);have nN:¬N=N':=by omega
  have hc:=hcap O' (N'+1) fun j hj=>hk j hj (by simp)
  have hp:=hP l[i] (Qd hi);simp only [Rw.ce] at hp;rw [Qi hi,List.find?_cons] at hf;cases hb2:P l[i] with
  | true=>
   rw [hb2] at hf hp;simp only at hf;subst hf;cases hv' with
   | row id' _ es0 n hn hl' hle ht=>
    have h0:=qz8 hi ht;simp [c_282_l0,Rw.ce,h1,h4,h9,h10,h11,hi,u0,hn,hl',h0,hc,hp,hb,aC,zRow];exact ⟨_,_,rfl,Kp.setl hk (.inl (Qb _)),d6 (hT'.mono (by omega)),by omega⟩
   | _=>
    simp [c_282_l0,Rw.ce,h1,h4,h9,h10,h11,hi,u0,hc,hp,hb,aC,zRow];exact ⟨_,_,rfl,Kp.setl hk (.inl (Qb _)),d6 (hT'.mono (by omega)),by omega⟩
  | false=>
   rw [hb2] at hf hp;simp only at hf;cases hv' with
   | row id' _ es0 n hn hl' hle ht=>
    have h0:=qz8 hi ht;simp [c_282_l0,Rw.ce,h1,h4,h9,h10,h11,hi,hK,u0,hn,hl',h0,hc,hp,hw];exact ih _ _ ⟨_,_,rfl,hf,hk,hT'.mono (by omega),by omega,by simp [hb,zRow],by simp [h1],by simp [h4],by simp [h9],by simp [h10],by simp⟩
   | _=>
    simp [c_282_l0,Rw.ce,h1,h4,h9,h10,h11,hi,hK,u0,hc,hp,hw];exact ih _ _ ⟨_,_,rfl,hf,hk,hT'.mono (by omega),by omega,by simp [hb,zRow],by simp [h1],by simp [h4],by simp [h9],by simp [h10],by simp⟩
 ·rintro e _ K hK ⟨O',N',rfl,hf,hk,hT',hN,hb,h1,h4,h9,h10,h11⟩;have u0:=hT' N' (Qb _);have nN:¬N'=N:=by omega
  have nN':¬N=N':=by omega
  rw [wW] at hf;simp only [List.find?_nil] at hf;subst hf;simp [c_282_l0,c_282_k1,h4,h10,h11,hK,u0,hb,aH,aC,nN,nN',zRow];exact ⟨_,_,rfl,Kp.setl (Kp.app hk (by omega)) (.inl (Qb _)),d6 (hT'.app1 (Qb _)),by omega⟩
 ·refine ⟨_,_,rfl,by simpa using hR,Kp.app Kp.refl (Qb _),hT.app1 (Qb _),by omega,by simp [aH,t0,zRow],by simp,by simp,by simp,by simp,by simp⟩
end Go.Av
