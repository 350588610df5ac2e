/-
 Lists of mutable rows of numbers; register contents are copied.
-/
import Derived.Test.YtcehjengeaafpaaGreatQ1
set_option linter.unusedVariables false
set_option linter.unusedSimpArgs false
set_option linter.constructorNameAsVariable false
namespace Go.Av
set_option maxRecDepth 6000
structure RL (O:List (Nat×AO)) (B:Nat) (A:List AV) (L:List (List Int)):Prop where
 len:A.length=L.length
 row:∀(k:Nat) (x:AV) (l:List Int),A[k]? =some x->L[k]? =some l->(l=[]/\x= .Xt 1 [])\/∃id,x= .row id 1 0 l.length/\look id O=some (.row 1 (l.map c32))/\B<=id
 inj:∀(k k' id:Nat) (n n':Nat),A[k]? =some (.row id 1 0 n)->A[k']? =some (.row id 1 0 n')->k=k'
theorem RL.nil {O:List (Nat×AO)} {B:Nat}:RL O B [] []:=⟨rfl,by simp,by simp⟩
theorem RL.fr {O O':List (Nat×AO)} {B:Nat} {A:List AV} {L:List (List Int)} (h:RL O B A L) (hf:∀(j:Nat) (l:List Int),B<=j->look j O=some (.row 1 (l.map c32))->look j O'=some (.row 1 (l.map c32))):RL O' B A L:=by
 refine ⟨h.len,fun k x l hx hl=>?_,h.inj⟩;rcases h.row k x l hx hl with h | ⟨id,h1,h2,h3⟩
 ·exact .inl h
 ·exact .inr ⟨id,h1,hf id _ h3 h2,h3⟩
theorem RL.lt {O:List (Nat×AO)} {B n:Nat} (hT:Tail O n) {A:List AV} {L:List (List Int)} (h:RL O B A L) {k id m:Nat} (hx:A[k]? =some (.row id 1 0 m)):id<n:=by
 have hk:k<A.length:=(Qm.1 hx).1;have hk2:k<L.length:=by rw [<- h.len];exact hk
 rcases h.row k _ _ hx (Qa hk2) with ⟨_,h2⟩ | ⟨id',h1,h2,_⟩
 ·cases h2
 ·cases h1;exact hT.lt h2
theorem RL.snoc {O O':List (Nat×AO)} {B n:Nat} {A:List AV} {L:List (List Int)} (h:RL O B A L) (hT:Tail O n) (hf:∀(j:Nat) (l:List Int),B<=j->look j O=some (.row 1 (l.map c32))->look j O'=some (.row 1 (l.map c32))) {id:Nat} {l:List Int} (hid:n<=id) (hB:B<=id)
  (hl:look id O'=some (.row 1 (l.map c32))):RL O' B (A++[.row id 1 0 l.length]) (L++[l]):=by
 have h':=h.fr hf;refine ⟨by simp [h.len],fun k x y hx hy=>?_,fun k k' i m m' hx hx'=>?_⟩
 ·rw [List.getElem?_append] at hx hy;rw [h.len] at hx;split at hx
  ·rename_i q;rw [a8 q] at hy;exact h'.row k x y hx hy
  ·rename_i q;rw [QA q] at hy;cases hk:k - L.length with
   | zero=>simp [hk] at hx hy;subst hx hy;exact .inr ⟨id,rfl,hl,hB⟩
   | succ j=>simp [hk] at hx
 ·have key:∀j m,(A++[.row id 1 0 l.length])[j]? =some (.row i 1 0 m)->(j<A.length/\i<n)\/(j=A.length/\i=id):=fun j m hj=>by
   rw [List.getElem?_append] at hj;split at hj
   ·rename_i q;exact .inl ⟨q,h.lt hT hj⟩
   ·rename_i q;cases hk:j - A.length with
    | zero=>simp [hk] at hj;exact .inr ⟨by omega,hj.1.symm⟩
    | succ j=>simp [hk] at hj
  rcases key k m hx with ⟨a1,a2⟩ | ⟨a1,a2⟩<;>rcases key k' m' hx' with ⟨b1,b2⟩ | ⟨b1,b2⟩
  ·rw [Ql a1] at hx;rw [Ql b1] at hx';exact h.inj k k' i m m' hx hx'
  ·omega
  ·omega
  ·omega
theorem RL.snoc0 {O O':List (Nat×AO)} {B:Nat} {A:List AV} {L:List (List Int)} (h:RL O B A L) (hf:∀(j:Nat) (l:List Int),B<=j->look j O=some (.row 1 (l.map c32))->look j O'=some (.row 1 (l.map c32))):RL O' B (A++[.Xt 1 []]) (L++[[]]):=by
 have h':=h.fr hf;refine ⟨by simp [h.len],fun k x y hx hy=>?_,fun k k' i m m' hx hx'=>?_⟩
 ·rw [List.getElem?_append] at hx hy;rw [h.len] at hx;split at hx
  ·rename_i q;rw [a8 q] at hy;exact h'.row k x y hx hy
  ·rename_i q;rw [QA q] at hy;cases hk:k - L.length with
   | zero=>simp [hk] at hx hy;subst hx hy;exact .inl ⟨rfl,rfl⟩
   | succ j=>simp [hk] at hx
 ·have key:∀j m,(A++[.Xt 1 []])[j]? =some (.row i 1 0 m)->j<A.length:=fun j m hj=>by
   rw [List.getElem?_append] at hj;split at hj
   ·assumption
   ·rename_i q;cases hk:j - A.length with
    | zero=>simp [hk] at hj
    | succ j=>simp [hk] at hj
  have k1:=key k m hx;have k2:=key k' m' hx';rw [Ql k1] at hx;rw [Ql k2] at hx';exact h.inj k k' i m m' hx hx'
theorem RL.set {O:List (Nat×AO)} {B:Nat} {A:List AV} {L:List (List Int)} (h:RL O B A L) {k id m:Nat} (hx:A[k]? =some (.row id 1 0 m)) (l':List Int) (hl':l'.length=m):RL (setl id (.row 1 (l'.map c32)) O) B A (L.set k l'):=by
 have hk:k<A.length:=(Qm.1 hx).1;have hk2:k<L.length:=by rw [<- h.len];exact hk
 refine ⟨by simp [h.len],fun j x l hj hl=>?_,h.inj⟩;rcases h.row k _ _ hx (Qa hk2) with ⟨_,h2⟩ | ⟨id',h1,h2,h3⟩
 ·cases h2
 cases h1;rw [List.getElem?_set] at hl;split at hl
 ·rename_i q;subst q;cases hl;rw [hx] at hj;cases hj;exact .inr ⟨id,by rw [hl'],by rw [aA,a8 rfl,h2];rfl,h3⟩
 ·rename_i q;rcases h.row j x l hj hl with h | ⟨id2,g1,g2,g3⟩
  ·exact .inl h
  ·refine .inr ⟨id2,g1,?_,g3⟩;have:¬id2=id:=fun e=>q (by subst e;subst g1;exact (h.inj j k id2 _ _ hj hx).symm)
   rw [aA,QA this,g2]
theorem RL.snp {O:List (Nat×AO)} {B N:Nat} (n:Nat) {A:List AV} {L:List (List Int)} (h:RL O B A L):mapO (mapO (snap (n+2) ⟨O,N⟩)) (A.map fun x=>[x])=some (L.map (cS 1 c32)):=by
 have key:∀(A:List AV) (L:List (List Int)),A.length=L.length->(∀(k:Nat) (x:AV) (l:List Int),A[k]? =some x->L[k]? =some l->(l=[]/\x= .Xt 1 [])\/∃id,x= .row id 1 0 l.length/\look id O=some (.row 1 (l.map c32))/\B<=id)->
   mapO (mapO (snap (n+2) ⟨O,N⟩)) (A.map fun x=>[x])=some (L.map (cS 1 c32)):=by
  intro A
  induction A with
  | nil=>
   intro L hl _;cases L with
   | nil=>rfl
   | cons=>cases hl
  | cons x A ih=>
   intro L hl hr;cases L with
   | nil=>cases hl
   | cons l L=>
    have ih:=ih L (by simpa using hl) fun k y z hy hz=>hr (k+1) y z (by simpa using hy) (by simpa using hz)
    have h0:=hr 0 x l rfl rfl;have e:mapO (snap (n+2) ⟨O,N⟩) [x]=some (cS 1 c32 l):=by
     rcases h0 with ⟨rfl,rfl⟩ | ⟨id,rfl,h2,_⟩
     ·simp [mapO,cS]
     ·have:=nU (g:=c32) (n:=n+1) (H:=⟨O,N⟩) (fun x=>by simp [c32]) l;have ht:(l.map c32).take l.length=l.map c32:=Qo (by simp);simp [mapO,cS,h2,this,ht]
    rw [nA,nA,mapO,e];simp only [ih]
 exact key A L h.len h.row
def DupP (N:Nat) (O:List (Nat×AO)) (L:List (List Int)) (r:Option (Rt×AH)):Prop:=
 ∃O' N' A,r=some (.val (.row N 1 0 L.length),⟨O',N'⟩)/\look N O'=some (.row 1 (A.map fun x=>[x]))/\RL O' (N+1) A L/\Kp (fun _=>False) N O O'/\Tail O' N'/\N<N'/\NR O'
theorem X5 {O:List (Nat×AO)} {N:Nat} (hT:Tail O N) (hN:NR O) (L:List (List Int)) (hL:L.length<2^40) (hl:∀l∈L,l.length<2^40):
  DupP N O L (aH Φ qK [.slice 1 (L.map (cS 1 c32))] ⟨O,N⟩):=by
 rw [d6 rfl rfl];have t0:=hT N (Qb _);have b1:(L.length:Int)<4611686018427387904:=by omega
 have b2:(L.length:Int)*24<=140737488355328:=by omega
 simp [DF,t0,b1,b2];refine eF L.length (fun i e h=>∃O' N' A,h=⟨O',N'⟩/\A.length=i/\look N O'=some (.row 1 ((A++List.replicate (L.length - i) (.Xt 1 [])).map fun x=>[x]))/\RL O' (N+1) A (L.take i)/\Kp (fun _=>False) N O O'/\Tail O' N'/\N<N'/\NR O'/\
  look 3 e=some (.row N 1 0 L.length)/\look 9 e=some (.slice 1 (L.map (cS 1 c32)))/\look 10 e=some (a7 L.length)/\look 11 e=some (a7 i)) (DupP N O L) ?_ ?_ 0 _ _ (Qc _) ?_
 ·rintro i e _ K hi hK ⟨O',N',A,rfl,hA,hl0,hr,hk,hT',hlt,hN',h3,h9,h10,h11⟩ ih;have hw:=aP i (by omega);have t0:=hT' N' (Qb _);have hll:=hl _ (Qd hi);generalize hx:L[i]=x at hll;have b1:(x.length:Int)<4611686018427387904:=by omega
  have b2:(x.length:Int)*4<=140737488355328:=by omega
  have n1:¬N=N'/\¬N'=N:=by omega
  have al:iQ 1 (x.map c32)=true:=E1 1 c32 x fun x=>by simp
  have hd:L.length - i=(L.length - (i+1))+1:=by omega
  have hAi:i<A.length+(L.length - i):=by omega
  have hAl:A.length+(L.length - i)=L.length:=by omega
  rw [hd] at hl0;have hcs:(L.map (cS 1 c32))[i]? =some (cS 1 c32 x):=by rw [List.getElem?_map,Qa hi,hx];rfl
  simp [c_387_l0,h3,h9,h10,h11,hi,hx,cS,b1,b2,t0,n1,aE,aA,hl0,hA,al,hw];have hlo:∀j y,N+1<=j->look j O'=some y->look j (Go.Av.setl N' (.row 1 (x.map c32)) (Go.Av.setl N (.row 1 (List.map (fun x=>[x]) A++(List.replicate (L.length - (i+1)+1) [AV.Xt 1 []]).set 0 [AV.row N' 1 0 x.length])) (O'++[(N',.row 1 (List.replicate x.length [.int .u32 0]))])))=some y:=fun j y hj hy=>by
   have f:=dI hT' hy (Qb N');have:¬j=N:=by omega
   simp [aA,aE,f,this,hy]
  refine ih _ _ ⟨_,_,A++[.row N' 1 0 x.length],rfl,by simp [hA],?_,?_,?_,?_,by omega,?_,by simp [h3],by simp [h9],by simp [h10],by simp⟩
  ·simp [aA,aE,n1,hl0,MA]
  ·rw [Qh hi,hx];refine hr.snoc hT' (fun j l hj h=>hlo j _ hj h) (Qb _) (by omega) ?_;simp [aA,aE,t0,n1]
  ·refine Kp.setl (Kp.setl (Kp.app hk (by omega)) (.inl (Qb _))) (.inl (by omega))
  ·exact bW (bW (hT'.app1 (Qb _)))
  ·exact ((hN'.app (.one (by simp))).setl (by simp)).setl (by simp)
 ·rintro e _ K hK ⟨O',N',A,rfl,hA,hl0,hr,hk,hT',hlt,hN',h3,h9,h10,h11⟩;simp [c_387_l0,c_387_k1,h3,h10,h11,hK];refine ⟨O',N',A,rfl,?_,?_,hk,hT',hlt,hN'⟩
  ·simpa using hl0
  ·simpa using hr
 ·refine ⟨_,_,[],rfl,rfl,?_,by simpa using RL.nil,Kp.app Kp.refl (Qb _),hT.app1 (Qb _),by omega,hN.app (.one (by simp)),by simp,by simp,by simp,by simp⟩;simp [aE,t0]
theorem QM {O:List (Nat×AO)} {N:Nat} (hT:Tail O N) (hN:NR O) (L:List (List Int)) (hL:L.length<2^40) (hl:∀l∈L,l.length<2^40):
  DupP N O L (aH Φ pS [.slice 1 (L.map (cS 1 c32))] ⟨O,N⟩):=by
 rw [d6 rfl rfl];have t0:=hT N (Qb _);have b1:(L.length:Int)<4611686018427387904:=by omega
 have b2:(L.length:Int)*24<=140737488355328:=by omega
 simp [CE,t0,b1,b2];refine eF L.length (fun i e h=>∃O' N' A,h=⟨O',N'⟩/\A.length=i/\look N O'=some (.row 1 ((A++List.replicate (L.length - i) (.Xt 1 [])).map fun x=>[x]))/\RL O' (N+1) A (L.take i)/\Kp (fun _=>False) N O O'/\Tail O' N'/\N<N'/\NR O'/\
  look 3 e=some (.row N 1 0 L.length)/\look 9 e=some (.slice 1 (L.map (cS 1 c32)))/\look 10 e=some (a7 L.length)/\look 11 e=some (a7 i)) (DupP N O L) ?_ ?_ 0 _ _ (Qc _) ?_
 ·rintro i e _ K hi hK ⟨O',N',A,rfl,hA,hl0,hr,hk,hT',hlt,hN',h3,h9,h10,h11⟩ ih;have hw:=aP i (by omega);have t0:=hT' N' (Qb _);have hll:=hl _ (Qd hi);generalize hx:L[i]=x at hll;have b1:(x.length:Int)<4611686018427387904:=by omega
  have b2:(x.length:Int)*4<=140737488355328:=by omega
  have n1:¬N=N'/\¬N'=N:=by omega
  have al:iQ 1 (x.map c32)=true:=E1 1 c32 x fun x=>by simp
  have hd:L.length - i=(L.length - (i+1))+1:=by omega
  have hAi:i<A.length+(L.length - i):=by omega
  have hAl:A.length+(L.length - i)=L.length:=by omega
  rw [hd] at hl0;have hcs:(L.map (cS 1 c32))[i]? =some (cS 1 c32 x):=by rw [List.getElem?_map,Qa hi,hx];rfl
  simp [c_287_l0,h3,h9,h10,h11,hi,hx,cS,b1,b2,t0,n1,aE,aA,hl0,hA,al,hw];have hlo:∀j y,N+1<=j->look j O'=some y->look j (Go.Av.setl N' (.row 1 (x.map c32)) (Go.Av.setl N (.row 1 (List.map (fun x=>[x]) A++(List.replicate (L.length - (i+1)+1) [AV.Xt 1 []]).set 0 [AV.row N' 1 0 x.length])) (O'++[(N',.row 1 (List.replicate x.length [.int .u32 0]))])))=some y:=fun j y hj hy=>by
   have f:=dI hT' hy (Qb N');have:¬j=N:=by omega
   simp [aA,aE,f,this,hy]
  refine ih _ _ ⟨_,_,A++[.row N' 1 0 x.length],rfl,by simp [hA],?_,?_,?_,?_,by omega,?_,by simp [h3],by simp [h9],by simp [h10],by simp⟩
  ·simp [aA,aE,n1,hl0,MA]
  ·rw [Qh hi,hx];refine hr.snoc hT' (fun j l hj h=>hlo j _ hj h) (Qb _) (by omega) ?_;simp [aA,aE,t0,n1]
  ·refine Kp.setl (Kp.setl (Kp.app hk (by omega)) (.inl (Qb _))) (.inl (by omega))
  ·exact bW (bW (hT'.app1 (Qb _)))
  ·exact ((hN'.app (.one (by simp))).setl (by simp)).setl (by simp)
 ·rintro e _ K hK ⟨O',N',A,rfl,hA,hl0,hr,hk,hT',hlt,hN',h3,h9,h10,h11⟩;simp [c_287_l0,c_287_k1,h3,h10,h11,hK];refine ⟨O',N',A,rfl,?_,?_,hk,hT',hlt,hN'⟩
  ·simpa using hl0
  ·simpa using hr
 ·refine ⟨_,_,[],rfl,rfl,?_,by simpa using RL.nil,Kp.app Kp.refl (Qb _),hT.app1 (Qb _),by omega,hN.app (.one (by simp)),by simp,by simp,by simp,by simp⟩;simp [aE,t0]
theorem U3 (L:List (List Int)) (hL:L.length<2^40) (hl:∀l∈L,l.length<2^40):aB Φ pS [.slice 1 (L.map (cS 1 c32))]=some (.val (.slice 1 (L.map (cS 1 c32)))):=by
 obtain ⟨O',N',A,hr,hl0,hA,_⟩:=QM (O:=[]) (N:=0) (Tail.nil 0) EG L hL hl;have hn:=hA.len;have hs:=hA.snp (N:=N') 37;unfold aB;rw [show H0=⟨[],0⟩ from rfl,hr];have ht:(A.map fun x=>[x]).take L.length=A.map fun x=>[x]:=Qo (by simp [hn])
 simp at hs;simp [nW,hl0,hn,ht,hs]
def hasR (p:Prg) (rs:List (List Int)) (r i:Int):Bool:=match at? p.Xl r,at? rs r with
 | some g,some l=>decide (i<g.size)&&decide (i<l.length)
 | _,_=>false
theorem Nu (p:Prg) (rs:List (List Int)) (r i:Int) (hi:ok32 0 i):aB Φ qJ [.agg (Prg.c p++[.slice 1 (rs.map (cS 1 c32))]),a7 r,.int .u32 i]=some (.val (.bool (hasR p rs r i))):=by
 rw [aD rfl rfl];have hw:IntKind.wrap .i64 i=i:=cM (by have:=hi.1;omega) (by have:=hi.2;omega);unfold hasR;by_cases h0:r<0
 ·simp [jI,Prg.e,h0,gC h0]
 by_cases h1:(p.Xl.length:Int)<=r
 ·simp [jI,Prg.e,h0,h1,iJ h1]
 by_cases h2:(rs.length:Int)<=r
 ·obtain ⟨m,rfl⟩:=l9 (show 0<=r by omega);have hm:m<p.Xl.length:=by omega
  have hm2:¬p.Xl.length<=m:=by omega
  have hm3:rs.length<=m:=by omega
  simp [jI,Prg.e,hm,hm2,hm3]
 obtain ⟨m,rfl⟩:=l9 (show 0<=r by omega);have hm:m<p.Xl.length:=by omega
 have hm2:¬p.Xl.length<=m:=by omega
 have hm3:m<rs.length:=by omega
 have hm4:¬rs.length<=m:=by omega
 by_cases z:i<p.Xl[m].size
 ·simp [jI,Prg.e,Xg.e,hm,hm2,hm3,hm4,hw,z,cS]
 ·simp [jI,Prg.e,Xg.e,hm,hm2,hm3,hm4,hw,z,cS]
theorem Jy {p:Prg} {rs:List (List Int)} {r i:Int} (hi:0<=i) (h:hasR p rs r i=true):∃(m k:Nat) (h1:m<p.Xl.length) (h2:m<rs.length) (h3:k<rs[m].length),r=m/\i=k/\i<p.Xl[m].size:=by
 unfold hasR at h;split at h
 ·rename_i g l hg hl;simp only [cE,decide_eq_true_eq] at h;obtain ⟨m,rfl,hm,rfl⟩:=iG hg;obtain ⟨m',e,hm',rfl⟩:=iG hl;have:m=m':=by omega
  subst this;exact ⟨m,i.toNat,hm,hm',by omega,rfl,by omega,h.1⟩
 ·cases h
theorem SV (p:Prg) (rs:List (List Int)) (r i:Int) (hi:ok32 0 i):aB Φ v6 [.agg (Prg.c p),.slice 1 (rs.map (cS 1 c32)),a7 r,.int .u32 i]=some (.val (.int .u32 (rGet p rs r i))):=by
 rw [aD rfl rfl];have hh:=Nu p rs r i hi;simp only [Prg.e,iU,rT] at hh;cases q:hasR p rs r i with
 | false=>
  have:rGet p rs r i=0:=by
   unfold rGet hasR at*;split
   ·rename_i g l hg hl;rw [hg,hl] at q;simp only [Bool.and_eq_false_iff,decide_eq_false_iff_not] at q;split
    ·rw [iJ (by omega)];rfl
    ·rfl
   ·rfl
  rw [q] at hh;simp [tC,Prg.e,hh,this]
 | true=>
  obtain ⟨m,k,h1,h2,h3,rfl,rfl,h4⟩:=Jy hi.1 q;rw [q] at hh;have:rGet p rs m k=rs[m][k]:=by simp [rGet,h1,h2,h3,h4]
  simp [tC,Prg.e,hh,this,h2,h3,cS,c32]
theorem qzy (p:Prg) (rs:List (List Int)) (hL:rs.length<2^40) (hl:∀l∈rs,l.length<2^40) (r i v:Int) (hi:ok32 0 i) (hv:ok32 0 v):aB Φ qB [.agg (Prg.c p),.slice 1 (rs.map (cS 1 c32)),a7 r,.int .u32 i,.int .u32 v]=some (.val (.slice 1 ((rSet p rs r i v).map (cS 1 c32)))):=by
 rw [aD rfl rfl];have hh:=Nu p rs r i hi;simp only [Prg.e,iU,rT] at hh;obtain ⟨O',N',A,hr,hl0,hA,_,hT,hlt,_⟩:=X5 (O:=[]) (N:=0) (Tail.nil 0) EG rs hL hl;have hn:=hA.len;have ht:(A.map fun x=>[x]).take rs.length=A.map fun x=>[x]:=Qo (by simp [hn])
 cases q:hasR p rs r i with
 | false=>
  have e:rSet p rs r i v=rs:=by
   unfold rSet hasR at*;split
   ·rename_i g l hg hl;rw [hg,hl] at q;simp only [Bool.and_eq_false_iff,decide_eq_false_iff_not] at q;split
    ·rename_i z;obtain ⟨m,rfl,hm,rfl⟩:=iG hl;have:rs[m].length<=i.toNat:=by omega
     rw [List.set_eq_of_length_le this];simp
    ·rfl
   ·rfl
  rw [q] at hh;have hs:=hA.snp (N:=N') 37;simp at hs;rw [e];simp [oW,Prg.e,hr,hh,hl0,hn,ht,hs]
 | true=>
  obtain ⟨m,k,h1,h2,h3,rfl,rfl,h4⟩:=Jy hi.1 q;rw [q] at hh;have hmA:m<A.length:=by omega
  rcases hA.row m _ _ (Qa hmA) (Qa h2) with ⟨z,_⟩ | ⟨id,hx,hlk,hB⟩
  ·rw [z] at h3;simp at h3
  have hxA:A[m]? =some (.row id 1 0 rs[m].length):=by rw [Qa hmA,hx]
  have hid:¬id=0/\¬0=id:=by omega
  have hmk:=gH p.Xl[m].Yc;cases z:wBad p.Xl[m].Yc with
  | true=>
   have e:rSet p rs m k v=rs:=by simp [rSet,h1,h2,z]
   have hm0:cP p.Xl[m].Yc=0:=by simp [cP,z]
   have hs:=hA.snp (N:=N') 37;simp at hs;rw [hm0] at hmk;rw [e];simp [oW,Prg.e,Xg.e,hr,hh,h1,hmk,hl0,hn,ht,hs]
  | false=>
   have e:rSet p rs m k v=rs.set m (rs[m].set k (v % 2^p.Xl[m].Yc.toNat)):=by simp [rSet,h1,h2,z,h4]
   have hw:=AC z;have hp:=Fs (show p.Xl[m].Yc.toNat<=32 by omega);have hm0:0<cP p.Xl[m].Yc:=by
    rw [KT hw.1 hw.2];have:(2:Int)^1<=2^p.Xl[m].Yc.toNat:=by
     rw [<- nE,<- nE];exact Int.ofNat_le.2 (B6 (by decide) (by omega))
    omega
   have hi2:=nB hv hw.1 hw.2;have hs':=(hA.set hxA (rs[m].set k (v % 2^p.Xl[m].Yc.toNat)) (by simp)).snp (N:=N') 37;have hst:(rs[m].map c32).set k [AV.int .u32 (v % 2^p.Xl[m].Yc.toNat)]=(rs[m].set k (v % 2^p.Xl[m].Yc.toNat)).map c32:=by rw [yE];simp [c32]
   simp only [Nat.reduceAdd] at hs';have hAm:A[m]? =some (.row id 1 0 rs[m].length):=hxA;rw [e];simp [oW,Prg.e,Xg.e,hr,hh,h1,hmk,hm0,hl0,hn,hx,h2,h3,hlk,aA,hid,hi2];rw [show (c32 rs[m][k]).tail=[] from rfl,hst,ht,hs'];simp
theorem A4 {t:Nat} {x y:AO} {L:List (Nat×AO)}:∀{O:List (Nat×AO)},look t O=some x->setl t y (O++L)=setl t y O++L
 | [],h=>by cases h
 | (u,w)::r,h=>by
  by_cases q:u=t
  ·subst q;simp
  ·rw [gJ _ _ _ _ q] at h;simp [q,A4 h]
theorem NT {t:Nat} {x:AO} {L:List (Nat×AO)}:∀{O:List (Nat×AO)},look t O=some x->dropl t (O++L)=dropl t O++L
 | [],h=>by cases h
 | (u,w)::r,h=>by
  by_cases q:u=t
  ·subst q;simp
  ·rw [gJ _ _ _ _ q] at h;simp [q,NT h]
def NRw (O:List (Nat×AO)) (B:Nat) (X:AV) (es:List (List AV)):Prop:=(es=[]/\X= .Xt 1 [])\/∃id,X= .row id 1 0 es.length/\look id O=some (.row 1 es)/\B<=id/\es≠[]
theorem NRw.fr {O O':List (Nat×AO)} {B:Nat} {X:AV} {es:List (List AV)} (h:NRw O B X es) (hf:∀j,B<=j->look j O=some (.row 1 es)->look j O'=some (.row 1 es)):NRw O' B X es:=by
 rcases h with h | ⟨id,h1,h2,h3,h4⟩
 ·exact .inl h
 ·exact .inr ⟨id,h1,hf id h3 h2,h3,h4⟩
theorem NRw.snp {O:List (Nat×AO)} {B N n:Nat} {X:AV} {es:List (List AV)} (h:NRw O B X es) {es':List (List AV)} (hs:mapO (mapO (snap n ⟨O,N⟩)) es=some es'):snap (n+1) ⟨O,N⟩ X=some (.slice 1 es'):=by
 rcases h with ⟨rfl,rfl⟩ | ⟨id,rfl,h2,_⟩
 ·simp [mapO] at hs;subst hs;simp
 ·simp [h2,hs]
structure EM (O:List (Nat×AO)) (B:Nat) (V F M:AV) (A:List AV) (e:Envt):Prop where
 v:NRw O B V (e.valid.map cB)
 m:NRw O B M (e.metaF.map c32)
 f:NRw O B F (A.map fun x=>[x])
 r:RL O B A e.Xz
 mne:∀(k id n n':Nat),A[k]? =some (.row id 1 0 n)->M≠ .row id 1 0 n'
theorem qwe (a:AV) (h:AH):aH Φ jL [a] h=go Φ (finC oL.results) [.c oL.body] .normal ⟨dV 0 [a],h⟩:=d6 rfl rfl
theorem qwf (a:AV) (h:AH):aH Φ iC [a] h=go Φ (finC oM.results) [.c oM.body] .normal ⟨dV 0 [a],h⟩:=d6 rfl rfl
theorem qyv (l:List Bool):anyL (fun c=> !flat aK c) (l.map cB).flatten=false:=by
 refine Dw fun x hx=>?_
 obtain ⟨y,hy,hx⟩:=zD.1 hx;obtain ⟨b,_,rfl⟩:=iO.1 hy;simp [cB] at hx;subst hx;rfl
theorem qyw (l:List Int):anyL (fun c=> !flat aK c) (l.map c32).flatten=false:=by
 refine Dw fun x hx=>?_
 obtain ⟨y,hy,hx⟩:=zD.1 hx;obtain ⟨b,_,rfl⟩:=iO.1 hy;simp [c32] at hx;subst hx;rfl
theorem RX (l:List Bool) (hl:l.length<2^40) (nx:Nat) (H:AH):kY (aH Φ) jL [.Xt 1 [[.slice 1 (l.map cB)]]] nx H=if l=[] then some (.val (.Xt 1 []),H) else some (.val (.row nx 1 0 l.length),H.put nx (.row 1 (l.map cB))):=by
 have w1:IntKind.wrap .i64 1=1:=rfl;have hb:l.length<=70368744177664:=by omega
 have al:iQ 1 (l.map cB)=true:=E1 1 cB l fun x=>by simp
 have hs:mapO (mapO (snap aK ⟨[(0,.row 1 (l.map cB))],1⟩)) (l.map cB)=some (l.map cB):=nU (g:=cB) (fun x=>by simp [cB]) l;unfold kY;rw [show mapO (snap aK H) [AV.Xt 1 [[.slice 1 (l.map cB)]]]=some [AV.slice 1 [[.slice 1 (l.map cB)]]] by simp];simp only;rw [qwe];simp [oL];rw [cL];by_cases z:l=[]
 ·subst z;simp [c_270_l0,w1];rw [cL];simp [c_270_l0,c_270_k1]
 ·rw [QA z];simp [c_270_l0,w1,z,al,hb];rw [cL];have hf:=qyv l;rw [show aK=40 from rfl] at hs hf;simp [c_270_l0,c_270_k1,hs,hf]
theorem Kt (l:List Int) (hl:l.length<2^40) (nx:Nat) (H:AH):kY (aH Φ) iC [.Xt 1 [[.slice 1 (l.map c32)]]] nx H=if l=[] then some (.val (.Xt 1 []),H) else some (.val (.row nx 1 0 l.length),H.put nx (.row 1 (l.map c32))):=by
 have w1:IntKind.wrap .i64 1=1:=rfl;have hb:l.length*4<=70368744177664:=by omega
 have al:iQ 1 (l.map c32)=true:=E1 1 c32 l fun x=>by simp
 have hs:mapO (mapO (snap aK ⟨[(0,.row 1 (l.map c32))],1⟩)) (l.map c32)=some (l.map c32):=nU (g:=c32) (fun x=>by simp [c32]) l;unfold kY;rw [show mapO (snap aK H) [AV.Xt 1 [[.slice 1 (l.map c32)]]]=some [AV.slice 1 [[.slice 1 (l.map c32)]]] by simp];simp only;rw [qwf];simp [oM];rw [cL];by_cases z:l=[]
 ·subst z;simp [c_271_l0,w1];rw [cL];simp [c_271_l0,c_271_k1]
 ·rw [QA z];simp [c_271_l0,w1,z,al,hb];rw [cL];have hf:=qyw l;rw [show aK=40 from rfl] at hs hf;simp [c_271_l0,c_271_k1,hs,hf]
theorem RY (l:List Int) (hl:l.length<2^40):aB Φ pO [.slice 1 [[.slice 1 (l.map c8)]]]=some (.val (.slice 1 (l.map c8))):=by
 rw [aD rfl rfl];have w1:IntKind.wrap .i64 1=1:=rfl;have hb:l.length<=70368744177664:=by omega
 have al:iQ 1 (l.map c8)=true:=E1 1 c8 l fun x=>by simp
 simp [C9];rw [cL];simp [c_272_l0,w1,al,hb];rw [cL];simp [c_272_l0,c_272_k1]
def clR (V F M:AV) (pay:List Int):AV:= .agg [V,F,M,.slice 1 (pay.map c8)]
def ClP (N:Nat) (O:List (Nat×AO)) (e:Envt) (r:Option (Rt×AH)):Prop:=
 ∃O' N' V F M A,r=some (.val (clR V F M e.payload),⟨O',N'⟩)/\EM O' N V F M A e/\Kp (fun _=>False) N O O'/\Tail O' N'/\N<=N'/\NR O'
structure EvS (e:Envt):Prop where
 v:e.valid.length<2^40
 f:e.Xz.length<2^40
 g:∀l∈e.Xz,l.length<2^40
 m:e.metaF.length<2^40
 p:e.payload.length<2^40
def z4:List AV:=[.Xt 1 [],.Xt 1 [],.Xt 1 [],.Xt 1 []]
structure CI (O0:List (Nat×AO)) (N:Nat) (e:Envt) (a b i:Nat) (E:Env) (O':List (Nat×AO)) (N':Nat) (V F M:AV) (A:List AV):Prop where
 e2:look 2 E=some (.ptr a 4 0 0)
 e3:look 3 E=some (.ptr b 4 0 0)
 e20:look 20 E=some (.slice 1 (e.Xz.map (cS 1 c32)))
 e21:look 21 E=some (a7 e.Xz.length)
 e22:look 22 E=some (a7 i)
 la:look a O'=some (.row 4 [z4])
 lb:look b O'=some (.row 4 [[V,F,M,.slice 1 (e.payload.map c8)]])
 v:NRw O' N V (e.valid.map cB)
 m:NRw O' N M (e.metaF.map c32)
 f:NRw O' N F (A.map fun x=>[x])
 r:RL O' N A (e.Xz.take i)
 mne:∀(k id n n':Nat),A[k]? =some (.row id 1 0 n)->M≠ .row id 1 0 n'
 kp:Kp (fun _=>False) N O0 O'
 t:Tail O' N'
 nr:NR O'
 hN:N<=N'
 an:N<=a
 bn:N<=b
theorem RL.head {O:List (Nat×AO)} {B:Nat} {A:List AV} {L:List (List Int)} (h:RL O B A L) {es:List (List AV)} (he:∀x∈es,(∃b,x=[.bool b])\/∃k n,x=[.int k n]) (hA:(A.map fun x=>[x])=es):es=[]:=by
 cases A with
 | nil=>exact hA.symm
 | cons a A=>
  exfalso;subst hA;have h1:=he [a] (by simp);cases L with
  | nil=>have:=h.len;simp at this
  | cons l L=>
   rcases h.row 0 a l rfl rfl with ⟨_,rfl⟩ | ⟨id,rfl,_⟩<;>rcases h1 with ⟨b,h⟩ | ⟨k,n,h⟩<;>simp at h
theorem Mg {O0:List (Nat×AO)} {N:Nat} {e:Envt} {a b i:Nat} {E E':Env} {O' O1:List (Nat×AO)} {N':Nat} {V F M X:AV} {A:List AV} {L:List (Nat×AO)} (h:CI O0 N e a b i E O' N' V F M A) (hi:i<e.Xz.length) {x:List Int} (hx:e.Xz[i]=x)
  (hE:∀t,t=2\/t=3\/t=20\/t=21->look t E'=look t E) (hE2:look 22 E'=some (a7 (i+1:Nat)))
  (hb:look b O1=some (.row 4 [[V,.row (N'+32) 1 0 (A.length+1),M,.slice 1 (e.payload.map c8)]]))
  (hk:∀j y,look j O'=some y->j≠b->(∀n,F≠ .row j 1 0 n)->look j O1=some y) (hkp:∀j,j<N->look j O1=look j O') (hT1:Tail O1 N') (hn1:NR O1)
  (hX:(x=[]/\X= .Xt 1 []/\L=[(N'+31,.row 1 [[X]]),(N'+32,.row 1 ((A++[X]).map fun x=>[x]))])\/
   (x≠[]/\X= .row (N'+30) 1 0 x.length/\L=[(N'+30,.row 1 (x.map c32)),(N'+31,.row 1 [[X]]),(N'+32,.row 1 ((A++[X]).map fun x=>[x]))])):
  CI O0 N e a b (i+1) E' (O1++L) (N'+33) V (.row (N'+32) 1 0 (A.length+1)) M (A++[X]):=by
 obtain ⟨e2,e3,e20,e21,e22,la,lb,v,m,f,r,mne,kp,hT,nr,hN,an,bn⟩:=h;have ab:a≠b:=bO la lb (by simp [z4]);have app:∀j y,look j O1=some y->look j (O1++L)=some y:=fun j y h=>by rw [aE,h];rfl
 have key:∀(es:List (List AV)),(∀x∈es,(∃b,x=[.bool b])\/∃k n,x=[.int k n])->∀j,look j O'=some (.row 1 es)->es≠[]->look j (O1++L)=some (.row 1 es):=fun es he j hj hne=>by
  refine app j _ (hk j _ hj (bO hj lb (by simp)) fun n hF=>?_);rcases f with ⟨_,hF2⟩ | ⟨id,hF2,lF,_,_⟩
  ·rw [hF2] at hF;cases hF
  ·rw [hF2] at hF;cases hF;rw [lF] at hj;injection hj with hj
   injection hj with _ hj
   exact hne (r.head he hj)
 have hL2:look (N'+32) (O1++L)=some (.row 1 ((A++[X]).map fun x=>[x])):=by
  rw [aE,hT1 _ (by omega)];rcases hX with ⟨_,_,rfl⟩ | ⟨_,_,rfl⟩<;>simp
 have tk:e.Xz.take (i+1)=e.Xz.take i++[x]:=by rw [Qh hi,hx]
 have rf:∀(j:Nat) (l:List Int),N<=j->look j O'=some (.row 1 (l.map c32))->look j (O1++L)=some (.row 1 (l.map c32)):=fun j l _ hj=>by
  by_cases z:l.map c32=[]
  ·refine app j _ (hk j _ hj (bO hj lb (by simp)) fun n hF=>?_);rcases f with ⟨_,hF2⟩ | ⟨id,hF2,lF,_,hne⟩
   ·rw [hF2] at hF;cases hF
   ·rw [hF2] at hF;cases hF;rw [lF,z] at hj;injection hj with hj
    injection hj with _ hj
    exact hne hj
  ·exact key _ (fun x hx=>by obtain ⟨y,_,rfl⟩:=iO.1 hx;exact .inr ⟨_,_,rfl⟩) j hj z
 refine ⟨by rw [hE 2 (by simp),e2],by rw [hE 3 (by simp),e3],by rw [hE 20 (by simp),e20],by rw [hE 21 (by simp),e21],hE2,?_,app b _ hb,?_,?_,?_,?_,?_,?_,?_,?_,by omega,an,bn⟩
 ·refine app a _ (hk a _ la ab fun n hF=>?_);rcases f with ⟨_,hF2⟩ | ⟨id,hF2,lF,_,_⟩
  ·rw [hF2] at hF;cases hF
  ·rw [hF2] at hF;cases hF;rw [lF] at la;cases la
 ·rcases v with v | ⟨id,h1,h2,h3,h4⟩
  ·exact .inl v
  ·exact .inr ⟨id,h1,key _ (fun x hx=>by obtain ⟨y,_,rfl⟩:=iO.1 hx;exact .inl ⟨_,rfl⟩) id h2 h4,h3,h4⟩
 ·rcases m with m | ⟨id,h1,h2,h3,h4⟩
  ·exact .inl m
  ·exact .inr ⟨id,h1,key _ (fun x hx=>by obtain ⟨y,_,rfl⟩:=iO.1 hx;exact .inr ⟨_,_,rfl⟩) id h2 h4,h3,h4⟩
 ·exact .inr ⟨N'+32,by simp,hL2,by omega,by simp⟩
 ·rw [tk];rcases hX with ⟨rfl,rfl,_⟩ | ⟨_,rfl,rfl⟩
  ·exact r.snoc0 rf
  ·refine r.snoc hT rf (by omega) (by omega) ?_;rw [aE,hT1 _ (by omega)];simp
 ·intro k id n n' hk2 hM;rw [List.getElem?_append] at hk2;split at hk2
  ·exact mne k id n n' hk2 hM
  ·rcases m with ⟨_,hm⟩ | ⟨id',hm,lm,_⟩
   ·rw [hm] at hM;cases hM
   ·rw [hm] at hM;cases hM;have:=hT.lt lm;cases hkk:k - A.length with
    | zero=>
     rw [hkk] at hk2;simp at hk2;rcases hX with ⟨_,rfl,_⟩ | ⟨_,rfl,_⟩
     ·cases hk2
     ·cases hk2;omega
    | succ j=>rw [hkk] at hk2;simp at hk2
 ·intro j hj hx2;rw [aE];have h1:=kp j hj hx2;rw [hkp j hj,h1];cases hz:look j O0 with
  | some y=>rfl
  | none=>
   rcases hX with ⟨_,_,rfl⟩ | ⟨_,_,rfl⟩<;>simp<;>(repeat rw [gJ _ _ _ _ (by omega)])<;>rfl
 ·rcases hX with ⟨_,_,rfl⟩ | ⟨_,_,rfl⟩<;>simp only [Tail_append_iff,Tail_cons_iff]<;>exact ⟨hT1.mono (by omega),by omega,by omega,by first | exact Tail.nil _ | exact ⟨by omega,Tail.nil _⟩⟩
 ·rcases hX with ⟨_,_,rfl⟩ | ⟨_,_,rfl⟩
  ·exact hn1.app (cK (by simp) (.one (by simp)))
  ·exact hn1.app (cK (by simp) (cK (by simp) (.one (by simp))))
theorem UU {O0:List (Nat×AO)} {N:Nat} {e:Envt} (s:EvS e) {a b:Nat} {E:Env} {O':List (Nat×AO)} {N':Nat} {V F M:AV} {A:List AV} (h:CI O0 N e a b 0 E O' N' V F M A):
  ClP N O0 e (go Φ (finC gX.results) [.c (.loop c_171_l0),.b 0,.c c_171_k1] .normal ⟨E,⟨O',N'⟩⟩):=by
 refine eF e.Xz.length (fun i E h=>∃O' N' V F M A,h=⟨O',N'⟩/\CI O0 N e a b i E O' N' V F M A) _ ?_ ?_ 0 _ _ (Qc _) ⟨_,_,_,_,_,_,rfl,h⟩
 ·rintro i E _ K hi hK ⟨O',N',V,F,M,A,rfl,h⟩ ih;have hw:IntKind.wrap .i64 ((i:Int)+1)=((i+1:Nat):Int):=cM (by omega) (by have:=s.f;omega);have t:∀k,look (N'+k) O'=none:=fun k=>h.t _ (by omega)
  have t0:=h.t N' (Qb _);have h0:=h;obtain ⟨e2,e3,e20,e21,e22,la,lb,v,m,f,r,mne,kp,hT,nr,hN,an,bn⟩:=h;generalize hx:e.Xz[i]=x;have jU:=Kt x (by rw [<- hx];exact s.g _ (Qd hi));have fb:=fun k=>dI (n:=N'+k) hT lb (by omega)
  have bq:∀k,(b == N'+k)=false:=fun k=>by have:=fb k;simp;omega
  have hfl:=s.f;have hE:∀(E2:Env),(∀t,t=2\/t=3\/t=20\/t=21->look t E2=look t E)->∀t,t=2\/t=3\/t=20\/t=21->look t E2=look t E:=fun _ h=>h
  rcases f with ⟨hA,rfl⟩ | ⟨id,rfl,lF,hid,hne⟩
  ·have hA':A=[]:=by simpa using hA
   subst hA';have fin:∀{E2:Env} {Y:List AV} {L:List (Nat×AO)} {X:AV},(∀t,t=2\/t=3\/t=20\/t=21->look t E2=look t E)->look 22 E2=some (a7 (i+1:Nat))->Y=[V,.row (N'+32) 1 0 1,M,.slice 1 (e.payload.map c8)]->
     ((x=[]/\X= .Xt 1 []/\L=[(N'+31,.row 1 [[X]]),(N'+32,.row 1 [[X]])])\/(x≠[]/\X= .row (N'+30) 1 0 x.length/\L=[(N'+30,.row 1 (x.map c32)),(N'+31,.row 1 [[X]]),(N'+32,.row 1 [[X]])]))->
     ClP N O0 e (go Φ (finC gX.results) K .normal ⟨E2,⟨setl b (.row 4 [Y]) O'++L,N'+33⟩⟩):=fun {E2 Y L X} hE hE2 hY hX=>
    ih _ _ ⟨_,_,V,_,M,_,rfl,Mg h0 hi hx hE hE2 (by rw [aA,a8 rfl,lb,hY];rfl) (fun j y hj hjb _=>by rw [aA,QA hjb,hj]) (fun j hj=>by rw [aA,QA (by omega)]) (bW hT) (nr.setl (by simp)) hX⟩
   by_cases zx:x=[]
   ·simp [zx] at jU;have hx':=hx;rw [zx] at hx';simp [c_171_l0,e2,e3,e20,e21,e22,hi,hx',cS,hw,t0,t,eC,jU,lb,aE,aA,mR,nr.eq,nr.sw,eL,fb,bq,A4 lb];exact fin (by rintro t (rfl | rfl | rfl | rfl)<;>simp) (by simp) rfl (.inl ⟨zx,rfl,rfl⟩)
   ·simp [zx] at jU;simp [c_171_l0,e2,e3,e20,e21,e22,hi,hx,cS,hw,t0,t,eC,jU,lb,aE,aA,mR,nr.eq,nr.sw,eL,fb,bq,A4 lb];exact fin (by rintro t (rfl | rfl | rfl | rfl)<;>simp) (by simp) rfl (.inr ⟨zx,rfl,rfl⟩)
  ·have ib:¬id=b/\¬b=id:=by
    have:=bO lF lb (by simp);exact ⟨this,fun e=>this e.symm⟩
   have fi:=fun k=>dI (n:=N'+k) hT lF (by omega)
   have iq:∀k,(id == N'+k)=false:=fun k=>by have:=fi k;simp;omega
   have hb:(A.length+1)*24<=70368744177664:=by have:=r.len;simp at this;omega
   have lb1:look b (dropl id O')=_:=(yJ ib.2 O').trans lb;have fin:∀{E2:Env} {Y:List AV} {L:List (Nat×AO)} {X:AV},(∀t,t=2\/t=3\/t=20\/t=21->look t E2=look t E)->look 22 E2=some (a7 (i+1:Nat))->Y=[V,.row (N'+32) 1 0 (A.length+1),M,.slice 1 (e.payload.map c8)]->
     ((x=[]/\X= .Xt 1 []/\L=[(N'+31,.row 1 [[X]]),(N'+32,.row 1 ((A.map fun x=>[x])++[[X]]))])\/(x≠[]/\X= .row (N'+30) 1 0 x.length/\L=[(N'+30,.row 1 (x.map c32)),(N'+31,.row 1 [[X]]),(N'+32,.row 1 ((A.map fun x=>[x])++[[X]]))]))->
     ClP N O0 e (go Φ (finC gX.results) K .normal ⟨E2,⟨setl b (.row 4 [Y]) (dropl id O')++L,N'+33⟩⟩):=fun {E2 Y L X} hE hE2 hY hX=>
    ih _ _ ⟨_,_,V,_,M,_,rfl,Mg h0 hi hx hE hE2 (by rw [aA,a8 rfl,lb1,hY];rfl) (fun j y hj hjb hjF=>by
     have:j≠id:=fun e=>hjF _ (by rw [e])
     rw [aA,QA hjb,yJ this,hj]) (fun j hj=>by rw [aA,QA (by omega),yJ (by omega)]) (bW (Gt hT)) (nr.dropl.setl (by simp)) (by simpa using hX)⟩
   by_cases zx:x=[]
   ·simp [zx] at jU;have hx':=hx;rw [zx] at hx';simp [c_171_l0,e2,e3,e20,e21,e22,hi,hx',cS,hw,t0,t,eC,jU,lb,lF,aE,aA,yJ,mR,nr.eq,eL,fb,bq,ib,fi,iq,hb,NT lF,A4 lb1,nr.dropl.sw];exact fin (by rintro t (rfl | rfl | rfl | rfl)<;>simp) (by simp) rfl (.inl ⟨zx,rfl,rfl⟩)
   ·simp [zx] at jU;simp [c_171_l0,e2,e3,e20,e21,e22,hi,hx,cS,hw,t0,t,eC,jU,lb,lF,aE,aA,yJ,mR,nr.eq,eL,fb,bq,ib,fi,iq,hb,NT lF,A4 lb1,nr.dropl.sw];exact fin (by rintro t (rfl | rfl | rfl | rfl)<;>simp) (by simp) rfl (.inr ⟨zx,rfl,rfl⟩)
 ·rintro E _ K hK ⟨O',N',V,F,M,A,rfl,h⟩;obtain ⟨e2,e3,e20,e21,e22,la,lb,v,m,f,r,mne,kp,hT,nr,hN,an,bn⟩:=h;rw [kW] at r;have ab:a≠b:=bO la lb (by simp [z4]);have ba:¬b=a:=fun e=>ab e.symm
  rw [z4] at la;simp [gX,c_171_l0,c_171_k1,e2,e3,e20,e21,e22,la,lb,aA] at hK ⊢;simp [c_171_k1,hK,e2,e3,la,lb,aA];have ne:∀{es:List (List AV)} {j:Nat},look j O'=some (.row 1 es)->look j (setl a (.row 4 [[V,F,M,.slice 1 (e.payload.map c8)]]) O')=some (.row 1 es):=fun {es j} h=>by
   rw [aA,QA (bO h la (by simp)),h]
  exact ⟨_,_,V,F,M,A,rfl,⟨v.fr fun j _ h=>ne h,m.fr fun j _ h=>ne h,f.fr fun j _ h=>ne h,r.fr fun j l _ h=>ne h,mne⟩,kp.setl (.inl an),bW hT,hN,nr.setl (by simp)⟩
theorem Ce {O:List (Nat×AO)} {N:Nat} (hT:Tail O N) (hN:NR O) (e:Envt) (s:EvS e):ClP N O e (aH Φ cV [.agg e.c] ⟨O,N⟩):=by
 rw [d6 rfl rfl];have t:∀k,look (N+k) O=none:=fun k=>hT _ (by omega)
 have t0:=hT N (Qb _);have jB:=RX e.valid s.v;have jU:=Kt e.metaF s.m;have jP:=RY e.payload s.p;have bq:∀k,0<k->(N == N+k)=false/\(N+k == N)=false:=fun k hk=>by simp;omega
 have fin:∀{E2:Env} {V M:AV} {x:List AV} {L:List (Nat×AO)},look 2 E2=some (.ptr (N+1) 4 0 0)->look 3 E2=some (.ptr (N+5) 4 0 0)->look 20 E2=some (.slice 1 (e.Xz.map (cS 1 c32)))->look 21 E2=some (a7 e.Xz.length)->look 22 E2=some (a7 (0:Nat))->
   look (N+1) L=some (.row 4 [z4])->look (N+5) L=some (.row 4 [[V,.Xt 1 [],M,.slice 1 (e.payload.map c8)]])->NRw L N V (e.valid.map cB)->NRw L N M (e.metaF.map c32)->(∀j,j<N->look j L=none)->Tail L (N+16)->NR L->
   ClP N O e (go Φ (finC gX.results) [.c (.loop c_171_l0),.b 0,.c c_171_k1] .normal ⟨E2,⟨O++L,N+16⟩⟩):=fun {E2 V M x L} h2 h3 h20 h21 h22 hl1 hl5 hv hm hlt hTL hNL=>
  have hw:∀j y,N<=j->look j L=some y->look j (O++L)=some y:=fun j y hj hl=>by rw [aE,hT j hj,hl];rfl
  UU s (a:=N+1) (b:=N+5) (A:=[]) ⟨h2,h3,h20,h21,h22,hw _ _ (by omega) hl1,hw _ _ (by omega) hl5,hv.fr fun j h1 h2=>hw _ _ h1 h2,hm.fr fun j h1 h2=>hw _ _ h1 h2,.inl ⟨rfl,rfl⟩,by simpa using RL.nil,by simp,fun j hj _=>by
   rw [aE,hlt j hj];simp,Tail_append_iff.2 ⟨hT.mono (by omega),hTL⟩,hN.app hNL,by omega,by omega,by omega⟩
 have lt1:∀{u j:Nat} {y:AO} {r:List (Nat×AO)},j<u->look j r=none->look j ((u,y)::r)=none:=fun {u j y r} h1 h2=>by rw [gJ _ _ _ _ (by omega),h2]
 have ne1:∀k j,j<N->N+k≠j:=fun k j h=>by omega
 have lt6:∀k,k<16->N+k<N+16:=fun k h=>by omega
 by_cases zv:e.valid=[]<;>by_cases zm:e.metaF=[]<;>simp [zv] at jB<;>simp [zm] at jU
 all_goals
  simp [gX,Envt.ce,t0,t,eC,zv,zm,jB,jU,jP,aE,aA,mR,hN.eq,eL,bq]
 ·refine fin (V:= .Xt 1 []) (M:= .Xt 1 []) (x:=[]) (by simp) (by simp) (by simp) (by simp) (by simp) (by simp [z4]) (by simp) (.inl ⟨by simp [zv],rfl⟩) (.inl ⟨by simp [zm],rfl⟩) ?_ ?_ ?_
  ·intro j hj
   repeat first | exact NO _ | refine (gJ _ _ _ _ (ne1 0 _ hj)).trans ?_ | refine (gJ _ _ _ _ (ne1 _ _ hj)).trans ?_
  ·simp only [Tail_cons_iff];exact ⟨lt6 0 (by decide),lt6 1 (by decide),lt6 _ (by decide),Tail.nil _⟩
  ·exact cK (by simp) (cK (by simp) (cK (by simp) (EG)))
 ·refine fin (V:= .Xt 1 []) (M:= .row (N+15) 1 0 e.metaF.length) (x:=[]) (by simp) (by simp) (by simp) (by simp) (by simp) (by simp [z4]) (by simp) (.inl ⟨by simp [zv],rfl⟩) (.inr ⟨N+15,by simp,by simp,by omega,by simpa using zm⟩) ?_ ?_ ?_
  ·intro j hj
   repeat first | exact NO _ | refine (gJ _ _ _ _ (ne1 0 _ hj)).trans ?_ | refine (gJ _ _ _ _ (ne1 _ _ hj)).trans ?_
  ·simp only [Tail_cons_iff];exact ⟨lt6 0 (by decide),lt6 1 (by decide),lt6 _ (by decide),lt6 _ (by decide),Tail.nil _⟩
  ·exact cK (by simp) (cK (by simp) (cK (by simp) (cK (by simp) (EG))))
 ·refine fin (V:= .row (N+11) 1 0 e.valid.length) (M:= .Xt 1 []) (x:=[]) (by simp) (by simp) (by simp) (by simp) (by simp) (by simp [z4]) (by simp) (.inr ⟨N+11,by simp,by simp,by omega,by simpa using zv⟩) (.inl ⟨by simp [zm],rfl⟩) ?_ ?_ ?_
  ·intro j hj
   repeat first | exact NO _ | refine (gJ _ _ _ _ (ne1 0 _ hj)).trans ?_ | refine (gJ _ _ _ _ (ne1 _ _ hj)).trans ?_
  ·simp only [Tail_cons_iff];exact ⟨lt6 0 (by decide),lt6 1 (by decide),lt6 _ (by decide),lt6 _ (by decide),Tail.nil _⟩
  ·exact cK (by simp) (cK (by simp) (cK (by simp) (cK (by simp) (EG))))
 ·refine fin (V:= .row (N+11) 1 0 e.valid.length) (M:= .row (N+15) 1 0 e.metaF.length) (x:=[]) (by simp) (by simp) (by simp) (by simp) (by simp) (by simp [z4]) (by simp) (.inr ⟨N+11,by simp,by simp,by omega,by simpa using zv⟩) (.inr ⟨N+15,by simp,by simp,by omega,by simpa using zm⟩) ?_ ?_ ?_
  ·intro j hj
   repeat first | exact NO _ | refine (gJ _ _ _ _ (ne1 0 _ hj)).trans ?_ | refine (gJ _ _ _ _ (ne1 _ _ hj)).trans ?_
  ·simp only [Tail_cons_iff];exact ⟨lt6 0 (by decide),lt6 1 (by decide),lt6 _ (by decide),lt6 _ (by decide),lt6 _ (by decide),Tail.nil _⟩
  ·exact cK (by simp) (cK (by simp) (cK (by simp) (cK (by simp) (cK (by simp) (EG)))))
theorem NRw.len {O:List (Nat×AO)} {B:Nat} {X:AV} {es:List (List AV)} (h:NRw O B X es):lenOf X=some es.length:=by
 rcases h with ⟨rfl,rfl⟩ | ⟨id,rfl,_⟩<;>rfl
theorem NRw.sU {O:List (Nat×AO)} {B N:Nat} {X:AV} {l:List Int} (h:NRw O B X (l.map c32)):snap 40 ⟨O,N⟩ X=some (.slice 1 (l.map c32)):=h.snp (n:=39) (nU (g:=c32) (fun x=>by simp [c32]) l)
theorem NRw.sB {O:List (Nat×AO)} {B N:Nat} {X:AV} {l:List Bool} (h:NRw O B X (l.map cB)):snap 40 ⟨O,N⟩ X=some (.slice 1 (l.map cB)):=h.snp (n:=39) (nU (g:=cB) (fun x=>by simp [cB]) l)
theorem bK {O L:List (Nat×AO)} {j:Nat} {y:AO} (h:look j O=some y):look j (O++L)=some y:=by rw [aE,h];rfl
theorem EM.app {O:List (Nat×AO)} {B:Nat} {V F M:AV} {A:List AV} {e:Envt} (h:EM O B V F M A e) (L:List (Nat×AO)):EM (O++L) B V F M A e:=
 ⟨h.v.fr fun _ _ h=>bK h,h.m.fr fun _ _ h=>bK h,h.f.fr fun _ _ h=>bK h,h.r.fr fun _ _ _ h=>bK h,h.mne⟩
def ElP (N:Nat) (O:List (Nat×AO)) (M:AV) (A:List AV) (e:Envt) (h f:Int) (r:Option (Rt×AH)):Prop:=
 ∃X L N',r=some (.val (.tup [X,.bool (eHas e h f)]),⟨O++L,N'⟩)/\Tail (O++L) N'/\NR (O++L)/\N<=N'/\(eHas e h f=true->(h= -1/\X=M)\/∃k:Nat,h=k/\A[k]? =some X)
theorem Q3 {O:List (Nat×AO)} {N B:Nat} (hT:Tail O N) (hN:NR O) {V F M:AV} {A:List AV} {e:Envt} (m:EM O B V F M A e) (h f:Int) (P:AV):
  ElP N O M A e h f (aH Φ i9 [.agg [V,F,M,P],.agg [a7 h,a7 f]] ⟨O,N⟩):=by
 rw [d6 rfl rfl];have t0:=hT N (Qb _);have t1:=hT (N+1) (by omega);have n1:¬N=N+1:=by omega
 have hi:=Fe;have fin:∀{X:AV} {x y:AO} {b:Bool},b=eHas e h f->x≠ .res->y≠ .res->(eHas e h f=true->(h= -1/\X=M)\/∃k:Nat,h=k/\A[k]? =some X)->ElP N O M A e h f (some (.val (.tup [X,.bool b]),⟨O++[(N,x),(N+1,y)],N+2⟩)):=fun {X x y b} hb hx hy hh=>by
  rw [hb];exact ⟨X,_,_,rfl,Tail_append_iff.2 ⟨hT.mono (by omega),Tail_cons_iff.2 ⟨by omega,Tail_cons_iff.2 ⟨by omega,Tail.nil _⟩⟩⟩,hN.app (cK hx (.one hy)),by omega,hh⟩
 by_cases hm:h= -1
 ·subst hm;have sM:=fun L n=>NRw.sU (N:=n) (m.app L).m
  have e1:eHas e (-1) f=decide (0<=f/\f<(e.metaF.map c32).length):=by simp [eHas,HO]
  simp [dP,t0,t1,n1,sM,hi,aE];exact fin (by rw [e1];simp) (by simp) (by simp) fun _=> .inl ⟨rfl,rfl⟩
 have sV:=fun L n=>NRw.sB (N:=n) (m.app L).v
 have hv:=Nr e.valid h;have hlF:=m.f.len;rw [n9,m.r.len] at hlF;have out:(at? e.Xz h)=none->eHas e h f=false:=fun z=>by simp [eHas,hm,z]
 by_cases h0:h<0
 ·have z:=out (gC h0);rw [gC h0] at hv;simp at hv;simp [dP,t0,t1,n1,sV,hi,aE,hm,rX,bZ,h0,hv,hlF,-lenOf];exact fin (by rw [z]) (by simp) (by simp) fun q=>by rw [z] at q;cases q
 by_cases h1:(e.Xz.length:Int)<=h
 ·have z:=out (iJ h1);cases q:(at? e.valid h).getD false with
  | false=>
   rw [q] at hv;simp [dP,t0,t1,n1,sV,hi,aE,hm,rX,bZ,h0,h1,hv,hlF,-lenOf];exact fin (by rw [z]) (by simp) (by simp) fun q=>by rw [z] at q;cases q
  | true=>
   rw [q] at hv;have hi0:=Fe [] f;have e0:decide (0<=f/\f<(([]:List (List AV)).length:Int))=false:=by simp
   rw [e0] at hi0;simp [dP,t0,t1,n1,sV,hi0,aE,hm,rX,bZ,h0,h1,hv,hlF,-lenOf];exact fin (by rw [z]) (by simp) (by simp) fun q=>by rw [z] at q;cases q
 obtain ⟨k,rfl⟩:=l9 (show 0<=h by omega);have hk:k<e.Xz.length:=by omega
 have hk2:¬e.Xz.length<=k:=by omega
 have hkA:k<A.length:=by rw [m.r.len];exact hk
 rcases m.f with ⟨hA,rfl⟩ | ⟨id,rfl,lF,hid,hne⟩
 ·simp at hA;rw [hA] at hkA;simp at hkA
 have fi:=dI hT lF (Qb N);have fi1:=dI (n:=N+1) hT lF (by omega);have hAk:A[k]? =some A[k]:=Qa hkA;have sA:∀L n,snap 40 ⟨O++L,n⟩ A[k]=some (.slice 1 (e.Xz[k].map c32)):=fun L n=>by
  have:=(m.app L).r.row k _ _ hAk (Qa hk);rcases this with ⟨z,h⟩ | ⟨id,h,hl,_⟩
  ·rw [h,z];simp
  ·have h2:=nU (g:=c32) (n:=39) (H:=⟨O++L,n⟩) (fun x=>by simp [c32]) e.Xz[k];have ht:(e.Xz[k].map c32).take e.Xz[k].length=e.Xz[k].map c32:=Qo (by simp);rw [h];simp [hl,ht,h2]
 have hlA:=m.r.len;have e1:eHas e k f=((at? e.valid k).getD false&&decide (0<=f/\f<(e.Xz[k].map c32).length)):=by simp [eHas,hm,hk,HO]
 cases q:(at? e.valid (k:Int)).getD false with
 | false=>
  rw [q] at hv e1;simp [dP,t0,t1,n1,sV,sA,hi,aE,hm,rX,bZ,hk,hk2,hv,hlA,lF,fi,fi1];exact fin (by rw [e1];rfl) (by simp) (by simp) fun _=> .inr ⟨k,rfl,hAk⟩
 | true=>
  rw [q] at hv e1;simp [dP,t0,t1,n1,sV,sA,hi,aE,hm,rX,bZ,hk,hk2,hv,hlA,lF,fi,fi1];exact fin (by rw [e1];simp) (by simp) (by simp) fun _=> .inr ⟨k,rfl,hAk⟩
theorem L0 {Z I:Type} {f:Z->List AV} {g:I->List AV} (hfg:∀a b,f a≠g b) {l:List Z} {m:List I} (h:l.map f=m.map g):m=[]:=by
 cases m with
 | nil=>rfl
 | cons b m=>
  cases l with
  | nil=>simp at h
  | cons a l=>simp at h;exact absurd h.1 (hfg a b)
theorem G0 {O:List (Nat×AO)} {id j:Nat} {es es':List (List AV)} {y:AO} (hl:look id O=some (.row 1 es)) (hj:look j O=some (.row 1 es')) (hne:es≠es'):look j (setl id y O)=some (.row 1 es'):=by
 rw [aA,QA (fun e=>by subst e;rw [hl] at hj;cases hj;exact hne rfl),hj]
theorem EM.setM {O:List (Nat×AO)} {B:Nat} {V F M:AV} {A:List AV} {e:Envt} (h:EM O B V F M A e) {id n:Nat} (hM:M= .row id 1 0 n) (l':List Int) (hl:l'.length=e.metaF.length):
  EM (setl id (.row 1 (l'.map c32)) O) B V F M A { e with metaF:=l' }:=by
 obtain ⟨v,m,f,r,mne⟩:=h;rcases m with ⟨_,h2⟩ | ⟨id',h1,lM,hB,hne⟩
 ·rw [hM] at h2;cases h2
 rw [hM] at h1;cases h1;subst hM;have hne':e.metaF≠[]:=fun z=>hne (by simp [z])
 refine ⟨?_,?_,?_,?_,mne⟩
 ·rcases v with v | ⟨iv,h1,h2,h3,h4⟩
  ·exact .inl v
  ·exact .inr ⟨iv,h1,G0 lM h2 fun z=>hne' (L0 (by simp [cB,c32]) z.symm),h3,h4⟩
 ·exact .inr ⟨id,by simp [hl],by rw [aA,a8 rfl,lM];rfl,hB,fun z=>hne' (by simp at z;subst z;exact Qg hl.symm)⟩
 ·rcases f with f | ⟨iv,h1,h2,h3,h4⟩
  ·exact .inl f
  ·exact .inr ⟨iv,h1,G0 lM h2 fun z=>hne (r.head (fun x hx=>by obtain ⟨y,_,rfl⟩:=iO.1 hx;exact .inr ⟨_,_,rfl⟩) z.symm),h3,h4⟩
 ·refine ⟨r.len,fun k x l hx hl2=>?_,r.inj⟩;rcases r.row k x l hx hl2 with h | ⟨i2,g1,g2,g3⟩
  ·exact .inl h
  ·refine .inr ⟨i2,g1,?_,g3⟩;rw [aA,QA (fun z=>by subst z;subst g1;exact mne k i2 _ _ hx rfl),g2]
theorem EM.setA {O:List (Nat×AO)} {B:Nat} {V F M:AV} {A:List AV} {e:Envt} (h:EM O B V F M A e) {k id n:Nat} (hA:A[k]? =some (.row id 1 0 n)) (l':List Int) (hl:l'.length=n):
  EM (setl id (.row 1 (l'.map c32)) O) B V F M A { e with Xz:=e.Xz.set k l' }:=by
 obtain ⟨v,m,f,r,mne⟩:=h;have hk:k<A.length:=(Qm.1 hA).1;have hk2:k<e.Xz.length:=by rw [<- r.len];exact hk
 rcases r.row k _ _ hA (Qa hk2) with ⟨_,h2⟩ | ⟨id',h1,lA,hB⟩
 ·cases h2
 cases h1;refine ⟨?_,?_,?_,r.set hA l' hl,mne⟩
 ·rcases v with v | ⟨iv,h1,h2,h3,h4⟩
  ·exact .inl v
  ·refine .inr ⟨iv,h1,G0 lA h2 fun z=>h4 ?_,h3,h4⟩;rw [L0 (by simp [cB,c32]) z];rfl
 ·rcases m with m | ⟨iv,h1,h2,h3,h4⟩
  ·exact .inl m
  ·refine .inr ⟨iv,h1,?_,h3,h4⟩;rw [aA,QA (fun z=>by subst z;exact mne k iv _ _ hA h1),h2]
 ·rcases f with f | ⟨iv,h1,h2,h3,h4⟩
  ·exact .inl f
  ·refine .inr ⟨iv,h1,G0 lA h2 fun z=>h4 ?_,h3,h4⟩;rw [<- z];exact r.head (fun x hx=>by obtain ⟨y,_,rfl⟩:=iO.1 hx;exact .inr ⟨_,_,rfl⟩) z.symm
theorem EM.snp {O:List (Nat×AO)} {B N:Nat} {V F M:AV} {A:List AV} {e:Envt} (h:EM O B V F M A e):mapO (snap 39 ⟨O,N⟩) [V,F,M,.slice 1 (e.payload.map c8)]=some e.c:=by
 have h1:=h.v.snp (N:=N) (n:=38) (nU (g:=cB) (fun x=>by simp [cB]) e.valid);have h2:=h.m.snp (N:=N) (n:=38) (nU (g:=c32) (fun x=>by simp [c32]) e.metaF);have h3:=h.f.snp (N:=N) (n:=38) (h.r.snp 36);simp only [mapO,h1,h2,h3,Envt.ce];simp
theorem rC {Φ:FuncId->Option AFun} {I:Type} {fin:Option (Ex×St)->Option I} {t:Nat} {ks:List Nat} {K:List Fr} {e:Env} {H:AH} {id z i off:Nat} {o:Option (List (List AV))}:frzB Φ fin t ks K e H id z i off true o=go Φ fin (.f ks::K) .normal ⟨e,H⟩:=by cases o<;>rfl
theorem Fj (p:Prg) (e:Envt) (s:EvS e) (hm:e.metaF≠[]) (h f v:Int) (hv:ok32 0 v):
  aB Φ hZ [.agg p.c,.agg e.c,.agg [a7 h,a7 f],.int .u32 v]=some (.val (.agg (eSet p e h f v).c)):=by
 rw [aD rfl rfl];have hw:=IP p h f;have T1:Tail [(0,AO.row 4 [z4])] 1:=Tail_cons_iff.2 ⟨by omega,Tail.nil _⟩;obtain ⟨O1,N1,V,F,M,A,hr,em,kp,T,hN1,nr⟩:=Ce T1 (.one (by simp)) e s;have l0:look 0 O1=some (.row 4 [z4]):=by rw [kp 0 (by omega) (by simp)];rfl
 have t0:=T N1 (Qb _);rcases em.m with ⟨z,_⟩ | ⟨im,rfl,lM,him,_⟩
 ·simp at z;exact absurd z hm
 generalize hMl:(e.metaF.map c32).length=lm at*;have n0:¬0=N1/\¬N1=0:=by omega
 obtain ⟨X,L,N2,hr2,T2,nr2,hN2,hX⟩:=Q3 (T.app1 (o:= .row 4 [[V,F,.row im 1 0 lm,.slice 1 (e.payload.map c8)]]) (Qb _)) (nr.app (.one (by simp))) (em.app _) h f (.slice 1 (e.payload.map c8));have em2:=(em.app [(N1,.row 4 [[V,F,.row im 1 0 lm,.slice 1 (e.payload.map c8)]])]).app L;have lN1:look N1 (O1++[(N1,.row 4 [[V,F,.row im 1 0 lm,.slice 1 (e.payload.map c8)]])]++L)=some (.row 4 [[V,F,.row im 1 0 lm,.slice 1 (e.payload.map c8)]]):=bK (by rw [aE,t0];simp);have l02:look 0 (O1++[(N1,.row 4 [[V,F,.row im 1 0 lm,.slice 1 (e.payload.map c8)]])]++L)=some (.row 4 [z4]):=bK (bK l0);generalize hO2:O1++[(N1,.row 4 [[V,F,.row im 1 0 lm,.slice 1 (e.payload.map c8)]])]++L=O2 at*;rw [Envt.ce] at hr;simp only [Prg.e] at hw;have w0:=OV p h f;simp only [z4,clR] at hr l02;have sn:∀(O:List (Nat×AO)) n (e':Envt),EM O 1 V F (.row im 1 0 lm) A e'->e'.payload=e.payload->mapO (snap 39 ⟨O,n⟩) [V,F,.row im 1 0 lm,.slice 1 (e.payload.map c8)]=some e'.c:=fun O n e' h hp=>by
  rw [<- hp];exact h.snp
 have fin:∀(O:List (Nat×AO)) n (e':Envt),EM O 1 V F (.row im 1 0 lm) A e'->e'.payload=e.payload->look 0 O=some (.row 4 [[.Xt 1 [],.Xt 1 [],.Xt 1 [],.Xt 1 []]])->retP ⟨setl 0 (.row 4 [[V,F,.row im 1 0 lm,.slice 1 (e.payload.map c8)]]) O,n⟩ (some (.agg [V,F,.row im 1 0 lm,.slice 1 (e.payload.map c8)]))=some (.val (.agg e'.c)):=fun O n e' h hp hl=>by
  have h2:EM (setl 0 (.row 4 [[V,F,.row im 1 0 lm,.slice 1 (e.payload.map c8)]]) O) 1 V F (.row im 1 0 lm) A e':=by
   have key:∀(es:List (List AV)) (j:Nat),1<=j->look j O=some (.row 1 es)->look j (setl 0 (.row 4 [[V,F,.row im 1 0 lm,.slice 1 (e.payload.map c8)]]) O)=some (.row 1 es):=fun es j hj h=>by rw [aA,QA (by omega),h]
   exact ⟨h.v.fr fun j h1 h2=>key _ j h1 h2,h.m.fr fun j h1 h2=>key _ j h1 h2,h.f.fr fun j h1 h2=>key _ j h1 h2,h.r.fr fun j l h1 h2=>key _ j h1 h2,h.mne⟩
  rw [Jl,show aK=39+1 from rfl,Cs,sn _ _ e' h2 hp];rfl
 generalize hR:some (Rt.val (AV.agg (eSet p e h f v).c))=R;cases q:eHas e h f with
 | false=>
  rw [q] at hr2;have e1:eSet p e h f v=e:=by simp [eSet,q]
  rw [e1] at hR;simp [lB,Prg.e,Envt.ce,hr,t0,n0,aE,aA,rC,hw,hr2,lN1,l02,-retP];rw [<- hR];exact fin O2 N2 e em2 rfl l02
 | true=>
  rw [q] at hr2;by_cases zw:wid p h f=0
  ·have e1:eSet p e h f v=e:=by simp [eSet,zw]
   rw [e1] at hR;rw [zw] at hw;simp [lB,Prg.e,Envt.ce,hr,t0,n0,aE,aA,rC,hw,hr2,lN1,l02,-retP];rw [<- hR];exact fin O2 N2 e em2 rfl l02
  have zw':0<wid p h f:=by omega
  have hi:=nB hv (show 1<=wid p h f by omega) w0.2;have hmk:=gH (wid p h f);have e1:eSet p e h f v=ePut h f (v % 2^(wid p h f).toNat) e:=by simp [eSet,zw,q]
  rw [e1] at hR;generalize v % 2^(wid p h f).toNat=u at*;rcases hX q with ⟨rfl,rfl⟩ | ⟨k,rfl,hAk⟩
  ·simp only [eHas,if_true] at q;obtain ⟨x,hx⟩:=xZ.1 q;obtain ⟨j,rfl,hj,_⟩:=iG hx;have lM2:look im O2=some (.row 1 (e.metaF.map c32)):=by rw [<- hO2];exact bK (bK lM)
   have hjl:j<lm:=by rw [<- hMl];simpa using hj
   have e2:ePut (-1) j u e={ e with metaF:=e.metaF.set j u }:=by simp [ePut]
   have em3:=em2.setM rfl (e.metaF.set j u) (by simp);have i1:¬im=N1/\¬N1=im:=by have:=bO lM2 lN1 (by simp);exact ⟨this,fun e=>this e.symm⟩
   have i0:¬im=0/\¬0=im:=by omega
   have hst:(e.metaF.map c32).set j [AV.int .u32 u]=(e.metaF.set j u).map c32:=by rw [yE];simp [c32]
   simp [lB,Prg.e,Envt.ce,hr,t0,n0,aE,aA,rC,hw,hr2,lN1,l02,zw',hmk,hi,hjl,lM2,hj,i1,i0,c32,-retP];rw [hst,<- hR,e2];exact fin _ N2 _ em3 rfl (by rw [aA,QA i0.2,l02])
  ·have hm1:¬((k:Int)= -1):=by omega
   simp only [eHas,QA hm1,cE] at q;obtain ⟨x,hx⟩:=xZ.1 q.2;obtain ⟨l,hx1,hx2⟩:=Qt.1 hx;rw [nK] at hx1;obtain ⟨j,rfl,hj,_⟩:=iG hx2;have hk:k<e.Xz.length:=(Qm.1 hx1).1;rcases em2.r.row k X l hAk hx1 with ⟨z,_⟩ | ⟨id,rfl,lA,hid⟩
   ·rw [z] at hj;simp at hj
   have e2:ePut k j u e={ e with Xz:=e.Xz.set k (l.set j u) }:=by simp [ePut,hm1,zA,hx1]
   have em3:=em2.setA hAk (l.set j u) (by simp);have i1:¬id=N1/\¬N1=id:=by have:=bO lA lN1 (by simp);exact ⟨this,fun e=>this e.symm⟩
   have i0:¬id=0/\¬0=id:=by omega
   have hst:(l.map c32).set j [AV.int .u32 u]=(l.set j u).map c32:=by rw [yE];simp [c32]
   simp [lB,Prg.e,Envt.ce,hr,t0,n0,aE,aA,rC,hw,hr2,lN1,l02,zw',hmk,hi,lA,hj,i1,i0,c32,-retP];rw [hst,<- hR,e2];exact fin _ N2 _ em3 rfl (by rw [aA,QA i0.2,l02])
end Go.Av
