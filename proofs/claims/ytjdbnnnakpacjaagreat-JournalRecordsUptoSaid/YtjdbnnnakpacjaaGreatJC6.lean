/-
 The journal's log in memory; New, Len, Bytes.
-/
import Derived.Test.YtjdbnnnakpacjaaGreatY1
set_option linter.unusedVariables false
set_option linter.unusedSimpArgs false
set_option linter.constructorNameAsVariable false
namespace Go.Av
set_option maxRecDepth 4000
def qds (p:Prg) (c:Xf) (R:AV) (n:Nat):List AV:= .bool true::(Prg.c p++(Xf.c c++[R,.int .i64 n]))
theorem qcu (p:Prg) (c:Xf) (R:AV) (n:Nat):qds p c R n=[.bool true,.str p.name,.slice 2 (p.Xp.map Xj.c),.slice 2 (p.Xo.map Fld.c),.slice 3 (p.Xm.map Xh.c),.slice 3 (p.actions.map Action.c),.slice 6 (p.Xn.map Tbl.c),.slice 7 (p.states.map Xd.c),.slice 5 (p.control.map Xa.c),.slice 1 (p.Xs.map cI),
  .slice 1 (c.rows.map (cS 5 Rw.c)),.slice 1 (c.Xr.map cI),.slice 2 (c.Xq.map Xb.c),.slice 1 (c.Xm.map (cS 1 c32)),R,.int .i64 n]:=by
 simp [qds,Prg.e,Xf.ce]
def tid:AV->Option Nat
 | .app _ _ T=>some T
 | _=>none
structure LogM (O:List (Nat×AO)) (t:Nat) (R:AV) (p:Prg) (g:LgV):Prop where
 row:look t O=some (.row 16 [qds p g.c R g.n])
 rcd:(R= .Xu 1 []/\g.b=[])\/∃T,R= .app 1 (g.b.map c8) T/\look T O=some (.tok 1 g.b.length)
theorem LogM.fr {O O':List (Nat×AO)} {t:Nat} {R:AV} {p:Prg} {g:LgV} (m:LogM O t R p g) (h:look t O'=look t O) (h2:∀j,tid R=some j->look j O'=look j O):LogM O' t R p g:=by
 refine ⟨by rw [h];exact m.row,?_⟩;rcases m.rcd with h3 | ⟨T,rfl,h4⟩
 ·exact .inl h3
 ·exact .inr ⟨T,rfl,by rw [h2 T rfl];exact h4⟩
theorem LogM.src {O:List (Nat×AO)} {t:Nat} {R:AV} {p:Prg} {g:LgV} (m:LogM O t R p g) (H:AH):qcg H R=some (g.b.map c8)/\lenOf R=some g.b.length/\snap 38 H R=some (.slice 1 (g.b.map c8)):=by
 rcases m.rcd with ⟨rfl,h⟩ | ⟨T,rfl,h⟩
 ·rw [h];exact ⟨rfl,rfl,by simp⟩
 ·exact ⟨rfl,by simp,by simp⟩
theorem qzw (p:Prg) (op:p.Ok qbd) (hc:(pre p.control).length<2^40 - 1) (he:(prgD p).1=0) {O:List (Nat×AO)} {n:Nat} (hT:Tail O n):
  qah Φ f_17 [.agg (Prg.c p)] ⟨O,n⟩=some (.val (.tup [.ptr (n+1) 16 0 0,.int .i64 0]),⟨O++[(n,.row 9 [Prg.c p]),(n+1,.row 16 [qds p (qdb p) (.Xu 1 []) 0])],n+2⟩):=by
 have f:=qhi op;rw [qav (fn:=c_17) rfl rfl];have t0:=hT n (Qb _);have t1:=hT (n+1) (by omega);have h:=qh1 p f hc;have sT:=qw6 op;have h2:=qy9 p f fun t ht=>(sT.ds t.dflt (by simp [qdb];exact ⟨t,ht,rfl⟩)).1
 have h3:=qpu p op;simp only [Prg.e,dgC,Xf.ce] at h h2 h3;simp [c_17,Prg.e,qcu,t0,t1,h,h2,h3,he]
theorem qx1 (p:Prg) (f:PrgS p) (hc:(pre p.control).length<2^40 - 1) (he:¬(prgD p).1=0) (O:List (Nat×AO)) (n:Nat) (hO:look n O=none):
  qah Φ f_17 [.agg (Prg.c p)] ⟨O,n⟩=some (.val (.tup [.nilptr,.int .i64 (prgD p).1]),⟨O++[(n,.row 9 [Prg.c p])],n+1⟩):=by
 rw [qav (fn:=c_17) rfl rfl];have h:=qh1 p f hc;simp only [Prg.e,dgC] at h;simp [c_17,Prg.e,hO,h,he]
theorem qxw {O:List (Nat×AO)} {N t:Nat} {R:AV} {p:Prg} {g:LgV} (m:LogM O t R p g):qah Φ f_22 [.ptr t 16 0 0] ⟨O,N⟩=some (.val (.int .i64 g.n),⟨O,N⟩):=by
 rw [qav (fn:=c_22) rfl rfl];have h:=m.row;rw [qcu] at h;simp [c_22,h]
theorem qq0 {O:List (Nat×AO)} {N t:Nat} {R:AV} {p:Prg} {g:LgV} (hT:Tail O N) (hb:g.b.length<2^40) (m:LogM O t R p g):
  qah Φ f_21 [.ptr t 16 0 0] ⟨O,N⟩=some (.val (.slice 1 (g.b.map c8)),⟨O,N+1⟩):=by
 rw [qav (fn:=c_21) rfl rfl];have h:=m.row;rw [qcu] at h;have t0:=hT N (Qb _);have k1:g.b.length<4611686018427387904/\(g.b.length:Int)<=140737488355328:=by omega
 have hO:Tail (O++[(N,AO.row 1 (g.b.map c8))]) (N+1):=hT.app1 (Qb N);have fz:qep ⟨O++[(N,AO.row 1 (g.b.map c8))],N+1⟩ N 1 0 g.b.length=some (.slice 1 (g.b.map c8)):=by
  have hg:AH.get ⟨O++[(N,AO.row 1 (g.b.map c8))],N+1⟩ N=some (.row 1 (g.b.map c8)):=by simp [AH.get,t0]
  have hb:anyL (bor qaf) (g.b.map c8).flatten=false:=by
   have:∀l:List Int,anyL (bor qaf) (l.map c8).flatten=false:=by
    intro l
    induction l with
    | nil=>simp
    | cons x l ih=>simp [c8];exact ih
   exact this _
  have hs:mapO (mapO (snap qaf ⟨O++[(N,AO.row 1 (g.b.map c8))],N+1⟩)) (g.b.map c8)=some (g.b.map c8):=qez (g:=c8) (fun x=>by simp [c8]) g.b;have ht:((g.b.map c8).drop 0).take g.b.length=g.b.map c8:=Qo (by simp);unfold qep;rw [hg];simp only;rw [QAa ⟨trivial,by simp,hb⟩,ht,hs];rfl
 rcases m.rcd with ⟨rfl,hz⟩ | ⟨T,rfl,hz⟩
 ·rw [hz] at k1 hO fz ⊢;simp at fz;simp [c_21,h,t0,fz,qag]
 ·simp [c_21,h,t0,k1,fz,qag]
def jcA1:Xv:=match c_20.code with | .seq a _=>a | _=> .skip
def jcA2:Xv:=match c_20.code with | .seq _ (.seq a _)=>a | _=> .skip
def jcA3:Xv:=match c_20.code with | .seq _ (.seq _ (.seq a _))=>a | _=> .skip
def jcB:Xv:=match c_20.code with | .seq _ (.seq _ (.seq _ (.dfr _ _ b)))=>b | _=> .skip
def jcO:List Xw:=[⟨some 21,none,.mkfunc (.func f_58) [] [.t 6,.t 7,.t 2]⟩]
theorem qacm:c_20.code= .seq jcA1 (.seq jcA2 (.seq jcA3 (.dfr jcO 21 jcB))):=rfl
def OpV (v:AV) (l:List Xc):Prop:=v= .slice 9 (l.map Xc.c)\/(v= .Xu 9 []/\l=[])
theorem OpV.snp {v:AV} {l:List Xc} (h:OpV v l) (n:Nat) (H:AH):snap (n+1) H v=some (.slice 9 (l.map Xc.c)):=by
 rcases h with rfl | ⟨rfl,rfl⟩<;>simp
theorem OpV.nb {v:AV} {l:List Xc} (h:OpV v l) (n:Nat):bor (n+1) v=false:=by
 rcases h with rfl | ⟨rfl,rfl⟩<;>simp
theorem jc1 {O:List (Nat×AO)} {N t:Nat} (hT:Tail O N) (w:AV):∃e,qa3 Φ jcA1 ⟨qbo 0 [.ptr t 16 0 0,w],⟨O,N⟩⟩=some (.normal,⟨e,⟨O++[(N,.row 1 [[.ptr t 16 0 0]])]++[(N+1,.row 1 [[.int .i64 0]])],N+2⟩⟩)/\look 1 e=some w/\look 2 e=some (.ptr N 1 0 0)/\look 6 e=some (.ptr (N+1) 1 0 0):=by
 have t0:=hT N (Qb _);have t1:=hT (N+1) (by omega);rw [qbw];simp [jcA1,c_20,t0,t1]
theorem jc2 {O:List (Nat×AO)} {N t b:Nat} {R:AV} {p:Prg} {g:LgV} {e:Env} (m:LogM O t R p g) (h2:look 2 e=some (.ptr b 1 0 0)) (hb:look b O=some (.row 1 [[.ptr t 16 0 0]])) {w x6:AV} (h1:look 1 e=some w) (h6:look 6 e=some x6):
  ∃e',qa3 Φ jcA2 ⟨e,⟨O,N⟩⟩=some (.normal,⟨e',⟨O,N⟩⟩)/\look 1 e'=some w/\look 2 e'=some (.ptr b 1 0 0)/\look 6 e'=some x6:=by
 have h:=m.row;rw [qcu] at h;rw [qbw];simp [jcA2,c_20,h,h1,h2,h6,hb]
theorem jc3 {O:List (Nat×AO)} {N t b:Nat} {R:AV} {p:Prg} {g:LgV} {e:Env} (hT:Tail O N) (m:LogM O t R p g) (h2:look 2 e=some (.ptr b 1 0 0)) (hb:look b O=some (.row 1 [[.ptr t 16 0 0]])) {w x6:AV} (h1:look 1 e=some w) (h6:look 6 e=some x6):
  ∃e',qa3 Φ jcA3 ⟨e,⟨O,N⟩⟩=some (.normal,⟨e',⟨O++[(N,.row 4 [Xf.c g.c])],N+1⟩⟩)/\look 1 e'=some w/\look 2 e'=some (.ptr b 1 0 0)/\look 6 e'=some x6/\look 7 e'=some (.ptr N 4 0 0):=by
 have h:=m.row;rw [qcu] at h;have t0:=hT N (Qb _);rw [qbw];simp [jcA3,c_20,h,h1,h2,h6,hb,t0,Xf.ce]
def qid:Xf:=⟨[],[],[],[]⟩
section
variable (p:Prg) (op:p.Ok qbd) (hc:(pre p.control).length<2^40 - 1) (hp:p.Xn.length<2^40) {g:LgV} (s:CfgT g.c) {l:List Xc} (hl:∀o∈l,OpS o) {v:AV} (hv:OpV v l)
  {O:List (Nat×AO)} {N t b2 b6:Nat} {R:AV} (hT:Tail O N) (m:LogM O t R p g) {e:Env} (h1:look 1 e=some v) (h2:look 2 e=some (.ptr b2 1 0 0)) (h6:look 6 e=some (.ptr b6 1 0 0))
  (hb2:look b2 O=some (.row 1 [[.ptr t 16 0 0]])) (hb6:look b6 O=some (.row 1 [[.int .i64 0]])) (n6:b6≠b2)
include op hc hp s hl hv m h1 h2 h6 hb2 hb6 n6
theorem qacl {k x:Int} (hA:badA p g.c l=some (k,x)):
  ∃e' O',qa3 Φ jcB ⟨e,⟨O,N⟩⟩=some (.ret,⟨e',⟨O',N⟩⟩)/\look 4 e'=some (.Xu 1 [])/\look 5 e'=some (.int .i64 k)/\look 6 e'=some (.ptr b6 1 0 0)/\O'=setl b6 (.row 1 [[.int .i64 x]]) (setl b6 (.row 1 [[.int .i64 x]]) (setl t (.row 16 [qds p qid R g.n]) O)):=by
 have h:=m.row;rw [qcu] at h;have n1:b6≠t:=qam hb6 h (by simp);have n2:b2≠t:=qam hb2 h (by simp);have n3:=n1.symm;have n4:=n2.symm;have n5:=n6.symm;have hx:=qld hA;have k1:=qqx p op hc hp s l hl;rw [show appA p g.c l= .tup [.agg noC,.slice 1 [],.int .i64 k,.int .i64 x] by simp only [appA,hA]] at k1;simp only [Prg.e,Xf.ce,noC] at k1;have sn:=hv.snp;have nb:=hv.nb;rw [qbw];simp [jcB,c_20,h,h1,h2,h6,hb2,hb6,sn,nb,k1,hx,qac,n1,n2,n3,n4,n5,n6,qcu,qid];exact ⟨_,_,⟨rfl,rfl⟩,by simp,by simp,by simp [h6],rfl⟩
include hT in
theorem qafs (hA:badA p g.c l=none) (hn:g.n<2^40) (hb:g.b.length<2^40):
  ∃e' O' N' R',qa3 Φ jcB ⟨e,⟨O,N⟩⟩=some (.ret,⟨e',⟨O',N'⟩⟩)/\look 4 e'=some (.slice 1 (idsA p g.c l))/\look 5 e'=some (.int .i64 0)/\look 6 e'=some (.ptr b6 1 0 0)/\N<=N'/\Tail O' N'/\LogM O' t R' p (cmt p g l)/\(∀j,tid R'=some j->tid R=some j\/N<=j)/\Kp (fun j=>j=t\/j=b6\/tid R=some j\/Rs O j) N O O'/\look b6 O'=some (.row 1 [[.int .i64 0]]):=by
 have h:=m.row;rw [qcu] at h;have n1:b6≠t:=qam hb6 h (by simp);have n2:b2≠t:=qam hb2 h (by simp);have n3:=n1.symm;have n4:=n2.symm;have n5:=n6.symm;have k1:=qqx p op hc hp s l hl;rw [show appA p g.c l= .tup [.agg (Xf.c (cfgN p g.c l l.length)),.slice 1 (idsA p g.c l),.int .i64 0,.int .i64 0] by simp only [appA,hA];rfl,qy1] at k1;have k2:=qt2 l fun o ho=>qx3 (hl o ho)
 have k3:=qafv (encB l) (qrf l) (by have:=qkm l;omega);have hw:IntKind.wrap .i64 ((g.n:Int)+1)=((g.n+1:Nat):Int):=qbu (by omega) (by omega);have a2:=al8 (frB (encB l));have nF:(frB (encB l)).length<=300008:=by rw [qll];have:=qkm l;omega
 have nF0:¬(frB (encB l)).map c8=[]:=by
  intro hh;have:=congrArg List.length hh;rw [QAb,qll] at this;simp at this
 have m1:(frB (encB l)).length<=70368744177664:=by omega
 have m2:g.b.length+(frB (encB l)).length<=70368744177664:=by omega
 have sn:=hv.snp;have nb:=hv.nb;have hT':∀k,look (N+k) O=none:=fun k=>hT (N+k) (by omega)
 have l2:=hT.lt hb2;have l6:=hT.lt hb6;have lt:=hT.lt h;have q2:∀k,¬N+k=b2:=fun k=>by omega
 have q6:∀k,¬N+k=b6:=fun k=>by omega
 have qt:∀k,¬N+k=t:=fun k=>by omega
 have p2:∀k,¬b2=N+k:=fun k=>by omega
 have p6:∀k,¬b6=N+k:=fun k=>by omega
 have pt:∀k,¬t=N+k:=fun k=>by omega
 have r2:∀k,(b2 == N+k)=false:=fun k=>by simp;omega
 have rt:∀k,(t == N+k)=false:=fun k=>by simp;omega
 have hR:=m.rcd;simp only [cmt];generalize xoF p g.c l=d at*;generalize frB (encB l)=F at*;generalize idsA p g.c l=il at*;simp only [Prg.e,Xf.ce] at k1;rw [qbw];rcases hR with ⟨rfl,hz⟩ | ⟨T,rfl,hz⟩
 ·simp [jcB,c_20,h,h1,h2,h6,hb2,hb6,sn,nb,k1,k2,k3,hw,a2,nF0,m1,qac,n1,n2,n3,n4,n5,n6,qcu,hT',qag,q2,q6,qt,p2,p6,pt,r2,rt,qaw];refine ⟨_,_,_,⟨rfl,rfl,rfl⟩,by simp,by simp,by simp [h6],by omega,?_,.app 1 (F.map c8) (N+52),⟨?_,.inr ⟨N+52,by simp [hz],?_⟩⟩,?_,?_,?_⟩
  ·refine qai (qai (qdw (qai (Tail_append_iff.2 ⟨qai (qai (hT.mono (by omega))),?_⟩))));simp [qbb,qdj]
  ·simp [qac,qag,qaw,h,hb6,hT',n1,n3,p6,pt,q6,qt,qcu]
  ·simp [qac,qag,qaw,h,hb6,hT',n1,n3,p6,pt,q6,qt,hz]
  ·intro j hj;simp [tid] at hj;right;omega
  ·intro j hj hx;have j1:¬j=t:=fun h=>hx (.inl h)
   have j2:¬j=b6:=fun h=>hx (.inr (.inl h))
   have j3:¬look j O=some .res:=fun h=>hx (.inr (.inr (.inr h)))
   have j4:¬N+52=j:=by omega
   cases hlo:look j O with
   | none=>simp [qac,qag,qaw,j1,j2,j4,hlo]
   | some y=>
    have j5:¬y= .res:=fun hh=>j3 (by rw [hlo,hh])
    simp [qac,qag,qaw,j1,j2,j4,hlo,j5]
  ·simp [qac,qag,qaw,h,hb6,n1,n3]
 ·have u1:T≠t:=qam hz h (by simp);have u2:T≠b6:=qam hz hb6 (by simp);have u3:T≠b2:=qam hz hb2 (by simp);have u4:=u1.symm;have u5:=u2.symm;have u6:=u3.symm;have lT:=hT.lt hz;have qT:∀k,¬N+k=T:=fun k=>by omega
  have pT:∀k,¬T=N+k:=fun k=>by omega
  have rT:∀k,(T == N+k)=false:=fun k=>by simp;omega
  have r3:(b2 == T)=false:=by simpa using u6
  have r4:(t == T)=false:=by simpa using u4
  simp [jcB,c_20,h,h1,h2,h6,hb2,hb6,sn,nb,k1,k2,k3,hw,a2,nF0,m1,m2,qac,n1,n2,n3,n4,n5,n6,qcu,hT',qag,q2,q6,qt,p2,p6,pt,r2,rt,qaw,hz,u1,u2,u3,u4,u5,u6,qT,pT,rT,r3,r4];refine ⟨_,_,_,⟨rfl,rfl,rfl⟩,by simp,by simp,by simp [h6],by omega,?_,.app 1 ((g.b++F).map c8) T,⟨?_,.inr ⟨T,rfl,?_⟩⟩,?_,?_,?_⟩
  ·refine qai (qai (qdw (qai (qai (Tail_append_iff.2 ⟨qai (qai (hT.mono (by omega))),?_⟩)))));simp [qbb,qdj]
  ·simp [qac,qag,qaw,h,hb6,hT',n1,n3,p6,pt,q6,qt,u1,u2,u4,u5,qcu]
  ·simp [qac,qag,qaw,h,hb6,hz,hT',n1,n3,p6,pt,q6,qt,u1,u2,u4,u5]
  ·intro j hj;simp [tid] at hj;left;simp [tid,hj]
  ·intro j hj hx;have j1:¬j=t:=fun h=>hx (.inl h)
   have j2:¬j=b6:=fun h=>hx (.inr (.inl h))
   have j3:¬look j O=some .res:=fun h=>hx (.inr (.inr (.inr h)))
   have j4:¬N+52=j:=by omega
   have j6:¬j=T:=fun h=>hx (.inr (.inr (.inl (by simp [tid,h]))))
   cases hlo:look j O with
   | none=>simp [qac,qag,qaw,j1,j2,j4,j6,hlo]
   | some y=>
    have j5:¬y= .res:=fun hh=>j3 (by rw [hlo,hh])
    simp [qac,qag,qaw,j1,j2,j4,j6,hlo,j5]
  ·simp [qac,qag,qaw,h,hb6,n1,n3,u2,u5]
end
theorem qaft {O:List (Nat×AO)} {N b6:Nat} {a7 a2:AV} (hb6:look b6 O=some (.row 1 [[.int .i64 0]])):cloI Φ c_20 .niliface [.ptr b6 1 0 0,a7,a2] ⟨O,N⟩=some ⟨O,N⟩:=by
 unfold cloI;rw [qbw];simp [c_20,recE,hb6]
theorem qafu {O:List (Nat×AO)} {N b6 b7 b2 t:Nat} {x:Int} {p:Prg} {c c0:Xf} {R:AV} {n:Nat} (hx:x≠0) (hb6:look b6 O=some (.row 1 [[.int .i64 x]])) (hb7:look b7 O=some (.row 4 [Xf.c c])) (hb2:look b2 O=some (.row 1 [[.ptr t 16 0 0]])) (ht:look t O=some (.row 16 [qds p c0 R n])):
  cloI Φ c_20 .niliface [.ptr b6 1 0 0,.ptr b7 4 0 0,.ptr b2 1 0 0] ⟨O,N⟩=some ⟨setl t (.row 16 [qds p c R n]) O,N⟩:=by
 unfold cloI;rw [qbw];rw [qcu] at ht;rw [Xf.ce] at hb7;simp [c_20,recE,hb6,hx,hb7,hb2,ht,qcu]
def CJ (N:Nat) (O:List (Nat×AO)) (t:Nat) (R:AV) (p:Prg) (g:LgV) (l:List Xc) (r:Option (Rt×AH)):Prop:=
 ∃O' N' R',N<=N'/\Tail O' N'/\(∀j,tid R'=some j->tid R=some j\/N<=j)/\Kp (fun j=>j=t\/tid R=some j\/Rs O j) N O O'/\
  match badA p g.c l with
  | some (k,x)=>r=some (.val (.tup [.Xu 1 [],.int .i64 k,.int .i64 x]),⟨O',N'⟩)/\LogM O' t R' p g
  | none=>r=some (.val (.tup [.slice 1 (idsA p g.c l),.int .i64 0,.int .i64 0]),⟨O',N'⟩)/\LogM O' t R' p (cmt p g l)
theorem qvq (p:Prg) (op:p.Ok qbd) (hc:(pre p.control).length<2^40 - 1) (hp:p.Xn.length<2^40) {g:LgV} (s:CfgT g.c) (hn:g.n<2^40) (hb:g.b.length<2^40) {l:List Xc} (hl:∀o∈l,OpS o) {v:AV} (hv:OpV v l)
    {O:List (Nat×AO)} {N t:Nat} {R:AV} (hT:Tail O N) (m:LogM O t R p g):CJ N O t R p g l (qah Φ f_20 [.ptr t 16 0 0,v] ⟨O,N⟩):=by
  rw [qkg Φ (d:=c_20) rfl rfl,qacm];obtain ⟨e1,a1,g1,g2,g6⟩:=jc1 (t:=t) hT v;have t0:=hT N (Qb _);have t1:=hT (N+1) (by omega);have lt:=hT.lt m.row;have hT1:Tail (O++[(N,.row 1 [[.ptr t 16 0 0]])]++[(N+1,.row 1 [[.int .i64 0]])]) (N+2):=(hT.app1 (Qb N)).app1 (Qb (N+1));have hk1:Kp (fun _=>False) N O (O++[(N,.row 1 [[.ptr t 16 0 0]])]++[(N+1,.row 1 [[.int .i64 0]])]):=(Kp.app Kp.refl (Qb _)).app (QBe _);have tl:∀{O:List (Nat×AO)} {N:Nat},Tail O N->LogM O t R p g->∀j,tid R=some j->j<N:=by
    intro O N hT m j hj;rcases m.rcd with ⟨rfl,_⟩ | ⟨T,rfl,h⟩
    · simp [tid] at hj
    · simp [tid] at hj;subst hj;exact hT.lt h
  have m1:=m.fr (hk1 t lt (by simp)) (fun j hj=>hk1 j (tl hT m j hj) (by simp));have q2:look N (O++[(N,.row 1 [[.ptr t 16 0 0]])]++[(N+1,.row 1 [[.int .i64 0]])])=some (.row 1 [[.ptr t 16 0 0]]):=by simp [t0]
  have q6:look (N+1) (O++[(N,.row 1 [[.ptr t 16 0 0]])]++[(N+1,.row 1 [[.int .i64 0]])])=some (.row 1 [[.int .i64 0]]):=by simp [t1]
  generalize O++[(N,.row 1 [[.ptr t 16 0 0]])]++[(N+1,.row 1 [[.int .i64 0]])]=H1 at*;obtain ⟨e2,a2,i1,i2,i6⟩:=jc2 (N:=N+2) m1 g2 q2 g1 g6;obtain ⟨e3,a3,h1,h2,h6,h7⟩:=jc3 hT1 m1 i2 q2 i1 i6;have t2:=hT1 (N+2) (Qb _);have hk2:Kp (fun _=>False) (N+2) H1 (H1++[(N+2,.row 4 [Xf.c g.c])]):=Kp.app Kp.refl (Qb _);have hT2:Tail (H1++[(N+2,.row 4 [Xf.c g.c])]) (N+3):=hT1.app1 (Qb _);have m2:=m1.fr (hk2 t (by omega) (by simp)) (fun j hj=>hk2 j (tl hT1 m1 j hj) (by simp));have q2:=hk2.lk hT1 q2 (by simp);have q6:=hk2.lk hT1 q6 (by simp);have q7:look (N+2) (H1++[(N+2,.row 4 [Xf.c g.c])])=some (.row 4 [Xf.c g.c]):=by simp [t2]
  have hkO:Kp (fun _=>False) N O (H1++[(N+2,.row 4 [Xf.c g.c])]):=hk1.trans hk2 (by omega);generalize H1++[(N+2,.row 4 [Xf.c g.c])]=H2 at*;have a4:qao (qah Φ) none jcO ⟨e3,⟨H2,N+3⟩⟩=some (.normal,⟨(21,.func (.func f_58) [] [.ptr (N+1) 1 0 0,.ptr (N+2) 4 0 0,.ptr N 1 0 0])::e3,⟨H2,N+3⟩⟩):=by
    simp [jcO,qao,qbc,h2,h6,h7]
  have hcl:(look 21 ((21,AV.func (.func f_58) [] [.ptr (N+1) 1 0 0,.ptr (N+2) 4 0 0,.ptr N 1 0 0])::e3)).bind tgt=some (f_58,[.ptr (N+1) 1 0 0,.ptr (N+2) 4 0 0,.ptr N 1 0 0]):=by simp
  have z1:N+1≠N:=by omega
  unfold CJ;cases hA:badA p g.c l with
  | some x=>
    obtain ⟨k,x⟩:=x;have hx:=qld hA;obtain ⟨e4,O4,a5,j4,j5,j6,rfl⟩:=qacl (N:=N+3) (e:=(21,.func (.func f_58) [] [.ptr (N+1) 1 0 0,.ptr (N+2) 4 0 0,.ptr N 1 0 0])::e3) p op hc hp s hl hv m2 (by simp [h1]) (by simp [h2]) (by simp [h6]) q2 q6 z1 hA;simp only [qda,a1,a2,a3,a4];rw [a5,hcl];simp only [show c_20.clo=f_58 from rfl,show c_20.ncaps=3 from rfl,QAk,QAn,and_self,if_true,qgp];have n1:N+1≠t:=by omega
    have n2:N≠t:=by omega
    have n3:N+2≠t:=by omega
    have n4:t≠N+1:=by omega
    have r:=m2.row;have y6:look (N+1) (setl (N+1) (.row 1 [[.int .i64 x]]) (setl (N+1) (.row 1 [[.int .i64 x]]) (setl t (.row 16 [qds p qid R g.n]) H2)))=some (.row 1 [[.int .i64 x]]):=by simp [qac,n1,q6]
    have y7:look (N+2) (setl (N+1) (.row 1 [[.int .i64 x]]) (setl (N+1) (.row 1 [[.int .i64 x]]) (setl t (.row 16 [qds p qid R g.n]) H2)))=some (.row 4 [Xf.c g.c]):=by simp [qac,n3,q7]
    have y2:look N (setl (N+1) (.row 1 [[.int .i64 x]]) (setl (N+1) (.row 1 [[.int .i64 x]]) (setl t (.row 16 [qds p qid R g.n]) H2)))=some (.row 1 [[.ptr t 16 0 0]]):=by simp [qac,n2,q2]
    have yt:look t (setl (N+1) (.row 1 [[.int .i64 x]]) (setl (N+1) (.row 1 [[.int .i64 x]]) (setl t (.row 16 [qds p qid R g.n]) H2)))=some (.row 16 [qds p qid R g.n]):=by simp [qac,n4,r]
    rw [qafu hx y6 y7 y2 yt];refine ⟨setl t (.row 16 [qds p g.c R g.n]) (setl (N+1) (.row 1 [[.int .i64 x]]) (setl (N+1) (.row 1 [[.int .i64 x]]) (setl t (.row 16 [qds p qid R g.n]) H2))),N+3,R,by omega,qai (qai (qai (qai hT2))),fun j hj=> .inl hj,?_,?_,?_⟩
    · intro j hj hx
      have e1:j≠t:=fun h=>hx (.inl h)
      rw [qac,QA e1,qac,QA (by omega),qac,QA (by omega),qac,QA e1];exact hkO j hj (by simp)
    · simp [qd1,c_20,j4,j5,j6,qac,n1,q6]
    · refine ⟨by simp [qac,n4,r],?_⟩
      rcases m2.rcd with hz | ⟨T,rfl,hz⟩
      · exact .inl hz
      · refine .inr ⟨T,rfl,?_⟩
        have u1:T≠t:=qam hz r (by simp);have u2:T≠N+1:=qam hz q6 (by simp);rw [qac,QA u1,qac,QA u2,qac,QA u2,qac,QA u1,hz]
  | none=>
    obtain ⟨e4,O4,N4,R4,a5,j4,j5,j6,hN4,hT4,m4,hR4,hk4,y6⟩:=qafs (N:=N+3) (e:=(21,.func (.func f_58) [] [.ptr (N+1) 1 0 0,.ptr (N+2) 4 0 0,.ptr N 1 0 0])::e3) p op hc hp s hl hv hT2 m2 (by simp [h1]) (by simp [h2]) (by simp [h6]) q2 q6 z1 hA hn hb;simp only [qda,a1,a2,a3,a4];rw [a5,hcl];simp only [show c_20.clo=f_58 from rfl,show c_20.ncaps=3 from rfl,QAk,QAn,and_self,if_true,qgp];rw [qaft y6];refine ⟨O4,N4,R4,by omega,hT4,fun j hj=>(hR4 j hj).imp id fun h=>by omega,?_,?_,m4⟩
    · intro j hj hx
      rw [hk4 j (by omega) ?_,hkO j hj (by simp)];rintro (h | h | h | h)
      · exact hx (.inl h)
      · omega
      · exact hx (.inr (.inl h))
      · have h:look j H2=some .res:=h
        rw [hkO j hj (by simp)] at h;exact hx (.inr (.inr h))
    · simp [qd1,c_20,j4,j5,j6,y6]
def lgP (p:Prg) (g:LgV):AV:= .iptr 16 [qds p g.c (.slice 1 (g.b.map c8)) g.n] 0 0
theorem lgP_e (p:Prg) (g:LgV):lgP p g= .iptr 16 [[.bool true,.str p.name,.slice 2 (p.Xp.map Xj.c),.slice 2 (p.Xo.map Fld.c),.slice 3 (p.Xm.map Xh.c),.slice 3 (p.actions.map Action.c),.slice 6 (p.Xn.map Tbl.c),.slice 7 (p.states.map Xd.c),.slice 5 (p.control.map Xa.c),.slice 1 (p.Xs.map cI),
  .slice 1 (g.c.rows.map (cS 5 Rw.c)),.slice 1 (g.c.Xr.map cI),.slice 2 (g.c.Xq.map Xb.c),.slice 1 (g.c.Xm.map (cS 1 c32)),.slice 1 (g.b.map c8),.int .i64 g.n]] 0 0:=by
 simp only [lgP,qcu]
theorem LogM.snp {O:List (Nat×AO)} {N t n:Nat} {R:AV} {p:Prg} {g:LgV} (m:LogM O t R p g):snap (n+2) ⟨O,N⟩ (.ptr t 16 0 0)=some (lgP p g):=by
 have h:=m.row;rw [qcu] at h;rw [lgP_e];rcases m.rcd with ⟨rfl,hz⟩ | ⟨T,rfl,hz⟩
 ·simp [h,hz]
 ·simp [h]
theorem qahe (p:Prg) (f:PrgS p) (L:List (List Xc)) (hL:L.length<2^40) (hl:∀l∈L,l.length<2^40):
  ∃b,qad Φ f_18 [.agg (Prg.c p),.slice 1 (L.map (cS 9 Xc.c))]=some (.val (.bool b))/\(b=false->(pre p.control).length<=60/\L.length<=12/\∀l∈L,qf0 l=false):=by
 obtain ⟨r,hr,hrb⟩:=qtp p f;rw [qaa (fn:=c_18) rfl rfl];simp only [Prg.e] at hr;cases r with
 | true=>exact ⟨true,by simp [c_18,Prg.e,hr],by simp⟩
 | false=>
 by_cases z:12<L.length
 ·have z':(12:Int)<L.length:=by omega
  exact ⟨true,by simp [c_18,Prg.e,hr,z,z'],by simp⟩
 have z':¬(12:Int)<L.length:=by omega
 refine ⟨L.any qf0,?_,fun h=>⟨hrb rfl,by omega,fun l hl=>by simpa using List.any_eq_false.1 h l hl⟩⟩;generalize hX:some (Rt.val (.bool (L.any qf0)))=X;simp [c_18,Prg.e,hr,z,z'];rw [<- hX];refine (qa1 L.length (fun _=>[]) 0 (fun i e=>look 1 e=some (.slice 1 (L.map (cS 9 Xc.c)))/\look 5 e=some (.int .i64 i))
  (fun i=>some (Rt.val (.bool (qci L qf0 i)))) ?_ ?_ 0 _ _ (Qc _) (Qc _) ?_).trans (by simp [qmc])
 ·rintro i e n K hi hK _ ⟨h1,h5⟩ ih;have hw:=qap i (by omega);have hg:=qs9 L[i] (hl _ (Qd hi));cases hq:qf0 L[i] with
  | true=>
   rw [hq] at hg;rw [qoe hi hq];simp [c_18_l0,h1,h5,hi,cSe,hg]
  | false=>
   rw [hq] at hg;rw [qhu hi hq];generalize hX:some (Rt.val (.bool (qci L qf0 (i+1))))=X at ih ⊢;simp [c_18_l0,h1,h5,hi,cSe,hg,hw];exact ih _ _ (Qc _) ⟨by simp [h1],by simp⟩
 ·rintro e n K hK _ ⟨h1,h5⟩;rw [qlc];simp [c_18_l0,c_18_k1,h1,h5,hK]
 ·simp
end Go.Av
