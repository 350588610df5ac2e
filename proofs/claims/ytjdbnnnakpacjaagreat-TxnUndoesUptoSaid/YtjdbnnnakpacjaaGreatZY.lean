/-
 txn.Inverse: the operations that undo the transaction.
-/
import Derived.Test.YtjdbnnnakpacjaaGreatY1
set_option linter.unusedVariables false
set_option linter.unusedSimpArgs false
set_option linter.constructorNameAsVariable false
namespace Go.Av
set_option maxRecDepth 4000
def rC (M:List Ren):List (AV×AV):=M.map fun r=>(.agg [.int .i64 r.t,.int .i64 r.old],.int .i64 r.new)
theorem qvk (t id:Int):∀M:List Ren,qbv .p (.agg [.int .i64 t,.int .i64 id]) (rC M)=some ((getM M t id).map fun x=> .int .i64 x)
 | []=>by simp [rC,qbv,getM,kdOk]
 | r::M=>by
  have ih:=qvk t id M;unfold rC at ih ⊢;simp only [List.map_cons,qbv,eqKd,and_self,if_true,getM];by_cases h:r.t=t/\r.old=id
  ·rw [if_pos h];have e:(t == r.t&&id == r.old)=true:=by simp [h.1,h.2]
   rw [e];rfl
  ·rw [if_neg h];have e:(t == r.t&&id == r.old)=false:=by
    simp only [Bool.and_eq_false_iff,beq_eq_false_iff_ne];by_cases h1:r.t=t
    ·exact .inr fun h2=>h ⟨h1,h2.symm⟩
    ·exact .inl fun h2=>h1 h2.symm
   rw [e];exact ih
theorem qzf (t id n:Int):∀M:List Ren,putA .p (.agg [.int .i64 t,.int .i64 id]) (.int .i64 n) (rC M)=some (rC (putM M t id n))
 | []=>by simp [rC,putA,putM]
 | r::M=>by
  have ih:=qzf t id n M;unfold rC at ih ⊢;simp only [List.map_cons,putA,eqKd,and_self,if_true,putM];by_cases h:r.t=t/\r.old=id
  ·rw [if_pos h];have e:(t == r.t&&id == r.old)=true:=by simp [h.1,h.2]
   rw [e];simp
  ·rw [if_neg h];have e:(t == r.t&&id == r.old)=false:=by
    simp only [Bool.and_eq_false_iff,beq_eq_false_iff_ne];by_cases h1:r.t=t
    ·exact .inr fun h2=>h ⟨h1,h2.symm⟩
    ·exact .inl fun h2=>h1 h2.symm
   rw [e];simp only [ih,Option.map_some,List.map_cons]
structure IwI (p:Prg) (c:Config) (l:List TableOp) (S:SV) (Mp T:Nat) (T0 B:Nat) (Z:List TableOp) (i:Nat) (e:Env) (O:List (Nat×AO)) (N:Nat):Prop where
 v:IvE p c l S.s e
 tl:Tail O N
 hB:B<=N
 hMB:Mp<B
 hTB:T<B
 hMT:Mp≠T
 nM:¬S.own Mp
 nT:¬S.own T
 st:∃S' d M out,StoreM O S' p d/\S'.s=S.s/\(∀j,S'.own j->S.own j\/B<=j)/\CfgV p d/\CfgT d/\look Mp O=some (.map (rC M))/\out.length=i/\look 17 e=some (.app 9 (out.map TableOp.c) T)/\out++bkP p M d (Z.reverse.drop i)=bkP p [] (cfgN p c l l.length) Z.reverse
 tk:look T O=some (.tok 9 i)
 e13:look 13 e=some (.app 9 (Z.map TableOp.c) T0)
 e16:look 16 e=some (.map Mp)
 e18:look 18 e=some (.int .i64 ((Z.length:Int) - 1 - i))
theorem iv1 (p:Prg) (f:PrgS p) (hp:p.tables.length<2^40) {c:Config} (l Z:List TableOp) (hl64:Z.length<=64) (hU:∀u∈Z,UndS u) {S:SV} {Mp T T0 B:Nat} {R:Option Rt}
  (hk:∀e T,IvE p c l S.s e->look 17 e=some (.app 9 ((bkP p [] (cfgN p c l l.length) Z.reverse).map TableOp.c) T)->∀O N,Tail O N->go Φ (finP [.tmp 6,.tmp 7]) [.c c_13_k2] .normal ⟨e,⟨O,N⟩⟩=R):
  ∀e O N,IwI p c l S Mp T T0 B Z 0 e O N->go Φ (finP [.tmp 6,.tmp 7]) [.c (.loop c_13_l1),.b 2,.c c_13_k2] .normal ⟨e,⟨O,N⟩⟩=R:=by
 intro e O N I0;refine qdy Z.length (fun i e h=>∃O N,h=⟨O,N⟩/\IwI p c l S Mp T T0 B Z i e O N) (fun _=>R) ?_ ?_ 0 e _ (Qc _) ⟨O,N,rfl,I0⟩
 ·rintro i e _ L hi hL ⟨O,N,rfl,I⟩ ih;obtain ⟨S1,d,M,out,m1,es,ho,vd,sd,hM,hol,e17,hbk⟩:=I.st;obtain ⟨k,hk⟩:∃k,Z.length=i+1+k:=⟨Z.length - (i+1),by omega⟩;have hkl:k<Z.length:=by omega
  have e1:(Z.length:Int) - 1 - i=(k:Int):=by omega
  have hw:IntKind.wrap .i64 ((k:Int) - 1)=(Z.length:Int) - 1 - ((i+1:Nat):Int):=by rw [qbs (by omega) (by omega)];omega
  have e18:=I.e18;rw [e1] at e18;have hUk:Z.reverse.drop i=Z[k]::Z.reverse.drop (i+1):=by
   rw [Qi (by simpa using hi),List.getElem_reverse];congr 2;omega
  have hus:=hU Z[k] (Qd hkl);rw [hUk] at hbk;have hzk:Z[k]? =some Z[k]:=Qa hkl;generalize hu:Z[k]=u at*;have t0:=I.tl N (Qb _);have t1:=I.tl (N+1) (by omega);have hB:=I.hB;have hMB:=I.hMB;have hTB:=I.hTB;have hMT:=I.hMT;have hou:OpS (bk1 M u):=⟨hus.op.e,hus.op.c⟩;have hk1:Kp (fun _=>False) N O (O++[(N,.row 9 [TableOp.c (bk1 M u)])]):=Kp.app Kp.refl (Qb _);have hT1:Tail (O++[(N,.row 9 [TableOp.c (bk1 M u)])]) (N+1+1):=I.tl.apps (by omega) (by simp only [List.mem_singleton];rintro x rfl;simp only;omega);obtain ⟨S2,O2,N2,e2,x1,x2,x3,x4,x5,x6⟩:=qjx (m1.kp I.tl hk1 (by simp)) f vd sd hT1 (bk1 M u) hou;rw [es] at e2 x2;have ho2:∀j,S2.own j->S.own j\/B<=j:=fun j hj=>by
   rcases x3 j hj with h | h
   ·exact ho j h
   ·exact .inr (by omega)
  have nN:¬S1.own N:=fun h=>by
   obtain ⟨x,hx,_⟩:=m1.own_lk h;rw [t0] at hx;cases hx
  have own1:∀j,j<B->¬S.own j->¬S1.own j:=fun j hj hn h=>by
   rcases ho j h with h | h
   ·exact hn h
   ·omega
  have own2:∀j,j<B->¬S.own j->¬S2.own j:=fun j hj hn h=>by
   rcases ho2 j h with h | h
   ·exact hn h
   ·omega
  have kp:∀j x,look j (O++[(N,.row 9 [TableOp.c (bk1 M u)])])=some x->x≠ .res->¬S1.own j->j<N+1+1->look j O2=some x:=fun j x hx hr hn hj=>by
   rw [x4 j hj,hx];rintro (h | h)
   ·exact hn h
   ·have h:look j (O++[(N,.row 9 [TableOp.c (bk1 M u)])])=some .res:=h;rw [hx] at h;exact hr (Option.some.inj h)
  have a1:=kp N (.row 9 [TableOp.c (bk1 M u)]) (by simp [qag,t0]) (by simp) nN (by omega);have a2:=kp Mp (.map (rC M)) (by rw [qag,hM];rfl) (by simp) (own1 _ hMB I.nM) (by omega);have a3:=kp T (.tok 9 i) (by rw [qag,I.tk];rfl) (by simp) (own1 _ hTB I.nT) (by omega);have h120:(i+1)*120<=70368744177664:=by omega
  have fM:¬Mp=N:=by omega
  have fM':¬N=Mp:=by omega
  have fT:¬T=N:=by omega
  have fT':¬N=T:=by omega
  have fT2:¬T=Mp:=fun h=>hMT h.symm
  have lM:∀x,look Mp (O++[(N,x)])=some (.map (rC M)):=fun x=>by rw [qag,hM];rfl
  have fnd:=qvk u.table u.id M;have put:=qzf u.table u.id (xoI p d (bk1 M u)) M;have fin:∀e' O' N',(∀j,look j O'=look j (setl T (.tok 9 (i+1)) (if u.kind=1 then setl Mp (.map (rC (bkM p M d u))) O2 else O2)))->N2<=N'->IvE p c l S.s e'->look 13 e'=some (.app 9 (Z.map TableOp.c) T0)->look 16 e'=some (.map Mp)->look 18 e'=some (.int .i64 ((Z.length:Int) - 1 - ((i+1:Nat):Int)))->look 17 e'=some (.app 9 (out.map TableOp.c++[TableOp.c (bk1 M u)]) T)->
    IwI p c l S Mp T T0 B Z (i+1) e' O' N':=fun e' O' N' hO hN hv h13 h16 h18 h17=>by
   refine ⟨hv,fun j hj=>?_,by omega,hMB,hTB,hMT,I.nM,I.nT,⟨S2,xoC p d (bk1 M u),bkM p M d u,out++[bk1 M u],?_,x2,ho2,qlr vd _,xoC_t vd sd hp _ hou,?_,by simp [hol],by rw [h17];simp,?_⟩,?_,h13,h16,h18⟩
   ·rw [hO];have:=x5 j (by omega);have j1:¬j=T:=by omega
    have j2:¬j=Mp:=by omega
    split<;>simp [qad,this,j1,j2]
   ·refine x1.fr fun j hj=>?_
    have j1:¬j=T:=fun h=>own2 T hTB I.nT (h ▸ hj)
    have j2:¬j=Mp:=fun h=>own2 Mp hMB I.nM (h ▸ hj)
    rw [hO];split<;>simp [qad,j1,j2]
   ·rw [hO];by_cases z:u.kind=1
    ·simp [z,qad,hMT,a2]
    ·simp [z,qad,hMT,a2,bkM]
   ·rw [<- hbk];simp [bkP]
   ·rw [hO];split<;>simp [qad,fT2,a3]
  cases hg:getM M u.table u.id with
  | none=>
   rw [hg] at fnd;by_cases z:u.kind=1
   ·simp only [bk1,z,if_true,TableOp.ce2] at e2 a1 put;simp [c_13_l1,TableOp.ce2,I.v.e12,I.e13,I.e16,e17,e18,hkl,hu,hL,t0,t1,qag,qad,hM,fnd,fM,fM',fT,fT',fT2,hMT,z,hg,e2,a1,a2,a3,put,kdOk,hol,h120,hw];refine ih _ _ ⟨_,_,rfl,fin _ _ _ (fun j=>by simp [z,bkM,bk1,hg]) (Qb _) ⟨by simp [I.v.e3],by simp [I.v.e4],by simp [I.v.e8],by simp [I.v.e12]⟩ (by simp [I.e13]) (by simp [I.e16]) (by simp) (by simp [bk1,z,hg,TableOp.ce2])⟩
   ·simp only [bk1,z,if_false,hg,TableOp.ce2,Option.getD_none] at e2 a1;simp [c_13_l1,TableOp.ce2,I.v.e12,I.e13,I.e16,e17,e18,hkl,hu,hL,t0,t1,qag,qad,hM,fnd,fM,fM',fT,fT',fT2,hMT,z,hg,e2,a1,a2,a3,put,kdOk,hol,h120,hw];refine ih _ _ ⟨_,_,rfl,fin _ _ _ (fun j=>by simp [z,bkM,bk1,hg]) (Qb _) ⟨by simp [I.v.e3],by simp [I.v.e4],by simp [I.v.e8],by simp [I.v.e12]⟩ (by simp [I.e13]) (by simp [I.e16]) (by simp) (by simp [bk1,z,hg,TableOp.ce2])⟩
  | some x=>
   rw [hg] at fnd;by_cases z:u.kind=1
   ·simp only [bk1,z,if_true,TableOp.ce2] at e2 a1 put;simp [c_13_l1,TableOp.ce2,I.v.e12,I.e13,I.e16,e17,e18,hkl,hu,hL,t0,t1,qag,qad,hM,fnd,fM,fM',fT,fT',fT2,hMT,z,hg,e2,a1,a2,a3,put,kdOk,hol,h120,hw];refine ih _ _ ⟨_,_,rfl,fin _ _ _ (fun j=>by simp [z,bkM,bk1,hg]) (Qb _) ⟨by simp [I.v.e3],by simp [I.v.e4],by simp [I.v.e8],by simp [I.v.e12]⟩ (by simp [I.e13]) (by simp [I.e16]) (by simp) (by simp [bk1,z,hg,TableOp.ce2])⟩
   ·simp only [bk1,z,if_false,hg,TableOp.ce2,Option.getD_some] at e2 a1;simp [c_13_l1,TableOp.ce2,I.v.e12,I.e13,I.e16,e17,e18,hkl,hu,hL,t0,t1,qag,qad,hM,fnd,fM,fM',fT,fT',fT2,hMT,z,hg,e2,a1,a2,a3,put,kdOk,hol,h120,hw];refine ih _ _ ⟨_,_,rfl,fin _ _ _ (fun j=>by simp [z,bkM,bk1,hg]) (Qb _) ⟨by simp [I.v.e3],by simp [I.v.e4],by simp [I.v.e8],by simp [I.v.e12]⟩ (by simp [I.e13]) (by simp [I.e16]) (by simp) (by simp [bk1,z,hg,TableOp.ce2])⟩
 ·rintro e _ L hL ⟨O,N,rfl,I⟩;obtain ⟨S1,d,M,out,m1,es,ho,vd,sd,hM,hol,e17,hbk⟩:=I.st;have e1:(Z.length:Int) - 1 - Z.length= -1:=by omega
  have e18:=I.e18;rw [e1] at e18;have hd:Z.reverse.drop Z.length=[]:=List.drop_eq_nil_of_le (by simp);rw [hd,bkP,List.append_nil] at hbk;rw [hbk] at e17;simp [c_13_l1,e18,hL];exact hk _ T ⟨by simp [I.v.e3],by simp [I.v.e4],by simp [I.v.e8],by simp [I.v.e12]⟩ (by simp [e17]) _ _ I.tl
theorem qo1 (p:Prg):∀(V:List TableOp) (M:List Ren) (d:Config),(∀u∈V,UndS u)->∀o∈bkP p M d V,OpS o
 | [],_,_,_,o,h=>by simp [bkP] at h
 | u::V,M,d,hV,o,h=>by
  rw [bkP] at h;rcases List.mem_cons.1 h with rfl | h
  ·have:=(hV u (by simp)).op;exact ⟨this.e,this.c⟩
  ·exact qo1 p V _ _ (fun w hw=>hV w (by simp [hw])) o h
theorem iv2 (p:Prg) (op:p.Ok qau) (hc:(pre p.control).length<2^40 - 1) (hp:p.tables.length<2^40) {c:Config} (l out:List TableOp) (s':CfgT (cfgN p c l l.length)) (ho:∀o∈out,OpS o) {st T N:Nat} {O:List (Nat×AO)} (hT:Tail O N) {e:Env} (v:IvE p c l st e) (h17:look 17 e=some (.app 9 (out.map TableOp.c) T)):
  go Φ (finP [.tmp 6,.tmp 7]) [.c c_13_k2] .normal ⟨e,⟨O,N⟩⟩=some (.val (invT p c l out)):=by
 have t0:=hT N (Qb _);have ka:=qfe p op hc hp s' out ho;obtain ⟨q0,q1,q2,q3,hC,hq,hq2⟩:=cfg4 c;obtain ⟨r0,r1,r2,r3,hD,hr,hr2⟩:=cfg4 (cfgN p c l l.length);have e3:=v.e3;have e4:=v.e4;have e8:=v.e8;rw [hC] at e4;rw [hD] at e8 ka;simp only [Prg.e] at e3 ka;unfold invT;cases hb:badA p (cfgN p c l l.length) out with
 | some x=>
  obtain ⟨k,x⟩:=x;have hx:=qht hb;rw [show appA p (cfgN p c l l.length) out= .tup [.agg noC,.slice 1 [],.int .i64 k,.int .i64 x] by simp only [appA,hb]] at ka;simp only [noC] at ka;simp [c_13_k2,t0,qag,qad,e3,e4,e8,h17,ka,hq,hq2,hr,hr2,hx]
 | none=>
  rw [show appA p (cfgN p c l l.length) out= .tup [.agg (Config.c (cfgN p (cfgN p c l l.length) out out.length)),.slice 1 (idsA p (cfgN p c l l.length) out),.int .i64 0,.int .i64 0] by simp only [appA,hb];rfl] at ka;obtain ⟨v2,h64,hb2⟩:=qg1 hb;obtain ⟨v3,s3⟩:=qd2 v2 s' hp out ho out.length;have kq:=qkn (cfgN p (cfgN p c l l.length) out out.length) c (qva s3);generalize idsA p (cfgN p c l l.length) out=il at ka;obtain ⟨s0,s1,s2,s3',hE,hs,hs2⟩:=cfg4 (cfgN p (cfgN p c l l.length) out out.length);rw [hE] at ka kq;rw [hC] at kq;cases hz:qfc (cfgN p (cfgN p c l l.length) out out.length) c with
  | false=>
   rw [hz] at kq;simp [c_13_k2,t0,qag,qad,e3,e4,e8,h17,ka,kq,hq,hq2,hr,hr2,hs,hs2]
  | true=>
   rw [hz] at kq;simp [c_13_k2,t0,qag,qad,e3,e4,e8,h17,ka,kq,hq,hq2,hr,hr2,hs,hs2]
theorem qw2 (p:Prg) (op:p.Ok qau) (hc:(pre p.control).length<2^40 - 1) (hp:p.tables.length<2^40) {c:Config} (s:CfgT c) (l:List TableOp) (hl:∀o∈l,OpS o):
  qac Φ f_13 [.agg (Prg.c p),.agg (Config.c c),.slice 9 (l.map TableOp.c)]=some (.val (invA p c l (invP p c l))):=by
 rw [qaa (fn:=c_13) rfl rfl];have ka:=qfe p op hc hp s l hl;obtain ⟨q0,q1,q2,q3,hC,hq,hq2⟩:=cfg4 c;unfold invA;cases hA:badA p c l with
 | some x=>
  obtain ⟨k,x⟩:=x;have hx:=qht hA;rw [show appA p c l= .tup [.agg noC,.slice 1 [],.int .i64 k,.int .i64 x] by simp only [appA,hA]] at ka;rw [hC] at ka ⊢;simp only [noC,Prg.e] at ka;simp [c_13,Prg.e,ka,hq,hq2,hx]
 | none=>
  obtain ⟨v,h64,hb⟩:=qg1 hA;have f:=qhs op;obtain ⟨v',s'⟩:=qd2 v s hp l hl l.length;rw [show appA p c l= .tup [.agg (Config.c (cfgN p c l l.length)),.slice 1 (idsA p c l),.int .i64 0,.int .i64 0] by simp only [appA,hA];rfl] at ka;obtain ⟨r0,r1,r2,r3,hD,hr,hr2⟩:=cfg4 (cfgN p c l l.length);have hLd:∀N,qrt N [] p c (qai Φ f_41 [.agg (Prg.c p),.agg (Config.c c)] ⟨[],N⟩):=fun N=>qvc p op hc c s (fun _ _=>rfl)
  obtain hz | ⟨z,S,O1,N1,e,m1,w1,hk1,hT1,hN1⟩:=hLd 1
  ·exact absurd ((qdg p c).2 v) hz.1
  rw [hC] at ka e ⊢;rw [hD] at ka;simp only [Prg.e] at ka e;have t1:=hT1 N1 (Qb _);have hT2:Tail (O1++[(N1,AO.tok 9 0)]) (N1+1):=hT1.app1 (Qb _);have own:∀j,S.own j->j<N1:=fun j hj=>by
   obtain ⟨x,hx,_⟩:=m1.own_lk hj;exact hT1.lt hx
  have m2:StoreM (O1++[(N1,AO.tok 9 0)]) S p c:=m1.kp (X:=fun _=>False) hT1 (Kp.app Kp.refl (Qb _)) (by simp);simp [c_13,Prg.e,ka,e,hq,hq2,hr,hr2,t1];refine iv0 p f hp v s l h64 hl hb (S:=S) (T:=N1) (B:=N1+1) ?_ _ _ _ ⟨⟨by simp [Prg.e],by simp [hC],by simp [hD],by simp⟩,hT2,Qb _,by omega,fun h=>by have:=own _ h;omega,⟨S,by rw [qg4];exact m2,rfl,fun j hj=> .inl hj⟩,by simp [qag,t1],by simp [qdo],by simp,by simp,by simp,by simp⟩;intro e O N I;obtain ⟨S2,m3,es,ho⟩:=I.st;have u0:=I.tl N (Qb _);have u1:=I.tl (N+1) (by omega);have hB:=I.hB;have own2:∀j,S2.own j->j<N:=fun j hj=>by
   obtain ⟨x,hx,_⟩:=m3.own_lk hj;exact I.tl.lt hx
  have hUl:(qdo p c l l.length).length=l.length:=by simp [qdo]
  have hw:IntKind.wrap .i64 ((l.length:Int) - 1)=(l.length:Int) - 1:=qbs (by omega) (by omega);have hTa:Tail (O++[(N,AO.map []),(N+1,AO.tok 9 0)]) (N+1+1):=I.tl.apps (by omega) (by simp only [List.mem_cons,List.not_mem_nil,or_false];rintro x (rfl | rfl)<;>simp only<;>omega);have m4:StoreM (O++[(N,AO.map []),(N+1,AO.tok 9 0)]) S2 p (cfgN p c l l.length):=m3.kp (X:=fun _=>False) I.tl (Kp.apps (by simp only [List.mem_cons,List.not_mem_nil,or_false];rintro x (rfl | rfl)<;>simp only<;>omega)) (by simp);simp [c_13_k3,I.e13,u0,u1,qag,hUl,hw];have vS:IvE p c l S2.s e:=by rw [es];exact I.v
  refine iv1 p f hp (c:=c) l (qdo p c l l.length) (by omega) (qp1 v s hp hl hb) (S:=S2) (Mp:=N) (T:=N+1) (T0:=N1) (B:=N+1+1) ?_ _ _ _ ⟨⟨by simp [vS.e3],by simp [vS.e4],by simp [vS.e8],by simp [vS.e12]⟩,hTa,Qb _,by omega,by omega,by omega,fun h=>by have:=own2 _ h;omega,fun h=>by have:=own2 _ h;omega,⟨S2,cfgN p c l l.length,[],[],m4,rfl,fun j hj=> .inl hj,v',s',?_,rfl,by simp,by simp⟩,?_,by simp [I.e13],by simp,by simp [hUl]⟩
  ·intro e T v9 h17 O N hT;exact iv2 p op hc hp l (invP p c l) s' (qo1 p _ _ _ fun u hu=>qp1 v s hp hl hb u (by simpa using hu)) hT v9 h17
  ·simp [qag,u0,rC]
  ·simp [qag,u1]
def delO (t:Int) (r:Rw):TableOp:=⟨3,t,r.id,noE,noCl⟩
def modO (t:Int) (r:Rw) (c:ActionCall):TableOp:=⟨2,t,r.id,noE,c⟩
def setO (t:Int) (c:ActionCall):TableOp:=⟨4,t,0,noE,c⟩
theorem qw0 {p:Prg} {c:Config} {t:Int} {x:Entry} (h:insE p c t x=0):inT p t=true/\(qar c t).any (fun y=>sk y.entry x)=false/\qdl c t<1073741824:=by
 unfold insE at h;cases hi:inT p t with
 | false=>rw [if_pos hi] at h;cases h
 | true=>
 rw [if_neg (by rw [hi];decide)] at h;split at h
 ·rename_i h1;exact absurd h h1
 split at h
 ·cases h
 rename_i h2;split at h
 ·cases h
 rename_i h3;exact ⟨rfl,by simpa using h2,by omega⟩
theorem setA {α:Type} {l:List α} {k:Nat} {z:α} (hk:k<l.length) (t:Nat):at? (l.set k z) (t:Int)=if t=k then some z else at? l (t:Int):=by
 rw [qfv,qfv,List.getElem?_set];by_cases h:k=t
 ·subst h;simp [hk]
 ·rw [if_neg h,if_neg (fun e=>h e.symm)]
def okF (p:Prg):Config->List TableOp->Prop
 | _,[]=>True
 | c,o::l=>xoE p c o=0/\okF p (xoC p c o) l
theorem qacf (p:Prg) (c:Config) (o:TableOp) (l:List TableOp):xoF p c (o::l)=xoF p (xoC p c o) l:=rfl
theorem qp2 (p:Prg) (c:Config) (l m:List TableOp):xoF p c (l++m)=xoF p (xoF p c l) m:=by simp [xoF]
theorem qvu (p:Prg):∀(c:Config) (l m:List TableOp),okF p c l->okF p (xoF p c l) m->okF p c (l++m)
 | _,[],_,_,h=>h
 | c,o::l,m,h,h2=>⟨h.1,qvu p (xoC p c o) l m h.2 h2⟩
theorem qos {p:Prg}:∀{c:Config} (l:List TableOp),CfgV p c->CfgV p (xoF p c l)
 | _,[],v=>v
 | _,o::l,v=>qos l (qlr v o)
theorem qrz (p:Prg):∀(c:Config) (l:List TableOp) (i:Nat),okF p c l->badF p c l i=none
 | _,[],_,_=>rfl
 | c,o::l,i,h=>by rw [badF,if_pos h.1];exact qrz p _ l _ h.2
def setR (c:Config) (t:Nat) (l:List Rw):Config:=⟨c.rows.set t l,c.nextID,c.defaults,c.registers⟩
theorem qvx {u w:List Rw} {r:Rw} (h:(u++r::w).Pairwise fun a b=>a.id<b.id):rIdx (u++r::w) r.id=some u.length:=by
 unfold rIdx;rw [List.findIdx?_eq_some_iff_getElem];refine ⟨by simp,by simp,fun j hj=>?_⟩;rw [List.getElem_append_left hj];rw [List.pairwise_append] at h;have:=h.2.2 u[j] (Qd hj) r (by simp);simp;omega
theorem qst {p:Prg} {c:Config} (v:CfgV p c) {t:Nat} (ht:t<p.tables.length):(qar c t).Pairwise fun a b=>a.id<b.id:=by
 rw [qcb (by rw [v.rl];exact ht)];exact (v.at ht).inc
theorem qaak {p:Prg} {c:Config} (v:CfgV p c) {t:Nat} (ht:t<p.tables.length) {u w:List Rw} {r:Rw} (h:qar c t=u++r::w):xoE p c (delO t r)=0/\xoC p c (delO t r)=setR c t (u++w):=by
 have hid:=qst v ht;rw [h] at hid;have hr:=qvx hid;rw [<- h] at hr;have he:xoE p c (delO t r)=0:=by
  simp [xoE,delO,delE,ql2 ht,hr]
 refine ⟨he,?_⟩;unfold xoC;rw [if_pos he];simp only [xoD,delO,delC,hr];rw [if_neg (by decide),if_neg (by decide),if_pos trivial];simp only [setR,Int.toNat_natCast,h];rw [List.eraseIdx_append_of_length_le (Qb _)];simp
theorem qaa4 {p:Prg} {c:Config} (v:CfgV p c) {t:Nat} (ht:t<p.tables.length) {u w:List Rw} {r:Rw} (h:qar c t=u++r::w) {x:ActionCall} (hx:qbn p t x=0):xoE p c (modO t r x)=0/\xoC p c (modO t r x)=setR c t (u++qbq x r::w):=by
 have hid:=qst v ht;rw [h] at hid;have hr:=qvx hid;rw [<- h] at hr;have he:xoE p c (modO t r x)=0:=by
  simp [xoE,modO,modE,ql2 ht,hr,hx]
 refine ⟨he,?_⟩;unfold xoC;rw [if_pos he];simp only [xoD,modO,modC,hr];rw [if_neg (by decide),if_pos trivial];simp only [setR,Int.toNat_natCast,h];have hm:(u++r::w).modify u.length (qbq x)=u++qbq x r::w:=by
  rw [List.modify_eq_take_cons_drop (by simp)];simp
 rw [hm]
theorem qoa {c:Config} {t:Nat} (h:t<c.rows.length) (N:List Int) (x:List Rw) (D:List ActionCall) (G:List (List Int)):qar ⟨c.rows.set t x,N,D,G⟩ t=x:=by
 unfold qar;rw [setA h,if_pos rfl];rfl
theorem qabo {p:Prg} {c:Config} {t:Nat} (ht:t<p.tables.length) {x:ActionCall} (hx:qbn p t x=0):xoE p c (setO t x)=0/\xoC p c (setO t x)=⟨c.rows,c.nextID,c.defaults.set t x,c.registers⟩:=by
 have he:xoE p c (setO t x)=0:=by
  simp [xoE,setO,defE,ql2 ht,hx]
 refine ⟨he,?_⟩;unfold xoC;rw [if_pos he];simp [xoD,setO,defC]
theorem qs2 (p:Prg):∀(c:Config) (l:List TableOp) (i:Nat),badF p c l i=none->okF p c l
 | _,[],_,_=>trivial
 | c,o::l,i,h=>by
  rw [badF] at h;by_cases q:xoE p c o=0
  ·rw [if_pos q] at h;exact ⟨q,qs2 p _ l _ h⟩
  ·rw [if_neg q] at h;cases h
theorem qnj (p:Prg):∀(c:Config) (l:List TableOp) (i j:Nat),badF p c l (i+j)=(badF p c l i).map fun x=>(x.1+j,x.2)
 | _,[],_,_=>rfl
 | c,o::l,i,j=>by
  rw [badF,badF];by_cases q:xoE p c o=0
  ·rw [if_pos q,if_pos q,show i+j+1=(i+1)+j by omega];exact qnj p _ l _ _
  ·rw [if_neg q,if_neg q];rfl
theorem qry (p:Prg):∀(c:Config) (l m:List TableOp) (i:Nat),okF p c l->badF p c (l++m) i=badF p (xoF p c l) m (i+l.length)
 | _,[],_,_,_=>rfl
 | c,o::l,m,i,h=>by
  rw [List.cons_append,badF,if_pos h.1,qry p _ l m _ h.2,qacf];rw [List.length_cons,show i+1+l.length=i+(l.length+1) by omega]
theorem qcy (p:Prg) (c:Config) (l:List TableOp):cfgN p c l l.length=xoF p c l:=by unfold cfgN;rw [List.take_length]
theorem qrx {p:Prg} {c:Config} {l:List TableOp} (h:badA p c l=none):okF p c l:=by
 have z:=qkw h;have h64:=qmt h;unfold badA at h;rw [if_neg (by simpa using z),if_neg (by omega)] at h;simp only [Option.map_eq_none_iff] at h;exact qs2 p c l 0 h
theorem qaaa {p:Prg} {c:Config} {l m:List TableOp} (h:badA p c l=none) (hl:l.length+m.length<=64):badA p c (l++m)=(badA p (xoF p c l) m).map fun x=>((l.length:Int)+x.1,x.2):=by
 have z:=qkw h;have ho:=qrx h;have v:=(qdg p c).1 z;have z2:=(qdg p _).2 (qos l v);unfold badA;rw [if_neg (by simpa using z),if_neg (by rw [List.length_append];omega),if_neg (by simpa using z2),if_neg (by omega),qry p c l m 0 ho,qnj];cases badF p (xoF p c l) m 0 with
 | none=>rfl
 | some x=>
  simp only [Option.map_some,Option.some.injEq,Prod.mk.injEq,and_true];omega
theorem qaaw {p:Prg} {c:Config} {l m:List TableOp} {i:Nat} (h:i<l.length):idN p c (l++m) i=idN p c l i:=by
 unfold idN cfgN;rw [Ql h,List.take_append_of_le_length (by omega)]
theorem qaax {p:Prg} {c:Config} {l m:List TableOp} (i:Nat):idN p c (l++m) (l.length+i)=idN p (xoF p c l) m i:=by
 unfold idN cfgN;rw [Qp (by omega),Nat.add_sub_cancel_left,List.take_length_add_append,qp2]
theorem qads {p:Prg} {c:Config} {l m:List TableOp}:(List.range (l++m).length).map (idN p c (l++m))=(List.range l.length).map (idN p c l)++(List.range m.length).map (idN p (xoF p c l) m):=by
 rw [List.length_append,List.range_add,List.map_append];congr 1
 ·exact List.map_congr_left fun i hi=>qaaw (by simpa using hi)
 ·rw [List.map_map];exact List.map_congr_left fun i _=>qaax i
structure SameRD (a b:Config):Prop where
 r:a.rows=b.rows
 d:a.defaults=b.defaults
 g:a.registers=b.registers
theorem SameRD.at {a b:Config} (h:SameRD a b) (t:Int):qar a t=qar b t:=by unfold qar;rw [h.r]
theorem qv0 {c:Config} {t:Nat} (h:t<c.rows.length):c.rows.set t (qar c t)=c.rows:=by rw [qcb h];simp
theorem qzz {p:Prg} {c c':Config} {o:TableOp} (v:CfgV p c) (v':CfgV p c') (hx:xoE p c o=0) (hk:o.kind≠3) (hs:SameRD c' (xoC p c o)):
  xoE p c' (undF c o (xoI p c o))=0/\SameRD (xoC p c' (undF c o (xoI p c o))) c:=by
 have hC:xoC p c o=xoD c o:=by unfold xoC;rw [if_pos hx]
 have hx0:=hx;rw [hC] at hs;unfold xoE at hx;unfold xoD at hs;by_cases k1:o.kind=1
 ·rw [if_pos k1] at hx hs;obtain ⟨hi,_,_⟩:=qw0 hx;obtain ⟨k,hkk,hkl⟩:=qc1 hi;have l1:k<c.rows.length:=by rw [v.rl];exact hkl
  have hI:xoI p c o=qdl c k:=by unfold xoI;rw [if_pos ⟨hx0,k1⟩,hkk]
  have hu:undF c o (xoI p c o)=delO k ⟨qdl c k,o.entry⟩:=by
   unfold undF;rw [if_pos k1,hI,hkk];rfl
  rw [hu];have hr:qar c' k=qar c k++⟨qdl c k,o.entry⟩::[]:=by
   rw [hs.at,hkk];unfold insC;rw [Int.toNat_natCast,qoa l1]
  obtain ⟨e1,e2⟩:=qaak v' hkl hr;refine ⟨e1,?_⟩;rw [e2];have h1:=hs.r;rw [hkk] at h1;refine ⟨?_,hs.d,hs.g⟩;simp only [setR,h1,insC,Int.toNat_natCast,List.set_set,List.append_nil];exact qv0 l1
 rw [if_neg k1] at hx hs;by_cases k2:o.kind=2
 ·rw [if_pos k2] at hx hs;unfold modE at hx;cases hi:inT p o.table with
  | false=>rw [if_pos hi] at hx;cases hx
  | true=>
  rw [if_neg (by rw [hi];decide)] at hx;obtain ⟨k,hkk,hkl⟩:=qc1 hi;have l1:k<c.rows.length:=by rw [v.rl];exact hkl
  have l1':k<c'.rows.length:=by rw [v'.rl];exact hkl
  rw [hkk] at hx hs;cases hri:rIdx (qar c k) o.id with
  | none=>rw [if_pos hri] at hx;cases hx
  | some i=>
  obtain ⟨hil,hid⟩:=qin hri;have hsp:qar c k=(qar c k).take i++(qar c k)[i]::(qar c k).drop (i+1):=by simp
  have hids:=qst v hkl;generalize hq:(qar c k)[i]=q at*;generalize hu:(qar c k).take i=u at*;generalize hw:(qar c k).drop (i+1)=w at*;have hul:u.length=i:=by rw [<- hu,List.length_take];omega
  have hmod:(qar c k).modify i (qbq o.call)=u++qbq o.call q::w:=by
   rw [hsp,List.modify_eq_take_cons_drop (by simp;omega)];simp [<- hul]
  have hety:etyF (qar c k) o.id=q.entry:=by
   obtain ⟨r,hr,h1,h2⟩:=qm0 (l:=qar c k) (id:=o.id) (by rw [hri];simp);rw [h2];have hrq:r=q:=by
    obtain ⟨j,hj,rfl⟩:=Qn.1 hr;by_cases e:j=i
    ·subst e;exact hq
    ·exfalso;rw [List.pairwise_iff_getElem] at hids;have hqi:(qar c k)[i].id=o.id:=by rw [hq];exact hid
     rcases Nat.lt_or_gt_of_ne e with g | g
     ·have:=hids j i hj hil g;omega
     ·have:=hids i j hil hj g;omega
   rw [hrq]
  have hun:undF c o (xoI p c o)=modO k (qbq o.call q) q.entry.call:=by
   unfold undF;rw [if_neg k1,if_pos k2,hkk,hety,<- hid];rfl
  rw [hun];have hmc:modC c k o.id o.call=⟨c.rows.set k (u++qbq o.call q::w),c.nextID,c.defaults,c.registers⟩:=by
   unfold modC;rw [hri];simp only [Int.toNat_natCast,hmod]
  rw [hmc] at hs;have hr:qar c' k=u++qbq o.call q::w:=by rw [hs.at,qoa l1]
  have hck:qbn p k q.entry.call=0:=by
   have hm:q∈qar c k:=by rw [hsp];simp
   rw [qcb l1] at hm;exact qada (ql2 hkl) ((v.at hkl).ent q hm)
  obtain ⟨e1,e2⟩:=qaa4 v' hkl hr hck;refine ⟨e1,?_⟩;rw [e2];have h1:=hs.r;refine ⟨?_,hs.d,hs.g⟩;have hcc:qbq q.entry.call (qbq o.call q)=q:=rfl;simp only [setR,h1,List.set_set,hcc];rw [<- hsp];exact qv0 l1
 rw [if_neg k2,if_neg hk] at hx hs;by_cases k4:o.kind=4
 rotate_left
 ·rw [if_neg k4] at hx;cases hx
 rw [if_pos k4] at hx;unfold defE at hx;cases hi:inT p o.table with
 | false=>rw [if_pos hi] at hx;cases hx
 | true=>
 obtain ⟨k,hkk,hkl⟩:=qc1 hi;have l3:k<c.defaults.length:=by rw [v.dl];exact hkl
 have hun:undF c o (xoI p c o)=setO k (qie c k):=by
  unfold undF;rw [if_neg k1,if_neg k2,if_neg hk,hkk];rfl
 rw [hun];have hdk:qbn p k (qie c k)=0:=by
  have:=(v.at hkl).dflt;simpa [qie,Qa l3] using this
 obtain ⟨e1,e2⟩:=qabo (c:=c') hkl hdk;refine ⟨e1,?_⟩;rw [e2];have hd:=hs.d;rw [hkk] at hd;refine ⟨hs.r,?_,hs.g⟩;simp only [hd,defC,Int.toNat_natCast,List.set_set];simp [qie,Qa l3]
def und (p:Prg):Config->List TableOp->List TableOp
 | _,[]=>[]
 | c,o::l=>und p (xoC p c o) l++[undF c o (xoI p c o)]
theorem qqz (p:Prg):∀(c:Config) (l:List TableOp),(qdo p c l l.length).reverse=und p c l
 | _,[]=>rfl
 | c,o::l=>by
  rw [und,<- qqz p (xoC p c o) l];have:qdo p c (o::l) (o::l).length=undF c o (xoI p c o)::qdo p (xoC p c o) l l.length:=by
   unfold qdo;rw [List.length_cons,List.range_succ_eq_map,List.map_cons,List.map_map];congr 1
  rw [this,List.reverse_cons]
theorem qvz {p:Prg}:∀(l:List TableOp) (c c':Config),CfgV p c->CfgV p c'->okF p c l->(∀o∈l,o.kind≠3)->SameRD c' (xoF p c l)->okF p c' (und p c l)/\SameRD (xoF p c' (und p c l)) c
 | [],c,c',_,_,_,_,hs=>⟨trivial,hs⟩
 | o::l,c,c',v,v',h,hk,hs=>by
  obtain ⟨i1,i2⟩:=qvz l (xoC p c o) c' (qlr v o) v' h.2 (fun x hx=>hk x (by simp [hx])) hs;obtain ⟨s1,s2⟩:=qzz v (qos (und p (xoC p c o) l) v') h.1 (hk o (by simp)) i2;refine ⟨qvu p _ _ _ i1 ⟨s1,trivial⟩,?_⟩;rw [und,qp2];exact s2
theorem qt8 {p:Prg}:∀(l:List TableOp) (c:Config),okF p c l->(∀o∈l,o.kind≠3)->∀u∈und p c l,u.kind≠1
 | [],_,_,_,u,hu=>by simp [und] at hu
 | o::l,c,h,hk,u,hu=>by
  rw [und] at hu;rcases List.mem_append.1 hu with hu | hu
  ·exact qt8 l _ h.2 (fun x hx=>hk x (by simp [hx])) u hu
  ·simp only [List.mem_singleton] at hu;subst hu;unfold undF;by_cases k1:o.kind=1
   ·rw [if_pos k1];simp
   rw [if_neg k1];by_cases k2:o.kind=2
   ·rw [if_pos k2];simp
   rw [if_neg k2,if_neg (hk o (by simp))];simp
theorem qr1 (p:Prg):∀(V:List TableOp) (d:Config),(∀u∈V,u.kind≠1)->bkP p [] d V=V
 | [],_,_=>rfl
 | u::V,d,h=>by
  have h1:=h u (by simp);have e:bk1 [] u=u:=by simp [bk1,h1,getM]
  rw [bkP,e,bkM,if_neg h1,qr1 p V _ fun x hx=>h x (by simp [hx])]
theorem qsu (p:Prg) (c:Config) (l:List TableOp):(invP p c l).length=l.length:=by
 unfold invP;rw [qve];simp [qdo]
theorem qw1 {p:Prg} {c:Config} {l:List TableOp} (h:badA p c l=none) (hk:∀o∈l,o.kind≠3):invA p c l (invP p c l)= .tup [.slice 9 ((invP p c l).map TableOp.c),.int .i64 0]/\badA p (xoF p c l) (invP p c l)=none/\qfc (xoF p (xoF p c l) (invP p c l)) c=true:=by
 have z:=qkw h;have h64:=qmt h;have ho:=qrx h;have v:=(qdg p c).1 z;have vd:CfgV p (xoF p c l):=qos l v;have hP:invP p c l=und p c l:=by
  unfold invP;rw [qqz,qr1 p _ _ (qt8 l c ho hk)]
 have hl:=qsu p c l;obtain ⟨r1,r2⟩:=qvz l c (xoF p c l) v vd ho hk ⟨rfl,rfl,rfl⟩;have hb:badA p (xoF p c l) (invP p c l)=none:=by
  unfold badA;rw [if_neg (by simpa using (qdg p _).2 vd),if_neg (by omega),hP,qrz p _ _ 0 r1];rfl
 have he:qfc (xoF p (xoF p c l) (invP p c l)) c=true:=by
  rw [hP];unfold qfc;rw [r2.r,r2.d,r2.g];simp
 refine ⟨?_,hb,he⟩;unfold invA;rw [h];simp only;unfold invT;rw [qcy,hb];simp only;rw [qcy,if_pos he]
def qes (l:List TableOp):Bool:=l.any fun o=>decide (o.kind=3)
theorem qxt {p:Prg} {c:Config} {l:List TableOp} (h:badA p c l=none):(invA p c l (invP p c l)= .tup [.slice 9 ((invP p c l).map TableOp.c),.int .i64 0]/\badA p (xoF p c l) (invP p c l)=none/\qfc (xoF p (xoF p c l) (invP p c l)) c=true)\/(invA p c l (invP p c l)= .tup [.slice 9 [],.int .i64 14]/\qes l=true):=by
 cases hd:qes l with
 | false=>
  refine .inl (qw1 h fun o ho hk=>?_);have:=List.any_eq_false.1 hd o ho;simp [hk] at this
 | true=>
  have hA:invA p c l (invP p c l)=invT p c l (invP p c l):=by unfold invA;rw [h]
  rw [hA];unfold invT;rw [qcy];cases hb:badA p (xoF p c l) (invP p c l) with
  | some x=>exact .inr ⟨rfl,rfl⟩
  | none=>
   simp only;rw [qcy];by_cases q:qfc (xoF p (xoF p c l) (invP p c l)) c=true
   ·rw [if_pos q];exact .inl ⟨rfl,trivial,q⟩
   ·rw [if_neg q];exact .inr ⟨rfl,trivial⟩
theorem qadu {p:Prg} {c:Config} {l out:List TableOp} {k e:Int} (h:badA p c l=some (k,e)):invA p c l out= .tup [.slice 9 [],.int .i64 e]:=by unfold invA;rw [h]
theorem qaf8 {p:Prg} {c:Config} (s:CfgT c) (hp:p.tables.length<2^40) {l:List TableOp} (hl:∀o∈l,OpS o) (h:badA p c l=none):∀o∈invP p c l,OpS o:=by
 obtain ⟨v,_,hb⟩:=qg1 h;have hU:=qp1 v s hp hl hb;exact qo1 p _ _ _ fun u hu=>hU u (by simpa using hu)
def UndR (p:Prg) (c:Config) (l L:List TableOp) (E:Int):Prop:=(E=0/\L.length=l.length/\(∀o∈L,OpS o)/\badA p (xoF p c l) L=none/\qfc (xoF p (xoF p c l) L) c=true)\/(E=14/\qes l=true)
theorem qaey {p:Prg} {c:Config} (s:CfgT c) (hp:p.tables.length<2^40) {l:List TableOp} (hl:∀o∈l,OpS o) (h:badA p c l=none):∃L E,invA p c l (invP p c l)= .tup [.slice 9 (L.map TableOp.c),.int .i64 E]/\UndR p c l L E:=by
 rcases qxt h with ⟨h1,h2,h3⟩ | ⟨h1,h2⟩
 ·exact ⟨_,_,h1,.inl ⟨rfl,qsu p c l,qaf8 s hp hl h,h2,h3⟩⟩
 ·exact ⟨[],_,h1,.inr ⟨rfl,h2⟩⟩
theorem qag3 (p:Prg) (op:p.Ok qau) (hc:(pre p.control).length<2^40 - 1) (hp:p.tables.length<2^40) {c:Config} (v:CfgV p c) (s:CfgT c) {l L:List TableOp} {E:Int} (hl:∀o∈l,OpS o) (hU:UndR p c l L E) {e:Env} {n:Nat}
  (h2:look 2 e=some (.slice 9 (l.map TableOp.c))) (h3:look 3 e=some (.iptr 9 [Prg.c p] 0 0)) (h4:look 4 e=some (.iptr 4 [Config.c c] 0 0)) (h7:look 7 e=some (.iptr 4 [Config.c (xoF p c l)] 0 0)) (h11:look 11 e=some (.slice 9 (L.map TableOp.c))) (h12:look 12 e=some (.int .i64 E)) (h13:look 13 e=some (.bool (qes l))):
  go Φ (finP [.tmp 6]) [.c c_3_k1] .normal ⟨e,⟨[],n⟩⟩=some (.val (.bool true)):=by
 obtain ⟨vd,sd⟩:=qd2 v s hp l hl l.length;rw [qcy] at vd sd;rcases hU with ⟨rfl,hlen,hLs,hb,heq⟩ | ⟨rfl,hd⟩
 ·have ka:=qfe p op hc hp sd L hLs;rw [show appA p (xoF p c l) L= .tup [.agg (Config.c (cfgN p (xoF p c l) L L.length)),.slice 1 (idsA p (xoF p c l) L),.int .i64 0,.int .i64 0] by simp only [appA,hb];rfl,qcy] at ka;have sx:=(qd2 vd sd hp L hLs L.length).2;rw [qcy] at sx;have kq:=qkn (xoF p (xoF p c l) L) c (qva sx);rw [heq] at kq;generalize idsA p (xoF p c l) L=il at ka;generalize xoF p (xoF p c l) L=y at ka kq;generalize xoF p c l=d at ka h7;rw [Prg.e] at h3;rw [Config.ce] at h4 h7;simp only [Prg.e,Config.ce] at ka kq;simp [c_3_k1,h2,h3,h4,h7,h11,h12,h13,ka,kq,hlen,qdj]
 ·rw [hd] at h13;simp [c_3_k1,h12,h13,qdj]
theorem qut {l:List TableOp} {i:Nat} (hi:i<l.length):qes (l.take (i+1))=(qes (l.take i) || decide (l[i].kind=3)):=by
 unfold qes;rw [Qh hi,List.any_append];simp
theorem qq2 (p:Prg) (c:Config) (l:List TableOp) (op:p.Ok qau) (oc:c.Ok qau) (oL:okL qau (TableOp.Ok qau) l):
  qac Φ f_3 [.agg (Prg.c p),.agg (Config.c c),.slice 9 (l.map TableOp.c)]=some (.val (.bool true)):=by
 obtain ⟨ol',oo⟩:=oL;have ol:l.length<2^40:=by have:=qdq;omega
 have f:=qhs op;have s:=qvb oc;have hl:∀o∈l,OpS o:=fun o ho=>qru (oo o ho)
 obtain ⟨b,hb,hb2⟩:=qqu p c op;have ho:=qiv l;rw [qaa (fn:=c_3) rfl rfl];cases b with
 | false=>
  simp only [Prg.e,Config.ce] at hb;simp [c_3,Prg.e,Config.ce,hb,qdj]
 | true=>
 cases b2:qgs l with
 | false=>
  rw [b2] at ho;simp only [Prg.e,Config.ce] at hb;simp [c_3,Prg.e,Config.ce,hb,ho,qdj]
 | true=>
 rw [b2] at ho;have hc:(pre p.control).length<2^40 - 1:=by have:=(hb2 rfl).1;omega
 have hp:p.tables.length<2^40:=f.t;have ka:=qfe p op hc hp s l hl;have ki:=qw2 p op hc hp s l hl;cases hA:badA p c l with
 | some x=>
  obtain ⟨k,x⟩:=x;have hx:=qht hA;rw [show appA p c l= .tup [.agg noC,.slice 1 [],.int .i64 k,.int .i64 x] by simp only [appA,hA]] at ka;rw [qadu hA] at ki;simp only [Prg.e,Config.ce,noC] at hb ka ki;simp [c_3,Prg.e,Config.ce,hb,ho,ka,ki,hx,qdj]
 | none=>
  rw [show appA p c l= .tup [.agg (Config.c (cfgN p c l l.length)),.slice 1 (idsA p c l),.int .i64 0,.int .i64 0] by simp only [appA,hA];rfl,qcy] at ka;have v:CfgV p c:=(qg1 hA).1;obtain ⟨L,E,hE,hU⟩:=qaey s hp hl hA;rw [hE] at ki;have k1:=fun e n=>qag3 p op hc hp v s hl hU (e:=e) (n:=n)
  generalize idsA p c l=il at ka;generalize xoF p c l=d at ka k1;generalize hX:some (Rt.val (.bool true))=X;have hd0:qes (l.take 0)=false:=rfl;simp only [Prg.e,Config.ce] at hb ka ki;simp [c_3,Prg.e,Config.ce,hb,ho,ka,ki];subst hX;refine qa0 l.length (fun _=>[]) 0 (fun i e=>look 2 e=some (.slice 9 (l.map TableOp.c))/\look 3 e=some (.iptr 9 [Prg.c p] 0 0)/\look 4 e=some (.iptr 4 [Config.c c] 0 0)/\look 7 e=some (.iptr 4 [Config.c d] 0 0)/\look 11 e=some (.slice 9 (L.map TableOp.c))/\look 12 e=some (.int .i64 E)/\look 13 e=some (.bool (qes (l.take i)))/\look 14 e=some (.int .i64 i))
   (fun _=>some (Rt.val (.bool true))) ?_ ?_ 0 _ _ (Qc _) (Qc _) ?_
  ·rintro i e n K hi hK _ ⟨h2,h3,h4,h7,h11,h12,h13,h14⟩ ih;have hw:=qal i (by omega);have hs:=qut hi;generalize hX:some (Rt.val (.bool true))=X at ih ⊢;cases hq:qes (l.take i) with
   | true=>
    rw [hq] at h13 hs;simp [c_3_l0,h2,h13,h14,hi,hw];exact ih _ _ (Qc _) ⟨by simp [h2],by simp [h3],by simp [h4],by simp [h7],by simp [h11],by simp [h12],by simp [hs],by simp⟩
   | false=>
    rw [hq] at h13 hs;by_cases hk:l[i].kind=3
    ·simp [c_3_l0,h2,h13,h14,hi,hw,TableOp.ce2,hk];exact ih _ _ (Qc _) ⟨by simp [h2],by simp [h3],by simp [h4],by simp [h7],by simp [h11],by simp [h12],by simp [hs,hk],by simp⟩
    ·simp [c_3_l0,h2,h13,h14,hi,hw,TableOp.ce2,hk];exact ih _ _ (Qc _) ⟨by simp [h2],by simp [h3],by simp [h4],by simp [h7],by simp [h11],by simp [h12],by simp [hs,hk],by simp⟩
  ·rintro e n K hK _ ⟨h2,h3,h4,h7,h11,h12,h13,h14⟩;rw [Qo (Qb _)] at h13;generalize hX:some (Rt.val (.bool true))=X at k1 ⊢;simp [c_3_l0,h2,h14,hK];exact k1 _ _ (by simp [h2]) (by simp [h3]) (by simp [h4]) (by simp [h7]) (by simp [h11]) (by simp [h12]) (by simp [h13])
  ·simp [Prg.e,Config.ce,qes]
def cA2 {α:Type} (c:α->List AV) (q:α×α):List AV:=c q.1++c q.2
def okA2 {α:Type} (ok:α->Prop) (q:α×α):Prop:=ok q.1/\ok q.2
theorem qacd {P:Program} {B:Nat} {t e:TypeId} {k:Nat} {xs:List AV} (hu:P.underlying t=some (.array k e)) (h:WT P B t xs):∃xss:List (List AV),xs=xss.flatten/\xss.length=k/\∀x∈xss,WT P B e x:=by
 cases h with
 | bool b h=>rw [hu] at h;cases h
 | int k v h=>rw [hu] at h;cases h
 | str s h=>rw [hu] at h;cases h
 | slice es h=>rw [hu] at h;cases h
 | struct fs xss h=>rw [hu] at h;cases h
 | array k' xss h h1 h2=>rw [hu] at h;cases h;exact ⟨xss,rfl,h1,h2⟩
theorem qaef {α:Type} {P:Program} {B:Nat} {t e:TypeId} {c:α->List AV} {ok:α->Prop} (hu:P.underlying t=some (.array 2 e)) (he:Rd P B e c ok):Rd P B t (cA2 c) (okA2 ok):=by
 intro xs h;obtain ⟨xss,rfl,hl,hx⟩:=qacd hu h
 match xss,hl with
 | [a,b],_=>
  obtain ⟨x,rfl,hx1⟩:=he a (hx a (by simp));obtain ⟨y,rfl,hy1⟩:=he b (hx b (by simp));exact ⟨(x,y),by simp [cA2],hx1,hy1⟩
def idL (p:Prg) (c:Config) (l:List TableOp):List Int:=(List.range l.length).map (idN p c l)
theorem qss (p:Prg) (c:Config) (l:List TableOp):idsA p c l=(idL p c l).map cI:=by
 unfold idsA idL;rw [List.map_map];rfl
theorem qadq {p:Prg} {c:Config} {l m:List TableOp}:idL p c (l++m)=idL p c l++idL p (xoF p c l) m:=qads
def arrQ (q:List TableOp×List TableOp):List AV:=[.slice 9 (q.1.map TableOp.c),.slice 9 (q.2.map TableOp.c)]
theorem qov (p:Prg) (c:Config) (q:List TableOp×List TableOp) (op:p.Ok qau) (oc:c.Ok qau) (oq:okL qau (TableOp.Ok qau) q.1/\okL qau (TableOp.Ok qau) q.2):
  qac Φ f_4 [.agg (Prg.c p),.agg (Config.c c),.agg (arrQ q)]=some (.val (.bool true)):=by
 obtain ⟨l,m⟩:=q;obtain ⟨⟨ol',oo⟩,⟨om',oo2⟩⟩:=oq;simp only at ol' om' oo oo2;have f:=qhs op;have s:=qvb oc;have hl:∀o∈l,OpS o:=fun o ho=>qru (oo o ho)
 have hm:∀o∈m,OpS o:=fun o ho=>qru (oo2 o ho)
 obtain ⟨b,hb,hb2⟩:=qqu p c op;have ho:=qiv l;have hq:=qiv m;rw [qaa (fn:=c_4) rfl rfl];cases b with
 | false=>
  simp only [Prg.e,Config.ce] at hb;simp [c_4,arrQ,Prg.e,Config.ce,hb,qdj]
 | true=>
 cases b2:qgs l with
 | false=>
  rw [b2] at ho;simp only [Prg.e,Config.ce] at hb;simp [c_4,arrQ,Prg.e,Config.ce,hb,ho,qdj]
 | true=>
 rw [b2] at ho;cases b3:qgs m with
 | false=>
  rw [b3] at hq;simp only [Prg.e,Config.ce] at hb;simp [c_4,arrQ,Prg.e,Config.ce,hb,ho,hq,qdj]
 | true=>
 rw [b3] at hq;by_cases z1:30<l.length
 ·simp only [Prg.e,Config.ce] at hb;simp [c_4,arrQ,Prg.e,Config.ce,hb,ho,hq,z1,qdj]
 by_cases z2:30<m.length
 ·simp only [Prg.e,Config.ce] at hb;simp [c_4,arrQ,Prg.e,Config.ce,hb,ho,hq,z1,z2,qdj]
 have hc:(pre p.control).length<2^40 - 1:=by have:=(hb2 rfl).1;omega
 have hp:p.tables.length<2^40:=f.t;have ka:=qfe p op hc hp s l hl;cases hA:badA p c l with
 | some x=>
  obtain ⟨k,x⟩:=x;have hx:=qht hA;rw [show appA p c l= .tup [.agg noC,.slice 1 [],.int .i64 k,.int .i64 x] by simp only [appA,hA]] at ka;simp only [Prg.e,Config.ce,noC] at hb ka;simp [c_4,arrQ,Prg.e,Config.ce,hb,ho,hq,z1,z2,ka,hx,qdj]
 | none=>
 rw [show appA p c l= .tup [.agg (Config.c (cfgN p c l l.length)),.slice 1 (idsA p c l),.int .i64 0,.int .i64 0] by simp only [appA,hA];rfl,qcy,qss] at ka;have v:CfgV p c:=(qg1 hA).1;obtain ⟨vd,sd⟩:=qd2 v s hp l hl l.length;rw [qcy] at vd sd;have hlm:∀o∈l++m,OpS o:=fun o h=>by
  rcases List.mem_append.1 h with h | h
  ·exact hl o h
  ·exact hm o h
 have kb:=qfe p op hc hp sd m hm;have kc:=qfe p op hc hp s (l++m) hlm;rw [List.map_append] at kc;have c1:l.length*120<=70368744177664:=by omega
 have c2:(l.length+m.length)*120<=70368744177664:=by omega
 have c3:l.length*8<=70368744177664:=by omega
 have c4:(l.length+m.length)*8<=70368744177664:=by omega
 have happ:=qaaa (m:=m) hA (by omega);have i1:(idL p c l).length=l.length:=by simp [idL]
 have i2:(idL p (xoF p c l) m).length=m.length:=by simp [idL]
 cases hB:badA p (xoF p c l) m with
 | some x=>
  obtain ⟨k,x⟩:=x;have hx:=qht hB;rw [hB] at happ;simp only [Option.map_some] at happ;have hk: -1<=k/\k<64:=by
   unfold badA at hB;split at hB
   ·cases hB;omega
   split at hB
   ·cases hB;omega
   ·rw [Qs] at hB;obtain ⟨y,hy,hy2⟩:=hB;cases hy2;have:∀(l:List TableOp) (c:Config) (i:Nat) (y:Nat×Int),badF p c l i=some y->y.1<i+l.length:=by
     intro l
     induction l with
     | nil=>intro c i y h;simp [badF] at h
     | cons o l ih=>
      intro c i y h;unfold badF at h;split at h
      ·have:=ih _ _ _ h;simp;omega
      ·cases h;simp
    have:=this _ _ _ _ hy;omega
  have hw:IntKind.wrap .i64 ((l.length:Int)+k)=(l.length:Int)+k:=qbs (by omega) (by omega);rw [show appA p (xoF p c l) m= .tup [.agg noC,.slice 1 [],.int .i64 k,.int .i64 x] by simp only [appA,hB]] at kb;rw [show appA p c (l++m)= .tup [.agg noC,.slice 1 [],.int .i64 ((l.length:Int)+k),.int .i64 x] by simp only [appA,happ]] at kc;generalize idL p c l=il at ka;generalize xoF p c l=d at ka kb;simp only [Prg.e,Config.ce,noC] at hb ka kb kc;simp [c_4,arrQ,Prg.e,Config.ce,hb,ho,hq,z1,z2,ka,kb,kc,hx,hw,c1,c2,qdj]
 | none=>
  rw [hB] at happ;simp only [Option.map_none] at happ;rw [show appA p (xoF p c l) m= .tup [.agg (Config.c (cfgN p (xoF p c l) m m.length)),.slice 1 (idsA p (xoF p c l) m),.int .i64 0,.int .i64 0] by simp only [appA,hB];rfl,qcy,qss] at kb;rw [show appA p c (l++m)= .tup [.agg (Config.c (cfgN p c (l++m) (l++m).length)),.slice 1 (idsA p c (l++m)),.int .i64 0,.int .i64 0] by simp only [appA,happ];rfl,qcy,qss,qadq,qp2] at kc;have sx:=(qd2 vd sd hp m hm m.length).2;rw [qcy] at sx;have kq:=qxa (xoF p (xoF p c l) m) (xoF p (xoF p c l) m) sx.s;have ki:=qs6 (idL p c l++idL p (xoF p c l) m) (idL p c l++idL p (xoF p c l) m) (by rw [List.length_append];omega);rw [decide_eq_true rfl] at kq ki;rw [List.map_append] at ki kc;generalize xoF p (xoF p c l) m=y at kb kc kq;generalize idL p c l=il at ka kc ki i1;generalize idL p (xoF p c l) m=im at kb kc ki i2;generalize xoF p c l=d at ka kb;simp only [Prg.e,Config.ce] at hb ka kb kc kq;simp [c_4,arrQ,Prg.e,Config.ce,hb,ho,hq,z1,z2,ka,kb,kc,kq,ki,i1,i2,c1,c2,c3,c4,qdj]
end Go.Av
