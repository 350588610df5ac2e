/-
 The law StoreNumbers.
-/
import Derived.Test.YtakklbipljodeaaGreatR4
set_option linter.unusedVariables false
set_option linter.unusedSimpArgs false
set_option linter.constructorNameAsVariable false
namespace Go.Av
set_option maxRecDepth 4000
theorem qabr {p:Prg} {c:Config} {x:Call25} (h:x.kind≠0):(doC p c x).nextID=c.nextID:=by
 unfold doC;split
 ·by_cases z:xoE p c x.op=0
  ·rw [qady z,if_neg];simp only [Call25.op];omega
  ·unfold xoC;rw [if_neg z]
 ·rfl
structure NuI (p:Prg) (x:Case25) (s0 R B:Nat) (i:Nat) (e:Env) (O:List (Nat×AO)) (N:Nat):Prop where
 tl:Tail O N
 hB:B<=N
 hRB:R<B
 st:∃(S:SV) (c:Config) (L:List Int),StoreM O S p c/\S.s=s0/\(∀j,S.own j->j≠R)/\CfgV p c/\CfgT c/\look R O=some (.row 1 (L.map cI))/\L=c.nextID.map (· - 1)
 e1:look 1 e=some (.iptr 14 [Case25.c x] 0 0)
 e3:look 3 e=some (.ptr s0 15 0 0)
 e4:look 4 e=some (.row R 1 0 p.tables.length)
 e6:look 6 e=some (.int .i64 i)
theorem nu1 (x:Case25) (op:x.p.Ok qa5) (hl60:x.calls.length<=60) (hl:∀o∈x.calls,Call25S o) {s0 R B:Nat}:
  ∀e O N,NuI x.p x s0 R B 0 e O N->go Φ (finP [.tmp 2]) [.c (.loop c_5_l1),.b 2,.c c_5_k2] .normal ⟨e,⟨O,N⟩⟩=some (.val (.bool true)):=by
 have f:=qee op;have hp:=f.t;intro e O N I0;refine qds x.calls.length (fun i e h=>∃O N,h=⟨O,N⟩/\NuI x.p x s0 R B i e O N) (fun _=>some (Rt.val (.bool true))) ?_ ?_ 0 e _ (Qc _) ⟨O,N,rfl,I0⟩
 ·rintro i e _ L hi hL ⟨O,N,rfl,I⟩ ih;obtain ⟨S,c,LL,m0,es,nR,v,s,hR,hLL⟩:=I.st;have hT0:=I.tl;have hw:=qag i (by omega);have hxo:=hl _ (Qd hi);have e1:=I.e1;rw [Case25.ce] at e1;have u0:=hT0 N (Qb _);have hB:=I.hB;have hRB:=I.hRB;have rN:¬R=N:=by omega
  have rN':¬N=R:=by omega
  have hT1:Tail O (N+1):=hT0.mono (Nat.le_succ _);have nRr:¬Rs O R:=fun h=>by have h:look R O=some .res:=h;rw [hR] at h;cases h
  generalize hy:x.calls[i]=y at*;by_cases z0:y.kind=0
  ·obtain ⟨S1,O1,N1,c1,m1,es1,f1,k1,hT2,hN1⟩:=qrc m0 f v s hT1 y.table y.entry hxo.o.e;rw [es] at c1 es1;simp only [Entry.ce] at c1;have nR1:∀j,S1.own j->j≠R:=fun j hj h=>by
    rcases f1 j hj with h1 | h1
    ·exact nR j h1 h
    ·omega
   have hR1:=k1.lk hT1 hR (fun h=>h.elim (fun h=>nR _ h rfl) nRr);by_cases zi:insE x.p c y.table y.entry=0
   rotate_left
   ·rw [if_neg zi] at m1;simp [c_5_l1,e1,I.e3,I.e4,I.e6,hi,hy,hL,u0,qah,qad,Call25.ce,z0,c1,zi,hw];exact ih _ _ ⟨_,_,rfl,⟨hT2,by omega,hRB,⟨S1,c,LL,m1,es1,nR1,v,s,hR1,hLL⟩,by simp [e1,Case25.ce,Call25.ce],by simp [I.e3],by simp [I.e4],by simp⟩⟩
   ·rw [if_pos zi] at m1;obtain ⟨hit,hen⟩:=qru zi;obtain ⟨k,hk,hkt⟩:=qc6 hit;have v1:=qws v zi;have hxoI:xoE x.p c ⟨1,y.table,y.id,y.entry,y.call⟩=0:=by simp [xoE,zi]
    have s1:CfgT (insC c y.table y.entry):=by
     have:=qyu v s hp ⟨1,y.table,y.id,y.entry,y.call⟩ ⟨hxo.o.e,hxo.o.c⟩;simpa [xoC,hxoI,xoD] using this
    have hml:=qafa v zi;obtain ⟨S2,O2,N2,c2,m2,es2,f2,k2,hT3,hN2⟩:=qrd m1 f v1.rl hT2 y.table (qcd c y.table) y.entry.call hxo.o.e.al;rw [hml] at c2 m2;simp only [if_true] at m2;rw [es1] at c2 es2;simp only [ActionCall.ce] at c2;rw [zi] at c1;simp only [if_true] at c1;have v2:=qw0 v1 hml;have s2:CfgT (modC (insC c y.table y.entry) y.table (qcd c y.table) y.entry.call):=by
     have hx2:xoE x.p (insC c y.table y.entry) ⟨2,y.table,qcd c y.table,y.entry,y.entry.call⟩=0:=by simp [xoE,hml]
     have:=qyu v1 s1 hp ⟨2,y.table,qcd c y.table,y.entry,y.entry.call⟩ ⟨hxo.o.e,⟨hxo.o.e.al,hxo.o.e.ar⟩⟩;simpa [xoC,hx2,xoD] using this
    have nR2:∀j,S2.own j->j≠R:=fun j hj h=>by
     rcases f2 j hj with h1 | h1
     ·exact nR1 j h1 h
     ·omega
    have hR2:=k2.lk hT2 hR1 (fun h=>h.elim (fun h=>nR1 _ h rfl) (fun h=>by have h:look R O1=some .res:=h;rw [hR1] at h;cases h));have hkn:k<c.nextID.length:=by rw [v.nl];exact hkt
    have hkL:k<LL.length:=by rw [hLL];simpa using hkn
    have hLk:LL[k]=c.nextID[k] - 1:=by simp only [hLL,List.getElem_map]
    have hnx:qcd c y.table=c.nextID[k]:=by rw [hk,qfm hkn]
    have hge:¬((x.p.tables.length:Int)<=(k:Int)):=by omega
    have hlt:¬((k:Int)<0):=by omega
    have hle:¬(c.nextID[k]<=c.nextID[k] - 1):=by omega
    rw [hnx] at c1 c2;rw [hk] at c1 c2;simp [c_5_l1,e1,I.e3,I.e4,I.e6,hi,hy,hL,u0,qah,qad,Call25.ce,z0,hk,c1,hlt,hge,hR1,hkt,hkL,hLk,hle,cI,c2,hR2,hw];have hnn:(modC (insC c y.table y.entry) y.table (qcd c y.table) y.entry.call).nextID=c.nextID.set k (c.nextID[k]+1):=by
     unfold modC;split<;>simp [insC,hk,qfm hkn]
    refine ih _ _ ⟨_,_,rfl,⟨qao hT3,by omega,hRB,⟨S2,_,LL.set k c.nextID[k],m2.fr (fun j hj=>by rw [qad,if_neg (nR2 j hj)]),es2,nR2,v2,s2,by simp [qad,hR2,cI],?_⟩,by simp [e1,Case25.ce,Call25.ce],by simp [I.e3],by simp [I.e4],by simp⟩⟩;rw [hnn,hLL,List.map_set];congr 1;omega
  ·obtain ⟨S1,O1,N1,c1,m1,es1,f1,k1,hT2,hN1⟩:=qo5 m0 f v s hT1 y hxo;rw [es] at c1 es1;simp only [Call25.ce] at c1;have nR1:∀j,S1.own j->j≠R:=fun j hj h=>by
    rcases f1 j hj with h1 | h1
    ·exact nR j h1 h
    ·omega
   have hR1:=k1.lk hT1 hR (fun h=>h.elim (fun h=>nR _ h rfl) nRr);have v1:=qin v y;have s1:=qh4 v s hp y hxo;have hn:=qabr (p:=x.p) (c:=c) z0;by_cases zd:doE x.p c y=0
   ·by_cases z2:y.kind=2
    ·have hx:delE x.p c y.table y.id=0:=by simpa [doE,Call25.mu,Call25.op,xoE,z2] using zd
     have hd:doC x.p c y=delC c y.table y.id:=by simp [doC,Call25.mu,Call25.op,xoC,xoE,xoD,z2,hx]
     have h8:delE x.p (doC x.p c y) y.table y.id=8:=by rw [hd];exact qaep v hx
     obtain ⟨S2,O2,N2,c2,m2,es2,f2,k2,hT3,hN2⟩:=qrb m1 v1 hT2 y.table y.id;rw [h8] at c2 m2;simp only [show ¬(8:Int)=0 by decide,if_false] at m2;rw [es1] at c2 es2;have nR2:∀j,S2.own j->j≠R:=fun j hj h=>by
      rcases f2 j hj with h1 | h1
      ·exact nR1 j h1 h
      ·omega
     have hR2:=k2.lk hT2 hR1 (fun h=>h.elim (fun h=>nR1 _ h rfl) (fun h=>by have h:look R O1=some .res:=h;rw [hR1] at h;cases h));rw [z2] at c1;simp [c_5_l1,e1,I.e3,I.e4,I.e6,hi,hy,hL,u0,qah,qad,Call25.ce,z2,c1,zd,c2,hw];exact ih _ _ ⟨_,_,rfl,⟨hT3,by omega,hRB,⟨S2,doC x.p c y,LL,m2,es2,nR2,v1,s1,hR2,by rw [hn];exact hLL⟩,by simp [e1,Case25.ce,Call25.ce],by simp [I.e3],by simp [I.e4],by simp⟩⟩
    ·simp [c_5_l1,e1,I.e3,I.e4,I.e6,hi,hy,hL,u0,qah,qad,Call25.ce,z0,z2,c1,zd,hw];exact ih _ _ ⟨_,_,rfl,⟨hT2,by omega,hRB,⟨S1,doC x.p c y,LL,m1,es1,nR1,v1,s1,hR1,by rw [hn];exact hLL⟩,by simp [e1,Case25.ce,Call25.ce],by simp [I.e3],by simp [I.e4],by simp⟩⟩
   ·simp [c_5_l1,e1,I.e3,I.e4,I.e6,hi,hy,hL,u0,qah,qad,Call25.ce,z0,c1,zd,hw];exact ih _ _ ⟨_,_,rfl,⟨hT2,by omega,hRB,⟨S1,doC x.p c y,LL,m1,es1,nR1,v1,s1,hR1,by rw [hn];exact hLL⟩,by simp [e1,Case25.ce,Call25.ce],by simp [I.e3],by simp [I.e4],by simp⟩⟩
 ·rintro e _ L hL ⟨O,N,rfl,I⟩;have e1:=I.e1;rw [Case25.ce] at e1;simp [c_5_l1,c_5_k2,e1,I.e6,hL,qdp]
structure NvI (p:Prg) (x:Case25) (s0 R B:Nat) (S:SV) (i:Nat) (e:Env) (O:List (Nat×AO)) (N:Nat):Prop where
 tl:Tail O N
 hB:B<=N
 hRB:R<B
 st:∃L:List Int,StoreM O S p x.cc/\look R O=some (.row 1 (L.map cI))/\L.length=p.tables.length/\∀(k:Nat) (n:Int),k<i->x.cc.nextID[k]? =some n->L[k]? =some (n - 1)
 e1:look 1 e=some (.iptr 14 [Case25.c x] 0 0)
 e3:look 3 e=some (.ptr s0 15 0 0)
 e4:look 4 e=some (.row R 1 0 p.tables.length)
 e5:look 5 e=some (.int .i64 i)
theorem nu0 (x:Case25) (op:x.p.Ok qa5) (hl60:x.calls.length<=60) (hl:∀o∈x.calls,Call25S o) (v:CfgV x.p x.cc) (s:CfgT x.cc) {S:SV} {R B:Nat} (nR:∀j,S.own j->j≠R):
  ∀e O N,NvI x.p x S.s R B S 0 e O N->go Φ (finP [.tmp 2]) [.c (.loop c_5_l0),.b 0,.c c_5_k3] .normal ⟨e,⟨O,N⟩⟩=some (.val (.bool true)):=by
 have f:=qee op;have hp:=f.t;intro e O N I0;refine qds x.p.tables.length (fun i e h=>∃O N,h=⟨O,N⟩/\NvI x.p x S.s R B S i e O N) (fun _=>some (Rt.val (.bool true))) ?_ ?_ 0 e _ (Qc _) ⟨O,N,rfl,I0⟩
 ·rintro i e _ L hi hL ⟨O,N,rfl,I⟩ ih;obtain ⟨LL,m0,hR,hLl,hLk⟩:=I.st;have hw:=qag i (by omega);have e1:=I.e1;rw [Case25.ce] at e1;have hin:i<x.cc.nextID.length:=by rw [v.nl];exact hi
  have hiL:i<LL.length:=by omega
  have ht:=v.at hi;have n0:=ht.nx0;have n1:=ht.nx1;have hwn:IntKind.wrap .i64 (x.cc.nextID[i] - 1)=x.cc.nextID[i] - 1:=qa6 (by omega) (by omega);simp [c_5_l0,e1,I.e4,I.e5,hi,hL,hin,hiL,hwn,hR,qad,cI,hw];refine ih _ _ ⟨_,_,rfl,⟨qao I.tl,I.hB,I.hRB,⟨LL.set i (x.cc.nextID[i] - 1),m0.fr (fun j hj=>by rw [qad,if_neg (nR j hj)]),by simp [qad,hR,cI],by simp [hLl],fun k n hk hn=>?_⟩,by simp [e1,Case25.ce],by simp [I.e3],by simp [I.e4],by simp⟩⟩;by_cases q:i=k
  ·subst q;rw [Qa hin] at hn;cases hn;rw [List.getElem?_set_self hiL]
  ·rw [List.getElem?_set_ne q];exact hLk k n (by omega) hn
 ·rintro e _ L hL ⟨O,N,rfl,I⟩;obtain ⟨LL,m0,hR,hLl,hLk⟩:=I.st;have e1:=I.e1;rw [Case25.ce] at e1;have hLL:LL=x.cc.nextID.map (· - 1):=by
   refine List.ext_getElem (by simp [hLl,v.nl]) fun k h1 h2=>?_
   have hk:k<x.cc.nextID.length:=by simpa using h2
   have:=hLk k x.cc.nextID[k] (by omega) (Qa hk);rw [Qa h1] at this;rw [Option.some.inj this,List.getElem_map]
  simp [c_5_l0,c_5_k3,I.e4,I.e5,hL];exact nu1 x op hl60 hl _ _ _ ⟨I.tl,I.hB,I.hRB,⟨S,x.cc,LL,m0,rfl,nR,v,s,hR,hLL⟩,by simp [I.e1],by simp [I.e3],by simp [I.e4],by simp⟩
theorem qn8 (x:Case25) (o:x.Ok qa5):qab Φ f_5 [.agg (Case25.c x)]=some (.val (.bool true)):=by
 obtain ⟨op,oc,ol⟩:=o;have f:=qee op;have s:=qqa oc;have hv:=qpp op;obtain ⟨b,hb⟩:=qu3 x.p x.cc (qid op) s.s;have hpre:=qq3 x.p x.cc (qid op);have kf:=qpb x.calls;have hbl:=hb;rw [qaa (fn:=c_5) rfl rfl];cases b with
 | false=>
  simp only [Prg.e,Config.ce] at hb;simp [c_5,Case25.ce,hb,qdp]
 | true=>
 have hc:(pre x.p.control).length<2^40 - 1:=by have:=hpre hb;omega
 have kc:=qlb x.p f hv hc x.cc s;simp only [Prg.e,Config.ce] at hb kc;cases hF:fewF x.calls with
 | false=>
  rw [hF] at kf;simp [c_5,Case25.ce,hb,kf,qdp]
 | true=>
 rw [hF] at kf;by_cases z:cfgE x.p x.cc=0
 rotate_left
 ·simp [c_5,Case25.ce,hb,kf,kc,z,qdp]
 rw [z] at kc;by_cases z12:(12:Int)<x.p.tables.length
 ·simp [c_5,Case25.ce,hb,kf,kc,z12,qdp]
 have v:=(qhn x.p x.cc).1 z;obtain ⟨S,O1,N1,e,m1,w1,k1,hT1,hN1⟩:=qma x op hc s hbl hF z (O:=[]) (N:=0) (Tail.nil 0);have hl60:=qod hF;have hl:∀o∈x.calls,Call25S o:=fun o ho=>qkk (ol.2 o ho)
 have t1:=hT1 N1 (Qb _);simp only [Case25.ce] at e;have g1:x.p.tables.length<4611686018427387904:=by omega
 have g2:(x.p.tables.length:Int)*8<=140737488355328:=by omega
 have own:∀j,S.own j->j≠N1:=fun j hj=>by have:=m1.lt hT1 hj;omega
 simp [c_5,Case25.ce,hb,kf,kc,z12,e,t1,g1,g2];exact nu0 x op hl60 hl v s own _ _ _ ⟨hT1.app1 (Qb _),Qb _,Nat.lt_succ_self _,⟨List.replicate x.p.tables.length 0,m1.kp (X:=fun _=>False) hT1 (Kp.app Kp.refl (Qb _)) (by simp),by simp [qah,t1,cI],by simp,fun k n hk=>by omega⟩,by simp [Case25.ce],by simp,by simp,by simp⟩
end Go.Av
