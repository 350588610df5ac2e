/-
 The law StoreChecks returns true for every program and every configuration.
-/
import Derived.Test.YtknmfocedphgmaaGreatW25K
import Derived.Test.YtknmfocedphgmaaGreatNW8
set_option linter.unusedVariables false
set_option linter.unusedSimpArgs false
set_option linter.constructorNameAsVariable false
namespace Go.Av
set_option maxRecDepth 4000
theorem CfgT.s {c:Xf} (t:CfgT c):CfgS c:=
 ⟨t.rl,fun l hl=>⟨(t.rs l hl).1,fun r hr=>⟨((t.rs l hl).2 r hr).kl,((t.rs l hl).2 r hr).al⟩⟩,t.nl,t.dl,fun d hd=>(t.ds d hd).1,t.gl,fun l hl=>(t.gs l hl).1⟩
section
variable {p:Prg} (f:PrgS p) (hv:∀t∈p.Xn,∀v∈t.dflt.args,ok32 0 v) {c:Xf} (v:CfgV p c) (s:CfgT c) (t:Int)
include f hv v s
end
section
variable {p:Prg} (f:PrgS p) (hv:∀t∈p.Xn,∀v∈t.dflt.args,ok32 0 v) {c:Xf} (v:CfgV p c) (s:CfgT c) (t:Int)
include f hv v s
end
def xoE (p:Prg) (c:Xf) (o:Xc):Int:=if o.kind=1 then insE p c o.table o.entry else if o.kind=2 then modE p c o.table o.id o.call else if o.kind=3 then delE p c o.table o.id else if o.kind=4 then defE p o.table o.call else 11
def xoD (c:Xf) (o:Xc):Xf:=if o.kind=1 then insC c o.table o.entry else if o.kind=2 then modC c o.table o.id o.call else if o.kind=3 then delC c o.table o.id else defC c o.table o.call
def xoC (p:Prg) (c:Xf) (o:Xc):Xf:=if xoE p c o=0 then xoD c o else c
def xoI (p:Prg) (c:Xf) (o:Xc):Int:=if xoE p c o=0/\o.kind=1 then qef c o.table else 0
structure CallS (x:Xb):Prop where
 al:x.args.length<2^40
 ar:∀v∈x.args,ok32 0 v
structure OpS (o:Xc):Prop where
 e:EntS o.entry
 c:CallS o.call
theorem qaey {o:Xc} (h:o.Ok qba):OpS o:=by
 have e:=qdf;simp only [Xc.Ok,Entry.Ok,Xb.Ok] at h;obtain ⟨_,_,_,⟨h1,_,_,h2⟩,_,h3⟩:=h;exact ⟨⟨by have:=h1.1;omega,fun m hm=>h1.2 m hm,by have:=h2.1;omega,fun v hv=>h2.2 v hv⟩,⟨by have:=h3.1;omega,fun v hv=>h3.2 v hv⟩⟩
theorem qyc {p:Prg} {c:Xf} (v:CfgV p c) (o:Xc):CfgV p (xoC p c o):=by
 unfold xoC;split
 ·rename_i h;unfold xoE at h;unfold xoD;split
  ·rename_i h1;rw [QAa h1] at h;exact qacl v h
  rename_i h1;rw [QA h1] at h;split
  ·rename_i h2;rw [QAa h2] at h;exact qacq v h
  rename_i h2;rw [QA h2] at h;split
  ·rename_i h3;rw [QAa h3] at h;exact qab1 v h
  rename_i h3;rw [QA h3] at h;by_cases h4:o.kind=4
  ·rw [QAa h4] at h;exact qab0 v h
  ·rw [QA h4] at h;cases h
 ·exact v
theorem CfgT.mk_rows {p:Prg} {c c':Xf} (s:CfgT c) (v':CfgV p c') (hp:p.Xn.length<2^40) (hr:∀l∈c'.rows,∀r∈l,rowS r) (hd:∀d∈c'.Xq,d.args.length<2^40/\∀v∈d.args,ok32 0 v) (hg:c'.Xm=c.Xm):CfgT c':=by
 refine ⟨by rw [v'.rl];exact hp,fun l hl=>⟨by have:=v'.small l hl;omega,hr l hl⟩,by rw [v'.nl];exact hp,by rw [v'.dl];exact hp,hd,by rw [hg];exact s.gl,by rw [hg];exact s.gs⟩
theorem qu3 {c:Xf} {t:Int} {r:Rw} (h:r∈qce c t):∃l∈c.rows,r∈l:=by
 unfold qce at h;cases ha:at? c.rows t with
 | none=>rw [ha] at h;cases h
 | some l=>
  rw [ha] at h;refine ⟨l,?_,h⟩;unfold at? at ha;split at ha
  ·cases ha
  ·exact Qe ha
theorem xoC_t {p:Prg} {c:Xf} (v:CfgV p c) (s:CfgT c) (hp:p.Xn.length<2^40) (o:Xc) (ho:OpS o):CfgT (xoC p c o):=by
 have v':=qyc v o;unfold xoC at v' ⊢;split
 rotate_left
 ·exact s
 rename_i h;rw [QAa h] at v';have old:∀l∈c.rows,∀r∈l,rowS r:=fun l hl=>(s.rs l hl).2
 have oldA:∀r∈qce c o.table,rowS r:=fun r hr=>by
  obtain ⟨l,hl,hr⟩:=qu3 hr;exact old l hl r hr
 unfold xoD at v' ⊢;split
 ·rename_i h1;rw [QAa h1] at v';refine s.mk_rows v' hp ?_ s.ds rfl;intro l hl r hr;simp only [insC] at hl;rcases Qq hl with hl | rfl
  ·exact old l hl r hr
  ·rcases QAd.1 hr with hr | hr
   ·exact oldA r hr
   ·simp at hr;subst hr;exact ho.e
 rename_i h1;rw [QA h1] at v';split
 ·rename_i h2;rw [QAa h2] at v';unfold modC at v' ⊢;split
  ·rename_i i hi;rw [hi] at v';refine s.mk_rows v' hp ?_ s.ds rfl;intro l hl r hr;rcases Qq hl with hl | rfl
   ·exact old l hl r hr
   ·obtain ⟨j,hj,rfl⟩:=Qn.1 hr;rw [QBy];have hj':j<(qce c o.table).length:=by simpa using hj
    have h0:=oldA _ (Qd hj');split
    ·exact ⟨h0.kl,h0.ks,ho.c.al,ho.c.ar⟩
    ·exact h0
  ·exact s
 rename_i h2;rw [QA h2] at v';split
 ·rename_i h3;rw [QAa h3] at v';unfold delC at v' ⊢;split
  ·rename_i i hi;rw [hi] at v';refine s.mk_rows v' hp ?_ s.ds rfl;intro l hl r hr;rcases Qq hl with hl | rfl
   ·exact old l hl r hr
   ·exact oldA r ((List.eraseIdx_sublist _ _).subset hr)
  ·exact s
 ·rename_i h3;rw [QA h3] at v';refine s.mk_rows v' hp old ?_ rfl;intro d hd;simp only [defC] at hd;rcases Qq hd with hd | rfl
  ·exact s.ds d hd
  ·exact ⟨ho.c.al,ho.c.ar⟩
inductive RunR where
 | ok (c:Xf) (ids:List Int)
 | err (i:Nat) (e:Int)
def xoF (p:Prg) (c:Xf) (l:List Xc):Xf:=l.foldl (xoC p) c
theorem Xc.ce2 (x:Xc):Xc.c x=[.int .i64 x.kind,.int .i64 x.table,.int .i64 x.id,.slice 2 (x.entry.keys.map Xi.c),.int .i64 x.entry.Xt,.int .i64 x.entry.call.action,.slice 1 (x.entry.call.args.map c32),.int .i64 x.call.action,.slice 1 (x.call.args.map c32)]:=by simp [Xc.c]
theorem cfg4 (c:Xf):∃r0 r1 r2 r3,Xf.c c=[r0,r1,r2,r3]/\(∀(H:AH),(snap 37 H r0=some r0/\snap 37 H r1=some r1/\snap 37 H r2=some r2/\snap 37 H r3=some r3)/\(snap 38 H r0=some r0/\snap 38 H r1=some r1/\snap 38 H r2=some r2/\snap 38 H r3=some r3)/\(snap 39 H r0=some r0/\snap 39 H r1=some r1/\snap 39 H r2=some r2/\snap 39 H r3=some r3)/\(snap 40 H r0=some r0/\snap 40 H r1=some r1/\snap 40 H r2=some r2/\snap 40 H r3=some r3))/\(bor 37 r0=false/\bor 37 r1=false/\bor 37 r2=false/\bor 37 r3=false)/\(bor 38 r0=false/\bor 38 r1=false/\bor 38 r2=false/\bor 38 r3=false)/\(bor 39 r0=false/\bor 39 r1=false/\bor 39 r2=false/\bor 39 r3=false)/\(bor 40 r0=false/\bor 40 r1=false/\bor 40 r2=false/\bor 40 r3=false):=by
 refine ⟨_,_,_,_,Xf.ce c,fun H=>⟨?_,?_,?_,?_⟩,?_,?_,?_,?_⟩<;>simp
def cfgN (p:Prg) (c:Xf) (l:List Xc) (i:Nat):Xf:=xoF p c (l.take i)
def idN (p:Prg) (c:Xf) (l:List Xc) (i:Nat):Int:=match l[i]? with
 | some o=>xoI p (cfgN p c l i) o
 | none=>0
def badF (p:Prg):Xf->List Xc->Nat->Option (Nat×Int)
 | _,[],_=>none
 | c,o::l,i=>if xoE p c o=0 then badF p (xoC p c o) l (i+1) else some (i,xoE p c o)
theorem qj5 (p:Prg) (c:Xf) (l:List Xc):cfgN p c l 0=c:=by simp [cfgN,xoF]
theorem qj4 (p:Prg) (c:Xf) (l:List Xc) {i:Nat} (h:i<l.length):cfgN p c l (i+1)=xoC p (cfgN p c l i) l[i]:=by
 simp only [cfgN,xoF,Qh h,List.foldl_append,List.foldl_cons,List.foldl_nil]
theorem qk4 {p:Prg} {c:Xf} (v:CfgV p c) (s:CfgT c) (hp:p.Xn.length<2^40) (l:List Xc) (hl:∀o∈l,OpS o):∀i,CfgV p (cfgN p c l i)/\CfgT (cfgN p c l i)
 | 0=>by rw [qj5];exact ⟨v,s⟩
 | i+1=>by
  have ih:=qk4 v s hp l hl i;by_cases h:i<l.length
  ·rw [qj4 p c l h];exact ⟨qyc ih.1 _,xoC_t ih.1 ih.2 hp _ (hl _ (Qd h))⟩
  ·have:cfgN p c l (i+1)=cfgN p c l i:=by
    unfold cfgN;rw [Qo (by omega),Qo (by omega)]
   rw [this];exact ih
def noC:List AV:=[.slice 1 [],.slice 1 [],.slice 2 [],.slice 1 []]
def badA (p:Prg) (c:Xf) (l:List Xc):Option (Int×Int):=
 if cfgE p c≠0 then some (-1,cfgE p c) else if 64<l.length then some (-1,12) else (badF p c l 0).map fun x=>((x.1:Int),x.2)
def appA (p:Prg) (c:Xf) (l:List Xc):AV:=match badA p c l with
 | some (k,e)=> .tup [.agg noC,.slice 1 [],.int .i64 k,.int .i64 e]
 | none=> .tup [.agg (Xf.c (cfgN p c l l.length)),.slice 1 ((List.range l.length).map fun j=>cI (idN p c l j)),.int .i64 0,.int .i64 0]
theorem qn1 {p:Prg} {k:Nat} {e:Int}:∀{l:List Xc} {c:Xf} {i:Nat},badF p c l i=some (k,e)->e≠0
 | [],_,_,h=>by simp [badF] at h
 | o::l,c,i,h=>by
  unfold badF at h;by_cases z:xoE p c o=0
  ·rw [QAa z] at h;exact qn1 h
  ·rw [QA z] at h;simp only [Option.some.injEq,Prod.mk.injEq] at h;rw [<- h.2];exact z
theorem qsv {p:Prg} {c:Xf} {l:List Xc} {k e:Int} (h:badA p c l=some (k,e)):e≠0:=by
 unfold badA at h;by_cases z:cfgE p c=0
 case neg=>simp only [ne_eq,z,not_false_eq_true,if_true,Option.some.injEq,Prod.mk.injEq] at h;rw [<- h.2];exact z
 by_cases z2:64<l.length
 ·simp only [ne_eq,z,not_true,if_false,z2,if_true,Option.some.injEq,Prod.mk.injEq] at h;rw [<- h.2];decide
 ·simp only [ne_eq,z,not_true,if_false,z2] at h;cases hb:badF p c l 0 with
  | none=>simp [hb] at h
  | some x=>simp only [hb,QAy,Option.some.injEq,Prod.mk.injEq] at h;rw [<- h.2];exact qn1 (k:=x.1) (e:=x.2) hb
theorem MDpost.pre {N N1:Nat} {O O1:List (Nat×AO)} {S:SV} {p:Prg} {c:Xf} {v:AV} {r:Option (Rt×AH)} (hk:Kp (fun _=>False) N O O1) (hN:N<=N1) (h:MDpost N1 O1 S p c v r):MDpost N O S p c v r:=by
 obtain ⟨S',O',N',e,h1,h2,h3,h4,h5,h6⟩:=h;refine ⟨S',O',N',e,h1,h2,fun j hj=>(h3 j hj).imp id fun h=>by omega,?_,h5,by omega⟩;intro j hj hx;rw [h4 j (by omega) fun hc=>hx (hc.imp id fun hc=>?_)]
 ·exact hk j hj (by simp)
 ·show look j O=some .res;rw [<- hk j hj (by simp)];exact hc
theorem quh {O:List (Nat×AO)} {N:Nat} {S:SV} {p:Prg} {c:Xf} (m:StoreM O S p c) (f:PrgS p) (v:CfgV p c) (s:CfgT c) (hT:Tail O N) (o:Xc) (ho:OpS o):
  MDpost N O S p (xoC p c o) (.tup [.int .i64 (xoI p c o),.int .i64 (xoE p c o)]) (qai Φ f_225 [.ptr S.s 15 0 0,.agg (Xc.c o)] ⟨O,N⟩):=by
 rw [qat (fn:=c_225) rfl rfl];have t0:=hT N (Qb _);have hk1:Kp (fun _=>False) N O (O++[(N,AO.row 9 [Xc.c o])]):=Kp.app (fun _ _ _=>rfl) (Qb _);have hT1:=hT.app1 (o:=AO.row 9 [Xc.c o]) (Qb N);have m1:StoreM (O++[(N,AO.row 9 [Xc.c o])]) S p c:=m.kp (X:=fun _=>False) hT (Kp.app (fun _ _ _=>rfl) (Qb _)) (by simp);have b1:look N (O++[(N,AO.row 9 [Xc.c o])])=some (.row 9 [Xc.c o]):=by rw [qab,t0];simp
 simp only [Xc.ce2] at b1 hk1 hT1 m1;by_cases z1:o.kind=1
 ·simp only [z1] at b1 hk1 hT1 m1;refine MDpost.pre hk1 (QAj N) ?_;obtain ⟨S',O',N',e,h1,h2,h3,h4,h5,h6⟩:=qvs m1 f v s hT1 o.table o.entry ho.e;have e1:xoE p c o=insE p c o.table o.entry:=by simp [xoE,z1]
  have e2:(if insE p c o.table o.entry=0 then insC c o.table o.entry else c)=xoC p c o:=by simp [xoC,e1,xoD,z1]
  have e3:(if insE p c o.table o.entry=0 then qef c o.table else 0)=xoI p c o:=by simp [xoI,e1,z1]
  rw [e2] at h1;rw [e3,<- e1] at e;simp only [Entry.ce] at e;simp [c_225,Xc.ce2,z1,b1,t0,e];exact ⟨S',O',N',rfl,h1,h2,h3,h4,h5,h6⟩
 by_cases z2:o.kind=2
 ·simp only [z2] at b1 hk1 hT1 m1;refine MDpost.pre hk1 (QAj N) ?_;obtain ⟨S',O',N',e,h1,h2,h3,h4,h5,h6⟩:=qvu m1 f v.rl hT1 o.table o.id o.call ho.c.al;have e1:xoE p c o=modE p c o.table o.id o.call:=by simp [xoE,z2]
  have e2:(if modE p c o.table o.id o.call=0 then modC c o.table o.id o.call else c)=xoC p c o:=by simp [xoC,e1,xoD,z2]
  have e3:xoI p c o=0:=by simp [xoI,z2]
  rw [e2] at h1;rw [<- e1] at e;rw [e3];simp only [Xb.ce] at e;simp [c_225,Xc.ce2,z2,b1,t0,e];exact ⟨S',O',N',rfl,h1,h2,h3,h4,h5,h6⟩
 by_cases z3:o.kind=3
 ·simp only [z3] at b1 hk1 hT1 m1;refine MDpost.pre hk1 (QAj N) ?_;obtain ⟨S',O',N',e,h1,h2,h3,h4,h5,h6⟩:=qvq m1 v hT1 o.table o.id;have e1:xoE p c o=delE p c o.table o.id:=by simp [xoE,z3]
  have e2:(if delE p c o.table o.id=0 then delC c o.table o.id else c)=xoC p c o:=by simp [xoC,e1,xoD,z3]
  have e3:xoI p c o=0:=by simp [xoI,z3]
  rw [e2] at h1;rw [<- e1] at e;rw [e3];simp [c_225,Xc.ce2,z3,b1,t0,e];exact ⟨S',O',N',rfl,h1,h2,h3,h4,h5,h6⟩
 by_cases z4:o.kind=4
 ·simp only [z4] at b1 hk1 hT1 m1;refine MDpost.pre hk1 (QAj N) ?_;obtain ⟨S',O',N',e,h1,h2,h3,h4,h5,h6⟩:=qph m1 f v.rl v.dl hT1 o.table o.call ho.c.al;have e1:xoE p c o=defE p o.table o.call:=by simp [xoE,z4]
  have e2:(if defE p o.table o.call=0 then defC c o.table o.call else c)=xoC p c o:=by simp [xoC,e1,xoD,z4]
  have e3:xoI p c o=0:=by simp [xoI,z4]
  rw [e2] at h1;rw [<- e1] at e;rw [e3];simp only [Xb.ce] at e;simp [c_225,Xc.ce2,z4,b1,t0,e];exact ⟨S',O',N',rfl,h1,h2,h3,h4,h5,h6⟩
 ·have e1:xoE p c o=11:=by simp [xoE,z1,z2,z3,z4]
  have e2:xoC p c o=c:=by simp [xoC,e1]
  have e3:xoI p c o=0:=by simp [xoI,z1]
  rw [e1,e2,e3];refine MDpost.pre hk1 (QAj N) ?_;simp [c_225,Xc.ce2,z1,z2,z3,z4,b1,t0];exact ⟨S,_,_,rfl,m1,rfl,fun j hj=> .inl hj,Kp.refl,hT1,Qb _⟩
def qaeu (N:Nat) (O:List (Nat×AO)) (p:Prg) (c:Xf) (r:Option (Rt×AH)):Prop:=
 ∃S O' N',r=some (.val (.ptr S.s 15 0 0),⟨O',N'⟩)/\StoreM O' S p c/\(∀j,S.own j->N<=j)/\Kp (Rs O) N O O'/\Tail O' N'/\N<=N'
theorem qye {O:List (Nat×AO)} {N:Nat} {S:SV} {p:Prg} (op:p.Ok qba) {c:Xf} (m:StoreM O S p c) (v:CfgV p c) (s:CfgT c) (hT:Tail O N):
  qaeu N O p c (qai Φ f_222 [.ptr S.s 15 0 0] ⟨O,N⟩):=by
 rw [qat (fn:=c_222) rfl rfl];obtain ⟨S',O',N',e,h1,h2,h3,h4,h5⟩:=qta p op c (v.u s) v.incs hT m.cm.re;have hs:=m.s;simp only [Prg.e] at e;simp [c_222,SV.cells,Prg.e,hs,e];exact ⟨S',O',N',rfl,h1,h2,h3,h4,h5⟩
theorem qacr {O:List (Nat×AO)} {N:Nat} {S:SV} {p:Prg} {c:Xf} (m:StoreM O S p c) (hl:c.rows.length=p.Xn.length) (hT:Tail O N):
  qai Φ f_223 [.ptr S.s 15 0 0,.int .i64 (-1),.int .i64 0,.agg [.int .i64 0,.Xu 1 []]] ⟨O,N⟩=some (.val (.int .i64 8),⟨O++[(N,.row 2 [[.int .i64 0,.Xu 1 []]])],N+1⟩):=by
 rw [qat (fn:=c_223) rfl rfl];have t0:=hT N (Qb _);have m1:StoreM (O++[(N,.row 2 [[.int .i64 0,.Xu 1 []]])]) S p c:=m.kp (X:=fun _=>False) hT (Kp.app (fun _ _ _=>rfl) (Qb _)) (by simp);have hr:=qrg (N:=N+1) m1 hl (-1) 0;have hE:rowX p c (-1) 0=8:=by simp [rowX,inT]
 rw [hE] at hr;simp [c_223,t0,hr]
structure CmF (O:List (Nat×AO)) (M:Nat) (S:SV) (l:List Xc) (b2 b6 w T:Nat):Prop where
 fb2:look b2 O=some (.row 1 [[.ptr S.s 15 0 0]])
 fb6:look b6 O=some (.row 1 [[.int .i64 0]])
 fw:look w O=some (.row 9 (l.map Xc.c))
 ft:look T O=some (.tok 1 0)
 n2:¬S.own b2
 n6:¬S.own b6
 nw:¬S.own w
 nt:¬S.own T
 tl:Tail O M
structure CmI (O0:List (Nat×AO)) (M:Nat) (S:SV) (p:Prg) (c:Xf) (l:List Xc) (b2 b6 w T:Nat) (i:Nat) (e:Env) (O:List (Nat×AO)) (N:Nat):Prop where
 tl:Tail O N
 hM:M<=N
 st:∃S',StoreM O S' p (cfgN p c l i)/\S'.s=S.s/\∀j,S'.own j->S.own j\/M<=j
 kp:Kp (fun j=>S.own j\/Rs O0 j\/j=T\/j=b6) M O0 O
 tk:look T O=some (.tok 1 i)
 k6:look b6 O=some (.row 1 [[.int .i64 0]])
 bad:badF p c l 0=badF p (cfgN p c l i) (l.drop i) i
 e2:look 2 e=some (.ptr b2 1 0 0)
 e6:look 6 e=some (.ptr b6 1 0 0)
 e7:look 34 e=some (.row w 9 0 l.length)
 e35:look 35 e=some (.int .i64 l.length)
 e36:look 36 e=some (.int .i64 i)
 e9:look 9 e=some (.app 1 ((List.range i).map fun j=>cI (idN p c l j)) T)
def CmQ (O0:List (Nat×AO)) (M:Nat) (S:SV) (p:Prg) (c:Xf) (l:List Xc) (b6 T:Nat) (r:Option (Ex×St)):Prop:=
 ∃e' S' O' N',r=some (.ret,⟨e',⟨O',N'⟩⟩)/\Tail O' N'/\M<=N'/\S'.s=S.s/\(∀j,S'.own j->S.own j\/M<=j)/\Kp (fun j=>S.own j\/Rs O0 j\/j=T\/j=b6) M O0 O'/\look 6 e'=some (.ptr b6 1 0 0)/\
  match badF p c l 0 with
  | some (k,x)=>look 4 e'=some (.Xu 1 [])/\look 5 e'=some (.int .i64 k)/\look b6 O'=some (.row 1 [[.int .i64 x]])/\∃d,StoreM O' S' p d
  | none=>look 4 e'=some (.app 1 ((List.range l.length).map fun j=>cI (idN p c l j)) T)/\look T O'=some (.tok 1 l.length)/\look 5 e'=some (.int .i64 0)/\look b6 O'=some (.row 1 [[.int .i64 0]])/\StoreM O' S' p (cfgN p c l l.length)
theorem qafa (p:Prg) (f:PrgS p) (hp:p.Xn.length<2^40) {c:Xf} (v:CfgV p c) (s:CfgT c) (l:List Xc) (hl64:l.length<=64) (hl:∀o∈l,OpS o) {O0:List (Nat×AO)} {M:Nat} {S:SV} {b2 b6 w T:Nat} (F:CmF O0 M S l b2 b6 w T)
  (e:Env) (O:List (Nat×AO)) (N:Nat) (h0:CmI O0 M S p c l b2 b6 w T 0 e O N):
  CmQ O0 M S p c l b6 T (go Φ (fun o=>o) [.c (.loop c_153_l0),.b 0,.c c_153_k1] .normal ⟨e,⟨O,N⟩⟩):=by
 refine qbk l.length (fun i e h=>∃O N,h=⟨O,N⟩/\CmI O0 M S p c l b2 b6 w T i e O N) _ ?_ ?_ 0 e _ (Qc _) ⟨O,N,rfl,h0⟩
 ·rintro i e _ L hi hL ⟨O,N,rfl,I⟩ ih;obtain ⟨S1,m1,es,ho⟩:=I.st;obtain ⟨vi,si⟩:=qk4 v s hp l hl i;have t0:=I.tl N (Qb _);have hnx:∀j x,look j O0=some x->x≠ .res->x≠ .tok 1 0->x≠ .row 1 [[.int .i64 0]]->¬S.own j->look j O=some x:=by
   intro j x hx h1 h2 h3 hn;refine I.kp.lk F.tl hx ?_;rintro (h | h | h | h)
   ·exact hn h
   ·have h:look j O0=some .res:=h;rw [hx] at h;exact h1 (Option.some.inj h)
   ·subst h;rw [F.ft] at hx;exact h2 (Option.some.inj hx).symm
   ·subst h;rw [F.fb6] at hx;exact h3 (Option.some.inj hx).symm
  have bw:=hnx w _ F.fw (by simp) (by simp) (by simp) F.nw;have bb:=hnx b2 _ F.fb2 (by simp) (by simp) (by simp) F.n2;have hk1:Kp (fun _=>False) N O (O++[(N,AO.row 9 [Xc.c l[i]])]):=Kp.app (fun _ _ _=>rfl) (Qb _);have m1':StoreM (O++[(N,AO.row 9 [Xc.c l[i]])]) S1 p (cfgN p c l i):=m1.kp (X:=fun _=>False) I.tl (Kp.app (fun _ _ _=>rfl) (Qb _)) (by simp);obtain ⟨S2,O2,N2,e2,x1,x2,x3,x4,x5,x6⟩:=quh m1' f vi si (I.tl.app1 (o:=AO.row 9 [Xc.c l[i]]) (Qb N)) l[i] (hl _ (Qd hi));have hw:=qao i (by omega);rw [es] at e2 x2;have hM:=I.hM;have ho2:∀j,S2.own j->S.own j\/M<=j:=fun j hj=>by
   rcases x3 j hj with h | h
   ·exact ho j h
   ·exact .inr (by omega)
  have hkp:Kp (fun j=>S.own j\/Rs O0 j\/j=T\/j=b6) M O0 O2:=by
   intro j hj hx;have h0:look j O=look j O0:=I.kp j hj hx;rw [x4 j (by omega),hk1 j (by omega) (by simp),h0];rintro (h | h)
   ·rcases ho j h with h | h
    ·exact hx (.inl h)
    ·omega
   ·have h':look j (O++[(N,AO.row 9 [Xc.c l[i]])])=look j O:=hk1 j (by omega) (by simp);exact hx (.inr (.inl (by show look j O0=_;rw [<- h0,<- h'];exact h)))
  have kpj:∀j x,look j O=some x->x≠ .res->j<M->¬S.own j->look j O2=some x:=by
   intro j x hx hr hj hn;rw [x4 j (by omega),hk1 j (by omega) (by simp),hx];rintro (h | h)
   ·rcases ho j h with h | h
    ·exact hn h
    ·omega
   ·have h':look j (O++[(N,AO.row 9 [Xc.c l[i]])])=look j O:=hk1 j (by omega) (by simp);have:look j (O++[(N,AO.row 9 [Xc.c l[i]])])=some .res:=h;rw [h',hx] at this;exact hr (Option.some.inj this)
  have tM:=F.tl.lt F.ft;have wt:=kpj T _ I.tk (by simp) tM F.nt;have h6:look b6 O2=some (.row 1 [[.int .i64 0]]):=kpj b6 _ I.k6 (by simp) (F.tl.lt F.fb6) F.n6;have hfr:∀t y,t<M->¬S.own t->StoreM (setl t y O2) S2 p (xoC p (cfgN p c l i) l[i]):=fun t y ht hn=>x1.fr fun j hj=>by
   rw [qaa,QA];rintro rfl;rcases ho2 _ hj with h | h
   ·exact hn h
   ·omega
  have hb2:badF p (cfgN p c l i) (l.drop i) i=if xoE p (cfgN p c l i) l[i]=0 then badF p (xoC p (cfgN p c l i) l[i]) (l.drop (i+1)) (i+1) else some (i,xoE p (cfgN p c l i) l[i]):=by
   rw [Qi hi,badF]
  have hb:=I.bad;rw [hb2] at hb;simp only [Xc.ce2] at e2;by_cases zi:xoE p (cfgN p c l i) l[i]=0
  ·rw [QAa zi,<- qj4 p c l hi] at hb;rw [zi] at e2;have hr2':List.map (fun j=>cI (idN p c l j)) (List.range (i+1))=List.map (fun j=>cI (idN p c l j)) (List.range i)++[[.int .i64 (xoI p (cfgN p c l i) l[i])]]:=by
    rw [List.range_succ,QCa,List.map_singleton];simp [idN,hi,cI]
   generalize hil:List.map (fun j=>cI (idN p c l j)) (List.range i)=il at hr2';have hill:il.length=i:=by rw [<- hil];simp
   have e9:=I.e9;rw [hil] at e9;have h8:(i+1)*8<=70368744177664:=by omega
   simp [c_153_l0,I.e2,I.e7,I.e35,I.e36,e9,hi,bw,bb,t0,qab,Xc.ce2,e2,wt,hill,h8,hw];have hbT:¬b6=T:=by
    intro h;have h1:=F.fb6;rw [h,F.ft] at h1;cases h1
   have hcs:cfgN p c l (i+1)=xoC p (cfgN p c l i) l[i]:=qj4 p c l hi;refine ih _ _ ⟨_,_,rfl,⟨qaj x5,by omega,⟨S2,?_,x2,ho2⟩,?_,?_,?_,hb,?_,?_,?_,?_,?_,?_⟩⟩
   ·rw [hcs];exact hfr T _ tM F.nt
   ·exact hkp.setl (.inr (.inr (.inr (.inl rfl))))
   ·simp [qaa,wt]
   ·rw [qaa,QA hbT];exact h6
   ·simp [I.e2]
   ·simp [I.e6]
   ·simp [I.e7]
   ·simp [I.e35]
   ·simp
   ·simp [hr2']
  ·rw [QA zi] at hb;simp [c_153_l0,I.e2,I.e6,I.e7,I.e35,I.e36,hi,bw,bb,t0,qab,Xc.ce2,e2,zi,h6];refine ⟨_,S2,_,_,rfl,qaj x5,by omega,x2,ho2,hkp.setl (.inr (.inr (.inr (.inr rfl)))),by simp [I.e6],?_⟩;rw [hb];exact ⟨by simp,by simp,by simp [qaa,h6],_,hfr b6 _ (F.tl.lt F.fb6) F.n6⟩
 ·rintro e _ L hL ⟨O,N,rfl,I⟩;obtain ⟨S1,m1,es,ho⟩:=I.st;have hb:=I.bad;rw [QBd,badF] at hb;have k6:=I.k6;simp [c_153_l0,c_153_k1,I.e6,I.e35,I.e36,I.e9,hL,k6];have hbT:¬T=b6:=by
   intro h;have h1:=F.fb6;rw [<- h,F.ft] at h1;cases h1
  have hM:=I.hM;refine ⟨_,S1,_,_,rfl,qaj I.tl,I.hM,es,ho,I.kp.setl (.inr (.inr (.inr (.inr rfl)))),by simp [I.e6],?_⟩;rw [hb];refine ⟨by simp,by rw [qaa,QA hbT];exact I.tk,by simp,by simp [qaa,k6],m1.fr fun j hj=>?_⟩;rw [qaa,QA];rintro rfl;rcases ho _ hj with h | h
  ·exact F.n6 h
  ·have:=F.tl.lt F.fb6;omega
def cmA1:Xv:=match c_153.code with | .seq a _=>a | _=> .skip
def cmA2:Xv:=match c_153.code with | .seq _ (.seq a _)=>a | _=> .skip
def cmA3:Xv:=match c_153.code with | .seq _ (.seq _ (.seq a _))=>a | _=> .skip
def cmA4:Xv:=match c_153.code with | .seq _ (.seq _ (.seq _ (.seq a _)))=>a | _=> .skip
def cmB:Xv:=match c_153.code with | .seq _ (.seq _ (.seq _ (.seq _ (.dfr _ _ b))))=>b | _=> .skip
def cmO:List Xw:=[⟨some 27,none,.mkfunc (.func f_224) [] [.t 6,.t 7,.t 2]⟩]
theorem qabv:c_153.code= .seq cmA1 (.seq cmA2 (.seq cmA3 (.seq cmA4 (.dfr cmO 27 cmB)))):=rfl
theorem cm1 {O:List (Nat×AO)} {N s:Nat} (hT:Tail O N) (w:AV):∃e,qbd Φ cmA1 ⟨qb0 0 [.ptr s 15 0 0,w],⟨O,N⟩⟩=some (.normal,⟨e,⟨O++[(N,.row 1 [[.ptr s 15 0 0]])]++[(N+1,.row 1 [[.int .i64 0]])],N+2⟩⟩)/\look 1 e=some w/\look 2 e=some (.ptr N 1 0 0)/\look 6 e=some (.ptr (N+1) 1 0 0):=by
 have t0:=hT N (Qb _);have t1:=hT (N+1) (by omega);rw [qeb];simp [cmA1,c_153,t0,t1]
theorem cm2 {O:List (Nat×AO)} {N N' s b:Nat} {O':List (Nat×AO)} {e:Env} {s2:Nat} (hT':Tail O' N') (h:qai Φ f_222 [.ptr s 15 0 0] ⟨O,N⟩=some (.val (.ptr s2 15 0 0),⟨O',N'⟩)) (h2:look 2 e=some (.ptr b 1 0 0)) (hb:look b O=some (.row 1 [[.ptr s 15 0 0]])) {w x6:AV} (h1:look 1 e=some w) (h6:look 6 e=some x6):
  ∃e',qbd Φ cmA2 ⟨e,⟨O,N⟩⟩=some (.normal,⟨e',⟨O'++[(N',.row 1 [[.ptr s2 15 0 0]])],N'+1⟩⟩)/\look 1 e'=some w/\look 2 e'=some (.ptr b 1 0 0)/\look 6 e'=some x6/\look 7 e'=some (.ptr N' 1 0 0):=by
 have t0:=hT' N' (Qb _);rw [qeb];simp [cmA2,c_153,t0,h,h2,hb,h1,h6]
theorem cm3 {O:List (Nat×AO)} {N b b7:Nat} {S:SV} {p:Prg} {c:Xf} {s2:Nat} (m:StoreM O S p c) (hl:c.rows.length=p.Xn.length) (hT:Tail O N) {e:Env} (h2:look 2 e=some (.ptr b 1 0 0)) (h7:look 7 e=some (.ptr b7 1 0 0)) (hb:look b O=some (.row 1 [[.ptr S.s 15 0 0]])) (hb7:look b7 O=some (.row 1 [[.ptr s2 15 0 0]])) {w x6:AV} (h1:look 1 e=some w) (h6:look 6 e=some x6):
  ∃e',qbd Φ cmA3 ⟨e,⟨O,N⟩⟩=some (.normal,⟨e',⟨O++[(N,.row 2 [[.int .i64 0,.Xu 1 []]])],N+1⟩⟩)/\look 1 e'=some w/\look 2 e'=some (.ptr b 1 0 0)/\look 6 e'=some x6/\look 7 e'=some (.ptr b7 1 0 0):=by
 have t0:=hT N (Qb _);have hm:=qacr m hl hT;rw [qeb];simp [cmA3,c_153,qab,hm,h2,h7,hb,hb7,h1,h6]
theorem cm4 {O:List (Nat×AO)} {N:Nat} {l:List Xc} {e:Env} (h1:look 1 e=some (.slice 9 (l.map Xc.c))) {x6 x2 x7:AV} (h2:look 2 e=some x2) (h6:look 6 e=some x6) (h7:look 7 e=some x7) (hl:¬64<l.length):
  ∃e',qbd Φ cmA4 ⟨e,⟨O,N⟩⟩=some (.normal,⟨e',⟨O,N⟩⟩)/\look 1 e'=some (.slice 9 (l.map Xc.c))/\look 2 e'=some x2/\look 6 e'=some x6/\look 7 e'=some x7:=by
 have hl':¬(64:Int)<(l.length:Int):=by omega
 rw [qeb];simp [cmA4,c_153,h1,h2,h6,h7,hl']
theorem cm4b {O:List (Nat×AO)} {N b6:Nat} {l:List Xc} {e:Env} (h1:look 1 e=some (.slice 9 (l.map Xc.c))) (h6:look 6 e=some (.ptr b6 1 0 0)) (hb6:look b6 O=some (.row 1 [[.int .i64 0]])) (hl:64<l.length):
  ∃e',qbd Φ cmA4 ⟨e,⟨O,N⟩⟩=some (.ret,⟨e',⟨setl b6 (.row 1 [[.int .i64 12]]) O,N⟩⟩)/\look 4 e'=some (.Xu 1 [])/\look 5 e'=some (.int .i64 (-1))/\look 6 e'=some (.ptr b6 1 0 0):=by
 have hl':(64:Int)<(l.length:Int):=by omega
 rw [qeb];simp [cmA4,c_153,h1,h6,hl',hb6]
theorem qae8 {O:List (Nat×AO)} {N b6:Nat} {a7 a2:AV} (hb6:look b6 O=some (.row 1 [[.int .i64 0]])):cloI Φ c_153 .niliface [.ptr b6 1 0 0,a7,a2] ⟨O,N⟩=some ⟨O,N⟩:=by
 unfold cloI;rw [qeb];simp [c_153,recE,hb6]
theorem qae9 {O:List (Nat×AO)} {N b6 b7 b2 s s2:Nat} {x:Int} {cs cs0:List AV} (hx:x≠0) (hb6:look b6 O=some (.row 1 [[.int .i64 x]])) (hb7:look b7 O=some (.row 1 [[.ptr s2 15 0 0]])) (hb2:look b2 O=some (.row 1 [[.ptr s 15 0 0]])) (hs2:look s2 O=some (.row 15 [cs])) (hs:look s O=some (.row 15 [cs0])) (hc:cs.length=15) (hc0:cs0.length=15):
  cloI Φ c_153 .niliface [.ptr b6 1 0 0,.ptr b7 1 0 0,.ptr b2 1 0 0] ⟨O,N⟩=some ⟨setl s (.row 15 [cs]) O,N⟩:=by
 unfold cloI;rw [qeb];have t:cs.take 15=cs:=Qo (by omega);have t2:cs0.drop 15=[]:=List.drop_eq_nil_of_le (by omega);simp [c_153,recE,hb6,hx,hb7,hb2,hs2,hs,hc,hc0,t,t2]
theorem cm5 (p:Prg) (f:PrgS p) (hp:p.Xn.length<2^40) {c:Xf} (v:CfgV p c) (s:CfgT c) (l:List Xc) (hl64:l.length<=64) (hl:∀o∈l,OpS o) {O:List (Nat×AO)} {N:Nat} {S:SV} {b2 b6:Nat} {e:Env} (hT:Tail O N) (m:StoreM O S p c) (h1:look 1 e=some (.slice 9 (l.map Xc.c))) (h2:look 2 e=some (.ptr b2 1 0 0)) (h6:look 6 e=some (.ptr b6 1 0 0)) (hb2:look b2 O=some (.row 1 [[.ptr S.s 15 0 0]])) (hb6:look b6 O=some (.row 1 [[.int .i64 0]])) (n2:¬S.own b2) (n6:¬S.own b6):
  CmQ (O++[(N,.row 9 (l.map Xc.c))]++[(N+1,.tok 1 0)]) (N+2) S p c l b6 (N+1) (qbd Φ cmB ⟨e,⟨O,N⟩⟩):=by
 have t0:=hT N (Qb _);have t1:=hT (N+1) (by omega);rw [qeb];have k1:l.length<4611686018427387904/\(l.length:Int)*120<=140737488355328:=by omega
 simp [cmB,c_153,h1,t0,t1,k1];have own:∀j,S.own j->j<N:=fun j hj=>by
  obtain ⟨x,hx,_⟩:=m.own_lk hj;exact hT.lt hx
 have hT1:Tail (O++[(N,AO.row 9 (List.map Xc.c l)),(N+1,AO.tok 1 0)]) (N+2):=by
  have:=(hT.app1 (o:=AO.row 9 (List.map Xc.c l)) (Qb N)).app1 (o:=AO.tok 1 0) (Qb (N+1));simpa using this
 have m1:StoreM (O++[(N,AO.row 9 (List.map Xc.c l)),(N+1,AO.tok 1 0)]) S p c:=m.kp (X:=fun _=>False) hT (Kp.appL (fun _ _ _=>rfl) (by intro q hq;simp at hq;rcases hq with rfl | rfl<;>simp)) (by simp);refine qafa p f hp v s l hl64 hl (b2:=b2) (w:=N) ⟨by simp [qab,hb2],by simp [qab,hb6],by simp [t0],by simp [t1],n2,n6,fun h=>by have:=own _ h;omega,fun h=>by have:=own _ h;omega,hT1⟩ _ _ _ ?_;refine ⟨hT1,Qb _,⟨S,by rw [qj5];exact m1,rfl,fun j hj=> .inl hj⟩,Kp.refl,by simp [t1],by simp [qab,hb6],by simp [qj5],?_,?_,?_,?_,?_,?_⟩<;>simp [h2,h6]
def idsA (p:Prg) (c:Xf) (l:List Xc):List (List AV):=(List.range l.length).map fun j=>cI (idN p c l j)
def qaev (N:Nat) (O:List (Nat×AO)) (S:SV) (p:Prg) (c:Xf) (l:List Xc) (r:Option (Rt×AH)):Prop:=
 ∃S' O' N',S'.s=S.s/\(∀j,S'.own j->S.own j\/N<=j)/\Kp (fun j=>S.own j\/Rs O j) N O O'/\Tail O' N'/\N<=N'/\
  match badA p c l with
  | some (k,x)=>r=some (.val (.tup [.Xu 1 [],.int .i64 k,.int .i64 x]),⟨O',N'⟩)/\StoreM O' S' p c
  | none=>∃T,r=some (.val (.tup [.app 1 (idsA p c l) T,.int .i64 0,.int .i64 0]),⟨O',N'⟩)/\StoreM O' S' p (cfgN p c l l.length)/\look T O'=some (.tok 1 l.length)/\N<=T/\¬S'.own T
theorem qvo (p:Prg) (op:p.Ok qba) (hp:p.Xn.length<2^40) {c:Xf} (v:CfgV p c) (s:CfgT c) (l:List Xc) (hl:∀o∈l,OpS o) {O:List (Nat×AO)} {N:Nat} {S:SV} (hT:Tail O N) (m:StoreM O S p c):
  qaev N O S p c l (qai Φ f_153 [.ptr S.s 15 0 0,.slice 9 (l.map Xc.c)] ⟨O,N⟩):=by
 have f:=qfy op;have own:∀j,S.own j->j<N:=fun j hj=>by
  obtain ⟨x,hx,_⟩:=m.own_lk hj;exact hT.lt hx
 rw [qv0 Φ (d:=c_153) rfl rfl,qabv];obtain ⟨e1,a1,g1,g2,g6⟩:=cm1 (s:=S.s) hT (.slice 9 (l.map Xc.c));have t0:=hT N (Qb _);have t1:=hT (N+1) (by omega);have hT1:Tail (O++[(N,.row 1 [[.ptr S.s 15 0 0]])]++[(N+1,.row 1 [[.int .i64 0]])]) (N+2):=(hT.app1 (Qb N)).app1 (Qb (N+1));have hk1:Kp (fun _=>False) N O (O++[(N,.row 1 [[.ptr S.s 15 0 0]])]++[(N+1,.row 1 [[.int .i64 0]])]):=(Kp.app Kp.refl (Qb _)).app (QAj _);have m1:=m.kp hT hk1 (by simp);have q2:look N (O++[(N,.row 1 [[.ptr S.s 15 0 0]])]++[(N+1,.row 1 [[.int .i64 0]])])=some (.row 1 [[.ptr S.s 15 0 0]]):=by simp [t0]
 have q6:look (N+1) (O++[(N,.row 1 [[.ptr S.s 15 0 0]])]++[(N+1,.row 1 [[.int .i64 0]])])=some (.row 1 [[.int .i64 0]]):=by simp [t1]
 have rs1:∀j,j<N->Rs (O++[(N,.row 1 [[.ptr S.s 15 0 0]])]++[(N+1,.row 1 [[.int .i64 0]])]) j->Rs O j:=fun j hj h=>by
  have:=hk1 j hj (by simp);show look j O=_;rw [<- this];exact h
 generalize O++[(N,.row 1 [[.ptr S.s 15 0 0]])]++[(N+1,.row 1 [[.int .i64 0]])]=H1 at*;obtain ⟨S2,O2,N2,a2,m2,w2,k2,hT2,n2⟩:=qye op m1 v s hT1;obtain ⟨e2,a2',h1,h2,h6,h7⟩:=cm2 hT2 a2 g2 q2 g1 g6;have t2:=hT2 N2 (Qb _);have hk3:Kp (Rs H1) (N+2) H1 (O2++[(N2,.row 1 [[.ptr S2.s 15 0 0]])]):=k2.app (by omega);have hT3:Tail (O2++[(N2,.row 1 [[.ptr S2.s 15 0 0]])]) (N2+1):=hT2.app1 (Qb N2);have m3:=m1.kp hT1 hk3 fun j hj hr=>by
  obtain ⟨x,hx,hne⟩:=m1.own_lk hj;have hr:look j H1=some .res:=hr;rw [hx] at hr;exact hne (Option.some.inj hr)
 have m23:=m2.kp (X:=fun _=>False) hT2 (Kp.app Kp.refl (Qb N2) (o:= .row 1 [[.ptr S2.s 15 0 0]])) (by simp);have q7:look N2 (O2++[(N2,.row 1 [[.ptr S2.s 15 0 0]])])=some (.row 1 [[.ptr S2.s 15 0 0]]):=by simp [t2]
 have r2:=hk3.lk hT1 q2 (by intro h;have h:look N H1=some .res:=h;rw [q2] at h;cases h);have r6:=hk3.lk hT1 q6 (by intro h;have h:look (N+1) H1=some .res:=h;rw [q6] at h;cases h);have own2:∀j,S2.own j->j<N2:=fun j hj=>by
  obtain ⟨x,hx,_⟩:=m2.own_lk hj;exact hT2.lt hx
 generalize O2++[(N2,.row 1 [[.ptr S2.s 15 0 0]])]=H3 at*;obtain ⟨e3,a3,h1,h2,h6,h7⟩:=cm3 m3 v.rl hT3 h2 h7 r2 q7 h1 h6;have hk4:Kp (fun _=>False) (N2+1) H3 (H3++[(N2+1,.row 2 [[.int .i64 0,.Xu 1 []]])]):=Kp.app Kp.refl (Qb _);have hT4:Tail (H3++[(N2+1,.row 2 [[.int .i64 0,.Xu 1 []]])]) (N2+2):=hT3.app1 (Qb _);have m4:=m3.kp hT3 hk4 (by simp);have m24:=m23.kp hT3 hk4 (by simp);have q7:=hk4.lk hT3 q7 (by simp);have r2:=hk4.lk hT3 r2 (by simp);have r6:=hk4.lk hT3 r6 (by simp);have hkO:Kp (Rs O) N O (H3++[(N2+1,.row 2 [[.int .i64 0,.Xu 1 []]])]):=by
  intro j hj hx;rw [hk4 j (by omega) (by simp),hk3 j (by omega) (fun h=>hx (rs1 j hj h)),hk1 j hj (by simp)]
 generalize H3++[(N2+1,.row 2 [[.int .i64 0,.Xu 1 []]])]=H4 at*;by_cases z:64<l.length
 ·obtain ⟨e4,a4,i4,i5,i6⟩:=cm4b (N:=N2+2) h1 h6 r6 z;have hb:badA p c l=some (-1,12):=by simp [badA,(qe9 p c).2 v,z]
  simp only [qdu,a1,a2',a3,a4];refine ⟨S,setl (N+1) (.row 1 [[.int .i64 12]]) H4,N2+2,rfl,fun j hj=> .inl hj,(hkO.mono fun j _ h=> .inr h).setl (.inl (QAj N)),qaj hT4,by omega,?_⟩;rw [hb];refine ⟨?_,m4.fr fun j hj=>?_⟩
  ·simp [qe1,c_153,i4,i5,i6,qaa,r6]
  ·have:=own j hj;rw [qaa,QA (by omega)]
 ·obtain ⟨e4,a4,h1,h2,h6,h7⟩:=cm4 (O:=H4) (N:=N2+2) h1 h2 h6 h7 z;have a5:qas (qai Φ) none cmO ⟨e4,⟨H4,N2+2⟩⟩=some (.normal,⟨(27,.func (.func f_224) [] [.ptr (N+1) 1 0 0,.ptr N2 1 0 0,.ptr N 1 0 0])::e4,⟨H4,N2+2⟩⟩):=by
   simp [cmO,qas,qbg,h2,h6,h7]
  have B:=cm5 p f hp v s l (by omega) hl (e:=(27,.func (.func f_224) [] [.ptr (N+1) 1 0 0,.ptr N2 1 0 0,.ptr N 1 0 0])::e4) (b2:=N) (b6:=N+1) hT4 m4 (by simp [h1]) (by simp [h2]) (by simp [h6]) r2 r6 (fun h=>by have:=own _ h;omega) (fun h=>by have:=own _ h;omega);have hk5:Kp (fun _=>False) (N2+2) H4 (H4++[(N2+2,.row 9 (l.map Xc.c))]++[(N2+2+1,.tok 1 0)]):=(Kp.app Kp.refl (Qb _)).app (QAj _);have m25:=m24.kp hT4 hk5 (by simp);have q75:=hk5.lk hT4 q7 (by simp);have r25:=hk5.lk hT4 r2 (by simp);have hT5:Tail (H4++[(N2+2,.row 9 (l.map Xc.c))]++[(N2+2+1,.tok 1 0)]) (N2+4):=(hT4.app1 (Qb _)).app1 (Qb _);have hkO5:Kp (Rs O) N O (H4++[(N2+2,.row 9 (l.map Xc.c))]++[(N2+2+1,.tok 1 0)]):=by
   intro j hj hx;rw [hk5 j (by omega) (by simp),hkO j hj hx]
  generalize H4++[(N2+2,.row 9 (l.map Xc.c))]++[(N2+2+1,.tok 1 0)]=H5 at*;obtain ⟨e',S',O',N',hr,hT',hN',es,ho,hk,h6',hm⟩:=B;simp only [qdu,a1,a2',a3,a4,a5];rw [hr];have hcl:(look 27 ((27,AV.func (.func f_224) [] [.ptr (N+1) 1 0 0,.ptr N2 1 0 0,.ptr N 1 0 0])::e4)).bind tgt=some (f_224,[.ptr (N+1) 1 0 0,.ptr N2 1 0 0,.ptr N 1 0 0]):=by simp
  rw [hcl];simp only [show c_153.clo=f_224 from rfl,show c_153.ncaps=3 from rfl,QBk,QBa,and_self,if_true,qk6];have hbA:badA p c l=(badF p c l 0).map fun x=>((x.1:Int),x.2):=by simp [badA,(qe9 p c).2 v,z]
  have hkN:Kp (fun j=>S.own j\/Rs O j) N O O':=by
   intro j hj hx;rw [hk j (by omega) ?_,hkO5 j hj fun h=>hx (.inr h)];rintro (h | h | h | h)
   ·exact hx (.inl h)
   ·have h:look j H5=some .res:=h;rw [hkO5 j hj fun h=>hx (.inr h)] at h;exact hx (.inr h)
   ·omega
   ·omega
  cases hb:badF p c l 0 with
  | some x=>
   obtain ⟨k,x⟩:=x;rw [hb] at hm hbA;obtain ⟨j4,j5,j6,d,md⟩:=hm;have hx:=qn1 hb;have kp2:∀j y,look j H5=some y->y≠ .res->N+1<j->j<N2+3->look j O'=some y:=fun j y hy hr h1 h2=>by
    refine hk.lk hT5 hy ?_;rintro (h | h | h | h)
    ·have:=own j h;omega
    ·have h:look j H5=some .res:=h;rw [hy] at h;exact hr (Option.some.inj h)
    ·omega
    ·omega
   have y7:=kp2 N2 _ q75 (by simp) (by omega) (by omega);have y2:look N O'=some (.row 1 [[.ptr S.s 15 0 0]]):=hk.lk hT5 r25 (by
    rintro (h | h | h | h)
    ·have:=own _ h;omega
    ·have h:look N H5=some .res:=h;rw [r25] at h;cases h
    ·omega
    ·omega)
   have m26:StoreM O' S2 p c:=m25.fr fun j hj=>by
    obtain ⟨y,hy,hne⟩:=m25.own_lk hj;have:=w2 j hj;have:=own2 j hj;rw [kp2 j y hy hne (by omega) (by omega),hy]
   have ys:=md.s;rw [es] at ys;have hcl:∀S:SV,(S.cells p).length=15:=fun S=>by simp [SV.cells,Prg.e]
   have cl:=qae9 (O:=O') (N:=N') hx j6 y7 y2 m26.s ys (hcl _) (hcl _);rw [cl];refine ⟨{ S2 with s:=S.s },setl S.s (.row 15 [S2.cells p]) O',N',rfl,?_,?_,qaj hT',by omega,?_⟩
   ·rintro j (rfl | hj)
    ·exact .inl (.inl rfl)
    ·have:=w2 j (.inr hj);exact .inr (by omega)
   ·exact hkN.setl (.inr (.inl (.inl rfl)))
   ·rw [hbA];refine ⟨?_,?_⟩
    ·have n1:¬N+1=S.s:=by have:=own _ (.inl rfl);omega
     simp [qe1,c_153,j4,j5,j6,h6',qaa,n1]
    ·have n1:=own _ (Or.inl (rfl:S.s=S.s));refine ⟨by simp only [qaa,if_true,ys,QAy];rfl,m26.cm.fr fun j hj=>?_,m26.x.fr fun j hj=>?_,m26.ri,m26.ni⟩
     ·have:=w2 j (.inr (.inl hj));rw [qaa,QA (by omega)]
     ·have:=w2 j (.inr (.inr hj));rw [qaa,QA (by omega)]
  | none=>
   rw [hb] at hm hbA;obtain ⟨j4,jT,j5,j6,md⟩:=hm;rw [qae8 j6];refine ⟨S',O',N',es,fun j hj=>(ho j hj).imp id fun h=>by omega,hkN,hT',by omega,?_⟩;rw [hbA];refine ⟨N2+3,?_,md,jT,by omega,fun h=>?_⟩
   ·simp [qe1,c_153,j4,j5,j6,h6',idsA]
   ·rcases ho _ h with h | h
    ·have:=own _ h;omega
    ·omega
theorem qyi (p:Prg) (op:p.Ok qba) (hc:PC p) (hp:p.Xn.length<2^40) {c:Xf} (s:CfgT c) (l:List Xc) (hl:∀o∈l,OpS o):
  qac Φ f_92 [.agg (Prg.c p),.agg (Xf.c c),.slice 9 (l.map Xc.c)]=some (.val (appA p c l)):=by
 rw [qad (fn:=c_92) rfl rfl];obtain ⟨q0,q1,q2,q3,hC,hq,hq2⟩:=cfg4 c;have hT0:Tail [(0,AO.row 4 [[.Xu 1 [],.Xu 1 [],.Xu 2 [],.Xu 1 []]])] 1:=(Tail.nil 0).app1 (Qb 0);rcases qaa9 p op hc c s hT0 with ⟨z,e⟩ | ⟨z,S,O1,N1,e,m1,w1,hk1,hT1,hN1⟩
 ·have hb:badA p c l=some (-1,cfgE p c):=by simp [badA,z]
  rw [show appA p c l= .tup [.agg noC,.slice 1 [],.int .i64 (-1),.int .i64 (cfgE p c)] by simp only [appA,hb]];rw [hC] at e ⊢;simp only [Prg.e] at e;simp [c_92,Prg.e,e,hq,hq2,z,noC]
 ·have v:=(qe9 p c).1 z;have r0:look 0 O1=some (.row 4 [[.Xu 1 [],.Xu 1 [],.Xu 2 [],.Xu 1 []]]):=hk1.lk hT0 rfl (by intro h;cases h);have n0:¬S.own 0:=fun h=>by have:=w1 0 h;omega
  obtain ⟨S2,O2,N2,es,ho,hk2,hT2,hN2,hm⟩:=qvo p op hp v s l hl hT1 m1;have r02:look 0 O2=some (.row 4 [[.Xu 1 [],.Xu 1 [],.Xu 2 [],.Xu 1 []]]):=hk2.lk hT1 r0 (by
   rintro (h | h)
   ·exact n0 h
   ·have h:look 0 O1=some .res:=h;rw [r0] at h;cases h)
  cases hb:badA p c l with
  | some x=>
   obtain ⟨k,x⟩:=x;rw [hb] at hm;obtain ⟨e2,-⟩:=hm;have hx:=qsv hb;rw [show appA p c l= .tup [.agg noC,.slice 1 [],.int .i64 k,.int .i64 x] by simp only [appA,hb]];rw [hC] at e ⊢;simp only [Prg.e] at e;simp [c_92,Prg.e,e,e2,hq,hq2,hx,noC,r02,qaa]
  | none=>
   rw [hb] at hm;obtain ⟨T,e2,m2,hTk,hTN,hTo⟩:=hm;obtain ⟨v',s'⟩:=qk4 v s hp l hl l.length;obtain ⟨u1,u2,u3,u4,U,O3,N3,e3,n3,w3,hk3,hT3,hN3⟩:=qvp (v'.u s') hT2 m2;rw [es] at e3;have r03:=hk3.lk hT2 r02 (by simp);have hT3k:=hk3.lk hT2 hTk (by simp);rw [show appA p c l= .tup [.agg (Xf.c (cfgN p c l l.length)),.slice 1 (idsA p c l),.int .i64 0,.int .i64 0] by simp only [appA,hb];rfl];have hil:(idsA p c l).length=l.length:=by simp [idsA]
   have T0:¬T=0:=by omega
   simp only [Prg.e,Xf.ce c] at e;generalize idsA p c l=il at*;have n3':CfgM (setl 0 (AO.row 4 [[u1,u2,u3,u4]]) O3) u1 u2 u3 u4 U (cfgN p c l l.length):=n3.fr fun j hj=>by
    have:=w3 j hj;rw [qaa,QA (by omega)]
   have a1:=n3'.snpR (n:=34) (N:=N3);have a2:=n3'.snpN (n:=34) (N:=N3);have a3:=n3'.snpD (n:=34) (N:=N3);have a4:=n3'.snpG (n:=34) (N:=N3);simp [c_92,Prg.e,e,e2,e3,r03,qaa,a1,a2,a3,a4,Xf.ce]
set_option maxRecDepth 8000
def updP (p:Prg) (V:NetV) (a:Act):NetV×Int:=
 if a.a<1\/3<a.a\/a.b<0 then (V,9)
 else if a.upd.switch<0\/(V.cs.length:Int)<=a.upd.switch then (V,8)
 else match badA p (V.cs.getD a.upd.switch.toNat default) a.upd.ops with
  | some x=>(V,x.2)
  | none=>(NetV.ev { V with cs:=V.cs.set a.upd.switch.toNat (cfgN p (V.cs.getD a.upd.switch.toNat default) a.upd.ops a.upd.ops.length) } ⟨5,a.a,a.b,0⟩,0)
def updV (V:NetV) (a:Act):NetV×Int:=updP pF V a
section
variable {O:List (Nat×AO)} {n N g:Nat} {V:NetV} {C:Nat} {pv lv:AV} {H:List AV} {X:Nat->Prop} {p:Prg}
theorem qzl (hpr:qac Φ f_34 []=some (.val (.agg (Prg.c p)))) (op:p.Ok qba) (hc0:PC p) (hp:p.Xn.length<2^40) (m:NetM O n V (.func (.func g) [] []) C pv lv H) (hX:∀j,NetM.own n C pv lv H j->X j) (hT:Tail O N) (s:NetS V) (hc:∀c∈V.cs,CfgT c) (a:Act) (hl:∀o∈a.upd.ops,OpS o):
  NP X N O n (.func (.func g) [] []) (updP p V a).1 (.int .i64 (updP p V a).2) (qai Φ f_41 [.ptr n 7 0 0,.int .i64 a.a,.int .i64 a.b,.agg [.int .i64 a.upd.switch,.slice 9 (a.upd.ops.map Xc.c)]] ⟨O,N⟩):=by
 rw [qat (fn:=c_41) rfl rfl];have h:=m.row;have hm:=fun O N=>qem (O:=O) (N:=N) (n:=n) (V:=V) (cv:= .row C 4 0 V.cs.length) (pv:=pv) (lv:=lv) (g:=g)
 rw [qca] at h hm;have t0:=hT N (Qb _);have hn:=hT.lt h;have q0:¬N=n/\¬n=N:=by omega
 obtain ⟨q1,q2⟩:=q0;have hR:∀(v:Int) (y:AO),NP X N O n (.func (.func g) [] []) V (.int .i64 v) (some (.val (.int .i64 v),⟨O++[(N,y)],N+1⟩)):=fun v y=>⟨_,_,rfl,⟨C,pv,lv,H,m.mn Mn.app,fun j hj=> .inl (hX j hj)⟩,(Fw.init hT).app (Qb _) (QAu _) (QAj _)⟩
 unfold updP;by_cases z:a.a<1\/3<a.a\/a.b<0
 ·rw [QAa z];by_cases z1:a.a<1
  ·simp [c_41,hm,h,t0,q1,q2,qab,qaa,z1];exact hR _ _
  by_cases z2:3<a.a
  ·simp [c_41,hm,h,t0,q1,q2,qab,qaa,z1,z2];exact hR _ _
  have z3:a.b<0:=by omega
  simp [c_41,hm,h,t0,q1,q2,qab,qaa,z1,z2,z3];exact hR _ _
 rw [QA z];simp only [not_or] at z;obtain ⟨z1,z2,z3⟩:=z;by_cases z4:a.upd.switch<0
 ·simp [c_41,hm,h,t0,q1,q2,qab,qaa,z1,z2,z3,z4];exact hR _ _
 obtain ⟨k,hk⟩:=QAc (show 0<=a.upd.switch by omega);by_cases z5:V.cs.length<=k
 ·simp [c_41,hm,h,t0,q1,q2,qab,qaa,z1,z2,z3,hk,z5];exact hR _ _
 have hkl:k<V.cs.length:=by omega
 have h1:=qyi p op hc0 hp (hc _ (Qd hkl)) a.upd.ops hl;have hgd:V.cs[k]?.getD default=V.cs[k]:=by simp [hkl]
 have hC:=m.cf;have hT':∀k,look (N+1+k) O=none:=fun k=>hT (N+1+k) (by omega)
 have ltC:=hT.lt hC;have u1:C≠n:=qan hC m.row (by simp);have u2:=u1.symm;have q3:¬N=C/\¬C=N:=by omega
 obtain ⟨q5,q6⟩:=q3;have q7:∀k,¬N+1+k=n:=fun k=>by omega
 have q8:∀k,¬n=N+1+k:=fun k=>by omega
 have q11:∀k,¬N+1+k=C:=fun k=>by omega
 have q12:∀k,¬C=N+1+k:=fun k=>by omega
 have q13:∀k,¬N=N+1+k:=fun k=>by omega
 have q14:∀k,¬N+1+k=N:=fun k=>by omega
 have q15:∀k,(n == N+1+k)=false:=fun k=>by simp;omega
 have q17:∀k,(C == N+1+k)=false:=fun k=>by simp;omega
 have q16:∀k,(N == N+1+k)=false:=fun k=>by simp;omega
 have hfw:∀y z,Fw X N O (qaw (N+1+9) (qau (O++[(N,y),(N+1+9,z)]))) (N+1+9+1):=fun y z=>by
  refine ((Fw.appL (N2:=N+1+9+1) (Fw.init hT) ?_ (by omega)).sweep.drop (.inr (by omega)));intro p hp;simp at hp;rcases hp with rfl | rfl<;>refine ⟨?_,?_⟩<;>simp only<;>omega
 cases hA:badA p V.cs[k] a.upd.ops with
 | some x=>
  obtain ⟨j,e⟩:=x;have he:=qsv hA;rw [show appA p V.cs[k] a.upd.ops= .tup [.agg noC,.slice 1 [],.int .i64 j,.int .i64 e] by simp only [appA,hA]] at h1;rw [Xf.e4] at h1;simp only [Prg.e] at h1 hpr;simp [c_41,hm,h,hC,t0,q1,q2,qab,qaa,qaf,qak,hT',u1,u2,q5,q6,q7,q8,q11,q12,q13,q14,q15,q16,q17,z1,z2,z3,hk,z5,hkl,hgd,hpr,h1,noC,hA,he,Xf.e4,Prg.e];refine ⟨_,_,rfl,⟨C,pv,lv,H,m.fr fun j hj=>?_,fun j hj=> .inl (hX j hj)⟩,hfw _ _⟩;obtain ⟨y,hy,hyr⟩:=m.nr hj;have hjN:=hT.lt hy;have j1:∀k,¬j=N+1+k:=fun k=>by omega
  simp [qak,j1,qaf,qab,hy,hyr]
 | none=>
  rw [show appA p V.cs[k] a.upd.ops= .tup [.agg (Xf.c (cfgN p V.cs[k] a.upd.ops a.upd.ops.length)),.slice 1 (idsA p V.cs[k] a.upd.ops),.int .i64 0,.int .i64 0] by simp only [appA,hA];rfl] at h1;obtain ⟨c',hc'⟩:∃c',cfgN p V.cs[k] a.upd.ops a.upd.ops.length=c':=⟨_,rfl⟩;rw [hc'] at h1;rw [Xf.e4,Xf.e4] at h1;simp only [Prg.e] at h1 hpr;simp [c_41,hm,h,hC,t0,q1,q2,qab,qaa,qaf,qak,hT',u1,u2,q5,q6,q7,q8,q11,q12,q13,q14,q15,q16,q17,z1,z2,z3,hk,z5,hkl,hgd,hpr,h1,hA,hc',Xf.e4,Prg.e];have m2:=m.setC (k:=k) (c:=c') (O':=setl C (AO.row 4 ((V.cs.map Xf.c).set k (Xf.c c'))) (qaw (N+1+9) (qau (O++[(N,AO.row 2 [[AV.int IntKind.i64 ↑k,AV.slice 9 (List.map Xc.c a.upd.ops)]]),(N+1+9,AO.row 4 [[AV.slice 1 (List.map (cS 5 Rw.c) c'.rows),AV.slice 1 (List.map cI c'.Xr),AV.slice 2 (List.map Xb.c c'.Xq),AV.slice 1 (List.map (cS 1 c32) c'.Xm)]])])))) (by simp [qaa,qak,q12,qaf,qab,hC]) (fun j y hj hy hne=>by
   have hjN:=hT.lt hj;have j1:∀k,¬j=N+1+k:=fun k=>by omega
   simp [qaa,hne,qak,j1,qaf,qab,hj,hy])
  have f2:=(hfw (AO.row 2 [[AV.int IntKind.i64 ↑k,AV.slice 9 (List.map Xc.c a.upd.ops)]]) (AO.row 4 [[AV.slice 1 (List.map (cS 5 Rw.c) c'.rows),AV.slice 1 (List.map cI c'.Xr),AV.slice 2 (List.map Xb.c c'.Xq),AV.slice 1 (List.map (cS 1 c32) c'.Xm)]])).set (t:=C) (y:=AO.row 4 ((V.cs.map Xf.c).set k (Xf.c c'))) (.inl (hX C (.inr (.inl rfl))));rw [Xf.e4] at m2 f2;refine qf9 m2 f2.tl s.g ?_;intro O' N' lv' m' hl' hk' hT2 hN;simp;exact ⟨_,_,rfl,⟨C,pv,lv',H,m',qkj hX hl' (by omega)⟩,f2.then hk' (qkk hX) hT2 hN⟩
theorem qw8 (m:NetM O n V (.func (.func g) [] []) C pv lv H) (hX:∀j,NetM.own n C pv lv H j->X j) (hT:Tail O N) (s:NetS V) (hc:∀c∈V.cs,CfgT c) (a:Act) (hl:∀o∈a.upd.ops,OpS o):
  NP X N O n (.func (.func g) [] []) (updV V a).1 (.int .i64 (updV V a).2) (qai Φ f_41 [.ptr n 7 0 0,.int .i64 a.a,.int .i64 a.b,.agg [.int .i64 a.upd.switch,.slice 9 (a.upd.ops.map Xc.c)]] ⟨O,N⟩):=
 qzl qs2 qni pcF (by decide) m hX hT s hc a hl
end
theorem NetJ.upd {k:Nat} {V:NetV} (j:NetJ (fun c=>CfgV pF c/\CfgT c) k V) (a:Act) (hl:∀o∈a.upd.ops,OpS o):NetJ (fun c=>CfgV pF c/\CfgT c) (k+1) (updV V a).1:=by
 unfold updV updP;split
 ·exact j.up
 split
 ·exact j.up
 split
 ·exact j.up
 rename_i h1 h2 _ _;have hs:a.upd.switch.toNat<V.cs.length:=by omega
 have hg:V.cs.getD a.upd.switch.toNat default=V.cs[a.upd.switch.toNat]:=by simp [hs]
 rw [hg];obtain ⟨v,t⟩:=j.cg _ (Qd hs);have hN:=qk4 v t (by decide) a.upd.ops hl a.upd.ops.length;refine ⟨by have:=j.kk;simp [NetV.ev];omega,by have:=j.g;simp [NetV.ev];omega,fun x hx=>by have:=j.hp x hx;omega,j.top,by simp [NetV.ev,j.cl],?_,fun x hx=>by simpa [NetV.ev] using j.pk x hx⟩;intro c hc;simp only [NetV.ev] at hc;rcases Qq hc with hc | rfl
 ·exact j.cg c hc
 ·exact hN
def cnt (log:List Event) (k id:Int):Nat:=log.countP fun e=>decide (e.kind=k)&&decide (e.a=id)
theorem qbc (l m:List Event) (k id:Int):cnt (l++m) k id=cnt l k id+cnt m k id:=List.countP_append
theorem qa2 (e:Event) (k id:Int):cnt [e] k id=if e.kind=k/\e.a=id then 1 else 0:=by
 unfold cnt;by_cases h1:e.kind=k<;>by_cases h2:e.a=id<;>simp [h1,h2]
theorem qfb (e f:Event) (k id:Int):cnt [e,f] k id=cnt [e] k id+cnt [f] k id:=qbc [e] [f] k id
def qgg (L:List Link) (a b:PortID):Bool:=L.any fun l=>(decide (l.a=a)&&decide (l.b=b)) || (decide (l.a=b)&&decide (l.b=a))
theorem qwa {L M:List Link} (h:L.map (fun l=>(l.a,l.b))=M.map fun l=>(l.a,l.b)) (a b:PortID):qgg L a b=qgg M a b:=by
 have key:∀L:List Link,qgg L a b=(L.map fun l=>(l.a,l.b)).any fun q=>(decide (q.1=a)&&decide (q.2=b)) || (decide (q.1=b)&&decide (q.2=a)):=fun L=>by
  unfold qgg;rw [List.any_map];rfl
 rw [key,key,h]
def depH (h:Hop):PortID:=⟨h.switch,h.out⟩
def arrH (h:Hop):PortID:=⟨h.switch,h.inp⟩
def lnkP (L:List Link) (hs:List Hop):Prop:=∀(i:Nat) (a b:Hop),hs[i]? =some a->hs[i+1]? =some b->qgg L (depH a) (arrH b)=true
theorem qw2 {L:List Link} {hs:List Hop} (h:lnkP L hs) (x:Hop) (hl:∀a,hs.getLast?=some a->qgg L (depH a) (arrH x)=true):lnkP L (hs++[x]):=by
 intro i a b ha hb;have hb1:=(Qm.1 hb).1;simp at hb1;by_cases z:i+1<hs.length
 ·rw [Ql (by omega)] at ha;rw [Ql z] at hb;exact h i a b ha hb
 ·have hi:i+1=hs.length:=by omega
  rw [Ql (by omega)] at ha;rw [Qp (by omega),hi] at hb;simp at hb;subst hb;refine hl a ?_;rw [List.getLast?_eq_getElem?,show hs.length - 1=i by omega,ha]
structure EvP (L:List Link) (log:List Event) (i:Nat) (x:Pk):Prop where
 s:cnt log 1 i=1
 f:cnt log 2 i=x.hops.length
 d:cnt log 3 i=if x.done=true/\x.kind=1 then 1 else 0
 l:cnt log 4 i=if x.done=true/\x.kind=3 then 1 else 0
 c:lnkP L x.hops
 n:x.done=false->∀a,x.hops.getLast?=some a->qgg L (depH a) x.pos=true
 o:x.done=true->(x.kind=2↔∃a,x.hops.getLast?=some a/\a.out= -1)
structure EvI (L:List Link) (V:NetV):Prop where
 pk:∀(i:Nat) (h:i<V.pk.length),EvP L V.log i V.pk[i]
 fr:∀i:Nat,V.pk.length<=i->∀k:Int,1<=k->k<=4->cnt V.log k i=0
 en:V.links.map (fun l=>(l.a,l.b))=L.map fun l=>(l.a,l.b)
theorem EvP.ev {L:List Link} {log:List Event} {i:Nat} {x:Pk} (h:EvP L log i x) (m:List Event) (hm:∀k:Int,1<=k->k<=4->cnt m k i=0):EvP L (log++m) i x:=
 ⟨by rw [qbc,h.s,hm 1 (by decide) (by decide)],by rw [qbc,h.f,hm 2 (by decide) (by decide),Nat.add_zero],by rw [qbc,h.d,hm 3 (by decide) (by decide)];split<;>rfl,by rw [qbc,h.l,hm 4 (by decide) (by decide)];split<;>rfl,h.c,h.n,h.o⟩
theorem EvI.ev {L:List Link} {V:NetV} (h:EvI L V) {W:NetV} (hp:W.pk=V.pk) (m:List Event) (hl:W.log=V.log++m) (hm:∀(i:Nat) (k:Int),1<=k->k<=4->cnt m k i=0) (he:W.links.map (fun l=>(l.a,l.b))=V.links.map fun l=>(l.a,l.b)):EvI L W:=by
 refine ⟨fun i hi=>?_,fun i hi k h1 h2=>?_,he.trans h.en⟩
 ·rw [hl];simp only [hp] at hi ⊢;exact (h.pk i hi).ev m (hm i)
 ·rw [hp] at hi;rw [hl,qbc,h.fr i hi k h1 h2,hm i k h1 h2]
theorem qxu (l:List Link) (k:Nat) (d:Bool):(setD l k d).map (fun l=>(l.a,l.b))=l.map fun l=>(l.a,l.b):=by
 unfold setD;cases hl:l[k]? with
 | none=>rfl
 | some x=>
  simp only;obtain ⟨hk,hx⟩:=Qm.1 hl;rw [QBx];refine List.ext_getElem? fun j=>?_
  by_cases hj:k=j
  ·subst hj;rw [List.getElem?_set_self (by simpa using hk),List.getElem?_map,hl];rfl
  ·rw [List.getElem?_set_ne hj]
theorem EvI.link {L:List Link} {V:NetV} (h:EvI L V) (k:Int) (d:Bool):EvI L (qe2 V k d).1:=by
 unfold qe2;split
 ·exact h
 ·exact h.ev rfl _ rfl (fun i k h1 h2=>by rw [qa2,QA];simp only;omega) (qxu _ _ _)
theorem EvI.upd {L:List Link} {V:NetV} (h:EvI L V) (a:Act):EvI L (updV V a).1:=by
 unfold updV updP;split
 ·exact h
 split
 ·exact h
 split
 ·exact h
 ·exact h.ev rfl _ rfl (fun i k h1 h2=>by rw [qa2,QA];simp only;omega) rfl
theorem EvI.send {L:List Link} {V:NetV} (h:EvI L V) (ho:Int) (b:List Int):EvI L (qc1 V ho b).1:=by
 unfold qc1;split
 ·exact h
 split
 ·exact h
 split
 ·exact h
 refine ⟨fun i hi=>?_,fun i hi k h1 h2=>?_,h.en⟩
 ·simp only [NetV.ev] at hi ⊢;by_cases z:i<V.pk.length
  ·rw [List.getElem_append_left z];exact (h.pk i z).ev _ fun k h1 h2=>by rw [qa2,QA];simp only;omega
  ·have hi':i=V.pk.length:=by simp at hi;omega
   subst hi';rw [List.getElem_append_right (Qb _)];have c:=fun k=>h.fr V.pk.length (Qb _) k
   refine ⟨?_,?_,?_,?_,?_,?_,?_⟩
   ·rw [qbc,c 1 (by decide) (by decide),qa2];simp
   ·rw [qbc,c 2 (by decide) (by decide),qa2];simp
   ·rw [qbc,c 3 (by decide) (by decide),qa2];simp
   ·rw [qbc,c 4 (by decide) (by decide),qa2];simp
   ·intro i a b ha;simp at ha
   ·intro _ a ha;simp at ha
   ·intro hd;simp at hd
 ·simp only [NetV.ev,QAs,List.length_singleton] at hi ⊢;rw [qbc,h.fr i (by omega) k h1 h2,qa2,QA];simp only;omega
theorem qxg {ports:List Int} {links:List Link} {hosts:List PortID} {p:PortID} (h:(qcx ports links hosts p).2=0):qgg links p (qcx ports links hosts p).1=true:=by
 unfold qcx at h ⊢;by_cases z:qbo ports links hosts=0
 rotate_left
 ·rw [QAa z] at h;exact absurd h z
 have hne:¬qbo ports links hosts≠0:=fun hc=>hc z
 rw [QA hne] at h ⊢;by_cases a:qa8 links (qcy p.switch p.port) 0=true
 rotate_left
 ·rw [QA a] at h;cases h
 rw [QAa a] at h ⊢;obtain ⟨j,hj,h4,ht⟩:=ql9 a;have e:links.getD (ixF (qcy p.switch p.port) links 0).toNat default=links[j]:=by simp [h4,hj]
 rw [e] at h ⊢;refine QB.2 ⟨links[j],Qd hj,?_⟩;generalize links[j]=l at*;unfold qji at h ⊢;split
 ·rename_i hd;rw [QAa hd] at h;cases h
 ·by_cases q:l.a.switch=p.switch/\l.a.port=p.port
  ·rw [QAa q];have:l.a=p:=PortID.ext q.1 q.2;simp [this]
  ·rw [QA q];unfold qcy at ht;simp only [QBo,Bool.and_eq_true,decide_eq_true_eq] at ht;rcases ht with ht | ht
   ·exact absurd ht q
   ·have:l.b=p:=PortID.ext ht.1 ht.2;simp [this]
theorem qi9 (x:Pk) (out:Int):(hop1 x out).getLast?=some ⟨x.pos.switch,x.pos.port,out⟩:=by simp [hop1]
theorem mv_ev {L:List Link} {V:NetV} (he:V.links.map (fun l=>(l.a,l.b))=L.map fun l=>(l.a,l.b)) {i:Nat} {x:Pk} (h:EvP L V.log i x) (hd:x.done=false) (r:Rslt) (hr:r.drop=false->0<=r.port):
  EvP L (V.log++(mv V x i r).2) i (mv V x i r).1/\(∀e∈(mv V x i r).2,e.a=i):=by
 have h3:cnt V.log 3 i=0:=by rw [h.d,hd];simp
 have h4:cnt V.log 4 i=0:=by rw [h.l,hd];simp
 have hch:∀out,lnkP L (hop1 x out):=fun out=>qw2 h.c _ fun a ha=>h.n hd a ha
 have hlen:∀out,(hop1 x out).length=x.hops.length+1:=fun out=>by simp [hop1]
 unfold mv;split
 ·rename_i hdr;unfold mvD;refine ⟨⟨?_,?_,?_,?_,hch _,?_,?_⟩,by simp⟩
  ·rw [qbc,h.s,qa2];simp
  ·rw [qbc,h.f,qa2];simp [Pk.fin,hlen]
  ·rw [qbc,h3,qa2];simp [Pk.fin]
  ·rw [qbc,h4,qa2];simp [Pk.fin]
  ·intro hc;simp [Pk.fin] at hc
  ·intro _;simp [Pk.fin,qi9]
 ·rename_i hdr;have hp:=hr (by simpa using hdr);have ho:¬r.port= -1:=by omega
  unfold mvP;split
  ·refine ⟨⟨?_,?_,?_,?_,hch _,?_,?_⟩,by simp⟩
   ·rw [qbc,h.s,qfb,qa2,qa2];simp
   ·rw [qbc,h.f,qfb,qa2,qa2];simp [Pk.fin,hlen]
   ·rw [qbc,h3,qfb,qa2,qa2];simp [Pk.fin]
   ·rw [qbc,h4,qfb,qa2,qa2];simp [Pk.fin]
   ·intro hc;simp [Pk.fin] at hc
   ·intro _;simp [Pk.fin,qi9,ho]
  split
  ·rename_i hpe;refine ⟨⟨?_,?_,?_,?_,hch _,?_,?_⟩,by simp⟩
   ·rw [qbc,h.s,qa2];simp
   ·rw [qbc,h.f,qa2];simp [hlen]
   ·rw [qbc,h3,qa2];simp [hd]
   ·rw [qbc,h4,qa2];simp [hd]
   ·intro _ a ha;simp only [qi9,Option.some.injEq] at ha;subst ha;rw [<- qwa he];exact qxg hpe
   ·intro hc;simp [hd] at hc
  ·refine ⟨⟨?_,?_,?_,?_,hch _,?_,?_⟩,by simp⟩
   ·rw [qbc,h.s,qfb,qa2,qa2];simp
   ·rw [qbc,h.f,qfb,qa2,qa2];simp [Pk.fin,hlen]
   ·rw [qbc,h3,qfb,qa2,qa2];simp [Pk.fin]
   ·rw [qbc,h4,qfb,qa2,qa2];simp [Pk.fin]
   ·intro hc;simp [Pk.fin] at hc
   ·intro _;simp [Pk.fin,qi9,ho]
theorem qqe {m:List Event} {i j:Nat} (h:∀e∈m,e.a=i) (hij:j≠i) (k:Int):cnt m k j=0:=by
 unfold cnt;rw [List.countP_eq_zero];intro e he;have:=h e he;simp only [Bool.and_eq_true,decide_eq_true_eq,not_and];intro _ h2;omega
theorem EvI.step {L:List Link} {V:NetV} {G:Xf->Prop} {P:Xf->Int->List Int->Rslt×Xf} (h:EvI L V) (I:NetI G V) (hpp:∀c,G c->∀s d,okB' d->d.length<=1000->(P c s d).1.drop=false->0<=(P c s d).1.port) (id:Int):EvI L (stpV P V id).1:=by
 by_cases hz:chkV V id=0
 rotate_left
 ·simp only [stpV,hz,ne_eq,not_false_eq_true,if_true];exact h
 obtain ⟨i,rfl,hi,hd⟩:=qqa hz;have hmem:=Qd hi;obtain ⟨hdb,hdl,hpos⟩:=I.pk _ hmem;obtain ⟨hs0,hs1⟩:=hpos hd;have hpk:=h.pk i hi;obtain ⟨x,hx⟩:∃x,V.pk[i]=x:=⟨_,rfl⟩;rw [hx] at hd hdb hdl hs0 hs1 hmem hpk;obtain ⟨q,hs⟩:=QAc hs0;have hk:q<V.cs.length:=by omega
 have hG:=I.cg _ (Qd hk);have hgp:V.pk[i]?.getD default=x:=by simp [hi,hx]
 have hgc:V.cs[q]?.getD default=V.cs[q]:=by simp [hk]
 have hst:(stpV P V i).1=qfr V i (P V.cs[q] x.pos.port x.data).1 (P V.cs[q] x.pos.port x.data).2:=by
  simp [stpV,hz,hgp,hs,hgc]
 rw [hst];obtain ⟨g1,g2⟩:=mv_ev h.en hpk hd (P V.cs[q] x.pos.port x.data).1 (hpp _ hG _ _ hdb hdl);generalize (P V.cs[q] x.pos.port x.data).1=r at*;generalize (P V.cs[q] x.pos.port x.data).2=c' at*;have hgd:V.pk.getD i default=x:=by simp [hi,hx]
 unfold qfr;rw [hgd];refine ⟨fun j hj=>?_,fun j hj k h1 h2=>?_,h.en⟩
 ·simp only [List.length_set] at hj;by_cases hji:j=i
  ·subst hji;simp only [List.getElem_set_self];exact g1
  ·simp only [List.getElem_set_ne (Ne.symm hji)];exact (h.pk j hj).ev _ fun k _ _=>qqe g2 hji k
 ·simp only [List.length_set] at hj;rw [qbc,h.fr j hj k h1 h2,qqe g2 (by omega) k]
theorem EvI.act {L:List Link} {V:NetV} {G:Xf->Prop} {P:Xf->Int->List Int->Rslt×Xf} (h:EvI L V) (I:NetI G V) (hpp:∀c,G c->∀s d,okB' d->d.length<=1000->(P c s d).1.drop=false->0<=(P c s d).1.port) (a:Act):EvI L (actV updV P V a).1:=by
 unfold actV;split
 ·exact h.send _ _
 split
 ·exact h.step I hpp _
 split
 ·exact h.upd a
 split
 ·exact h.link _ _
 ·exact h
theorem qaae {V:NetV} {ho:Int} {b:List Int}:((qc1 V ho b).2.2=0->(qc1 V ho b).1.pk.length=V.pk.length+1)/\((qc1 V ho b).2.2≠0->(qc1 V ho b).1.pk.length=V.pk.length):=by
 unfold qc1;split
 ·simp
 split
 ·simp
 split
 ·simp
 ·simp [NetV.ev]
theorem qabb {V:NetV} {P:Xf->Int->List Int->Rslt×Xf} (a:Act):(actV updV P V a).1.pk.length=V.pk.length+(if (actV updV P V a).2.2.2=0/\a.dd=0 then 1 else 0):=by
 by_cases d0:a.dd=0
 ·have e:actV updV P V a=((qc1 V a.a a.data).1,(qc1 V a.a a.data).2.1,ev0,(qc1 V a.a a.data).2.2):=by simp [actV,d0]
  rw [e];obtain ⟨s1,s2⟩:=qaae (V:=V) (ho:=a.a) (b:=a.data);by_cases z:(qc1 V a.a a.data).2.2=0
  ·simp only [z,d0,and_self,if_true];exact s1 z
  ·simp only [z,false_and,if_false,Nat.add_zero];exact s2 z
 have hl:(actV updV P V a).1.pk.length=V.pk.length:=by
  unfold actV;rw [QA d0];split
  ·unfold stpV qfr;split
   ·rfl
   ·simp
  split
  ·unfold updV updP;split
   ·rfl
   split
   ·rfl
   split
   ·rfl
   ·rfl
  split
  ·unfold qe2;split
   ·rfl
   ·rfl
  ·rfl
 rw [hl,QA (fun h=>d0 h.2),Nat.add_zero]
theorem qys (l:List Event) (e:Event) (k id:Int):cnt (l++[e]) k id=cnt l k id+if e.kind=k/\e.a=id then 1 else 0:=by rw [qbc,qa2]
theorem qk5 (log:List Event) (hl:log.length<2^40) (k id:Int):qac Φ f_19 [.slice 4 (log.map Event.c),.int .i64 k,.int .i64 id]=some (.val (.int .i64 (cnt log k id))):=by
 rw [qad (fn:=c_19) rfl rfl];generalize hX:((cnt log k id:Nat):Int)=X;simp [c_19];refine (qby log.length (fun i e=>look 0 e=some (.slice 4 (log.map Event.c))/\look 1 e=some (.int .i64 k)/\look 2 e=some (.int .i64 id)/\look 7 e=some (.int .i64 (cnt (log.take i) k id))/\look 8 e=some (.int .i64 i)) (fun _=>some (Rt.val (.int .i64 X))) ?_ ?_ 0 _ (Qc _) ?_).trans rfl
 ·rintro i e L hi hL ⟨g0,g1,g2,g7,g8⟩ ih;have hw:=qao i (by omega);have hle:cnt (log.take i) k id<=i:=by
   have:=List.countP_le_length (p:=fun e:Event=>decide (e.kind=k)&&decide (e.a=id)) (l:=log.take i);unfold cnt;simp at this;omega
  have hc:=qys (log.take i) log[i] k id;rw [<- Qh hi] at hc;generalize cnt (log.take i) k id=q at*;have hwq:=qao q (by omega);by_cases z1:log[i].kind=k
  ·by_cases z2:log[i].a=id
   ·rw [QAa ⟨z1,z2⟩] at hc;simp [c_19_l0,Event.ce,g0,g1,g2,g7,g8,hi,hw,z1,z2,hwq];exact ih _ ⟨by simp [g0],by simp [g1],by simp [g2],by simp [hc],by simp⟩
   ·rw [QA (fun h=>z2 h.2)] at hc;simp [c_19_l0,Event.ce,g0,g1,g2,g7,g8,hi,hw,z1,z2];exact ih _ ⟨by simp [g0],by simp [g1],by simp [g2],by simp [hc,g7],by simp⟩
  ·rw [QA (fun h=>z1 h.1)] at hc;simp [c_19_l0,Event.ce,g0,g1,g2,g7,g8,hi,hw,z1];exact ih _ ⟨by simp [g0],by simp [g1],by simp [g2],by simp [hc,g7],by simp⟩
 ·rintro e L hL ⟨g0,g1,g2,g7,g8⟩;rw [QAf] at g7;simp [c_19_l0,c_19_k1,g0,g7,g8,hL,hX]
 ·simp [cnt]
section
variable {O:List (Nat×AO)} {n N g C:Nat} {V:NetV} {pv lv:AV} {H:List AV}
theorem qq0 (m:NetM O n V (.func (.func g) [] []) C pv lv H) (id:Int) (hz:id<0\/(V.pk.length:Int)<=id):qai Φ f_45 [.ptr n 7 0 0,.int .i64 id] ⟨O,N⟩=some (.val .nilptr,⟨O,N⟩):=by
 rw [qat (fn:=c_45) rfl rfl];have h:=m.row;have hm:=fun O N=>qem (O:=O) (N:=N) (n:=n) (V:=V) (cv:= .row C 4 0 V.cs.length) (pv:=pv) (lv:=lv) (g:=g)
 rw [qca] at h hm;by_cases z:id<0
 ·simp [c_45,hm,h,z]
 have hz':(V.pk.length:Int)<=id:=by omega
 rcases m.pk with ⟨e1,rfl⟩ | ⟨P,rfl,hP⟩
 ·have hl:V.pk.length=0:=by
   have:=congrArg List.length e1;rw [qbl m.hl] at this;simpa using this
  have h0:(0:Int)<=id:=by omega
  simp [c_45,hm,h,z,h0]
 ·rw [qbl m.hl] at*;simp [c_45,hm,h,z,hz']
theorem qmc (m:NetM O n V (.func (.func g) [] []) C pv lv H) {i:Nat} (hi:i<V.pk.length):∃P,pv= .row P 9 0 V.pk.length/\look P O=some (.row 9 (pkN V.pk H))/\qai Φ f_45 [.ptr n 7 0 0,.int .i64 i] ⟨O,N⟩=some (.val (.ptr P 9 i 0),⟨O,N⟩):=by
 rw [qat (fn:=c_45) rfl rfl];have h:=m.row;have hm:=fun O N=>qem (O:=O) (N:=N) (n:=n) (V:=V) (cv:= .row C 4 0 V.cs.length) (pv:=pv) (lv:=lv) (g:=g)
 rw [qca] at h hm;have z:¬V.pk.length<=i:=by omega
 rcases m.pk with ⟨e1,rfl⟩ | ⟨P,rfl,hP⟩
 ·have:=congrArg List.length e1;rw [qbl m.hl] at this;simp at this;rw [this] at hi;simp at hi
 ·have hl:=qbl m.hl;refine ⟨P,by rw [hl],hP,?_⟩;simp [c_45,hm,h,hl,z,hi]
theorem qzn (m:NetM O n V (.func (.func g) [] []) C pv lv H) (id:Int) (hz:id<0\/(V.pk.length:Int)<=id):qai Φ f_16 [.ptr n 7 0 0,.int .i64 id] ⟨O,N⟩=some (.val (.Xu 3 []),⟨O,N⟩):=by
 rw [qat (fn:=c_16) rfl rfl];have e:=qq0 (N:=N) m id hz;simp [c_16,e]
theorem qod (m:NetM O n V (.func (.func g) [] []) C pv lv H) {i:Nat} (hi:i<V.pk.length):∃h,∃hn:i<(pkN V.pk H).length,(pkN V.pk H)[i]=PkN V.pk[i] h/\Ap O 3 h (V.pk[i].hops.map Hop.c):=by
 have hiH:i<H.length:=by rw [m.hl];exact hi
 have hn:i<(pkN V.pk H).length:=by rw [qbl m.hl];exact hi
 refine ⟨H[i],hn,?_,m.hp i _ _ (Qa hi) (Qa hiH)⟩;have:=qft (Qa hi) (Qa hiH);rw [Qa hn] at this;exact Option.some.inj this
theorem qzm (m:NetM O n V (.func (.func g) [] []) C pv lv H) {i:Nat} (hi:i<V.pk.length) (hl:V.pk[i].hops.length<2^40):qai Φ f_16 [.ptr n 7 0 0,.int .i64 i] ⟨O,N⟩=some (.val (.slice 3 (V.pk[i].hops.map Hop.c)),⟨O,N⟩):=by
 rw [qat (fn:=c_16) rfl rfl];obtain ⟨P,rfl,hP,e⟩:=qmc (N:=N) m hi;obtain ⟨h,hn,hg,ha⟩:=qod m hi;rw [PkN] at hg;have hs:=fun k=>ha.snp (N:=N) (n:=k)
 have hc:=clHop _ hl;have hb:bor 40 h=false:=by
  rcases ha with ⟨_,rfl⟩ | ⟨t,rfl,_⟩<;>simp
 simp [c_16,e,hP,hn,hg,hs,hc,hb]
theorem qacu (m:NetM O n V (.func (.func g) [] []) C pv lv H) (hl:V.log.length<2^40):qai Φ f_15 [.ptr n 7 0 0] ⟨O,N⟩=some (.val (.slice 4 (V.log.map Event.c)),⟨O,N⟩):=by
 rw [qat (fn:=c_15) rfl rfl];have h:=m.row;have hm:=fun O N=>qem (O:=O) (N:=N) (n:=n) (V:=V) (cv:= .row C 4 0 V.cs.length) (pv:=pv) (lv:=lv) (g:=g)
 rw [qca] at h hm;have hs:=fun k=>m.lg.snp (N:=N) (n:=k)
 have hc:=clEv _ hl;have hb:bor 40 lv=false:=by
  rcases m.lg with ⟨_,rfl⟩ | ⟨t,rfl,_⟩<;>simp
 simp [c_15,hm,h,hs,hc,hb]
def OutQ (O:List (Nat×AO)) (N:Nat) (x:Pk) (r:Option (Rt×AH)):Prop:=∃(a:AV) (O':List (Nat×AO)) (N':Nat),(∀j,j<N->look j O'=look j O)/\Tail O' N'/\N<=N'/\(a= .Xu 3 []\/∃es,a= .slice 3 es)/\r=some (.val (.tup [.agg [.int .i64 (if x.done then x.kind else 0),.int .i64 (if x.done then x.index else 0),a,.Xu 2 []],.bool x.done]),⟨O',N'⟩)
theorem qoc {x:Pk} {k idx:Int} {a:AV} {d:Bool} {r:List (Nat×AO)} {N':Nat} (hT:Tail O N) (hd:x.done=d) (hk:k=if d then x.kind else 0) (hi:idx=if d then x.index else 0) (ha:a= .Xu 3 []\/∃es,a= .slice 3 es) (hN:N<=N') (hr:∀p∈r,N<=p.1/\p.1<N'):OutQ O N x (some (.val (.tup [.agg [.int .i64 k,.int .i64 idx,a,.Xu 2 []],.bool d]),⟨O++r,N'⟩)):=by
 subst hd hk hi;exact ⟨a,_,_,fun j hj=>by rw [qab,qjd (fun p hp=>(hr p hp).1) hj];simp,Tail_append_iff.2 ⟨hT.mono hN,qj2 fun p hp=>(hr p hp).2⟩,hN,ha,rfl⟩
theorem qacv (m:NetM O n V (.func (.func g) [] []) C pv lv H) (hT:Tail O N) {i:Nat} (hi:i<V.pk.length) (hl:V.pk[i].hops.length<2^40):OutQ O N V.pk[i] (qai Φ f_17 [.ptr n 7 0 0,.int .i64 i] ⟨O,N⟩):=by
 rw [qat (fn:=c_17) rfl rfl];have t0:=hT N (Qb _);have t1:=hT (N+1) (by omega);have m1:NetM (O++[(N,AO.row 4 [[.int .i64 0,.int .i64 0,.Xu 3 [],.Xu 2 []]])]) n V (.func (.func g) [] []) C pv lv H:=m.mn Mn.app;obtain ⟨P,rfl,hP,e⟩:=qmc (N:=N+1) m1 hi;obtain ⟨h,hn,hg,ha⟩:=qod m1 hi;have hPO:look P O=some (.row 9 (pkN V.pk H)):=m.pk.id rfl;rw [PkN] at hg;have hs:=fun k N=>ha.snp (N:=N) (n:=k)
 have hc:=clHop _ hl;have hb:bor 40 h=false:=by
  rcases ha with ⟨_,rfl⟩ | ⟨t,rfl,_⟩<;>simp
 have hPN:=hT.lt hPO;have q1:¬P=N/\¬N=P/\¬P=N+1/\¬N+1=P:=by omega
 obtain ⟨q1,q2,q3,q4⟩:=q1;cases d:V.pk[i].done with
 | false=>
  rw [d] at hg;simp [c_17,e,hP,hPO,hn,hg,t0,q1,q2,q3,q4,qab,qaa];exact qoc hT d rfl rfl (.inl rfl) (by omega) (by simp)
 | true=>
  rw [d] at hg;rcases ha with ⟨e1,rfl⟩ | ⟨t,rfl,ht⟩
  ·rw [e1] at hc;simp [c_17,e,hP,hPO,hn,hg,hc,t0,t1,q1,q2,q3,q4,qab,qaa];exact qoc hT d rfl rfl (.inr ⟨_,rfl⟩) (by omega) (by simp;omega)
  ·simp [c_17,e,hP,hPO,hn,hg,hc,t0,t1,q1,q2,q3,q4,qab,qaa];exact qoc hT d rfl rfl (.inr ⟨_,rfl⟩) (by omega) (by simp;omega)
theorem qacw (m:NetM O n V (.func (.func g) [] []) C pv lv H) (hT:Tail O N) (id:Int) (hz:id<0\/(V.pk.length:Int)<=id):∃y,qai Φ f_17 [.ptr n 7 0 0,.int .i64 id] ⟨O,N⟩=some (.val (.tup [.agg [.int .i64 0,.int .i64 0,.Xu 3 [],.Xu 2 []],.bool false]),⟨O++[(N,y)],N+1⟩):=by
 rw [qat (fn:=c_17) rfl rfl];have t0:=hT N (Qb _);have m1:NetM (O++[(N,AO.row 4 [[.int .i64 0,.int .i64 0,.Xu 3 [],.Xu 2 []]])]) n V (.func (.func g) [] []) C pv lv H:=m.mn Mn.app;have e:=qq0 (N:=N+1) m1 id hz;simp [c_17,e,t0,qab,qaa]
def PkQ (O:List (Nat×AO)) (N:Nat) (x:Pk) (r:Option (Rt×AH)):Prop:=∃(p q:Int) (a:AV) (O':List (Nat×AO)) (N':Nat),(∀j,j<N->look j O'=look j O)/\Tail O' N'/\N<=N'/\(a= .Xu 1 []\/∃es,a= .slice 1 es)/\r=some (.val (.tup [.agg [.int .i64 p,.int .i64 q],a,.bool (!x.done)]),⟨O',N'⟩)
theorem qxi {x:Pk} {p q:Int} {a:AV} {d:Bool} {r:List (Nat×AO)} {N':Nat} (hT:Tail O N) (hd:d= !x.done) (ha:a= .Xu 1 []\/∃es,a= .slice 1 es) (hN:N<=N') (hr:∀p∈r,N<=p.1/\p.1<N'):PkQ O N x (some (.val (.tup [.agg [.int .i64 p,.int .i64 q],a,.bool d]),⟨O++r,N'⟩)):=by
 subst hd;exact ⟨p,q,a,_,_,fun j hj=>by rw [qab,qjd (fun p hp=>(hr p hp).1) hj];simp,Tail_append_iff.2 ⟨hT.mono hN,qj2 fun p hp=>(hr p hp).2⟩,hN,ha,rfl⟩
theorem qaf0 (m:NetM O n V (.func (.func g) [] []) C pv lv H) (hT:Tail O N) {i:Nat} (hi:i<V.pk.length) (hdl:V.pk[i].data.length<2^40):PkQ O N V.pk[i] (qai Φ f_18 [.ptr n 7 0 0,.int .i64 i] ⟨O,N⟩):=by
 rw [qat (fn:=c_18) rfl rfl];have t0:=hT N (Qb _);have m1:NetM (O++[(N,AO.row 2 [[.int .i64 0,.int .i64 0]])]) n V (.func (.func g) [] []) C pv lv H:=m.mn Mn.app;obtain ⟨P,rfl,hP,e⟩:=qmc (N:=N+1) m1 hi;obtain ⟨h,hn,hg,ha⟩:=qod m1 hi;have hPO:look P O=some (.row 9 (pkN V.pk H)):=m.pk.id rfl;rw [PkN] at hg;have hc:=clBy _ hdl;have hPN:=hT.lt hPO;have q1:¬P=N/\¬N=P:=by omega
 obtain ⟨q1,q2⟩:=q1;cases d:V.pk[i].done with
 | false=>
  rw [d] at hg;simp [c_18,e,hP,hPO,hn,hg,hc,t0,q1,q2,qab,qaa];exact qxi hT (by rw [d];rfl) (.inr ⟨_,rfl⟩) (by omega) (by simp)
 | true=>
  rw [d] at hg;simp [c_18,e,hP,hPO,hn,hg,hc,t0,q1,q2,qab,qaa];exact qxi hT (by rw [d];rfl) (.inl rfl) (by omega) (by simp)
end
def noE:Entry:=⟨[],0,⟨0,[]⟩⟩
def osum (a:Nat):Nat->Nat
 | 0=>0
 | i+1=>osum a i+a / 2^i % 2
theorem qti (a:Nat):∀i,osum a i<=i
 | 0=>Qb _
 | i+1=>by have:=qti a i;simp only [osum];omega
def qng (v:Int):Int:=(osum v.toNat 32:Nat)
theorem qaaa (n:Nat) (hn:n<2^32):qac Φ f_372 [.int .u32 (n:Int)]=some (.val (.int .i64 (osum n 32:Nat))):=by
 rw [qad (fn:=c_372) rfl rfl];simp [c_372];refine qby 32 (fun i e=>look 0 e=some (.int .u32 ((n / 2^i:Nat):Int))/\look 3 e=some (.int .i64 (osum n i:Nat))/\look 4 e=some (.int .i64 i)) (fun _=>some (Rt.val (.int .i64 (osum n 32:Nat)))) ?_ ?_ 0 _ (Qc _) ?_
 ·rintro i e L hi hL ⟨h0,h3,h5⟩ ih;have hw:=qao i (by omega);have hb:=qti n i;have hq:osum n (i+1)=osum n i+n / 2^i % 2:=rfl;have hd:n / 2^(i+1)=n / 2^i / 2:=by rw [Nat.pow_succ,Nat.div_div_eq_div_mul]
  have hle:n / 2^i<=n:=Nat.div_le_self _ _;generalize n / 2^i=q at*;have hm:(q:Int).tmod 2=(q:Int) % 2:=QAz (by omega);have hv:(q:Int).tdiv 2=(q:Int) / 2:=QBf (by omega);have hc:IntKind.wrap .i64 ((q:Int) % 2)=(q:Int) % 2:=qbr (by omega) (by omega);have hs:IntKind.wrap .i64 ((osum n i:Nat)+((q:Int) % 2))=((osum n (i+1):Nat):Int):=by
   rw [qbr (by omega) (by omega),hq];omega
  have hu:IntKind.wrap .u32 ((q:Int) / 2)=(q:Int) / 2:=by
   have e:(2:Int)^32=4294967296:=rfl;simp [IntKind.wrap,IntKind.bits,IntKind.signed,e];omega
  have hi':(i:Int)<32:=by omega
  simp [c_372_l0,h0,h3,h5,hi',hL,hm,hv,hc,hs,hu,hw];exact ih _ ⟨by simp [hd],by simp,by simp⟩
 ·rintro e L hL ⟨h0,h3,h5⟩;simp [c_372_l0,c_372_k1,h3,h5,hL]
 ·simp [osum]
theorem qxp {v:Int} (h:ok32 0 v):qac Φ f_372 [.int .u32 v]=some (.val (.int .i64 (qng v))):=by
 obtain ⟨h1,h2⟩:=h;obtain ⟨n,rfl⟩:∃n:Nat,v=n:=⟨v.toNat,by omega⟩;have:=qaaa n (by omega);simpa [qng] using this
def pfx:List Xl->List Xi->Int
 | [],_=>0
 | k::ks,xs=>if k.kind=2 then (match xs with | m::_=>qng m.mask | []=>0) else pfx ks (xs.drop 1)
def pfxZ (p:Prg) (t:Int) (x:Entry):Int:=match at? p.Xn t with
 | some tb=>pfx tb.keys x.keys
 | none=>0
theorem qq5 (k:Xl) (ks:List Xl) (xs:List Xi):pfx (k::ks) xs=if k.kind=2 then (match xs with | m::_=>qng m.mask | []=>0) else pfx ks (xs.drop 1):=rfl
theorem qada {ks:List Xl} {xs:List Xi} {i:Nat} (hi:i<ks.length) (h:ks[i].kind=2):pfx (ks.drop i) (xs.drop i)=if hx:i<xs.length then qng xs[i].mask else 0:=by
 rw [Qi hi,qq5,QAa h];by_cases hx:i<xs.length
 ·rw [dif_pos hx,Qi hx]
 ·rw [dif_neg hx,List.drop_eq_nil_of_le (by omega)]
theorem qzy {ks:List Xl} {xs:List Xi} {i:Nat} (hi:i<ks.length) (h:¬ks[i].kind=2):pfx (ks.drop i) (xs.drop i)=pfx (ks.drop (i+1)) (xs.drop (i+1)):=by
 rw [Qi hi,qq5,QA h,QBu]
theorem qac9 (ks:List Xl) (xs:List Xi):pfx (ks.drop ks.length) xs=0:=by simp [pfx]
theorem qnl (p:Prg) (f:PrgS p) (t:Int) (x:Entry) (hx:EntS x):qac Φ f_362 [.agg (Prg.c p),.int .i64 t,.agg (Entry.c x)]=some (.val (.int .i64 (pfxZ p t x))):=by
 rw [qad (fn:=c_362) rfl rfl];by_cases i0:t<0
 ·simp [c_362,Prg.e,Entry.ce,pfxZ,qc5 i0,i0]
 by_cases i1:(p.Xn.length:Int)<=t
 ·simp [c_362,Prg.e,Entry.ce,pfxZ,qc4 i1,i0,i1]
 obtain ⟨k,rfl⟩:∃k:Nat,t=k:=⟨t.toNat,by omega⟩;have hk:k<p.Xn.length:=by omega
 have hR:pfxZ p k x=pfx p.Xn[k].keys x.keys:=by rw [pfxZ,qim,Qa hk]
 rw [hR];generalize hQ:pfx p.Xn[k].keys x.keys=Q;have hkl:=f.tk p.Xn[k] (Qd hk);simp [c_362,Prg.e,Entry.ce,i0,i1];refine qay p.Xn[k].keys.length (fun _=>[]) 0 (fun i e=>pfx (p.Xn[k].keys.drop i) (x.keys.drop i)=Q/\look 1 e=some (.int .i64 k)/\look 3 e=some (.iptr 9 [Prg.c p] 0 0)/\look 5 e=some (.iptr 4 [Entry.c x] 0 0)/\look 7 e=some (.int .i64 i)) (fun _=>some (Rt.val (.int .i64 Q))) ?_ ?_ 0 _ _ (Qc _) (Qc _) ?_
 ·rintro i e n L hi hL - ⟨he,h1,h3,h5,h7⟩ ih;have hw:=qao i (by omega);rw [Entry.ce] at h5;rw [Prg.e] at h3;by_cases z:p.Xn[k].keys[i].kind=2
  ·rw [qada hi z] at he;by_cases q:i<x.keys.length
   ·rw [dif_pos q] at he;have ho:=qxp (hx.ks x.keys[i] (Qd q)).2;have q':¬x.keys.length<=i:=by omega
    simp [c_362_l0,Tbl.e,Xl.e,Xi.ce,h1,h3,h5,h7,hk,hi,hL,z,q,q',ho,he]
   ·rw [dif_neg q] at he;have q':x.keys.length<=i:=by omega
    simp [c_362_l0,Tbl.e,Xl.e,Xi.ce,h1,h3,h5,h7,hk,hi,hL,z,q,q',<- he]
  ·rw [qzy hi z] at he;simp [c_362_l0,Tbl.e,Xl.e,h1,h3,h5,h7,hk,hi,hL,z,hw];exact ih _ _ (Qc _) ⟨he,by simp [h1],by simp [h3,Prg.e],by simp [h5,Entry.ce],by simp⟩
 ·rintro e n L hL - ⟨he,h1,h3,h5,h7⟩;rw [qac9] at he;rw [Prg.e] at h3;simp [c_362_l0,c_362_k1,Tbl.e,h1,h3,h7,hk,hL,<- he]
 ·exact ⟨by simpa using hQ,by simp,by simp [Prg.e],by simp [Entry.ce],by simp⟩
def prc (p:Prg) (t:Int) (a b:Rw):Bool:=if a.entry.Xt≠b.entry.Xt then decide (b.entry.Xt<a.entry.Xt) else if pfxZ p t a.entry≠pfxZ p t b.entry then decide (pfxZ p t b.entry<pfxZ p t a.entry) else decide (a.id<b.id)
theorem qrh (p:Prg) (f:PrgS p) (t:Int) (a b:Rw) (ha:EntS a.entry) (hb:EntS b.entry):qac Φ f_328 [.agg (Prg.c p),.int .i64 t,.agg (Rw.c a),.agg (Rw.c b)]=some (.val (.bool (prc p t a b))):=by
 rw [qad (fn:=c_328) rfl rfl];have k1:=qnl p f t a.entry ha;have k2:=qnl p f t b.entry hb;simp only [Prg.e,Entry.ce] at k1 k2;by_cases q1:a.entry.Xt=b.entry.Xt
 ·rw [q1] at k1;by_cases q2:pfxZ p t a.entry=pfxZ p t b.entry
  ·simp [c_328,Prg.e,Rw.ce,prc,k1,k2,q1,q2]
  ·simp [c_328,Prg.e,Rw.ce,prc,k1,k2,q1,q2]
 ·simp [c_328,Prg.e,Rw.ce,prc,k1,k2,q1]
def qhy (m:Xi) (v:Int):Prop:=iand .u32 (ixor .u32 v m.value) m.mask=0
instance (m:Xi) (v:Int):Decidable (qhy m v):=by unfold qhy;infer_instance
def mts:List Xi->List Int->Bool
 | m::ms,v::vs=>if qhy m v then mts ms vs else false
 | _,_=>true
def mtF (x:Entry) (key:List Int):Bool:=decide (x.keys.length=key.length)&&mts x.keys key
theorem qacs {l:List Xi} {k:List Int} {i:Nat} (h1:i<l.length) (h2:i<k.length) (h:qhy l[i] k[i]):mts (l.drop i) (k.drop i)=mts (l.drop (i+1)) (k.drop (i+1)):=by
 rw [Qi h1,Qi h2,mts,QAa h]
theorem qzk {l:List Xi} {k:List Int} {i:Nat} (h1:i<l.length) (h2:i<k.length) (h:¬qhy l[i] k[i]):mts (l.drop i) (k.drop i)=false:=by
 rw [Qi h1,Qi h2,mts,QA h]
theorem qsn (x:Entry) (hx:x.keys.length<2^40) (key:List Int):qac Φ f_327 [.agg (Entry.c x),.slice 1 (key.map c32)]=some (.val (.bool (mtF x key))):=by
 rw [qad (fn:=c_327) rfl rfl];by_cases q:x.keys.length=key.length
 rotate_left
 ·simp [c_327,Entry.ce,mtF,q]
 have hR:mtF x key=mts x.keys key:=by simp [mtF,q]
 rw [hR];generalize hQ:mts x.keys key=Q;simp [c_327,Entry.ce,q];refine qay x.keys.length (fun _=>[]) 0 (fun i e=>mts (x.keys.drop i) (key.drop i)=Q/\look 1 e=some (.slice 1 (key.map c32))/\look 2 e=some (.iptr 4 [Entry.c x] 0 0)/\look 5 e=some (.int .i64 i)) (fun _=>some (Rt.val (.bool Q))) ?_ ?_ 0 _ _ (Qc _) (Qc _) ?_
 ·rintro i e n L hi hL - ⟨he,h1,h2,h5⟩ ih;have hw:=qao i (by omega);have hk:i<key.length:=by omega
  rw [Entry.ce] at h2;by_cases z:qhy x.keys[i] key[i]
  ·rw [qacs hi hk z] at he;unfold qhy at z;simp [c_327_l0,Xi.ce,c32e,h1,h2,h5,hi,hk,hL,z,hw];exact ih _ _ (Qc _) ⟨he,by simp [h1],by simp [h2,Entry.ce],by simp⟩
  ·rw [qzk hi hk z] at he;unfold qhy at z;simp [c_327_l0,Xi.ce,c32e,h1,h2,h5,hi,hk,hL,z,<- he]
 ·rintro e n L hL - ⟨he,h1,h2,h5⟩;rw [q,QBd,List.drop_of_length_le (by omega)] at he;simp [c_327_l0,c_327_k1,h1,h5,q,hL,<- he,mts]
 ·exact ⟨by simpa using hQ,by simp,by simp [Entry.ce],by simp⟩
section
variable {α:Type} (m:α->Bool) (pr:α->α->Bool)
def qey (o:Option α) (r:α):Option α:=if m r&&(match o with | none=>true | some b=>pr r b) then some r else o
variable {m pr}
end
def zRow:List AV:=[.int .i64 0,.Xu 2 [],.int .i64 0,.int .i64 0,.Xu 1 []]
def rowV (o:Option Rw):List AV:=match o with
 | some x=>Rw.c x
 | none=>Rw.c ⟨0,noE⟩
def rv (o:Option Rw):List AV:=match o with
 | some x=>Rw.c x
 | none=>zRow
def oB (p:Prg) (t:Int) (key:List Int) (l:List Rw):Option Rw:=l.foldl (qey (fun r=>mtF r.entry key) (prc p t)) none
theorem qac1 (p:Prg) (t:Int) (key:List Int) (l:List Rw) (r:Rw):oB p t key (l++[r])=qey (fun r=>mtF r.entry key) (prc p t) (oB p t key l) r:=by simp [oB]
theorem qym {α:Type} (m:α->Bool) (pr:α->α->Bool) (o:Option α) (r:α):qey m pr o r=some r\/qey m pr o r=o:=by
 unfold qey;generalize (m r&&(match o with | none=>true | some b=>pr r b))=c;cases c<;>simp
theorem qqq {α:Type} (m:α->Bool) (pr:α->α->Bool):∀(l:List α) (o:Option α) (x:α),l.foldl (qey m pr) o=some x->x∈l\/o=some x
 | [],o,x,h=> .inr h
 | a::l,o,x,h=>by
  rw [List.foldl_cons] at h;rcases qqq m pr l _ x h with h | h
  ·exact .inl (QAk _ h)
  ·rcases qym m pr o a with e | e
   ·rw [e] at h;rw [Option.some.inj h];exact .inl (by simp)
   ·rw [e] at h;exact .inr h
theorem qxb (p:Prg) (t:Int) (key:List Int) (l:List Rw) (x:Rw) (h:oB p t key l=some x):x∈l:=by
 rcases qqq _ _ l none x h with h | h
 ·exact h
 ·cases h
theorem qz0 (p:Prg) (f:PrgS p) (k:Nat) (hk:k<p.Xn.length) (key:List Int) (l:List Rw) (hll:l.length<2^40) (hl:∀x∈l,EntS x.entry):
  qac Φ f_264 [.agg (Prg.c p),.int .i64 k,.slice 5 (l.map Rw.c),.slice 1 (key.map c32)]=some (.val (.tup [.agg (rowV (oB p k key l)),.bool (oB p k key l).isSome])):=by
 rw [qad (fn:=c_264) rfl rfl];simp [c_264,Prg.e];refine qay l.length (fun i=>[(0,.row 5 [zRow]),(1,.row 5 [rv (oB p k key (l.take i))])]) 2 (fun i e=>look 1 e=some (.int .i64 k)/\look 2 e=some (.slice 5 (l.map Rw.c))/\look 3 e=some (.slice 1 (key.map c32))/\look 4 e=some (.iptr 9 [Prg.c p] 0 0)/\look 8 e=some (.ptr 0 5 0 0)/\look 10 e=some (.ptr 1 5 0 0)/\look 11 e=some (.bool (oB p k key (l.take i)).isSome)/\look 12 e=some (.int .i64 i))
  (fun _=>some (Rt.val (.tup [.agg (rowV (oB p k key l)),.bool (oB p k key l).isSome]))) ?_ ?_ 0 _ _ (Qc _) (Qb _) ?_
 ·rintro i e n L hi hL hn ⟨h1,h2,h3,h4,h8,h10,h11,h12⟩ ih;have hw:=qao i (by omega);have hs:oB p k key (l.take (i+1))=qey (fun r=>mtF r.entry key) (prc p k) (oB p k key (l.take i)) l[i]:=by
   rw [Qh hi,qac1]
  have hm:=qsn l[i].entry (hl _ (Qd hi)).kl key;rw [Prg.e] at h4;simp only [Entry.ce] at hm;have hlt:¬((k:Int)<0):=by omega
  have hlt':(0:Int)<=(k:Int):=by omega
  have fin:∀o,oB p k key (l.take (i+1))=o->∀e',look 1 e'=some (.int .i64 k)->look 2 e'=some (.slice 5 (l.map Rw.c))->look 3 e'=some (.slice 1 (key.map c32))->look 4 e'=some (.iptr 9 [Prg.c p] 0 0)->look 8 e'=some (.ptr 0 5 0 0)->look 10 e'=some (.ptr 1 5 0 0)->look 11 e'=some (.bool o.isSome)->look 12 e'=some (.int .i64 ((i+1:Nat):Int))->∀n',2<=n'->
    go Φ (finP [.cell 8 true 5,.tmp 9]) L .normal ⟨e',⟨[(0,.row 5 [zRow]),(1,.row 5 [rv o])],n'⟩⟩=some (Rt.val (.tup [.agg (rowV (oB p k key l)),.bool (oB p k key l).isSome])):=fun o ho e' g1 g2 g3 g4 g8 g10 g11 g12 n' hn'=>by
   rw [<- ho];exact ih e' n' hn' ⟨g1,g2,g3,g4,g8,g10,by rw [ho];exact g11,g12⟩
  cases ho:oB p k key (l.take i) with
  | none=>
   rw [ho] at hs h11;cases hq:mtF l[i].entry key with
   | false=>
    rw [hq] at hm;have hs':oB p k key (l.take (i+1))=none:=by rw [hs];simp [qey,hq]
    simp [c_264_l0,Rw.ce,h1,h2,h3,h4,h8,h10,h11,h12,hi,hk,hL,hm,hw];exact fin none hs' _ (by simp [h1]) (by simp [h2,Rw.ce]) (by simp [h3]) (by simp [h4,Prg.e]) (by simp [h8]) (by simp [h10]) (by simp [h11]) (by simp) _ (by omega)
   | true=>
    rw [hq] at hm;have hs':oB p k key (l.take (i+1))=some l[i]:=by rw [hs];simp [qey,hq]
    simp [c_264_l0,Rw.ce,h1,h2,h3,h4,h8,h10,h11,h12,hi,hk,hL,hm,hw,rv,zRow];exact fin (some l[i]) hs' _ (by simp [h1]) (by simp [h2,Rw.ce]) (by simp [h3]) (by simp [h4,Prg.e]) (by simp [h8]) (by simp [h10]) (by simp) (by simp) _ (by omega)
  | some x=>
   rw [ho] at hs h11;have hx:=qxb p k key _ x ho;have hx':x∈l:=Qu hx;have hp:=qrh p f k l[i] x (hl _ (Qd hi)) (hl x hx');simp only [Rw.ce,Prg.e] at hp;cases hq:mtF l[i].entry key with
   | false=>
    rw [hq] at hm;have hs':oB p k key (l.take (i+1))=some x:=by rw [hs];simp [qey,hq]
    simp [c_264_l0,Rw.ce,h1,h2,h3,h4,h8,h10,h11,h12,hi,hk,hL,hm,hw];exact fin (some x) hs' _ (by simp [h1]) (by simp [h2,Rw.ce]) (by simp [h3]) (by simp [h4,Prg.e]) (by simp [h8]) (by simp [h10]) (by simp [h11]) (by simp) _ (by omega)
   | true=>
    rw [hq] at hm;cases hb:prc p k l[i] x with
    | false=>
     rw [hb] at hp;have hs':oB p k key (l.take (i+1))=some x:=by rw [hs];simp [qey,hq,hb]
     simp [c_264_l0,Rw.ce,h1,h2,h3,h4,h8,h10,h11,h12,hi,hk,hL,hm,hw,rv,zRow,hp];exact fin (some x) hs' _ (by simp [h1]) (by simp [h2,Rw.ce]) (by simp [h3]) (by simp [h4,Prg.e]) (by simp [h8]) (by simp [h10]) (by simp [h11]) (by simp) _ (by omega)
    | true=>
     rw [hb] at hp;have hs':oB p k key (l.take (i+1))=some l[i]:=by rw [hs];simp [qey,hq,hb]
     simp [c_264_l0,Rw.ce,h1,h2,h3,h4,h8,h10,h11,h12,hi,hk,hL,hm,hw,rv,zRow,hp];exact fin (some l[i]) hs' _ (by simp [h1]) (by simp [h2,Rw.ce]) (by simp [h3]) (by simp [h4,Prg.e]) (by simp [h8]) (by simp [h10]) (by simp) (by simp) _ (by omega)
 ·rintro e n L hL hn ⟨h1,h2,h3,h4,h8,h10,h11,h12⟩;rw [QAf] at h11 ⊢;cases ho:oB p k key l with
  | none=>
   rw [ho] at h11;simp [c_264_l0,c_264_k1,h2,h8,h10,h11,h12,hL,rv,zRow,rowV,Rw.ce,noE]
  | some x=>
   rw [ho] at h11;simp [c_264_l0,c_264_k1,h2,h8,h10,h11,h12,hL,rv,zRow,rowV,Rw.ce]
 ·simp [oB,Prg.e]
def eF (b:Bool) (k0 t0 t1 f0 f1 f2 m0 m1 m2 m3:Int) (pay:List Int):Envt:=⟨[true,b,true],[[k0],[t0,t1],[f0,f1,f2]],[m0,m1,m2,m3],pay⟩
theorem wrU32 {x:Int} (h:0<=x) (h2:x<=4294967295):IntKind.wrap .u32 x=x:=by
 simp [IntKind.wrap,IntKind.bits,IntKind.signed];omega
theorem qw6 (v:Int) (hv:ok32 0 v) (k:Nat) (hk:k<=32):qac Φ f_195 [.int .u32 v,.int .i64 k]=some (.val (.int .u32 (v % 2^k))):=by
 rw [qad (fn:=c_195) rfl rfl];have hv1:=hv.1;have hv2:=hv.2;have hc:IntKind.wrap .u64 v=v:=qfk (by omega) (by omega);have hp0:(0:Int)<2^k:=Int.pow_pos (by decide);have hm0:=Int.emod_nonneg v (Int.ne_of_gt hp0);have hm1:v % 2^k<=v:=by have:=Int.emod_lt_of_pos v hp0;by_cases q:v<2^k;rw [Int.emod_eq_of_lt hv1 q];omega;omega
 have hc2:IntKind.wrap .u32 (v % 2^k)=v % 2^k:=wrU32 hm0 (by omega);have ht:Int.tmod v (2^k)=v % 2^k:=QAz hv1;have hz:¬((2:Int)^k=0):=Int.ne_of_gt hp0;have hc3:IntKind.wrap .u64 (v % 2^k)=v % 2^k:=qfk (by omega) (by omega);generalize hX:v % 2^k=X;simp [c_195];refine (qby k (fun i e=>look 0 e=some (.int .u32 v)/\look 1 e=some (.int .i64 k)/\look 5 e=some (.int .u64 (2^i))/\look 6 e=some (.int .i64 i)) (fun i=>some (Rt.val (.int .u32 X))) ?_ ?_ 0 _ (Qc _) ?_).trans (by simp)
 ·rintro i e L hi hL ⟨h0,h1,h5,h6⟩ ih;have hw:=qao i (by omega);have hp:=qli (i:=i) (by omega);simp [c_195_l0,h1,h5,h6,hi,hw,hp];exact ih _ ⟨by simp [h0],by simp [h1],by simp,by simp⟩
 ·rintro e L hL ⟨h0,h1,h5,h6⟩;simp [c_195_l0,c_195_k1,h0,h1,h5,h6,hL,hc,hz,ht,hc2,hc3,<- hX]
 ·simp
theorem qs0 (e:Envt) (h f:Int):qac Φ f_193 [.agg (Envt.c e),.agg [.int .i64 h,.int .i64 f]]=some (.val (.bool (if h= -1 then (at? e.metaF f).isSome else ((at? e.fields h).bind fun l=>at? l f).isSome))):=by
 rw [qad (fn:=c_193) rfl rfl];by_cases hm:h= -1
 ·subst hm;by_cases f0:f<0
  ·have:¬0<=f:=by omega
   simp [c_193,Envt.c,this,qc5 f0]
  by_cases f1:(e.metaF.length:Int)<=f
  ·have h1:0<=f:=by omega
   have h2:¬f<e.metaF.length:=by omega
   simp [c_193,Envt.c,h1,h2,qc4 f1]
  obtain ⟨k,rfl⟩:=QAc (show 0<=f by omega);have hk:k<e.metaF.length:=by omega
  simp [c_193,Envt.c,hk]
 by_cases h0:h<0
 ·have:¬0<=h:=by omega
  simp [c_193,Envt.c,hm,this,qc5 h0]
 by_cases h1:(e.fields.length:Int)<=h
 ·have h2:0<=h:=by omega
  have h3:¬h<e.fields.length:=by omega
  simp [c_193,Envt.c,hm,h2,h3,qc4 h1]
 obtain ⟨m,rfl⟩:=QAc (show 0<=h by omega);have hmk:m<e.fields.length:=by omega
 by_cases f0:f<0
 ·have:¬0<=f:=by omega
  simp [c_193,Envt.c,hm,hmk,this,qc5 f0,cS]
 by_cases f1:(e.fields[m].length:Int)<=f
 ·have h1:0<=f:=by omega
  have h2:¬f<e.fields[m].length:=by omega
  simp [c_193,Envt.c,hm,hmk,h1,h2,qc4 f1,cS]
 obtain ⟨k,rfl⟩:=QAc (show 0<=f by omega);have hk:k<e.fields[m].length:=by omega
 simp [c_193,Envt.c,hm,hmk,hk,cS]
theorem qwr (e:Envt) (h:Int):qac Φ f_194 [.agg (Envt.c e),.int .i64 h]=some (.val (.bool ((at? e.valid h).getD false))):=by
 rw [qad (fn:=c_194) rfl rfl];by_cases h0:h<0
 ·have:¬0<=h:=by omega
  simp [c_194,Envt.c,this,qc5 h0]
 by_cases h1:(e.valid.length:Int)<=h
 ·have h2:0<=h:=by omega
  have h3:¬h<e.valid.length:=by omega
  simp [c_194,Envt.c,h2,h3,qc4 h1]
 obtain ⟨m,rfl⟩:=QAc (show 0<=h by omega);have hmk:m<e.valid.length:=by omega
 simp [c_194,Envt.c,hmk,cB]
def eGet (e:Envt) (h f:Int):Int:=if h= -1 then (at? e.metaF f).getD 0 else if (at? e.valid h).getD false then ((at? e.fields h).bind fun l=>at? l f).getD 0 else 0
theorem Envt.ce (e:Envt):e.c=[.slice 1 (e.valid.map cB),.slice 1 (e.fields.map (cS 1 c32)),.slice 1 (e.metaF.map c32),.slice 1 (e.payload.map c8)]:=rfl
theorem qk2 {α:Type} {l:List α} {i:Int} {x:α} (h:at? l i=some x):∃k:Nat,i=k/\∃hk:k<l.length,l[k]=x:=by
 unfold at? at h;split at h
 ·cases h
 ·obtain ⟨hk,e⟩:=Qm.1 h;exact ⟨i.toNat,by omega,hk,e⟩
theorem qafu (e:Envt) (h f:Int):qac Φ f_260 [.agg (Envt.c e),.agg [.int .i64 h,.int .i64 f]]=some (.val (.int .u32 (eGet e h f))):=by
 rw [qad (fn:=c_260) rfl rfl];have h1:=qs0 e h f;have h2:=qwr e h;rw [Envt.ce] at h1 h2;unfold eGet;by_cases hm:h= -1
 ·rw [QAa hm] at h1 ⊢;subst hm;cases q:at? e.metaF f with
  | none=>
   rw [q] at h1;simp [c_260,Envt.ce,h1]
  | some v=>
   obtain ⟨k,rfl,hk,rfl⟩:=qk2 q;rw [q] at h1;simp [c_260,Envt.ce,h1,hk,c32]
 rw [QA hm] at h1 ⊢;cases q:(at? e.fields h).bind fun l=>at? l f with
 | none=>
  rw [q] at h1;simp [c_260,Envt.ce,h1]
 | some v=>
  rw [q] at h1;obtain ⟨l,q1,q2⟩:=Qt.1 q;obtain ⟨m,rfl,hmk,rfl⟩:=qk2 q1;obtain ⟨k,rfl,hk,rfl⟩:=qk2 q2;cases z:(at? e.valid (m:Int)).getD false with
  | false=>
   rw [z] at h2;simp [c_260,Envt.ce,h1,h2,hm]
  | true=>
   rw [z] at h2;simp [c_260,Envt.ce,h1,h2,hm,hmk,hk,c32,cS]
theorem qi0 (a:AV) (h:AH):qai Φ f_191 [a] h=go Φ (finC c_191.results) [.c c_191.body] .normal ⟨qb0 0 [a],h⟩:=qat (fn:=c_191) rfl rfl
def eSet (h f:Int) (v:Int) (e:Envt):Envt:=
 if h= -1 then { e with metaF:=e.metaF.set f.toNat v } else if (at? e.valid h).getD false then { e with fields:=e.fields.set h.toNat ((e.fields.getD h.toNat []).set f.toNat v) } else e
section
variable (p:Prg) (b:Bool) (k0 t0 t1 f0 f1 f2 m0 m1 m2 m3:Int) (pay:List Int)
theorem fSet (h f:Int) (w:Nat) (hw:wid p h f=w) (hw1:1<=w) (hw2:w<=32) (v:Int) (hv:ok32 0 v) (hpl:pay.length<2^40)
  (hr:(h= -1/\(f=0\/f=1\/f=2\/f=3))\/(h=0/\f=0)\/(h=1/\(f=0\/f=1))):
  qac Φ f_135 [.agg (Prg.c p),.agg (eF b k0 t0 t1 f0 f1 f2 m0 m1 m2 m3 pay).c,.agg [.int .i64 h,.int .i64 f],.int .u32 v]=some (.val (.agg (eSet h f (v % 2^w) (eF b k0 t0 t1 f0 f1 f2 m0 m1 m2 m3 pay)).c)):=by
 rw [qad (fn:=c_135) rfl rfl];have h1:=qs0 (eF b k0 t0 t1 f0 f1 f2 m0 m1 m2 m3 pay) h f;have h2:=qwr (eF b k0 t0 t1 f0 f1 f2 m0 m1 m2 m3 pay) h;have h3:=qkp p h f;have h4:=qw6 v hv w hw2;rw [hw] at h3;rw [Envt.ce] at h1 h2;rw [Prg.e] at h3;simp only [eF] at h1 h2;have b1:pay.length<=70368744177664:=by omega
 have w0:¬w=0:=by omega
 have al:qa9 1 (pay.map c8)=true:=qa4 1 c8 pay fun x=>by simp
 have w1:IntKind.wrap .i64 1=1:=rfl;have w2:IntKind.wrap .i64 2=2:=rfl;have w3:IntKind.wrap .i64 3=3:=rfl;have w4:IntKind.wrap .i64 (1+1)=2:=rfl;have w5:IntKind.wrap .i64 (2+1)=3:=rfl;simp [c_135,c_191,c_191_l0,c_191_k1,qi0,Envt.ce,eF,Prg.e,cS,c32,cB,b1,w1,w2,w3,w4,w5,al,qab,qaa,qaf,qak,qc2];rw [qa3];simp [c_191_l0,c_191_k1,b1,w1,w2,w3,w4,w5,al,qab,qaa,qaf,qak,qc2];rw [qa3];simp [c_191_l0,c_191_k1,b1,w1,w2,w3,w4,w5,al,qab,qaa,qaf,qak,qc2];rw [qa3];simp [c_191_l0,c_191_k1,b1,w1,w2,w3,w4,w5,al,qab,qaa,qaf,qak,qc2];rw [qa3];simp [c_191_l0,c_191_k1,b1,w1,w2,w3,w4,w5,al,qab,qaa,qaf,qak,qc2];rcases hr with ⟨rfl,rfl | rfl | rfl | rfl⟩ | ⟨rfl,rfl⟩ | ⟨rfl,rfl | rfl⟩
 any_goals cases b
 all_goals simp [at?,cS,c32,cB] at h1 h2
 all_goals simp [h1,h2,h3,h4,w0,eSet,at?,eF,Envt.ce,cS,c32,cB,qab,qaa,qaf,qak]
end
section
variable (p:Prg) (b:Bool) (k0 t0 t1 f0 f1 f2 m0 m1 m2 m3:Int) (pay:List Int)
theorem qafs (hpl:pay.length<2^40):qac Φ f_191 [.agg (eF b k0 t0 t1 f0 f1 f2 m0 m1 m2 m3 pay).c]=some (.val (.agg (eF b k0 t0 t1 f0 f1 f2 m0 m1 m2 m3 pay).c)):=by
 rw [qad (fn:=c_191) rfl rfl];have b1:pay.length<=70368744177664:=by omega
 have al:qa9 1 (pay.map c8)=true:=qa4 1 c8 pay fun x=>by simp
 have w1:IntKind.wrap .i64 1=1:=rfl;have w2:IntKind.wrap .i64 2=2:=rfl;have w3:IntKind.wrap .i64 3=3:=rfl;have w4:IntKind.wrap .i64 (1+1)=2:=rfl;have w5:IntKind.wrap .i64 (2+1)=3:=rfl;simp [c_191,Envt.ce,eF,cS,c32,cB];rw [qa3];simp [c_191_l0,c_191_k1,b1,w1,w2,w3,w4,w5,al,qab,qaa,qaf,qak,qc2];rw [qa3];simp [c_191_l0,c_191_k1,b1,w1,w2,w3,w4,w5,al,qab,qaa,qaf,qak,qc2];rw [qa3];simp [c_191_l0,c_191_k1,b1,w1,w2,w3,w4,w5,al,qab,qaa,qaf,qak,qc2];rw [qa3];simp [c_191_l0,c_191_k1,b1,w1,w2,w3,w4,w5,al,qab,qaa,qaf,qak,qc2]
theorem fVal (d:Bool) (hpl:pay.length<2^40):qac Φ f_329 [.agg (eF b k0 t0 t1 f0 f1 f2 m0 m1 m2 m3 pay).c,.int .i64 1,.bool d]=some (.val (.agg (eF d k0 0 0 f0 f1 f2 m0 m1 m2 m3 pay).c)):=by
 rw [qad (fn:=c_329) rfl rfl];have b1:pay.length<=70368744177664:=by omega
 have al:qa9 1 (pay.map c8)=true:=qa4 1 c8 pay fun x=>by simp
 have w1:IntKind.wrap .i64 1=1:=rfl;have w2:IntKind.wrap .i64 2=2:=rfl;have w3:IntKind.wrap .i64 3=3:=rfl;have w4:IntKind.wrap .i64 (1+1)=2:=rfl;have w5:IntKind.wrap .i64 (2+1)=3:=rfl;simp [c_329,c_191,qi0,Envt.ce,eF,cS,c32,cB];rw [qa3];simp [c_191_l0,c_191_k1,b1,w1,w2,w3,w4,w5,al,qab,qaa,qaf,qak,qc2];rw [qa3];simp [c_191_l0,c_191_k1,b1,w1,w2,w3,w4,w5,al,qab,qaa,qaf,qak,qc2];rw [qa3];simp [c_191_l0,c_191_k1,b1,w1,w2,w3,w4,w5,al,qab,qaa,qaf,qak,qc2];rw [qa3];simp [c_191_l0,c_191_k1,b1,w1,w2,w3,w4,w5,al,qab,qaa,qaf,qak,qc2]
theorem fAdd (hpl:pay.length<2^40) (hh:1<p.Xp.length):qac Φ f_267 [.agg (Prg.c p),.agg (eF b k0 t0 t1 f0 f1 f2 m0 m1 m2 m3 pay).c,.int .i64 1]=some (.val (.agg (if b then eF b k0 t0 t1 f0 f1 f2 m0 m1 m2 m3 pay else eF true k0 0 0 f0 f1 f2 m0 m1 m2 m3 pay).c)):=by
 rw [qad (fn:=c_267) rfl rfl];have h1:=qafs b k0 t0 t1 f0 f1 f2 m0 m1 m2 m3 pay hpl;have h2:=fVal b k0 t0 t1 f0 f1 f2 m0 m1 m2 m3 pay true hpl;have hh':¬p.Xp.length<=1:=by omega
 rw [Envt.ce] at h1;rw [Envt.ce,Envt.ce] at h2;simp [eF,cS,c32,cB] at h1 h2;cases b<;>simp [c_267,Envt.ce,eF,Prg.e,cS,c32,cB,h1,h2,hh,hh']
theorem fRem (hpl:pay.length<2^40) (hh:1<p.Xp.length):qac Φ f_268 [.agg (Prg.c p),.agg (eF b k0 t0 t1 f0 f1 f2 m0 m1 m2 m3 pay).c,.int .i64 1]=some (.val (.agg (eF false k0 0 0 f0 f1 f2 m0 m1 m2 m3 pay).c)):=by
 rw [qad (fn:=c_268) rfl rfl];have h2:=fVal b k0 t0 t1 f0 f1 f2 m0 m1 m2 m3 pay false hpl;have hh':¬p.Xp.length<=1:=by omega
 rw [Envt.ce,Envt.ce] at h2;simp [eF,cS,c32,cB] at h2;simp [c_268,Envt.ce,eF,Prg.e,cS,c32,cB,h2,hh,hh']
end
section
variable (p:Prg) (nm:List UInt8) (hp:p.Xm=[⟨nm,16,16⟩]) (l:List Int) (hl:l.length=16) (i:Int) (hi:ok32 0 i)
include hp hl hi
theorem qsy:qac Φ f_330 [.agg (Prg.c p),.slice 1 [[.slice 1 (l.map c32)]],.int .i64 0,.int .u32 i]=some (.val (.bool (decide (i<16)))):=by
 rw [qad (fn:=c_330) rfl rfl];have hw:IntKind.wrap .i64 i=i:=by
  have h1:=hi.1;have h2:=hi.2;obtain ⟨k,rfl⟩:=QAc h1;exact qbr (by omega) (by omega)
 by_cases z:i<16
 ·simp [c_330,Prg.e,Xh.e,hp,hl,hw,z]
 ·simp [c_330,Prg.e,Xh.e,hp,hl,hw,z]
theorem qadl:qac Φ f_269 [.agg (Prg.c p),.slice 1 [[.slice 1 (l.map c32)]],.int .i64 0,.int .u32 i]=some (.val (.int .u32 (l.getD i.toNat 0))):=by
 rw [qad (fn:=c_269) rfl rfl];have h1:=qsy p nm hp l hl i hi;have hi1:=hi.1;simp only [Prg.e] at h1;by_cases z:i<16
 ·obtain ⟨k,rfl⟩:=QAc hi1;have hk:k<l.length:=by omega
  simp [z] at h1;simp [c_269,Prg.e,h1,hk,c32]
 ·have hk:l.length<=i.toNat:=by omega
  simp [z] at h1;simp [c_269,Prg.e,h1,hk]
theorem qaa5 (v:Int) (hv:ok32 0 v):qac Φ f_270 [.agg (Prg.c p),.slice 1 [[.slice 1 (l.map c32)]],.int .i64 0,.int .u32 i,.int .u32 v]=some (.val (.slice 1 [[.slice 1 ((l.set i.toNat (v % 65536)).map c32)]])):=by
 rw [qad (fn:=c_270) rfl rfl];have h1:=qsy p nm hp l hl i hi;have hi1:=hi.1;have hv1:=hv.1;have hv2:=hv.2;have hc:IntKind.wrap .u64 v=v:=qfk (by omega) (by omega);have hm0:0<=v % 65536:=by omega
 have hc2:IntKind.wrap .u32 (v % 65536)=v % 65536:=wrU32 hm0 (by omega);have ht:Int.tmod v 65536=v % 65536:=QAz hv1;have hc3:IntKind.wrap .u64 (v % 65536)=v % 65536:=qfk (by omega) (by omega);have w1:IntKind.wrap .i64 1=1:=rfl;have n1:¬l=[]:=by intro h;simp [h] at hl
 have b1:l.length*4<=70368744177664:=by omega
 simp only [Prg.e,hp] at h1;simp [c_270,Prg.e,hp];rw [qa3];simp [c_270_l0,c_270_k3,w1,n1,b1,hl,qab,qaa,qaf,qak,qc2];rw [qa3];simp [c_270_l0,c_270_k3,w1,n1,b1,hl,qab,qaa,qaf,qak,qc2];have hwd:qac Φ f_151 [.agg [.str nm,.int .i64 16,.int .i64 16]]=some (.val (.int .i64 16)):=by
  rw [qad (fn:=c_151) rfl rfl];simp [c_151]
 by_cases z:i<16
 rotate_left
 ·have hk:l.length<=i.toNat:=by omega
  have hs:(l.map c32).set i.toNat (c32 (v % 65536))=l.map c32:=QCt (by simpa using hk);rw [hs];simp [z] at h1;have hl3:(l.map c32).take 16=l.map c32:=Qo (by simp [hl]);have hid:=fun H:AH=>qen (g:=c32) (n:=38) (H:=H) (fun x=>by simp [c32]) l
  simp [h1,hl,qab,qaa,qc2,hl3,hid]
 obtain ⟨k,rfl⟩:=QAc hi1;have hk:k<l.length:=by omega
 have hk16:k<16:=by omega
 simp [hk16,Xh.e] at h1;simp [h1,hwd,Xh.e];refine (qby 16 (fun j e=>look 2 e=some (.int .i64 0)/\look 3 e=some (.int .u32 k)/\look 4 e=some (.int .u32 v)/\look 5 e=some (.iptr 9 [Prg.c p] 0 0)/\look 11 e=some (.row 2 1 0 1)/\look 13 e=some (.int .u64 (2^j))/\look 14 e=some (.int .i64 j)) (fun _=>some (Rt.val (.slice 1 [[.slice 1 ((l.map c32).set k (c32 (v % 65536)))]]))) ?_ ?_ 0 _ (Qc _) ?_).trans ?_
 ·rintro j e L hj hL ⟨g2,g3,g4,g5,g11,g13,g14⟩ ih;have hw:=qao j (by omega);have hp2:=qli (i:=j) (by omega);have hj':(j:Int)<16:=by omega
  rw [Prg.e] at g5;simp [c_270_l1,g2,g5,g13,g14,hp,Xh.e,hj,hw,hp2];exact ih _ ⟨by simp [g2],by simp [g3],by simp [g4],by simp [g5,Prg.e,hp],by simp [g11],by simp,by simp⟩
 ·rintro e L hL ⟨g2,g3,g4,g5,g11,g13,g14⟩;rw [Prg.e] at g5;have g13':look 13 e=some (.int .u64 65536):=g13;have hl2:((l.map c32).set k [.int .u32 (v % 65536)]).take 16=(l.map c32).set k [.int .u32 (v % 65536)]:=Qo (by simp [hl]);have hsn:∀H:AH,mapO (mapO (snap 38 H)) ((l.map c32).set k [.int .u32 (v % 65536)])=some ((l.map c32).set k [.int .u32 (v % 65536)]):=fun H=>by
   rw [qx1 (n:=38) (H:=H) (g:=c32) (fun x=>by simp [c32]) hk];simp
  simp [c_270_l1,c_270_k2,g2,g3,g4,g5,g11,g13',g14,hp,Xh.e,hL,hk,hk16,hc,ht,hc2,hc3,hl,qab,qaa,hl2,hsn,c32]
 ·simp [Prg.e,hp,Xh.e]
 ·rfl
end
def GS (c:Xf):Prop:=CfgT c/\∀l∈c.rows,l.length<2^39
def ScG (G:Xf->Prop) (x:Option Rt):Prop:=∃(r:Rslt) (c':Xf),x=some (.val (.tup [.agg (Rslt.c r),.agg (Xf.c c')]))/\G c'/\okB' r.data/\r.data.length<=1000
theorem alB (l:List Int):qa9 1 (l.map c8)=true:=qa4 1 c8 l fun x=>by simp [c8]
theorem qw5 (l:List Int) (k:Nat):(l.map c8).drop k=(l.drop k).map c8:=by simp
theorem wr32 (x:Int):0<=IntKind.wrap .u32 x/\IntKind.wrap .u32 x<=4294967295:=by
 simp [IntKind.wrap,IntKind.bits,IntKind.signed];omega
theorem qagc {g:Nat} {G:Xf->Prop} (h:∀c s d,G c->okB' d->d.length<=1000->ScG G (qac Φ g [.agg (Xf.c c),.agg [.int .i64 s,.slice 1 (d.map c8)]])) (hc:∀c,G c->CfgC c):∃P,PrcOk g G P:=by
 have key:∀x:Xf×Int×List Int,∃q:Rslt×Xf,G x.1->okB' x.2.2->x.2.2.length<=1000->qac Φ g [.agg (Xf.c x.1),.agg [.int .i64 x.2.1,.slice 1 (x.2.2.map c8)]]=some (.val (.tup [.agg (Rslt.c q.1),.agg (Xf.c q.2)]))/\G q.2/\okB' q.1.data/\q.1.data.length<=1000:=by
  intro x;by_cases a:G x.1/\okB' x.2.2/\x.2.2.length<=1000
  ·obtain ⟨r,c',e,h1,h2,h3⟩:=h x.1 x.2.1 x.2.2 a.1 a.2.1 a.2.2;exact ⟨(r,c'),fun _ _ _=>⟨e,h1,h2,h3⟩⟩
  ·exact ⟨default,fun h1 h2 h3=>absurd ⟨h1,h2,h3⟩ a⟩
 refine ⟨fun c s d=>(key (c,s,d)).choose,⟨fun c s d h1 h2 h3=>?_,fun c s d h1 h2 h3=>?_,fun c s d h1 h2 h3=>?_,hc⟩⟩
 ·exact ((key (c,s,d)).choose_spec h1 h2 h3).1
 ·exact ((key (c,s,d)).choose_spec h1 h2 h3).2.1
 ·exact ((key (c,s,d)).choose_spec h1 h2 h3).2.2
def rd (x n:Int):Int:=IntKind.wrap .u32 ((IntKind.wrap .u64 x).tmod n)
theorem qlm (x n:Int):ok32 0 (rd x n):=wr32 _
def sc (p:Prg) (ps:List Fld):AV:= .agg (Prg.c p++[.slice 2 (ps.map Fld.c)])
def evA (p:Prg) (ps:List Fld) (n:List Xe) (e:Envt) (args:List Int) (v:Int):Prop:=qac Φ f_137 [.slice 3 (n.map Xe.c),sc p ps,.agg e.c,.slice 1 (args.map c32)]=some (.val (.int .u32 v))
structure EI (e:Envt):Prop where
 x:∃b k0 t0 t1 f0 f1 f2 m0 m1 m2 m3 pay,e=eF b k0 t0 t1 f0 f1 f2 m0 m1 m2 m3 pay/\(m2=0\/m2=1)/\(ok32 0 k0/\ok32 0 t0/\ok32 0 t1/\ok32 0 f0/\ok32 0 f1/\ok32 0 f2/\ok32 0 m0/\ok32 0 m1/\ok32 0 m3)/\okB' pay/\pay.length<=1000
def evL (p:Prg) (ps:List Fld) (n:List Xe) (args:List Int):Prop:=∀e,EI e->∃v,ok32 0 v/\evA p ps n e args v
def psV:Fld:=⟨[118,101,114,115,105,111,110],8⟩
def psP:Fld:=⟨[112,111,114,116],8⟩
def psL:Fld:=⟨[108,97,98,101,108],8⟩
section
variable (b:Bool) (k0 t0 t1 f0 f1 f2 m0 m1 m2 m3:Int) (pay:List Int) (a0 a1:Int)
theorem ev0n:evA pF [psV] [] (eF b k0 t0 t1 f0 f1 f2 m0 m1 m2 m3 pay) [a0] 0:=qam (n:=200) (by kernel_rfl)
theorem ev0p:evA pF [psV] [⟨3,0,0⟩] (eF b k0 t0 t1 f0 f1 f2 m0 m1 m2 m3 pay) [a0] (rd a0 256):=qam (n:=200) (by kernel_rfl)
theorem ev0c:evA pF [psV] [⟨1,2,8⟩] (eF b k0 t0 t1 f0 f1 f2 m0 m1 m2 m3 pay) [a0] 2:=qam (n:=200) (by kernel_rfl)
theorem ev0i:evA pF [psV] [⟨2,-1,0⟩] (eF b k0 t0 t1 f0 f1 f2 m0 m1 m2 m3 pay) [a0] (rd m0 256):=qam (n:=200) (by kernel_rfl)
theorem ev0a:evA pF [psV] [⟨9,0,0⟩,⟨2,-1,3⟩,⟨1,1,16⟩] (eF b k0 t0 t1 f0 f1 f2 m0 m1 m2 m3 pay) [a0] (rd (IntKind.wrap .u64 (rd m3 65536)+1) 65536):=qam (n:=200) (by kernel_rfl)
theorem ev2n:evA pF [psP,psL] [] (eF b k0 t0 t1 f0 f1 f2 m0 m1 m2 m3 pay) [a0,a1] 0:=qam (n:=200) (by kernel_rfl)
theorem ev2p:evA pF [psP,psL] [⟨3,0,0⟩] (eF b k0 t0 t1 f0 f1 f2 m0 m1 m2 m3 pay) [a0,a1] (rd a0 256):=qam (n:=200) (by kernel_rfl)
theorem ev2q:evA pF [psP,psL] [⟨3,1,0⟩] (eF b k0 t0 t1 f0 f1 f2 m0 m1 m2 m3 pay) [a0,a1] (rd a1 256):=qam (n:=200) (by kernel_rfl)
theorem ev3n:evA pF [psP] [] (eF b k0 t0 t1 f0 f1 f2 m0 m1 m2 m3 pay) [a0] 0:=qam (n:=200) (by kernel_rfl)
theorem ev3p:evA pF [psP] [⟨3,0,0⟩] (eF b k0 t0 t1 f0 f1 f2 m0 m1 m2 m3 pay) [a0] (rd a0 256):=qam (n:=200) (by kernel_rfl)
theorem ev3c:evA pF [psP] [⟨1,1,8⟩] (eF b k0 t0 t1 f0 f1 f2 m0 m1 m2 m3 pay) [a0] 1:=qam (n:=200) (by kernel_rfl)
theorem ev4n:evA pF [] [] (eF b k0 t0 t1 f0 f1 f2 m0 m1 m2 m3 pay) [] 0:=qam (n:=200) (by kernel_rfl)
theorem ev4c:evA pF [] [⟨1,1,1⟩] (eF b k0 t0 t1 f0 f1 f2 m0 m1 m2 m3 pay) [] 1:=qam (n:=200) (by kernel_rfl)
end
section
variable (k0 t0 t1 f0 f1 f2 m0 m1 m2 m3:Int) (pay:List Int) (b:Bool)
theorem evT:evA pF [] [⟨4,1,0⟩] (eF true k0 t0 t1 f0 f1 f2 m0 m1 m2 m3 pay) [] 1:=qam (n:=200) (by kernel_rfl)
theorem evF0:evA pF [] [⟨4,1,0⟩] (eF false k0 t0 t1 f0 f1 f2 m0 m1 m2 m3 pay) [] 0:=qam (n:=200) (by kernel_rfl)
theorem evD0:evA pF [] [⟨15,0,0⟩,⟨2,-1,2⟩,⟨1,0,1⟩] (eF b k0 t0 t1 f0 f1 f2 m0 m1 0 m3 pay) [] 1:=qam (n:=200) (by kernel_rfl)
theorem evD1:evA pF [] [⟨15,0,0⟩,⟨2,-1,2⟩,⟨1,0,1⟩] (eF b k0 t0 t1 f0 f1 f2 m0 m1 1 m3 pay) [] 0:=qam (n:=200) (by kernel_rfl)
end
theorem evQ0 {e:Envt} (h:EI e):∃t:Bool,evA pF [] [⟨4,1,0⟩] e [] (if t then 1 else 0):=by
 obtain ⟨b,k0,t0,t1,f0,f1,f2,m0,m1,m2,m3,pay,rfl,-⟩:=h.x;cases b
 ·exact ⟨false,evF0 ..⟩
 ·exact ⟨true,evT ..⟩
theorem evQ1 {e:Envt} (h:EI e):∃t:Bool,evA pF [] [⟨15,0,0⟩,⟨2,-1,2⟩,⟨1,0,1⟩] e [] (if t then 1 else 0):=by
 obtain ⟨b,k0,t0,t1,f0,f1,f2,m0,m1,m2,m3,pay,rfl,rfl | rfl,-⟩:=h.x
 ·exact ⟨true,evD0 ..⟩
 ·exact ⟨false,evD1 ..⟩
theorem ok00:ok32 0 0:=by simp [ok32]
theorem m256 (v:Int) (n:Int) (h:0<n) (hn:n<=4294967296):ok32 0 (v % n):=⟨Int.emod_nonneg _ (by omega),by have:=Int.emod_lt_of_pos v h;omega⟩
theorem EI.set {p:Prg} {e:Envt} (i:EI e) (hw:∀f:Int,0<=f->f<=3->wid p (-1) f=if f=2 then 1 else if f=3 then 16 else 8) (hw0:wid p 0 0=8) (hw1:∀f:Int,0<=f->f<=1->wid p 1 f=8) (h f:Int) (hr:(h= -1/\(f=0\/f=1\/f=2\/f=3))\/(h=0/\f=0)\/(h=1/\(f=0\/f=1))) (v:Int) (hv:ok32 0 v):
  ∃e',EI e'/\qac Φ f_135 [.agg (Prg.c p),.agg e.c,.agg [.int .i64 h,.int .i64 f],.int .u32 v]=some (.val (.agg e'.c)):=by
 obtain ⟨b,k0,t0,t1,f0,f1,f2,m0,m1,m2,m3,pay,rfl,hm,⟨o1,o2,o3,o4,o5,o6,o7,o8,o9⟩,hb,hpl⟩:=i.x;have c8:=m256 v 256 (by decide) (by decide);have c16:=m256 v 65536 (by decide) (by decide);have key:=fun w hw h1 h2=>fSet p b k0 t0 t1 f0 f1 f2 m0 m1 m2 m3 pay h f w hw h1 h2 v hv (by omega) hr
 rcases hr with ⟨rfl,rfl | rfl | rfl | rfl⟩ | ⟨rfl,rfl⟩ | ⟨rfl,rfl | rfl⟩
 ·exact ⟨_,⟨b,k0,t0,t1,f0,f1,f2,v % 256,m1,m2,m3,pay,rfl,hm,⟨o1,o2,o3,o4,o5,o6,c8,o8,o9⟩,hb,hpl⟩,key 8 (hw 0 (by decide) (by decide)) (by decide) (by decide)⟩
 ·exact ⟨_,⟨b,k0,t0,t1,f0,f1,f2,m0,v % 256,m2,m3,pay,rfl,hm,⟨o1,o2,o3,o4,o5,o6,o7,c8,o9⟩,hb,hpl⟩,key 8 (hw 1 (by decide) (by decide)) (by decide) (by decide)⟩
 ·exact ⟨_,⟨b,k0,t0,t1,f0,f1,f2,m0,m1,v % 2,m3,pay,rfl,by omega,⟨o1,o2,o3,o4,o5,o6,o7,o8,o9⟩,hb,hpl⟩,key 1 (hw 2 (by decide) (by decide)) (by decide) (by decide)⟩
 ·exact ⟨_,⟨b,k0,t0,t1,f0,f1,f2,m0,m1,m2,v % 65536,pay,rfl,hm,⟨o1,o2,o3,o4,o5,o6,o7,o8,c16⟩,hb,hpl⟩,key 16 (hw 3 (by decide) (by decide)) (by decide) (by decide)⟩
 ·exact ⟨_,⟨b,v % 256,t0,t1,f0,f1,f2,m0,m1,m2,m3,pay,rfl,hm,⟨c8,o2,o3,o4,o5,o6,o7,o8,o9⟩,hb,hpl⟩,key 8 hw0 (by decide) (by decide)⟩
 ·cases b
  ·exact ⟨_,⟨false,k0,t0,t1,f0,f1,f2,m0,m1,m2,m3,pay,rfl,hm,⟨o1,o2,o3,o4,o5,o6,o7,o8,o9⟩,hb,hpl⟩,key 8 (hw1 0 (by decide) (by decide)) (by decide) (by decide)⟩
  ·exact ⟨_,⟨true,k0,v % 256,t1,f0,f1,f2,m0,m1,m2,m3,pay,rfl,hm,⟨o1,c8,o3,o4,o5,o6,o7,o8,o9⟩,hb,hpl⟩,key 8 (hw1 0 (by decide) (by decide)) (by decide) (by decide)⟩
 ·cases b
  ·exact ⟨_,⟨false,k0,t0,t1,f0,f1,f2,m0,m1,m2,m3,pay,rfl,hm,⟨o1,o2,o3,o4,o5,o6,o7,o8,o9⟩,hb,hpl⟩,key 8 (hw1 1 (by decide) (by decide)) (by decide) (by decide)⟩
  ·exact ⟨_,⟨true,k0,t0,v % 256,f0,f1,f2,m0,m1,m2,m3,pay,rfl,hm,⟨o1,o2,c8,o4,o5,o6,o7,o8,o9⟩,hb,hpl⟩,key 8 (hw1 1 (by decide) (by decide)) (by decide) (by decide)⟩
theorem EI.add {p:Prg} {e:Envt} (i:EI e) (hh:1<p.Xp.length):∃e',EI e'/\qac Φ f_267 [.agg (Prg.c p),.agg e.c,.int .i64 1]=some (.val (.agg e'.c)):=by
 obtain ⟨b,k0,t0,t1,f0,f1,f2,m0,m1,m2,m3,pay,rfl,hm,⟨o1,o2,o3,o4,o5,o6,o7,o8,o9⟩,hb,hpl⟩:=i.x;have key:=fAdd p b k0 t0 t1 f0 f1 f2 m0 m1 m2 m3 pay (by omega) hh;cases b
 ·exact ⟨_,⟨true,k0,0,0,f0,f1,f2,m0,m1,m2,m3,pay,rfl,hm,⟨o1,ok00,ok00,o4,o5,o6,o7,o8,o9⟩,hb,hpl⟩,key⟩
 ·exact ⟨_,i,key⟩
theorem EI.rem {p:Prg} {e:Envt} (i:EI e) (hh:1<p.Xp.length):∃e',EI e'/\qac Φ f_268 [.agg (Prg.c p),.agg e.c,.int .i64 1]=some (.val (.agg e'.c)):=by
 obtain ⟨b,k0,t0,t1,f0,f1,f2,m0,m1,m2,m3,pay,rfl,hm,⟨o1,o2,o3,o4,o5,o6,o7,o8,o9⟩,hb,hpl⟩:=i.x;exact ⟨_,⟨false,k0,0,0,f0,f1,f2,m0,m1,m2,m3,pay,rfl,hm,⟨o1,ok00,ok00,o4,o5,o6,o7,o8,o9⟩,hb,hpl⟩,fRem p b k0 t0 t1 f0 f1 f2 m0 m1 m2 m3 pay (by omega) hh⟩
def RI (l:List Int):Prop:=l.length=16/\∀v∈l,0<=v/\v<=65535
theorem RI.get {l:List Int} (h:RI l) (k:Nat):ok32 0 (l.getD k 0):=by
 rw [QBt];cases q:l[k]? with
 | none=>simp [ok32]
 | some v=>have:=h.2 v (Qe q);simp [ok32];omega
theorem RI.set {l:List Int} (h:RI l) (k:Nat) (v:Int):RI (l.set k (v % 65536)):=
 ⟨by simp [h.1],fun x hx=>by
  rcases Qq hx with hx | rfl
  ·exact h.2 x hx
  ·omega⟩
structure FX (p:Prg):Prop where
 hw:∀f:Int,0<=f->f<=3->wid p (-1) f=if f=2 then 1 else if f=3 then 16 else 8
 hw0:wid p 0 0=8
 hw1:∀f:Int,0<=f->f<=1->wid p 1 f=8
 hh:1<p.Xp.length
 rg:∃nm,p.Xm=[⟨nm,16,16⟩]
structure StX (p:Prg) (ps:List Fld) (args:List Int) (s:Xg):Prop where
 i:evL p ps s.index args
 v:evL p ps s.value args
 k:((s.kind=1\/s.kind=4/\s.register=0)/\((s.dst.header= -1/\(s.dst.field=0\/s.dst.field=1\/s.dst.field=2\/s.dst.field=3))\/(s.dst.header=0/\s.dst.field=0)\/(s.dst.header=1/\(s.dst.field=0\/s.dst.field=1))))\/((s.kind=2\/s.kind=3)/\s.header=1)\/(s.kind=5/\s.register=0)
def XQ (r:Option Rt):Prop:=∃e' l',EI e'/\RI l'/\r=some (.val (.tup [.agg (Envt.c e'),.slice 1 [[.slice 1 (l'.map c32)]]]))
theorem qis {p:Prg} (F:FX p) (a:Nat) (A:Action) (hA:p.actions[a]? =some A) (args:List Int) (hck:qac Φ f_210 [.agg (Prg.c p),.int .i64 a]=some (.val (.tup [.int .i64 0,.int .i64 0])))
  (hcc:qac Φ f_149 [.agg (Prg.c p),.agg (Xb.c ⟨a,args⟩)]=some (.val (.int .i64 0))) (hs:∀s∈A.body,StX p A.params args s) (hbl:A.body.length<2^40) (e:Envt) (ie:EI e) (l:List Int) (il:RI l):
  XQ (qac Φ f_205 [.agg (Prg.c p),.agg (Xb.c ⟨a,args⟩),.agg e.c,.slice 1 [[.slice 1 (l.map c32)]]]):=by
 rw [qad (fn:=c_205) rfl rfl];obtain ⟨ha,hA'⟩:=Qm.1 hA;obtain ⟨nm,hr⟩:=F.rg;have hsc:qac Φ f_266 [.agg (Prg.c p),.int .i64 a]=some (.val (.agg (Prg.c p++[.slice 2 (A.params.map Fld.c)]))):=by
  rw [qad (fn:=c_266) rfl rfl];simp [c_266,Prg.e,ha,hA',Action.e]
 simp only [Prg.e,Xb.ce] at hck hcc hsc;simp [c_205,Prg.e,Xb.ce,Envt.ce,hck,hcc,hsc,ha,hA',Action.e];refine qbk A.body.length (fun i ev h=>∃e l n,EI e/\RI l/\2<=n/\h=⟨[(0,.row 4 [Envt.c e]),(1,.row 4 [[.Xu 1 [],.Xu 1 [],.Xu 1 [],.Xu 1 []]])],n⟩/\look 3 ev=some (.slice 1 [[.slice 1 (l.map c32)]])/\look 4 ev=some (.iptr 9 [Prg.c p] 0 0)/\look 5 ev=some (.iptr 2 [Xb.c ⟨a,args⟩] 0 0)/\look 6 ev=some (.ptr 0 4 0 0)/\look 8 ev=some (.ptr 1 4 0 0)/\look 12 ev=some (.iptr 10 [Prg.c p++[.slice 2 (A.params.map Fld.c)]] 0 0)/\look 13 ev=some (.slice 7 (A.body.map Xg.c))/\look 14 ev=some (.int .i64 i)) XQ ?_ ?_ 0 _ _ (Qc _) ?_
 ·rintro i ev _ L hi hL ⟨e,l,n,ie,il,hn,rfl,h3,h4,h5,h6,h8,h12,h13,h14⟩ ih;have hw:=qao i (by omega);obtain ⟨xi,xv,xk⟩:=hs _ (Qd hi);obtain ⟨s,hse⟩:∃s,A.body[i]=s:=⟨_,rfl⟩;rw [hse] at xi xv xk;obtain ⟨vi,oi,ei⟩:=xi e ie;obtain ⟨vv,ov,ev'⟩:=xv e ie;have n0:¬n=0:=by omega
  have n1:¬n=1:=by omega
  have n0':¬0=n:=by omega
  have n1':¬1=n:=by omega
  unfold evA sc at ei ev';rw [Envt.ce] at ei ev';simp only [Prg.e,QAp,QBg] at ei ev' h4 h12;rw [Xb.ce] at h5;rcases xk with ⟨hk | ⟨hk,hrg⟩,hd⟩ | ⟨hk | hk,hh⟩ | ⟨hk,hrg⟩
  ·obtain ⟨e',ie',he'⟩:=ie.set (p:=p) F.hw F.hw0 F.hw1 _ _ hd vv ov;rw [Envt.ce,Envt.ce] at he';simp only [Prg.e] at he';simp [c_205_l0,Xg.e,Envt.ce,h3,h4,h5,h6,h8,h12,h13,h14,hi,hse,hL,ei,ev',hk,he',hw,n0,n1,n0',n1',qaa];refine ih _ _ ⟨e',l,_,ie',il,?_,by rw [Envt.ce],?_,?_,?_,?_,?_,?_,?_,?_⟩;exact QCg hn
   all_goals simp [*,Prg.e,Xb.ce]
  ·have hrd:=qadl p nm hr l il.1 vi oi;simp only [Prg.e] at hrd;obtain ⟨e',ie',he'⟩:=ie.set (p:=p) F.hw F.hw0 F.hw1 _ _ hd (l.getD vi.toNat 0) (il.get _);rw [Envt.ce,Envt.ce] at he';simp only [Prg.e] at he';rw [QBt] at hrd he';simp [c_205_l0,Xg.e,Envt.ce,h3,h4,h5,h6,h8,h12,h13,h14,hi,hse,hL,ei,ev',hk,he',hrd,hrg,hw,n0,n1,n0',n1',qaa];refine ih _ _ ⟨e',l,_,ie',il,?_,by rw [Envt.ce],?_,?_,?_,?_,?_,?_,?_,?_⟩;exact QCg hn
   all_goals simp [*,Prg.e,Xb.ce]
  ·obtain ⟨e',ie',he'⟩:=ie.add (p:=p) F.hh;rw [Envt.ce,Envt.ce] at he';simp only [Prg.e] at he';simp [c_205_l0,Xg.e,Envt.ce,h3,h4,h5,h6,h8,h12,h13,h14,hi,hse,hL,ei,ev',hk,he',hh,hw,n0,n1,n0',n1',qaa];refine ih _ _ ⟨e',l,_,ie',il,?_,by rw [Envt.ce],?_,?_,?_,?_,?_,?_,?_,?_⟩;exact QCg hn
   all_goals simp [*,Prg.e,Xb.ce]
  ·obtain ⟨e',ie',he'⟩:=ie.rem (p:=p) F.hh;rw [Envt.ce,Envt.ce] at he';simp only [Prg.e] at he';simp [c_205_l0,Xg.e,Envt.ce,h3,h4,h5,h6,h8,h12,h13,h14,hi,hse,hL,ei,ev',hk,he',hh,hw,n0,n1,n0',n1',qaa];refine ih _ _ ⟨e',l,_,ie',il,?_,by rw [Envt.ce],?_,?_,?_,?_,?_,?_,?_,?_⟩;exact QCg hn
   all_goals simp [*,Prg.e,Xb.ce]
  ·have hwr:=qaa5 p nm hr l il.1 vi oi vv ov;simp only [Prg.e] at hwr;simp [c_205_l0,Xg.e,Envt.ce,h3,h4,h5,h6,h8,h12,h13,h14,hi,hse,hL,ei,ev',hk,hwr,hrg,hw,n0,n1,n0',n1',qaa];refine ih _ _ ⟨e,l.set vi.toNat (vv % 65536),_,ie,il.set _ _,?_,by rw [Envt.ce],?_,?_,?_,?_,?_,?_,?_,?_⟩;exact QCg hn
   all_goals simp [*,Prg.e,Xb.ce]
 ·rintro ev _ L hL ⟨e,l,n,ie,il,hn,rfl,h3,h4,h5,h6,h8,h12,h13,h14⟩;simp [c_205_l0,c_205_k1,Envt.ce,h3,h6,h8,h13,h14,hL,qaa];exact ⟨e,l,ie,il,by simp [Envt.ce,cS]⟩
 ·exact ⟨e,l,3,ie,il,by omega,by rw [Envt.ce],by simp [cS],by simp [Prg.e],by simp [Xb.ce],by simp,by simp,by simp [Prg.e],by simp,by simp⟩
theorem fxF:FX pF where
 hw:=fun f h1 h2=>by
  have:f=0\/f=1\/f=2\/f=3:=by omega
  rcases this with rfl | rfl | rfl | rfl<;>decide
 hw0:=by decide
 hw1:=fun f h1 h2=>by
  have:f=0\/f=1:=by omega
  rcases this with rfl | rfl<;>decide
 hh:=by decide
 rg:=⟨_,rfl⟩
theorem okn {n:Nat} (h:n<=255):ok32 0 (n:Int):=⟨by omega,by omega⟩
theorem L0n (a0:Int):evL pF [psV] [] [a0]:=fun e ie=>by
 obtain ⟨b,k0,t0,t1,f0,f1,f2,m0,m1,m2,m3,pay,rfl,-⟩:=ie.x;exact ⟨((0:Nat):Int),okn (by decide),ev0n ..⟩
theorem L0p (a0:Int):evL pF [psV] [⟨3,0,0⟩] [a0]:=fun e ie=>by
 obtain ⟨b,k0,t0,t1,f0,f1,f2,m0,m1,m2,m3,pay,rfl,-⟩:=ie.x;exact ⟨_,qlm _ _,ev0p ..⟩
theorem L0c (a0:Int):evL pF [psV] [⟨1,2,8⟩] [a0]:=fun e ie=>by
 obtain ⟨b,k0,t0,t1,f0,f1,f2,m0,m1,m2,m3,pay,rfl,-⟩:=ie.x;exact ⟨((2:Nat):Int),okn (by decide),ev0c ..⟩
theorem L0i (a0:Int):evL pF [psV] [⟨2,-1,0⟩] [a0]:=fun e ie=>by
 obtain ⟨b,k0,t0,t1,f0,f1,f2,m0,m1,m2,m3,pay,rfl,-⟩:=ie.x;exact ⟨_,qlm _ _,ev0i ..⟩
theorem L0a (a0:Int):evL pF [psV] [⟨9,0,0⟩,⟨2,-1,3⟩,⟨1,1,16⟩] [a0]:=fun e ie=>by
 obtain ⟨b,k0,t0,t1,f0,f1,f2,m0,m1,m2,m3,pay,rfl,-⟩:=ie.x;exact ⟨_,qlm _ _,ev0a ..⟩
theorem L2n (a0 a1:Int):evL pF [psP,psL] [] [a0,a1]:=fun e ie=>by
 obtain ⟨b,k0,t0,t1,f0,f1,f2,m0,m1,m2,m3,pay,rfl,-⟩:=ie.x;exact ⟨((0:Nat):Int),okn (by decide),ev2n ..⟩
theorem L2p (a0 a1:Int):evL pF [psP,psL] [⟨3,0,0⟩] [a0,a1]:=fun e ie=>by
 obtain ⟨b,k0,t0,t1,f0,f1,f2,m0,m1,m2,m3,pay,rfl,-⟩:=ie.x;exact ⟨_,qlm _ _,ev2p ..⟩
theorem L2q (a0 a1:Int):evL pF [psP,psL] [⟨3,1,0⟩] [a0,a1]:=fun e ie=>by
 obtain ⟨b,k0,t0,t1,f0,f1,f2,m0,m1,m2,m3,pay,rfl,-⟩:=ie.x;exact ⟨_,qlm _ _,ev2q ..⟩
theorem L3n (a0:Int):evL pF [psP] [] [a0]:=fun e ie=>by
 obtain ⟨b,k0,t0,t1,f0,f1,f2,m0,m1,m2,m3,pay,rfl,-⟩:=ie.x;exact ⟨((0:Nat):Int),okn (by decide),ev3n ..⟩
theorem L3p (a0:Int):evL pF [psP] [⟨3,0,0⟩] [a0]:=fun e ie=>by
 obtain ⟨b,k0,t0,t1,f0,f1,f2,m0,m1,m2,m3,pay,rfl,-⟩:=ie.x;exact ⟨_,qlm _ _,ev3p ..⟩
theorem L3c (a0:Int):evL pF [psP] [⟨1,1,8⟩] [a0]:=fun e ie=>by
 obtain ⟨b,k0,t0,t1,f0,f1,f2,m0,m1,m2,m3,pay,rfl,-⟩:=ie.x;exact ⟨((1:Nat):Int),okn (by decide),ev3c ..⟩
theorem L4n:evL pF [] [] []:=fun e ie=>by
 obtain ⟨b,k0,t0,t1,f0,f1,f2,m0,m1,m2,m3,pay,rfl,-⟩:=ie.x;exact ⟨((0:Nat):Int),okn (by decide),ev4n ..⟩
theorem L4c:evL pF [] [⟨1,1,1⟩] []:=fun e ie=>by
 obtain ⟨b,k0,t0,t1,f0,f1,f2,m0,m1,m2,m3,pay,rfl,-⟩:=ie.x;exact ⟨((1:Nat):Int),okn (by decide),ev4c ..⟩
theorem ck0:qac Φ f_210 [.agg (Prg.c pF),.int .i64 ((0:Nat):Int)]=some (.val (.tup [.int .i64 0,.int .i64 0])):=qam (n:=200) (by kernel_rfl)
theorem ck1:qac Φ f_210 [.agg (Prg.c pF),.int .i64 ((1:Nat):Int)]=some (.val (.tup [.int .i64 0,.int .i64 0])):=qam (n:=200) (by kernel_rfl)
theorem ck2:qac Φ f_210 [.agg (Prg.c pF),.int .i64 ((2:Nat):Int)]=some (.val (.tup [.int .i64 0,.int .i64 0])):=qam (n:=200) (by kernel_rfl)
theorem ck3:qac Φ f_210 [.agg (Prg.c pF),.int .i64 ((3:Nat):Int)]=some (.val (.tup [.int .i64 0,.int .i64 0])):=qam (n:=200) (by kernel_rfl)
theorem ck4:qac Φ f_210 [.agg (Prg.c pF),.int .i64 ((4:Nat):Int)]=some (.val (.tup [.int .i64 0,.int .i64 0])):=qam (n:=200) (by kernel_rfl)
def acF (k:Nat):Action:=pF.actions.getD k default
theorem st0' (a0:Int):∀s∈(acF 0).body,StX pF (acF 0).params [a0] s:=by
 show ∀s∈[(⟨2,⟨0,0⟩,0,1,[],[]⟩:Xg),⟨1,⟨1,0⟩,0,0,[],[⟨3,0,0⟩]⟩,⟨1,⟨0,0⟩,0,0,[],[⟨1,2,8⟩]⟩,⟨4,⟨-1,3⟩,0,0,[⟨2,-1,0⟩],[]⟩,⟨5,⟨0,0⟩,0,0,[⟨2,-1,0⟩],[⟨9,0,0⟩,⟨2,-1,3⟩,⟨1,1,16⟩]⟩],StX pF [psV] [a0] s;simp only [QCm];exact ⟨⟨L0n a0,L0n a0,.inr (.inl ⟨.inl rfl,rfl⟩)⟩,⟨L0n a0,L0p a0,.inl ⟨.inl rfl,.inr (.inr ⟨rfl,.inl rfl⟩)⟩⟩,⟨L0n a0,L0c a0,.inl ⟨.inl rfl,.inr (.inl ⟨rfl,rfl⟩)⟩⟩,⟨L0i a0,L0n a0,.inl ⟨.inr ⟨rfl,rfl⟩,.inl ⟨rfl,.inr (.inr (.inr rfl))⟩⟩⟩,⟨L0i a0,L0a a0,.inr (.inr ⟨rfl,rfl⟩)⟩,by simp⟩
theorem st1':∀s∈(acF 1).body,StX pF (acF 1).params [] s:=by
 show ∀s∈([]:List Xg),StX pF [] [] s;simp
theorem st2' (a0 a1:Int):∀s∈(acF 2).body,StX pF (acF 2).params [a0,a1] s:=by
 show ∀s∈[(⟨1,⟨-1,1⟩,0,0,[],[⟨3,0,0⟩]⟩:Xg),⟨1,⟨1,1⟩,0,0,[],[⟨3,1,0⟩]⟩],StX pF [psP,psL] [a0,a1] s;simp only [QCm];exact ⟨⟨L2n a0 a1,L2p a0 a1,.inl ⟨.inl rfl,.inl ⟨rfl,.inr (.inl rfl)⟩⟩⟩,⟨L2n a0 a1,L2q a0 a1,.inl ⟨.inl rfl,.inr (.inr ⟨rfl,.inr rfl⟩)⟩⟩,by simp⟩
theorem st3' (a0:Int):∀s∈(acF 3).body,StX pF (acF 3).params [a0] s:=by
 show ∀s∈[(⟨1,⟨-1,1⟩,0,0,[],[⟨3,0,0⟩]⟩:Xg),⟨3,⟨0,0⟩,0,1,[],[]⟩,⟨1,⟨0,0⟩,0,0,[],[⟨1,1,8⟩]⟩],StX pF [psP] [a0] s;simp only [QCm];exact ⟨⟨L3n a0,L3p a0,.inl ⟨.inl rfl,.inl ⟨rfl,.inr (.inl rfl)⟩⟩⟩,⟨L3n a0,L3n a0,.inr (.inl ⟨.inr rfl,rfl⟩)⟩,⟨L3n a0,L3c a0,.inl ⟨.inl rfl,.inr (.inl ⟨rfl,rfl⟩)⟩⟩,by simp⟩
theorem st4':∀s∈(acF 4).body,StX pF (acF 4).params [] s:=by
 show ∀s∈[(⟨1,⟨-1,2⟩,0,0,[],[⟨1,1,1⟩]⟩:Xg)],StX pF [] [] s;simp only [QCm];exact ⟨⟨L4n,L4c,.inl ⟨.inl rfl,.inl ⟨rfl,.inr (.inr (.inl rfl))⟩⟩⟩,by simp⟩
theorem qabl {c:Xb} (h:qcf pF c=0):∃a:Nat,c.action=a/\((a=0\/a=3)/\(∃a0,c.args=[a0])\/(a=1\/a=4)/\c.args=[]\/a=2/\∃a0 a1,c.args=[a0,a1]):=by
 unfold qcf at h;split at h
 ·cases h
 rename_i A hA;obtain ⟨k,hk,hkl,rfl⟩:=qk2 hA;refine ⟨k,hk,?_⟩;split at h
 ·cases h
 rename_i hlen;have hkl':k<5:=hkl;simp only [ne_eq,Decidable.not_not] at hlen;have l1:∀{l:List Int},l.length=1->∃a0,l=[a0]:=fun {l} h=>List.length_eq_one_iff.1 h
 match k,hkl' with
 | 0,_=>exact .inl ⟨.inl rfl,l1 hlen⟩
 | 1,_=>exact .inr (.inl ⟨.inl rfl,QCf.1 hlen⟩)
 | 2,_=>
  refine .inr (.inr ⟨rfl,?_⟩)
  match h2:c.args,hlen with
  | [a0,a1],_=>exact ⟨a0,a1,rfl⟩
 | 3,_=>exact .inl ⟨.inr rfl,l1 hlen⟩
 | 4,_=>exact .inr (.inl ⟨.inr rfl,QCf.1 hlen⟩)
theorem qaca {c:Xb} (h:qcf pF c=0) (ha:∀v∈c.args,ok32 0 v) {e:Envt} (ie:EI e) {l:List Int} (il:RI l):
  XQ (qac Φ f_205 [.agg (Prg.c pF),.agg (Xb.c c),.agg e.c,.slice 1 [[.slice 1 (l.map c32)]]]):=by
 obtain ⟨a,e1,h1⟩:=qabl h;have hal:c.args.length<2^40:=by rcases h1 with ⟨_,a0,e2⟩ | ⟨_,e2⟩ | ⟨_,a0,a1,e2⟩<;>rw [e2]<;>simp
 have hc:=qh4 pF (qfy qni) c hal ha;rw [h] at hc;obtain ⟨act,args⟩:=c;simp only at e1 h1;subst e1;rcases h1 with ⟨rfl | rfl,a0,rfl⟩ | ⟨rfl | rfl,rfl⟩ | ⟨rfl,a0,a1,rfl⟩
 ·exact qis fxF 0 (acF 0) rfl _ ck0 hc (st0' a0) (by decide) e ie l il
 ·exact qis fxF 3 (acF 3) rfl _ ck3 hc (st3' a0) (by decide) e ie l il
 ·exact qis fxF 1 (acF 1) rfl _ ck1 hc st1' (by decide) e ie l il
 ·exact qis fxF 4 (acF 4) rfl _ ck4 hc st4' (by decide) e ie l il
 ·exact qis fxF 2 (acF 2) rfl _ ck2 hc (st2' a0 a1) (by decide) e ie l il
def ax (x:Int):Int:=IntKind.wrap .u32 ((BitVec.ofInt 32 x&&& BitVec.ofInt 32 255).toNat)
section
variable (b:Bool) (k0 t0 t1 f0 f1 f2 m0 m1 m2 m3:Int) (pay:List Int)
theorem key0:qac Φ f_265 [.agg (Prg.c pF),.int .i64 ((0:Nat):Int),.agg (eF b k0 t0 t1 f0 f1 f2 m0 m1 m2 m3 pay).c]=some (.val (.slice 1 ([ax m0].map c32))):=qam (n:=200) (by kernel_rfl)
theorem key1:qac Φ f_265 [.agg (Prg.c pF),.int .i64 ((1:Nat):Int),.agg (eF b k0 t0 t1 f0 f1 f2 m0 m1 m2 m3 pay).c]=some (.val (.slice 1 ([ax m0].map c32))):=qam (n:=200) (by kernel_rfl)
theorem key2t:qac Φ f_265 [.agg (Prg.c pF),.int .i64 ((2:Nat):Int),.agg (eF true k0 t0 t1 f0 f1 f2 m0 m1 m2 m3 pay).c]=some (.val (.slice 1 ([ax m0,ax t0,ax t1,ax f0,ax f1,ax f2].map c32))):=qam (n:=200) (by kernel_rfl)
theorem key2f:qac Φ f_265 [.agg (Prg.c pF),.int .i64 ((2:Nat):Int),.agg (eF false k0 t0 t1 f0 f1 f2 m0 m1 m2 m3 pay).c]=some (.val (.slice 1 ([ax m0,0,0,ax f0,ax f1,ax f2].map c32))):=qam (n:=200) (by kernel_rfl)
end
theorem keyF {e:Envt} (ie:EI e) {t:Nat} (ht:t<3):∃key:List Int,qac Φ f_265 [.agg (Prg.c pF),.int .i64 t,.agg e.c]=some (.val (.slice 1 (key.map c32))):=by
 obtain ⟨b,k0,t0,t1,f0,f1,f2,m0,m1,m2,m3,pay,rfl,-⟩:=ie.x
 match t,ht with
 | 0,_=>exact ⟨_,key0 ..⟩
 | 1,_=>exact ⟨_,key1 ..⟩
 | 2,_=>
  cases b
  ·exact ⟨_,key2f ..⟩
  ·exact ⟨_,key2t ..⟩
theorem qrz {p:Prg} {t:Int} {c:Xb} (h:qbb p t c=0):qcf p c=0:=by
 unfold qbb at h;split at h
 ·cases h
 ·exact h
theorem qud {p:Prg} {t:Int} {tb:Tbl} {x:Entry} (ht:at? p.Xn t=some tb) (h:entE p t x=0):qcf p x.call=0:=by
 unfold entE at h;split at h
 ·exact absurd h (by assumption)
 rw [ht] at h;simp only at h;split at h
 ·cases h
 cases hf:fe (entG p tb x) tb.keys.length 0 with
 | some e=>
  rw [hf] at h;simp only [QAn] at h;subst h;obtain ⟨i,_,hi⟩:=qf3 hf;unfold entG at hi;split at hi
  ·split at hi
   ·cases hi
   ·rename_i hne;exact absurd (Option.some.inj hi) hne
  ·cases hi
 | none=>
  rw [hf] at h;simp only [QCk] at h;unfold entF at h
  repeat (split at h;cases h)
  exact h
def GI (c:Xf):Prop:=CfgV pF c/\CfgT c
def SelQ (r:Option Rt):Prop:=∃(x:Rw) (call:Xb),qcf pF call=0/\(∀v∈call.args,ok32 0 v)/\r=some (.val (.tup [.agg (Rw.c x),.agg (Xb.c call)]))
theorem sel_p {p:Prg} (f:PrgS p) {c:Xf} {t:Nat} {key:List Int} {e:Envt} (ht:t<p.Xn.length) (htr:t<c.rows.length) (htd:t<c.Xq.length) (hk:qac Φ f_265 [.agg (Prg.c p),.int .i64 t,.agg e.c]=some (.val (.slice 1 (key.map c32)))) (hs:c.rows[t].length<2^40) (hx:∀x∈c.rows[t],EntS x.entry):
  qac Φ f_204 [.agg (Prg.c p),.agg (Xf.c c),.int .i64 t,.agg e.c]=some (.val (match oB p t key c.rows[t] with
   | some x=> .tup [.agg (Rw.c x),.agg (Xb.c x.entry.call)]
   | none=> .tup [.agg (Rw.c ⟨0,noE⟩),.agg (Xb.c c.Xq[t])])):=by
 rw [qad (fn:=c_204) rfl rfl];have hb:=qz0 p f t ht key c.rows[t] hs hx;rw [Envt.ce] at hk;simp only [Prg.e] at hk hb;cases ho:oB p t key c.rows[t] with
 | some x=>
  rw [ho] at hb;simp only [rowV,Rw.ce] at hb;simp [c_204,Prg.e,Xf.e4,Envt.ce,hk,hb,htr,Rw.ce,Xb.ce,cS]
 | none=>
  rw [ho] at hb;simp only [rowV,Rw.ce] at hb;simp [c_204,Prg.e,Xf.e4,Envt.ce,hk,hb,htr,htd,Rw.ce,Xb.ce,cS,noE]
theorem qag4 {c:Xf} (g:GI c) {t:Nat} (ht:t<3) {e:Envt} (ie:EI e):SelQ (qac Φ f_204 [.agg (Prg.c pF),.agg (Xf.c c),.int .i64 t,.agg e.c]):=by
 obtain ⟨key,hk⟩:=keyF ie ht;obtain ⟨v,s⟩:=g;have ht':t<pF.Xn.length:=ht;have h1:t<c.rows.length:=by rw [v.rl];exact ht
 have h2:t<c.Xq.length:=by rw [v.dl];exact ht
 have h3:t<c.Xr.length:=by rw [v.nl];exact ht
 have hrs:=s.rs _ (Qd h1);have tv:=v.tab t _ _ _ _ (Qa ht') (Qa h1) (Qa h3) (Qa h2);have hS:=sel_p (qfy qni) (e:=e) ht' h1 h2 hk hrs.1 (fun x hx=>hrs.2 x hx);cases ho:oB pF t key c.rows[t] with
 | some x=>
  rw [ho] at hS;have hm:=qxb pF t key _ x ho;refine ⟨x,x.entry.call,qud (t:=t) (tb:=pF.Xn[t]) (by simp [ht']) (tv.ent x hm),(hrs.2 x hm).ar,hS⟩
 | none=>
  rw [ho] at hS;exact ⟨⟨0,noE⟩,c.Xq[t],qrz tv.dflt,(s.ds _ (Qd h2)).2,hS⟩
def sC (e:Envt) (l:List Int) (hs:List Hit):List AV:=Envt.c e++[.slice 1 [[.slice 1 (l.map c32)]],.slice 3 (hs.map Hit.c)]
theorem sC_e (e:Envt) (l:List Int) (hs:List Hit):sC e l hs=[.slice 1 (e.valid.map cB),.slice 1 (e.fields.map (cS 1 c32)),.slice 1 (e.metaF.map c32),.slice 1 (e.payload.map c8),.slice 1 [[.slice 1 (l.map c32)]],.slice 3 (hs.map Hit.c)]:=rfl
theorem Hit.ce (x:Hit):x.c=[.int .i64 x.table,.int .i64 x.row,.int .i64 x.action]:=rfl
def ApQ (k:Nat) (r:Option Rt):Prop:=∃e' l' hs' tk,EI e'/\RI l'/\hs'.length<=k/\r=some (.val (.tup [.agg (sC e' l' hs'),.bool tk]))
theorem qabj {p:Prg} {c:Xf} {t:Nat} {e:Envt} {l:List Int} {hs:List Hit} {k:Nat} (hk:hs.length<=k) (hk1:k<=1000) (h1:SelQ (qac Φ f_204 [.agg (Prg.c p),.agg (Xf.c c),.int .i64 t,.agg e.c]))
  (h2:∀call,qcf pF call=0->(∀v∈call.args,ok32 0 v)->XQ (qac Φ f_205 [.agg (Prg.c p),.agg (Xb.c call),.agg e.c,.slice 1 [[.slice 1 (l.map c32)]]])):
  ApQ (k+1) (qac Φ f_138 [.agg (Prg.c p),.agg (Xf.c c),.int .i64 t,.agg (sC e l hs)]):=by
 rw [qad (fn:=c_138) rfl rfl];obtain ⟨x,call,g1,g2,h1⟩:=h1;obtain ⟨e',l',ie',il',h2⟩:=h2 call g1 g2;rw [Envt.ce] at h1 h2;rw [Envt.ce] at h2;simp only [Prg.e,Xf.e4,Rw.ce,Xb.ce] at h1 h2;have b1:hs.length*24<=70368744177664:=by omega
 have b2:(hs.length+1)*24<=70368744177664:=by omega
 have al3:=qa4 3 Hit.c hs fun x=>by simp
 simp [c_138,Prg.e,Xf.e4,sC_e,h1,h2,b1,b2,al3];refine ⟨e',l',hs++[⟨t,x.id,call.action⟩],decide (0<x.id),ie',il',by simp;exact hk,?_⟩;simp [sC_e,Hit.ce]
theorem qyj {c:Xf} (g:GI c) {t:Nat} (ht:t<3) {e:Envt} (ie:EI e) {l:List Int} (il:RI l) {hs:List Hit} {k:Nat} (hk:hs.length<=k) (hk1:k<=1000):
  ApQ (k+1) (qac Φ f_138 [.agg (Prg.c pF),.agg (Xf.c c),.int .i64 t,.agg (sC e l hs)]):=
 qabj hk hk1 (qag4 g ht ie) fun call h1 h2=>qaca h1 h2 ie il
def ExQ (k:Nat) (r:Option Rt):Prop:=∃e' l' hs',EI e'/\RI l'/\hs'.length<=k/\r=some (.val (.agg (sC e' l' hs')))
def SubX (p:Prg) (c:Xf) (d M:Nat) (b:List Xa):Prop:=∀e l hs k,EI e->RI l->hs.length<=k->k<=M->ExQ (k+d) (qac Φ f_85 [.agg (Prg.c p),.agg (Xf.c c),.slice 5 (b.map Xa.c),.agg (sC e l hs)])
def NodeX (p:Prg) (c:Xf) (M:Nat) (x:Xa):Prop:=
 (x.kind=2/\(∀e,EI e->∃t:Bool,evA p [] x.cond e [] (if t then 1 else 0))/\SubX p c 1 M x.thn/\SubX p c 1 M x.els)\/
 (x.kind≠2/\(∀e l hs k,EI e->RI l->hs.length<=k->k<=1000->ApQ (k+1) (qac Φ f_138 [.agg (Prg.c p),.agg (Xf.c c),.int .i64 x.table,.agg (sC e l hs)]))/\SubX p c 0 M x.thn/\SubX p c 0 M x.els)
theorem qkb {p:Prg} {c:Xf} (M:Nat) (hM:M<=900) (b:List Xa) (hb:∀x∈b,NodeX p c (M+20) x) (hl:b.length<=10):SubX p c b.length M b:=by
 intro e l hs k ie il hk hk9;rw [qad (fn:=c_85) rfl rfl];simp [c_85,Prg.e,Xf.e4,sC_e];refine qbk b.length (fun i ev h=>∃e l hs n,EI e/\RI l/\hs.length<=k+i/\2<=n/\h=⟨[(0,.row 6 [sC e l hs]),(1,.row 6 [[.Xu 1 [],.Xu 1 [],.Xu 1 [],.Xu 1 [],.Xu 1 [],.Xu 3 []]])],n⟩/\look 2 ev=some (.slice 5 (b.map Xa.c))/\look 4 ev=some (.iptr 9 [Prg.c p] 0 0)/\look 5 ev=some (.iptr 4 [Xf.c c] 0 0)/\look 7 ev=some (.ptr 0 6 0 0)/\look 8 ev=some (.ptr 1 6 0 0)/\look 9 ev=some (.int .i64 i)) (ExQ (k+b.length)) ?_ ?_ 0 _ _ (Qc _) ?_
 ·rintro i ev _ L hi hL ⟨e,l,hs,n,ie,il,hk,hn,rfl,h2,h4,h5,h7,h8,h9⟩ ih;have hw:=qao i (by omega);have hx:=hb _ (Qd hi);obtain ⟨x,hxe⟩:∃x,b[i]=x:=⟨_,rfl⟩;rw [hxe] at hx;obtain ⟨kd,tb,cd,th,el⟩:=x;simp only [NodeX,Xa.kind_mk,Xa.table_mk,Xa.cond_mk,Xa.thn_mk,Xa.els_mk] at hx;simp only [Prg.e,Xf.e4] at h4 h5;rcases hx with ⟨k2,hc,s1,s2⟩ | ⟨k2,ha,s1,s2⟩
  ·obtain ⟨t,ht⟩:=hc e ie;unfold evA sc at ht;rw [Envt.ce] at ht;simp only [Prg.e,QAp,QBg,QCh] at ht;cases t with
   | true=>
    obtain ⟨e',l',hs',ie',il',hk',e1⟩:=s1 e l hs (k+i) ie il hk (by omega);simp only [Prg.e,Xf.e4,sC_e] at e1;simp at ht;simp [c_85_l0,Xa.e,sC_e,h2,h4,h5,h7,h8,h9,hi,hxe,hL,k2,ht,e1,hw];refine ih _ _ ⟨e',l',hs',_,ie',il',by omega,?_,by rw [sC_e],?_,?_,?_,?_,?_,?_⟩;exact hn
    all_goals simp [*,Prg.e,Xf.e4]
   | false=>
    obtain ⟨e',l',hs',ie',il',hk',e1⟩:=s2 e l hs (k+i) ie il hk (by omega);simp only [Prg.e,Xf.e4,sC_e] at e1;simp at ht;simp [c_85_l0,Xa.e,sC_e,h2,h4,h5,h7,h8,h9,hi,hxe,hL,k2,ht,e1,hw];refine ih _ _ ⟨e',l',hs',_,ie',il',by omega,?_,by rw [sC_e],?_,?_,?_,?_,?_,?_⟩;exact hn
    all_goals simp [*,Prg.e,Xf.e4]
  ·obtain ⟨e',l',hs',tk,ie',il',hk',ha'⟩:=ha e l hs (k+i) ie il hk (by omega);simp only [Prg.e,Xf.e4,sC_e] at ha';cases tk with
   | true=>
    obtain ⟨e2,l2,hs2,ie2,il2,hk2,e1⟩:=s1 e' l' hs' (k+i+1) ie' il' hk' (by omega);simp only [Prg.e,Xf.e4,sC_e] at e1;simp [c_85_l0,Xa.e,sC_e,h2,h4,h5,h7,h8,h9,hi,hxe,hL,k2,ha',e1,hw];refine ih _ _ ⟨e2,l2,hs2,_,ie2,il2,by omega,?_,by rw [sC_e],?_,?_,?_,?_,?_,?_⟩;exact hn
    all_goals simp [*,Prg.e,Xf.e4]
   | false=>
    obtain ⟨e2,l2,hs2,ie2,il2,hk2,e1⟩:=s2 e' l' hs' (k+i+1) ie' il' hk' (by omega);simp only [Prg.e,Xf.e4,sC_e] at e1;simp [c_85_l0,Xa.e,sC_e,h2,h4,h5,h7,h8,h9,hi,hxe,hL,k2,ha',e1,hw];refine ih _ _ ⟨e2,l2,hs2,_,ie2,il2,by omega,?_,by rw [sC_e],?_,?_,?_,?_,?_,?_⟩;exact hn
    all_goals simp [*,Prg.e,Xf.e4]
 ·rintro ev _ L hL ⟨e,l,hs,n,ie,il,hk,hn,rfl,h2,h4,h5,h7,h8,h9⟩;simp [c_85_l0,c_85_k1,sC_e,h2,h7,h8,h9,hL,qaa];exact ⟨e,l,hs,ie,il,hk,by simp [sC_e,cS]⟩
 ·exact ⟨e,l,hs,2,ie,il,by omega,Qb _,by rw [sC_e],by simp,by simp [Prg.e],by simp [Xf.e4],by simp,by simp,by simp⟩
theorem qafc {c:Xf} (g:GI c):SubX pF c 2 800 pF.control:=by
 have s0:∀M,M<=900->SubX pF c 0 M []:=fun M hM=>qkb M hM [] (by simp) (by decide)
 have ap:∀(M t:Nat),M<=840->t<3->SubX pF c 1 M [.mk 1 t [] [] []]:=fun M t hM ht=>qkb M (by omega) [.mk 1 t [] [] []] (fun x hx=>by
  simp only [QBn] at hx;subst hx;exact .inr ⟨by simp,fun e l hs k ie il hk hk1=>qyj g ht ie il hk hk1,s0 _ (by omega),s0 _ (by omega)⟩) (by simp)
 refine qkb 800 (by decide) pF.control (fun x hx=>?_) (by decide);have hx':x= .mk 2 0 [⟨4,1,0⟩] [.mk 1 1 [] [] []] [.mk 1 0 [] [] []]\/x= .mk 2 0 [⟨15,0,0⟩,⟨2,-1,2⟩,⟨1,0,1⟩] [.mk 1 2 [] [] []] []:=by
  have:x∈[Xa.mk 2 0 [⟨4,1,0⟩] [.mk 1 1 [] [] []] [.mk 1 0 [] [] []],.mk 2 0 [⟨15,0,0⟩,⟨2,-1,2⟩,⟨1,0,1⟩] [.mk 1 2 [] [] []] []]:=hx;simpa using this
 rcases hx' with rfl | rfl
 ·exact .inl ⟨by simp,fun e ie=>by simpa using evQ0 ie,ap 820 1 (by decide) (by decide),ap 820 0 (by decide) (by decide)⟩
 ·exact .inl ⟨by simp,fun e ie=>by simpa using evQ1 ie,ap 820 2 (by decide) (by decide),fun e l hs k ie il hk hk1=>by
   obtain ⟨e',l',hs',a,b,c,d⟩:=s0 820 (by decide) e l hs k ie il hk hk1;exact ⟨e',l',hs',a,b,by omega,d⟩⟩
end Go.Av
